/-
  Apr, Cpr
-/
import Derived.Test.YtnlcfkpcmfljeaaGreatCopy
import Derived.Test.YtnlcfkpcmfljeaaGreatDb
set_option linter.unusedSimpArgs false
set_option linter.unusedVariables false
namespace Go.Proofs.YtnlcfkpcmfljeaaGreat
open Go.RowKit
theorem step_appR {α:Type}{r:Rp α}{B M:Nat}{e:TypeId}{w:World}{A:Option Addr}{n cap:Nat}{l:List α}{P:Program}{ops:Array Oper}{o:Oper}{a:Act}{K:Act->World->Prop}{Q:Exit->Act->World->Prop}{E:Prop}(hgd:o.guard=none) (s x:Operand) (t:TypeId)
  (ho:o.op=.call { callee:=.builtin .append,args:=#[s,x],argTypes:=#[t,t] }) (z:Value) (bytes:Nat) (ei:Ei P t e z r.size bytes) (hr:r.Ok) {wr:World}
  (hs:a.eval s=.slice A n cap) (h:MS B M e r wr A n cap l) (hb:Below wr.heap.size wr w) (hB:B<=wr.heap.size)
  (ad:Addr) (hx:a.eval x=.slice (some ad) 1 1) {f:List Nat} {cs:List Value} {y:α} (hy:r.own w f cs y) (hf:Fr wr.heap.size f) (hc:∀ j u,cs[j]?=some u->w.cell? (ad.add j)=some u)
  (hn:n+1<=M) (hM:M<=4294967296) (hby:(n+1)*bytes<=140737488355328)
  (hK:∀ A' cap' w',MS B M e r w' A' (n+1) cap' (l++[y])->Below B w w'->w.grownBy w' (A.map (·.block))->(A'.map (·.block)=A.map (·.block)\/A'.map (·.block)=some w.heap.size)->K (a.put o.dst (.slice A' (n+1) cap')) w') :
  if Region.wanted o (yielded ops a.tmps)=true then Oper.wp P o a w K Q else E:=by
 have hw:Region.wanted o (yielded ops a.tmps)=true:=by simp [Region.wanted,hgd]
 rw [if_pos hw];obtain⟨i,hi,h1,h2,h3⟩:=info_parts ei.hi;obtain⟨fp,hO,hfr⟩:=h;have hO':=hO.belowS hr hb;obtain⟨css,fps,h4,_,h6⟩:=hO'.ex;obtain⟨v',w',hrun,r1,r2,_,r4⟩:=run_append_own_at (P:=P) w 0 t o.type e i z r.size bytes ei.ht hi h1 h2 h3 ei.hz hr.pos (.slice A n cap) n css.flatten h4 ad 1 1 cs (by rw [hr.len (hr.toRep hy),Nat.one_mul]) hc (hr.one (hr.toRep hy)) (by unfold maxLen;omega) hby (Nat.zero_le _);obtain⟨A',cap',rfl⟩:=ownsRow_slice r1;rw [blk_own]at r2 r4;rw [blk_own]at r4;unfold Oper.wp execOp;simp only [ho,resolve,invoke,builtin,Sem.run_bind,Sem.run_pure,Result.andThen_ok,List.map_toArray,List.map_cons,List.map_nil,hs,hx,hrun]
 refine hK A' cap' w' (MS.app1 hr ⟨fp,hO,hfr⟩ hb hB hy hf hn (fun css' hcss=>?_) r2 r4) (MS.grown ⟨fp,hO,hfr⟩ hb hB r2) r2 r4
 have:css'=css.flatten:=by
  rcases (ownsRow_form h4).2 with ⟨rfl,rfl,_⟩|⟨g,rfl,_⟩
  ·have e1:=h4.1;have e2:=hcss.1;rw [Nat.zero_mul]at e1 e2;rw [List.eq_nil_of_length_eq_zero e2,List.eq_nil_of_length_eq_zero e1]
  ·refine List.ext_getElem? fun j=>?_
   by_cases hj:j<n*r.size
   ·rw [<- h4.cellAt j hj,<- hcss.cellAt j hj]
   ·rw [List.getElem?_eq_none (by rw [hcss.1];omega),List.getElem?_eq_none (by rw [h4.1];omega)]
 rw [this];exact r1
theorem Below.alb {B:Nat}{a W:World}(h:Below B a W) (o:Obj) (hB:B<=a.heap.size:=by exact Nat.le_refl _):Below B a (W.alloc o):=h.alloc (Nat.le_trans hB h.size) o
end Go.Proofs.YtnlcfkpcmfljeaaGreat
