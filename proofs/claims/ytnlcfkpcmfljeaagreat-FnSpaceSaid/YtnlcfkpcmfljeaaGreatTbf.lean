/-
  Tbf
-/
import Derived.Test.YtnlcfkpcmfljeaaGreatTbp
import Derived.Test.YtnlcfkpcmfljeaaGreatMid
import Derived.Test.YtnlcfkpcmfljeaaGreatPlb
set_option linter.unusedSimpArgs false
set_option linter.unusedVariables false
set_option maxHeartbeats 12800000
set_option maxRecDepth 100000
namespace Go.Proofs.YtnlcfkpcmfljeaaGreat
open Go.RowKit
theorem RS.ePlanEntry {M M':Nat}{w:World}{A:Option Addr}{n cap:Nat}{l:List PlanEntryD}(h:RS M (rPlanEntry M') w A n cap l) {k:Nat}(hk:k<n) :
  ∃ b off x AP nP cP,A=some ⟨b,off,none⟩/\w.cell? ⟨b,off+k*4,none⟩=some (.int .i64 x.fMask)/\w.cell? ⟨b,off+k*4+1,none⟩=some (.int .i64 x.fOrder)/\w.cell? ⟨b,off+k*4+2,none⟩=some (.int .i64 x.fCost)/\w.cell? ⟨b,off+k*4+3,none⟩=some (.slice AP nP cP) /\
   I64 x.fMask/\I64 x.fOrder/\I64 x.fCost/\RS M' (rPlanStep M') w AP nP cP x.fPlan.fSteps/\Hid (l[k]?=some x):=by
 obtain⟨b,off,x,cs,e,hrep,hc,hx⟩:=h.at_ hk;obtain⟨AP,nP,cP,rfl,h1,h2,h3,h4⟩:=rPlanEntry_rep.1 hrep;exact⟨b,off,x,AP,nP,cP,e,hc 0 _ rfl,hc 1 _ rfl,hc 2 _ rfl,hc 3 _ rfl,h1,h2,h3,h4,hx⟩
theorem findE_take {l:List PlanEntryD}{m o:Int}{k:Nat}{x:PlanEntryD}(h:findE (l.take k) m o=none) (hx:l[k]?=some x):findE (l.take (k+1)) m o=if x.fMask=m/\x.fOrder=o then some x else none:=by
 rw [take_snoc hx,findE_snoc,h]
theorem findE_hit {l:List PlanEntryD}{m o:Int}{k:Nat}{x:PlanEntryD}(h:findE (l.take k) m o=none) (hx:l[k]?=some x) (h1:x.fMask=m) (h2:x.fOrder=o):findE l m o=some x:=by
 have e:=findE_take h hx;rw [if_pos ⟨h1,h2⟩]at e;have:l=l.take (k+1)++l.drop (k+1):=(List.take_append_drop _ _).symm;unfold findE at e ⊢;rw [this,List.find?_append,e];rfl
theorem sFind_c (A:Option Addr) (n c:Nat) (l:List PlanEntryD) (m o:Int) (w:World) (hr:RS NB (rPlanEntry NB) w A n c l) :
  Calls Tryz.prog 185 #[.slice A n c,.int .i64 m,.int .i64 o] w fun e w'=>∃ i,e=.returned (.int .i64 i)/\IxOf l (findE l m o) i/\w'=w:=by
 have hn:=hr.bound
 go_enter Tryz.func185,Tryz.ntmps185
 go_wp2
 go_loop [7] (fun i=>∃ k:Nat,k<=n/\i=.int .i64 k/\findE (l.take k) m o=none) (fun i=>n - (intOf i).toNat)
 case atStart=>exact⟨0,Nat.zero_le _,rfl,rfl⟩
 case round =>
  obtain⟨k,hk,rfl,hf⟩:=hrel;have HF:=Lib.hid hf;clear hf;by_cases hlt:k<n
  ·obtain⟨b,off,x,AP,nP,cP,rfl,c0,c1,c2,c3,i0,i1,i2,hP,hx⟩:=hr.ePlanEntry hlt
   by_cases h1:x.fMask=m
   ·by_cases h2:x.fOrder=o
    ·have d1:(x.fMask==m)=true:=by simp [h1]
     have d2:(x.fOrder==o)=true:=by simp [h2]
     have HR:Hid (findE l m o=some x):=findE_hit HF.out hx.out h1 h2;clear h1 h2 hP c2 c3;go_wp2;go_ret;exact⟨_,rfl,by rw [HR.out];exact⟨k,rfl,hx.out⟩,rfl⟩
    ·have d1:(x.fMask==m)=true:=by simp [h1]
     have d2:(x.fOrder==o)=false:=by simp [h2]
     have HR:Hid (findE (l.take (k+1)) m o=none):=by show _=_;rw [findE_take HF.out hx.out,if_neg (fun h=>h2 h.2)]
     clear h1 h2 hP c2 c3;go_wp2;go_round
     case rel=>exact⟨k+1,by omega,by go_num,HR.out⟩
     case measure=>simp [intOf];omega
   ·have d1:(x.fMask==m)=false:=by simp [h1]
    have HR:Hid (findE (l.take (k+1)) m o=none):=by show _=_;rw [findE_take HF.out hx.out,if_neg (fun h=>h1 h.1)]
    clear h1 hP c2 c3;go_wp2;go_round
    case rel=>exact⟨k+1,by omega,by go_num,HR.out⟩
    case measure=>simp [intOf];omega
  ·go_wp2
   go_ret;have e:findE l m o=none:=by have:=HF.out;rwa [take_all hr.len hlt]at this
   exact⟨_,rfl,by rw [e];rfl,rfl⟩
theorem sLow_c (A:Option Addr) (n c:Nat) (l:List PlanEntryD) (m:Int) (w:World) (hr:RS NB (rPlanEntry NB) w A n c l) :
  Calls Tryz.prog 125 #[.slice A n c,.int .i64 m] w fun e w'=>∃ i,e=.returned (.int .i64 i)/\IxOf l (bestE l m) i/\Qt w w':=by
 have hn:=hr.bound
 go_enter Tryz.func125,Tryz.ntmps125
 go_wp2
 go_loopw [5,6] (fun b i wr=>∃ (k:Nat) (j:Int),k<=n/\b=.int .i64 j/\i=.int .i64 k/\IxOf l (bestE (l.take k) m) j/\∃ q,wr=w.drewN q) (fun _ i _=>n - (intOf i).toNat)
 case atStart=>exact⟨0,-1,Nat.zero_le _,rfl,rfl,rfl,0,rfl⟩
 case round =>
  obtain⟨k,j,hk,rfl,rfl,hf,q,rfl⟩:=hrel;have HF:=Lib.hid hf;clear hf;by_cases hlt:k<n
  ·obtain⟨b,off,x,AP,nP,cP,rfl,c0,c1,c2,c3,i0,i1,i2,hP,hx⟩:=hr.ePlanEntry hlt
   have HS:Hid (bestE (l.take (k+1)) m=if x.fMask=m then better (bestE (l.take k) m) x else bestE (l.take k) m):=by show _=_;rw [take_snoc hx.out,bestE_snoc]
   clear hP c1 c3;by_cases h1:x.fMask=m
   ·have d1:(x.fMask==m)=true:=by simp [h1]
    cases hb:bestE (l.take k) m with
    | none =>
     have hj:j=-1:=by have:=HF.out;rw [hb]at this;exact this
     have HR:Hid (IxOf l (bestE (l.take (k+1)) m) (k:Int)):=by
      show IxOf _ _ _;rw [HS.out,if_pos h1,hb];exact⟨k,rfl,hx.out⟩
     subst hj;clear h1 hb HS HF c2;go_wp2
     go_quiet (fail)
     go_wp2;go_roundw
     case rel=>exact⟨k+1,_,by omega,rfl,by go_num,HR.out,_,rfl⟩
     case measure=>simp [intOf];omega
    | some y =>
     have hy:=HF.out;rw [hb]at hy;obtain⟨t,rfl,hyt⟩:=hy;have htl:=lt_of_at hyt;have htn:t<n:=by rw [hr.len]at htl;exact htl
     obtain⟨b',off',y',AP',nP',cP',e',u0,u1,u2,u3,_,_,j2,hP',hy'⟩:=hr.ePlanEntry htn;injection e' with e';injection e' with e1 e2;subst e1 e2;have hyy:y'=y:=by have:=hy'.out;rw [hyt]at this;injection this with this;exact this.symm
     subst hyy;have ht0:¬ ((t:Int)<0):=by omega
     clear hP' u0 u1 u3;by_cases h2:x.fCost<y'.fCost
     ·have HR:Hid (IxOf l (bestE (l.take (k+1)) m) (k:Int)):=by
       show IxOf _ _ _;rw [HS.out,if_pos h1,hb];show IxOf l (if x.fCost<y'.fCost then some x else some y') _;rw [if_pos h2];exact⟨k,rfl,hx.out⟩
      clear h1 hb HS HF;go_wp2
      go_quiet (fail)
      go_wp2;go_roundw
      case rel=>exact⟨k+1,_,by omega,rfl,by go_num,HR.out,_,rfl⟩
      case measure=>simp [intOf];omega
     ·have HR:Hid (IxOf l (bestE (l.take (k+1)) m) (t:Int)):=by
       show IxOf _ _ _;rw [HS.out,if_pos h1,hb];show IxOf l (if x.fCost<y'.fCost then some x else some y') _;rw [if_neg h2];exact⟨t,rfl,hyt⟩
      clear h1 hb HS HF;go_wp2
      go_quiet (fail)
      go_wp2;go_roundw
      case rel=>exact⟨k+1,_,by omega,rfl,by go_num,HR.out,_,rfl⟩
      case measure=>simp [intOf];omega
   ·have d1:(x.fMask==m)=false:=by simp [h1]
    have HR:Hid (IxOf l (bestE (l.take (k+1)) m) j):=by
     show IxOf _ _ _;rw [HS.out,if_neg h1];exact HF.out
    clear h1 HS HF c2;go_wp2
    go_quiet (fail)
    go_wp2;go_roundw
    case rel=>exact⟨k+1,_,by omega,rfl,by go_num,HR.out,_,rfl⟩
    case measure=>simp [intOf];omega
  ·go_wp2
   go_ret;have e:=HF.out;rw [take_all hr.len hlt]at e;exact⟨_,rfl,e,_,rfl⟩
def rK {α:Type} (r:Rp α) (K:World->Prop):Rp α:=⟨r.size,fun _ cs x=>∀ W,K W->r.rep W cs x,fun _ fp cs x=>fp=[]/\∀ W,K W->r.rep W cs x⟩
theorem rK_ok {α:Type}{r:Rp α}(hr:r.Ok) {K:World->Prop}{V:World}(hV:K V):(rK r K).Ok where
 pos:=hr.pos
 len h:=hr.len (h V hV)
 one h:=hr.one (h V hV)
 keep h _:=h
 toRep h:=h.2
 okeep h _:=h
 lt h k hk:=by rw [h.1]at hk;cases hk
theorem MS.rk {α:Type}{r:Rp α}{K K':World->Prop}{B M:Nat}{e:TypeId}{w:World}{A:Option Addr}{n cap:Nat}{l:List α}(h:MS B M e (rK r K) w A n cap l) (hK:∀ W,K' W->K W):MS B M e (rK r K') w A n cap l:=by
 obtain⟨fp,⟨h1,h2,css,fps,h3,h4,h5⟩,f⟩:=h;exact⟨fp,⟨h1,h2,css,fps,h3,h4,h5.mono fun f c x _ ho=>⟨ho.1,fun W hW=>ho.2 W (hK W hW)⟩⟩,f⟩
theorem RS.rk {α:Type}{r:Rp α}{K:World->Prop}{M:Nat}{w:World}{A:Option Addr}{n cap:Nat}{l:List α}(h:RS M (rK r K) w A n cap l) (hK:K w):RS M r w A n cap l :=
 ⟨h.len,h.nb,h.nc,fun hn=>by
  obtain⟨b,off,e,hc⟩:=h.cell hn;exact⟨b,off,e,fun j x hj=>by obtain⟨cs,h1,h2⟩:=hc j x hj;exact⟨cs,h1 w hK,h2⟩⟩⟩
def PT {α:Type} (r:Rp α) (e:TypeId) (B:Nat) (A:Option Addr) (n c:Nat) (l:List α) (W:World):Prop:=MS B NB e (rK r (OutS (fun k=>k∈blk A\/k<B) W)) W A n c l
section
variable {α:Type} {r:Rp α} {e:TypeId} {B n c:Nat} {A:Option Addr} {l:List α} {W W':World}
theorem OutS.refl (S:Nat->Prop) (w:World):OutS S w w:=⟨Nat.le_refl _,fun _ _ _=>rfl⟩
theorem PT.rs (h:PT r e B A n c l W) (hr:r.Ok):RS NB r W A n c l:=(MS.rs h (rK_ok hr (OutS.refl _ W))).rk (OutS.refl _ W)
theorem PT.len (h:PT r e B A n c l W):l.length=n:=MS.len h
theorem PT.step (h:PT r e B A n c l W) (hr:r.Ok) (hk:∀ k∈blk A,W'.heap[k]?=W.heap[k]?) (hO:OutS (fun k=>k∈blk A\/k<B) W W'):PT r e B A n c l W':=by
 obtain⟨fp,o,f⟩:=h;have ok:=rK_ok hr (OutS.refl (fun k=>k∈blk A\/k<B) W);obtain⟨h1,h2,css,fps,h3,h4,h5⟩:=o;refine⟨fp,⟨h1,h2,css,fps,ownsRow_blocks h3 hk,h4,h5.mono fun f c x _ ho=>⟨ho.1,fun V hV=>ho.2 V (hO.trans hV)⟩⟩,f⟩
theorem PT.below (h:PT r e B A n c l W) (hr:r.Ok) (hb:Below W.heap.size W W'):PT r e B A n c l W':=by
 have hlt:∀ k∈blk A,k<W.heap.size:=by
  obtain⟨fp,o,f⟩:=h;obtain⟨h1,h2,css,fps,h3,h4,h5⟩:=o;intro k hk;rcases (ownsRow_form h3).2 with ⟨rfl,_⟩|⟨g,rfl,hg,_⟩
  ·cases hk
  ·simp [blk]at hk;omega
 exact h.step hr (fun k hk=>hb.block k (hlt k hk)) ⟨hb.size,fun k _ hk=>hb.block k hk⟩
theorem PT.nil (W:World):PT r e B none 0 0 [] W:=MS.nil W (Nat.zero_le _)
theorem PT.new (hB:B<=W.heap.size):PT r e B (some ⟨W.heap.size,0,none⟩) 0 0 [] (W.alloc (.cells #[] e)):=MS.empty W hB
theorem PT.gB {a:Addr}(h:PT r e B (some a) n c l W):B<=a.block:=MS.gB h
theorem PT.ge (h:PT r e B A n c l W):∀ k∈blk A,B<=k:=fun k hk=>by
 obtain⟨fp,o,f⟩:=h;obtain⟨_,_,css,fps,h3,rfl,h5⟩:=o;exact f.ge k (List.mem_append_left _ hk)
theorem PT.ms (h:PT r e B A n c l W):MS B NB e (rK r (OutS (fun k=>k∈blk A\/k<B) W)) W A n c l:=h
theorem PT.grown {A':Option Addr}{n' c':Nat}{l':List α}(h:MS B NB e (rK r (OutS (fun k=>k∈blk A\/k<B) W)) W' A' n' c' l') (hg:W.grownBy W' (A.map (·.block))) (hA:∀ k∈blk A',k∈blk A\/W.heap.size<=k):PT r e B A' n' c' l' W':=by
 refine MS.rk h fun V hV=>⟨Nat.le_trans hg.size hV.1,fun k h1 h2=>?_⟩;have hk:¬ (k∈blk A'\/k<B):=fun e=>e.elim (fun e=>(hA k e).elim (fun q=>h1 (.inl q)) (fun q=>by omega)) (fun q=>h1 (.inr q));exact(hV.2 k hk (Nat.lt_of_lt_of_le h2 hg.size)).trans (hg.block k h2 (fun e=>h1 (.inl (mem_blk.2 e.symm))))
theorem wpList_appK {P:Program}{ops:Array Oper}{rest:List Oper}{o:Oper}{a:Act}{Q:Exit->Act->World->Prop}(hgd:o.guard=none) (s x:Operand) (t:TypeId)
  (ho:o.op=.call { callee:=.builtin .append,args:=#[s,x],argTypes:=#[t,t] }) (z:Value) (bytes:Nat) (ei:Ei P t e z r.size bytes) (hr:r.Ok)
  (hs:a.eval s=.slice A n c) (h:PT r e B A n c l W) (hb:Below W.heap.size W W') (hB:B<=W.heap.size)
  (ad:Addr) (hx:a.eval x=.slice (some ad) 1 1) (cs:List Value) (y:α) (hy:StS r (fun k=>k∈blk A\/k<B) W' cs y) (hc:∀ j u,cs[j]?=some u->W'.cell? (ad.add j)=some u)
  (hn:n+1<=NB) (hby:(n+1)*bytes<=140737488355328)
  (K:∀ A' cap' w',PT r e B A' (n+1) cap' (l++[y]) w'->Below B W' w'->W'.grownBy w' (A.map (·.block))->wpList P ops Q rest (a.put o.dst (.slice A' (n+1) cap')) w') :
  wpList P ops Q (o::rest) a W':=by
 have h':=h.below hr hb;have ok:=rK_ok hr (OutS.refl (fun k=>k∈blk A\/k<B) W');obtain⟨i,hi,h1,h2,h3⟩:=info_parts ei.hi;obtain⟨fp,hO,hfr⟩:=h';obtain⟨css,fps,h4,_,h6⟩:=hO.ex;refine wpList_append_own_at _ hgd s x t ho 0 e i z r.size bytes ei.ht hi h1 h2 h3 ei.hz hr.pos _ n css.flatten hs h4 ad 1 1 cs hx (by rw [hr.len hy.rep,Nat.one_mul]) hc (hr.one hy.rep) (by unfold maxLen;unfold NB at hn;omega) hby (Nat.zero_le _) ?_;intro v' w' r1 r2 _ r4;obtain⟨A',cap',rfl⟩:=ownsRow_slice r1;rw [blk_own]at r2 r4;rw [blk_own]at r4;have hm:MS B NB e (rK r (OutS (fun k=>k∈blk A\/k<B) W')) w' A' (n+1) cap' (l++[y]):=MS.app1 (r:=rK r (OutS (fun k=>k∈blk A\/k<B) W')) ok ⟨fp,hO,hfr⟩ (Below.refl _ _) (Nat.le_trans hB hb.size) (f:=[]) (cs:=cs) ⟨rfl,fun V hV=>hy V hV⟩ (Fr.nil _) hn (fun css' hcss=>?_) r2 r4
 ·refine K A' cap' w' (PT.grown hm r2 (fun k hk=>?_)) (MS.grown (r:=rK r (OutS (fun k=>k∈blk A\/k<B) W')) ⟨fp,hO,hfr⟩ (Below.refl _ _) (Nat.le_trans hB hb.size) r2) r2
  rcases r4 with r4|r4
  ·exact .inl (mem_blk.2 (r4▸mem_blk.1 hk))
  ·right;have:=mem_blk.1 hk;rw [r4]at this;injection this with this;omega
 ·have:css'=css.flatten:=by
   rcases (ownsRow_form h4).2 with ⟨rfl,rfl,_⟩|⟨g,rfl,_⟩
   ·have e1:=h4.1;have e2:=hcss.1;rw [Nat.zero_mul]at e1 e2;rw [List.eq_nil_of_length_eq_zero e2,List.eq_nil_of_length_eq_zero e1]
   ·refine List.ext_getElem? fun j=>?_
    by_cases hj:j<n*r.size
    ·rw [<- h4.cellAt j hj,<- hcss.cellAt j hj]
    ·rw [List.getElem?_eq_none (by rw [hcss.1];exact Nat.not_lt.1 hj),List.getElem?_eq_none (by rw [h4.1];exact Nat.not_lt.1 hj)]
  rw [this];exact r1
theorem wpList_appK2 {P:Program}{ops:Array Oper}{rest:List Oper}{o:Oper}{a:Act}{Q:Exit->Act->World->Prop}(hgd:o.guard=none) (s x:Operand) (t:TypeId)
  (ho:o.op=.call { callee:=.builtin .append,args:=#[s,x],argTypes:=#[t,t] }) (z:Value) (bytes:Nat) (ei:Ei P t e z r.size bytes) (hr:r.Ok)
  (hs:a.eval s=.slice A n c) (h:PT r e B A n c l W) (hb:Below W.heap.size W W') (hB:B<=W.heap.size)
  (ad:Addr) (hx:a.eval x=.slice (some ad) 1 1) (cs:List Value) (y:α) (hy:StS r (fun k=>k∈blk A\/k<B) W' cs y) (hc:∀ j u,cs[j]?=some u->W'.cell? (ad.add j)=some u)
  (hn:n+1<=NB) (hby:(n+1)*bytes<=140737488355328)
  (K:∀ A' cap' w',PT r e B A' (n+1) cap' (l++[y]) w'->Below B W' w'->W'.grownBy w' (A.map (·.block))->(∀ k∈blk A',k∈blk A\/W'.heap.size<=k)->wpList P ops Q rest (a.put o.dst (.slice A' (n+1) cap')) w') :
  wpList P ops Q (o::rest) a W':=by
 have h':=h.below hr hb;have ok:=rK_ok hr (OutS.refl (fun k=>k∈blk A\/k<B) W');obtain⟨i,hi,h1,h2,h3⟩:=info_parts ei.hi;obtain⟨fp,hO,hfr⟩:=h';obtain⟨css,fps,h4,_,h6⟩:=hO.ex;refine wpList_append_own_at _ hgd s x t ho 0 e i z r.size bytes ei.ht hi h1 h2 h3 ei.hz hr.pos _ n css.flatten hs h4 ad 1 1 cs hx (by rw [hr.len hy.rep,Nat.one_mul]) hc (hr.one hy.rep) (by unfold maxLen;unfold NB at hn;omega) hby (Nat.zero_le _) ?_;intro v' w' r1 r2 _ r4;obtain⟨A',cap',rfl⟩:=ownsRow_slice r1;rw [blk_own]at r2 r4;rw [blk_own]at r4
 have hA:∀ k∈blk A',k∈blk A\/W'.heap.size<=k:=fun k hk=>by
  rcases r4 with r4|r4
  ·exact .inl (mem_blk.2 (r4▸mem_blk.1 hk))
  ·right;have:=mem_blk.1 hk;rw [r4]at this;injection this with this;omega
 have hm:MS B NB e (rK r (OutS (fun k=>k∈blk A\/k<B) W')) w' A' (n+1) cap' (l++[y]):=MS.app1 (r:=rK r (OutS (fun k=>k∈blk A\/k<B) W')) ok ⟨fp,hO,hfr⟩ (Below.refl _ _) (Nat.le_trans hB hb.size) (f:=[]) (cs:=cs) ⟨rfl,fun V hV=>hy V hV⟩ (Fr.nil _) hn (fun css' hcss=>?_) r2 r4
 ·exact K A' cap' w' (PT.grown hm r2 hA) (MS.grown (r:=rK r (OutS (fun k=>k∈blk A\/k<B) W')) ⟨fp,hO,hfr⟩ (Below.refl _ _) (Nat.le_trans hB hb.size) r2) r2 hA
 ·have:css'=css.flatten:=by
   rcases (ownsRow_form h4).2 with ⟨rfl,rfl,_⟩|⟨g,rfl,_⟩
   ·have e1:=h4.1;have e2:=hcss.1;rw [Nat.zero_mul]at e1 e2;rw [List.eq_nil_of_length_eq_zero e2,List.eq_nil_of_length_eq_zero e1]
   ·refine List.ext_getElem? fun j=>?_
    by_cases hj:j<n*r.size
    ·rw [<- h4.cellAt j hj,<- hcss.cellAt j hj]
    ·rw [List.getElem?_eq_none (by rw [hcss.1];exact Nat.not_lt.1 hj),List.getElem?_eq_none (by rw [h4.1];exact Nat.not_lt.1 hj)]
  rw [this];exact r1
end
attribute [local go_sem ↓] Go.wp_at_zero Go.wp_at_succ
section
variable {α:Type} {r:Rp α} {e:TypeId} {B g n c:Nat} {l:List α} {W W':World}
theorem PT.set1 (h:PT r e B (some ⟨g,0,none⟩) n c l W) (hr:r.Ok) {k:Nat}(hk:k<n) {cs:List Value}{x:α}(hx:StS r (fun z=>z∈blk (some ⟨g,0,none⟩)\/z<B) W cs x) (hB:B<=W.heap.size) :
  PT r e B (some ⟨g,0,none⟩) n c (l.set k x) (setCells W g (k*r.size) cs):=by
 have ok:=rK_ok hr (OutS.refl (fun z=>z∈blk (some ⟨g,0,none⟩)\/z<B) W);have m:=MS.setE ok h.ms (Below.refl _ _) hB hk (f:=[]) (cs:=cs) (x:=x) ⟨rfl,fun V hV=>hx V hV⟩ (Fr.nil _);refine MS.rk m fun V hV=>OutS.trans ⟨by rw [setCells_size];exact Nat.le_refl _,fun z hz _=>setCells_other _ _ _ _ _ (fun e=>hz (.inl (by rw [e];simp [blk])))⟩ hV
theorem PT.has (h:PT r e B (some ⟨g,0,none⟩) n c l W) {j:Nat}(hj:j<n*r.size):∃ v,W.cell? ⟨g,j,none⟩=some v:=MS.hasCell (r:=rK r _) h.ms hj
theorem PT.fz (h:PT r e B (some ⟨g,0,none⟩) n c l W) (j:Nat):W.frozen? ⟨g,j,none⟩=false:=MS.frozen h.ms j
theorem PT.lt (h:PT r e B (some ⟨g,0,none⟩) n c l W):g<W.heap.size:=MS.lt h.ms
end
theorem entry_rs {w:World}{m o c:Int}{A:Option Addr}{n k:Nat}{x:PlanEntryD}(h:(rPlanEntry NB).rep w [.int .i64 m,.int .i64 o,.int .i64 c,.slice A n k] x):RS NB (rPlanStep NB) w A n k x.fPlan.fSteps:=by
 obtain⟨_,_,_,e,_,_,_,r⟩:=rPlanEntry_rep.1 h;injection e with _ e;injection e with _ e;injection e with _ e;injection e with e _;injection e with q1 q2 q3;subst q1 q2 q3;exact r
theorem sOffer_c (csm:List Value) (md:ModelD) (As:Option Addr) (ns cc:Nat) (s:List Int) (B gm:Nat) (L:List PlanEntryD) (am bm:Nat) (ao ac bo bc:Int) (ap bp:List PlanStepD) (Aa Ab:Option Addr) (na ca nb cb:Nat) (kd v made:Int) (k:Nat) (w:World)
  (hm:(rModel NB).rep w csm md) (hs:RS NB rInt w As ns cc s) (ha:(rPlanEntry NB).rep w [.int .i64 (am:Int),.int .i64 ao,.int .i64 ac,.slice Aa na ca] ⟨am,ao,ac,⟨ap⟩⟩) (hb:(rPlanEntry NB).rep w [.int .i64 (bm:Int),.int .i64 bo,.int .i64 bc,.slice Ab nb cb] ⟨bm,bo,bc,⟨bp⟩⟩)
  (hP:PT (rPlanEntry NB) 107 B (some ⟨gm,0,none⟩) 5 5 L w) (hB:B<=w.heap.size) (hk:k<5) (hmade:made=(k:Int) - 1) (hkd:I64 kd) (hv:I64 v)
  (h1:am<s.length) (h2:bm<s.length) (h3:am ||| bm<s.length) (hl16:s.length<=16)
  (hac:-1000000000000<=ac/\ac<=1000000000000) (hbc:-1000000000000<=bc/\bc<=1000000000000) (hap:ap.length<=100) (hbp:bp.length<=100) :
  Calls Tryz.prog 184 #[.agg csm.toArray,.slice As ns cc,.slice (some ⟨gm,0,none⟩) 5 5,.agg #[.int .i64 (am:Int),.int .i64 ao,.int .i64 ac,.slice Aa na ca],.agg #[.int .i64 (bm:Int),.int .i64 bo,.int .i64 bc,.slice Ab nb cb],.int .i64 kd,.int .i64 v,.int .i64 made] w
   fun e w'=>e=.returned (.tuple #[])/\PT (rPlanEntry NB) 107 B (some ⟨gm,0,none⟩) 5 5 (offerE md s L ⟨am,ao,ac,⟨ap⟩⟩ ⟨bm,bo,bc,⟨bp⟩⟩ kd v k) w'/\Chg [gm] w w':=by
 have lenm:=(rModel_ok NB).len hm;have hn:=hs.len;have rA:=entry_rs ha;have rB:=entry_rs hb;clear ha hb;obtain⟨w1,hw1⟩:∃ W,W=w.alloc (.cells csm.toArray 46):=⟨_,rfl⟩;obtain⟨w2,hw2⟩:∃ W,W=w1.alloc (.cells #[.int .i64 (am:Int),.int .i64 ao,.int .i64 ac,.slice Aa na ca] 107):=⟨_,rfl⟩;obtain⟨w3,hw3⟩:∃ W,W=w2.alloc (.cells #[.int .i64 (bm:Int),.int .i64 bo,.int .i64 bc,.slice Ab nb cb] 107):=⟨_,rfl⟩;have hs1:w1.heap.size=w.heap.size+1:=by rw [hw1];simp
 have hs2:w2.heap.size=w.heap.size+1+1:=by rw [hw2];simp [hs1]
 have b1:Below w.heap.size w w1:=by rw [hw1];exact bal
 have b2:Below w1.heap.size w1 w2:=by rw [hw2];exact bal
 have b3:Below w2.heap.size w2 w3:=by rw [hw3];exact bal
 have kM:Bk w3 w.heap.size 46 csm:=Bk.below (w:=w2) (Bk.below (w:=w1) (by rw [hw1];exact Bk.new w _ _) b2) b3;have kA:Bk w3 (w.heap.size+1) 107 [.int .i64 (am:Int),.int .i64 ao,.int .i64 ac,.slice Aa na ca]:=Bk.below (w:=w2) (by rw [hw2,<- hs1];exact Bk.new w1 _ _) b3;have kB:Bk w3 (w.heap.size+1+1) 107 [.int .i64 (bm:Int),.int .i64 bo,.int .i64 bc,.slice Ab nb cb]:=by rw [hw3,<- hs2];exact Bk.new w2 _ _
 have bb:Below w.heap.size w w3:=(b1.trans (b2.mono b1.size)).trans (b3.mono (by omega));obtain⟨bs,os,x1,rfl,cx1,_,hx1⟩:=hs.ati (k:=am) (by omega);obtain⟨bs',os',x2,e',cx2,_,hx2⟩:=hs.ati (k:=bm) (by omega);injection e' with e';injection e' with q1 q2;subst q1 q2;obtain⟨bs',os',x3,e',cx3,_,hx3⟩:=hs.ati (k:=am ||| bm) (by omega);injection e' with e';injection e' with q1 q2;subst q1 q2;have z1:Hid (sizeAt s (am:Int)=x1):=by show _=_;unfold sizeAt;rw [Int.toNat_natCast,hx1.out];rfl
 have z2:Hid (sizeAt s (bm:Int)=x2):=by show _=_;unfold sizeAt;rw [Int.toNat_natCast,hx2.out];rfl
 have z3:Hid (sizeAt s (orI (am:Int) (bm:Int))=x3):=by show _=_;unfold sizeAt orI;simp only [Int.toNat_natCast];rw [hx3.out];rfl
 have hor:bits .or .i64 (am:Int) (bm:Int)=((am ||| bm:Nat):Int):=bitsOr am bm (by omega) (by omega);have ha1:am<ns:=by omega
 have hb1:bm<ns:=by omega
 have hc1:am ||| bm<ns:=by omega
 have hwc:IntKind.i64.wrap (ac+bc)=ac+bc:=IntWalk.i64_in _ (by omega);obtain⟨oc,hoc⟩:∃ oc,oc=opCostV (opOf md kd) x1 x2 x3:=⟨_,rfl⟩;have hob:=opCostV_bd (o:=opOf md kd) (l:=x1) (r:=x2) (t:=x3);rw [<- hoc]at hob;have hwn:IntKind.i64.wrap (ac+bc+oc)=ac+bc+oc:=IntWalk.i64_in _ (by omega);have HJ:Hid (joinCost md s ⟨am,ao,ac,⟨ap⟩⟩ ⟨bm,bo,bc,⟨bp⟩⟩ kd=ac+bc+oc):=by show _=_;unfold joinCost;rw [z1.out,z2.out,z3.out,<- hoc]
 have HOC:=Lib.hid hoc;have hi3:I64 (ac+bc+oc):=⟨by omega,by omega⟩;have hsc:RS NB rInt w3 (some ⟨bs,os,none⟩) ns cc s:=hs.below rInt_ok bb;have hk1:IntKind.i64.wrap (made+1)=(k:Int):=by rw [hmade,IntWalk.i64_in _ (by omega)];omega
 have HSS:Hid (∀ w':World,Below w3.heap.size w3 w'->w'.rangeAt w.heap.size 0 csm/\w'.cell? ⟨w.heap.size+1,0,none⟩=some (.int .i64 (am:Int))/\w'.cell? ⟨w.heap.size+1,2,none⟩=some (.int .i64 ac)/\w'.cell? ⟨w.heap.size+1,3,none⟩=some (.slice Aa na ca)/\w'.cell? ⟨w.heap.size+1+1,0,none⟩=some (.int .i64 (bm:Int))/\w'.cell? ⟨w.heap.size+1+1,2,none⟩=some (.int .i64 bc)/\w'.cell? ⟨w.heap.size+1+1,3,none⟩=some (.slice Ab nb cb) /\
   w'.cell? ⟨bs,os+am,none⟩=some (.int .i64 x1)/\w'.cell? ⟨bs,os+bm,none⟩=some (.int .i64 x2)/\w'.cell? ⟨bs,os+(am ||| bm),none⟩=some (.int .i64 x3)):=by
  show ∀ w':World,_->_;intro w' h;have qA:=(kA.below h).bx;have qB:=(kB.below h).bx;have hw:=bb.trans (h.mono bb.size);exact⟨(kM.below h).rangeAt,qA 0 _ rfl,qA 2 _ rfl,qA 3 _ rfl,qB 0 _ rfl,qB 2 _ rfl,qB 3 _ rfl,cells_below hw _ _ cx1,cells_below hw _ _ cx2,cells_below hw _ _ cx3⟩
 have hm3:=(rModel_ok NB).keep hm (cells_below bb);have HMD:=Lib.hid hmade;clear hoc z1 z2 z3 hx1 hx2 hx3 cx1 cx2 cx3 hs hsc hs1 hs2 b1 b2 b3 kM kA kB hm hmade
 go_enter Tryz.func184,Tryz.ntmps184
 go_upto_region 1 with fail
 rw [<- hw1,<- hw2,<- hw3];clear hw1 hw2 hw3;have hd0:=(Below.refl w3.heap.size w3).drew;refine hbg HSS.out hd0 (fun hH=>?_);refine tq4 0 hH ?_;simp only [putS];refine tq1 4 hH ?_;refine ldm 5 22 (fun w h=>h.1) Tryz.underlying46 (by rw [lenm];exact sizeModelT) hH ?_;refine tq1 6 hH ?_;simp only [putS];refine tq4 8 hH ?_;simp only [putS];refine tq4 12 hH ?_;simp only [putS];refine tq4 16 hH ?_;simp only [putS];refine tq4 20 hH ?_;simp only [putS];refine tq2 24 hH ?_;simp only [putS];refine rd 7 (some 24) fun K hK=>?_;clear hH;go_simp;refine(sModelOp_c csm md kd _ ((rModel_ok NB).keep hm3 (cells_below hd0))).mono ?_
 rintro e w4 ⟨Ao,no,co,rfl,rO,hb4⟩;have hC1:Below w3.heap.size w3 w4:=hd0.trans (hb4.mono hd0.size)
 go_wp2_with fail
 refine hK.out _ _ (HSS.out _ hC1) (fun hH=>?_);clear hK K
 try simp only [putS]
 refine rd 26 (some 43) fun K hK=>?_;clear hH;go_simp;refine(sOpCost_c _ (opOf md kd) x1 x2 x3 _ rO).mono ?_;rintro e w5 ⟨rfl,hb5⟩;rw [<- HOC.out];have hC2:Below w3.heap.size w3 w5:=hC1.trans (hb5.mono hC1.size)
 go_wp2_with fail
 refine hK.out _ _ (HSS.out _ hC2) (fun hH=>?_);clear hK K
 try simp only [putS]
 refine tq2 27 hH ?_;simp only [putS];refine wpAnyH_done (by kernel_rfl) ?_ _;clear hH;have P5:=(hP.below (rPlanEntry_ok NB) bb).below (rPlanEntry_ok NB) hC2;have B5:=bb.trans (hC2.mono bb.size);obtain⟨_,_,x,AP,nP,cP,eg,c0,c1,c2,c3,i0,i1,i2,rx,hx⟩:=(P5.rs (rPlanEntry_ok NB)).ePlanEntry (k:=k) hk;injection eg with eg;injection eg with q1 q2;subst q1 q2;rw [Nat.zero_add]at c0 c1 c2 c3;have hki:k<5:=hk;have hkI:(k:Int)<5:=by omega
 clear hC1 rO hb4 hb5 hd0;have hgm:=P5.lt;by_cases hst:x.fMask=0\/ac+bc+oc<x.fCost
 rotate_left
 ·have HR:Hid (offerE md s L ⟨am,ao,ac,⟨ap⟩⟩ ⟨bm,bo,bc,⟨bp⟩⟩ kd v k=L):=by
   show _=_;unfold offerE;rw [hx.out];show(if x.fMask=0\/joinCost md s ⟨am,ao,ac,⟨ap⟩⟩ ⟨bm,bo,bc,⟨bp⟩⟩ kd<x.fCost then _ else L)=L;rw [HJ.out,if_neg hst]
  have d0:(x.fMask==0)=false:=by simp;intro h;exact hst (.inl h)
  have hlt:¬ ac+bc+oc<x.fCost:=fun h=>hst (.inr h);clear hst c1 c3 rx;go_wp2;go_end0;rw [HR.out];exact⟨rfl,P5,Chg.ofBelow B5 _⟩
 have HR:Hid (offerE md s L ⟨am,ao,ac,⟨ap⟩⟩ ⟨bm,bo,bc,⟨bp⟩⟩ kd v k=L.set k ⟨((am ||| bm:Nat):Int),(k:Int) - 1,ac+bc+oc,⟨ap++bp++[⟨kd,0,v⟩]⟩⟩):=by
  show _=_;unfold offerE;rw [hx.out];show(if x.fMask=0\/joinCost md s ⟨am,ao,ac,⟨ap⟩⟩ ⟨bm,bo,bc,⟨bp⟩⟩ kd<x.fCost then L.set k ⟨orI (am:Int) (bm:Int),(k:Int) - 1,joinCost md s ⟨am,ao,ac,⟨ap⟩⟩ ⟨bm,bo,bc,⟨bp⟩⟩ kd,joinedP ⟨ap⟩ ⟨bp⟩ kd v⟩ else L)=_;rw [HJ.out,if_pos hst];rfl
 cases hdz:(x.fMask==0)
 focus
  have hlt:ac+bc+oc<x.fCost:=by
   rcases hst with h|h
   ·rw [h]at hdz;cases hdz
   ·exact h
  go_upto_region 3 with fail
  clear hlt
 rotate_left
 focus
  go_upto_region 3 with fail
 all_goals
  clear hdz hst c0 c1 c2 c3 rx i0 i1 i2 HJ hx;have hE0:Below w3.heap.size w3 w5.drew:=hC2.trans ((Below.refl w5.heap.size w5).drew.mono hC2.size);have BE:=bb.trans (hE0.mono bb.size);have P5d:=P5.below (rPlanEntry_ok NB) (Below.refl w5.heap.size w5).drew;refine hgg 19 HSS.out hE0 (fun hH=>?_);refine tgk 0 62 hH ?_;simp only [putS];refine tgk 1 63 hH ?_;simp only [putS];refine tgk 2 64 hH ?_;simp only [putS];refine tgk 3 65 hH ?_;simp only [putS];refine tgk 4 66 hH ?_;simp only [putS];refine tgk 5 67 hH ?_;simp only [putS];refine tgk 6 68 hH ?_;simp only [putS];refine tgk 7 69 hH ?_;simp only [putS]
  refine tgk 8 70 hH ?_;simp only [putS];refine tgk 9 71 hH ?_;simp only [putS];refine tgk 10 72 hH ?_;simp only [putS];refine tgk 11 73 hH ?_;simp only [putS];refine tgk 12 74 hH ?_;simp only [putS];refine tgk 13 75 hH ?_;simp only [putS];refine tgk 14 76 hH ?_;simp only [putS];refine tgk 15 77 hH ?_;simp only [putS];refine rg 16 (some 78) fun K hK=>?_;clear hH;go_simp;refine(sJoinPlans_c _ ⟨ap⟩ _ ⟨bp⟩ kd v _ (rPlan_rep.2 ⟨Aa,na,ca,rfl,rA.below (rPlanStep_ok NB) BE⟩) (rPlan_rep.2 ⟨Ab,nb,cb,rfl,rB.below (rPlanStep_ok NB) BE⟩) hkd hv hap hbp).mono ?_;rintro e w6 ⟨cs,fp,rfl,oX,fX,hb6⟩;obtain⟨Aj,nj,cj,_,rfl,rfl,oj⟩:=rPlan_own.1 oX
  have hE1:Below w3.heap.size w3 w6:=hE0.trans (hb6.mono hE0.size)
  go_wp2_with fail
  refine hK.out _ _ (fun _=>HSS.out _ hE1) fun hH=>?_;replace hH:=hH (by decide);clear hK K
  try simp only [putS]
  have P6:=P5d.below (rPlanEntry_ok NB) hb6;obtain⟨u0,v0⟩:=P6.has (j:=k*4) (by show k*4<5*4;omega);obtain⟨u1,v1⟩:=P6.has (j:=k*4+1) (by show k*4+1<5*4;omega);obtain⟨u2,v2⟩:=P6.has (j:=k*4+2) (by show k*4+2<5*4;omega);obtain⟨u3,v3⟩:=P6.has (j:=k*4+3) (by show k*4+3<5*4;omega);have f0:=P6.fz (k*4);have f1:=P6.fz (k*4+1);have f2:=P6.fz (k*4+2);have f3:=P6.fz (k*4+3);have B6:=bb.trans (hE1.mono bb.size);have hi1:I64 ((am ||| bm:Nat):Int):=⟨by omega,by omega⟩;have hi2:I64 made:=⟨by have:=HMD.out;omega,by have:=HMD.out;omega⟩
  have hS:StS (rPlanEntry NB) (fun z=>z∈blk (some ⟨gm,0,none⟩)\/z<B) w6 [.int .i64 ((am ||| bm:Nat):Int),.int .i64 made,.int .i64 (ac+bc+oc),.slice Aj nj cj] ⟨((am ||| bm:Nat):Int),made,ac+bc+oc,⟨ap++bp++[⟨kd,0,v⟩]⟩⟩ :=
   StS.ofOwn (rPlanEntry_ok NB) (rPlanEntry_own.2 ⟨Aj,nj,cj,fp,rfl,rfl,hi1,hi2,hi3,oj⟩) (fun z hz e=>by have:=fX.ge z hz;have h5:w5.heap.size<=z:=this;have h6:=Nat.le_trans hB B5.size;exact e.elim (fun e=>by simp [blk]at e;omega) (fun e=>by omega))
  have P7:=P6.set1 (rPlanEntry_ok NB) hk hS (Nat.le_trans hB B6.size);refine tgk 17 79 hH ?_;simp only [putS];refine rg 18 (some 80) fun K hK=>?_;clear hH;go_simp;refine hK.out _ _ (fun _=>HSS.out _ hE1) fun hH=>?_;replace hH:=hH (by decide);clear hK K
  try simp only [putS]
  refine rg 19 none fun K hK=>?_;clear hH;go_simp;refine hK.out _ _ (fun h=>absurd rfl h) fun hH=>?_;clear hK K
  try simp only [putS]
  refine wpG_done (by kernel_rfl) ?_ _;clear hH;go_wp2;go_end0;rw [HR.out];have hmm:=HMD.out;rw [hmm]at P7 ⊢;exact⟨rfl,P7,((((Chg.ofBelow B6 [gm]).setCell (by simp) _ _).setCell (by simp) _ _).setCell (by simp) _ _).setCell (by simp) _ _⟩
end Go.Proofs.YtnlcfkpcmfljeaaGreat
namespace Go.Proofs.YtnlcfkpcmfljeaaGreat
open Go.RowKit
attribute [local go_sem ↓] Go.wp_at_zero Go.wp_at_succ
theorem Bk.put4 {w:World}{g:Nat}{t:TypeId}{x0 x1 x2 x3:Value}(h:Bk w g t [x0,x1,x2,x3]) (a b c d:Value):Bk (set4 w g a b c d) g t [a,b,c,d]:=(((h.set 0 a).set 1 b).set 2 c).set 3 d
theorem set4_ne {w:World}{g k:Nat}(hk:k≠g) (a b c d:Value):(set4 w g a b c d).heap[k]?=w.heap[k]? :=
 (((heap_setCell_other _ ⟨g,3,none⟩ k _ (fun e=>hk e)).trans (heap_setCell_other _ ⟨g,2,none⟩ k _ (fun e=>hk e))).trans (heap_setCell_other _ ⟨g,1,none⟩ k _ (fun e=>hk e))).trans (heap_setCell_other _ ⟨g,0,none⟩ k _ (fun e=>hk e))
def RetEn (x:PlanEntryD) (w:World) (e:Ending) (w':World):Prop:=∃ A n c,e=.returned (.agg #[.int .i64 x.fMask,.int .i64 x.fOrder,.int .i64 x.fCost,.slice A n c])/\(rPlanEntry NB).rep w' [.int .i64 x.fMask,.int .i64 x.fOrder,.int .i64 x.fCost,.slice A n c] x/\Below w.heap.size w w'
theorem sizeOpV:(Tryz.prog.info? 44).map (·.size)=some 6:=by kernel_rfl
theorem sizeEntT:(Tryz.prog.info? 107).map (·.size)=some 4:=by kernel_rfl
theorem sInput_c (csm:List Value) (md:ModelD) (As:Option Addr) (ns cc:Nat) (s:List Int) (Al:Option Addr) (nl cl:Nat) (l:List PlanEntryD) (mk:Nat) (v:Int) (low:PlanEntryD) (w:World)
  (hm:(rModel NB).rep w csm md) (hs:RS NB rInt w As ns cc s) (ht:RS NB (rPlanEntry NB) w Al nl cl l) (hlow:bestE l (mk:Int)=some low) (h1:mk<s.length) (hv:I64 v)
  (hc:-900000000000<=low.fCost/\low.fCost<=900000000000) (hp:low.fPlan.fSteps.length<=90) :
  Calls Tryz.prog 186 #[.agg csm.toArray,.slice As ns cc,.slice Al nl cl,.int .i64 (mk:Int),.int .i64 v] w (RetEn (inputE md s l (mk:Int) v) w):=by
 have lenm:=(rModel_ok NB).len hm;have hn:=hs.len;obtain⟨Ao,no,co,oL,rO⟩:=modelAtL hm (j:=1) (by omega);have eo:opOf md (((1:Nat):Int)+1)=md.fSort:=rfl;rw [eo]at oL rO;obtain⟨w1,hw1⟩:∃ W,W=w.alloc (.cells csm.toArray 46):=⟨_,rfl⟩;obtain⟨w2,hw2⟩:∃ W,W=w1.alloc (.cells #[.int .i64 0,.int .i64 0,.int .i64 0,.slice none 0 0] 107):=⟨_,rfl⟩;have hs1:w1.heap.size=w.heap.size+1:=by rw [hw1];simp
 have b1:Below w.heap.size w w1:=by rw [hw1];exact bal
 have b2:Below w1.heap.size w1 w2:=by rw [hw2];exact bal
 have kM:Bk w2 w.heap.size 46 csm:=Bk.below (w:=w1) (by rw [hw1];exact Bk.new w _ _) b2;have kR:Bk w2 (w.heap.size+1) 107 [.int .i64 0,.int .i64 0,.int .i64 0,.slice none 0 0]:=by rw [hw2,<- hs1];exact Bk.new w1 _ _
 have bb:Below w.heap.size w w2:=b1.trans (b2.mono b1.size);obtain⟨bs,os,z1,rfl,cz,_,hz⟩:=hs.ati (k:=mk) (by omega);have hZ:Hid (sizeAt s (mk:Int)=z1):=by show _=_;unfold sizeAt;rw [Int.toNat_natCast,hz.out];rfl
 obtain⟨oc,hoc⟩:∃ oc,oc=opCostV md.fSort z1 0 z1:=⟨_,rfl⟩;have hob:=opCostV_bd (o:=md.fSort) (l:=z1) (r:=0) (t:=z1);rw [<- hoc]at hob;have hwn:IntKind.i64.wrap (low.fCost+oc)=low.fCost+oc:=IntWalk.i64_in _ (by omega);have HSE:Hid (sortE md s low (mk:Int) v=⟨(mk:Int),v,low.fCost+oc,sortedP low.fPlan v⟩):=by show _=_;unfold sortE;rw [hZ.out,<- hoc]
 have HOC:=Lib.hid hoc;have ht2:=ht.below (rPlanEntry_ok NB) bb;have hm1:mk<ns:=by omega
 have mkI:I64 (mk:Int):=⟨by omega,by have:=hs.nb;unfold NB at this;omega⟩;have hm2:(mk:Int)<ns:=by omega
 have HLB:=Lib.hid hlow;clear hoc hZ hz hs hs1 b1 b2 hm hlow
 go_enter Tryz.func186,Tryz.ntmps186
 go_upto_region 1 with fail
 rw [<- hw1,<- hw2];clear hw1 hw2
 go_wp2_with fail
 refine(sLow_c Al nl cl l (mk:Int) _ ht2).mono ?_;rintro e w3 ⟨i,rfl,hi,q3⟩;rw [HLB.out]at hi;obtain⟨k,rfl,hk⟩:=hi;have b3:=q3.belowS;have kM3:=kM.below b3;have kR3:=kR.below b3;have B3:=bb.trans (b3.mono bb.size);have ht3:=ht.below (rPlanEntry_ok NB) B3;have hkl:k<nl:=by have:=lt_of_at hk;rw [ht.len]at this;exact this
 have hkL:(k:Int)<nl:=by omega
 obtain⟨bl,ol,low',AP,nP,cPl,rfl,c0,c1,c2,c3,i0,i1,i2,rP,hx⟩:=ht.ePlanEntry hkl;replace c0:=cells_below B3 _ _ c0;replace c1:=cells_below B3 _ _ c1;replace c2:=cells_below B3 _ _ c2;replace c3:=cells_below B3 _ _ c3;obtain rfl:low'=low:=by have:=hx.out;rw [hk]at this;injection this with this;exact this.symm
 obtain⟨w4,hw4⟩:∃ W,W=w3.alloc (.cells #[.int .i64 low'.fMask,.int .i64 low'.fOrder,.int .i64 low'.fCost,.slice AP nP cPl] 107):=⟨_,rfl⟩;have b4:Below w3.heap.size w3 w4:=by rw [hw4];exact bal
 have kL:Bk w4 w3.heap.size 107 [.int .i64 low'.fMask,.int .i64 low'.fOrder,.int .i64 low'.fCost,.slice AP nP cPl]:=by rw [hw4];exact Bk.new w3 _ _
 have kM4:=kM3.below b4;have kR4:=kR3.below b4;have B4:=B3.trans (b4.mono B3.size);have ht4:=ht.below (rPlanEntry_ok NB) B4;obtain⟨gL,hgL⟩:∃ z,z=w3.heap.size:=⟨_,rfl⟩;rw [<- hgL]at kL;have HGL:=Lib.hid hgL;have HW4:=Lib.hid hw4;clear hgL hw4
 go_upto_region 2 with fail
 rw [<- HW4.out,<- HGL.out];clear HW4 HGL b3 kM kR kM3 kR3 B3 ht2 ht3 b4 q3 c0 c1 c2 c3 hk hx bb
 have HSS:Hid (∀ w':World,Below w4.heap.size w4 w'->w'.rangeAt w.heap.size 6 [.int .i64 md.fSort.fFixed,.int .i64 md.fSort.fPerLeft,.int .i64 md.fSort.fPerRight,.int .i64 md.fSort.fPerOutput,.int .i64 md.fSort.fPerPair,.slice Ao no co]/\w'.cell? ⟨gL,2,none⟩=some (.int .i64 low'.fCost)/\w'.cell? ⟨bs,os+mk,none⟩=some (.int .i64 z1)):=by
  show ∀ w':World,_->_;intro w' h;refine⟨(kM4.below h).rng 6 (fun j u hj=>?_),(kL.below h).bx 2 _ rfl,cells_below (B4.trans (h.mono B4.size)) _ _ cz⟩
  match j,hj with
  | 0,hj=>injection hj with hj;subst hj;exact oL.c0
  | 1,hj=>injection hj with hj;subst hj;exact oL.c1
  | 2,hj=>injection hj with hj;subst hj;exact oL.c2
  | 3,hj=>injection hj with hj;subst hj;exact oL.c3
  | 4,hj=>injection hj with hj;subst hj;exact oL.c4
  | 5,hj=>injection hj with hj;subst hj;exact oL.c5
 have hd0:=(Below.refl w4.heap.size w4).drew;have rO4:=(rOperator_ok NB).keep rO (cells_below B4);refine hbg HSS.out hd0 (fun hH=>?_);refine tq2 0 hH ?_;refine tq1 2 hH ?_;refine ldm 3 23 (fun w h=>h.1) Tryz.underlying44 sizeOpV hH ?_;simp only [putS];refine tq4 4 hH ?_;simp only [putS];refine tq4 8 hH ?_;simp only [putS];refine rd 12 (some 32) fun K hK=>?_;clear hH;go_simp;refine(sOpCost_c _ md.fSort z1 0 z1 _ ((rOperator_ok NB).keep rO4 (cells_below hd0))).mono ?_;rintro e w5 ⟨rfl,hb5⟩;rw [<- HOC.out];have hC1:Below w4.heap.size w4 w5:=hd0.trans (hb5.mono hd0.size)
 go_wp2_with fail
 refine hK.out _ _ (HSS.out _ hC1) (fun hH=>?_);clear hK K
 try simp only [putS]
 refine tq2 13 hH ?_;simp only [putS];refine wpAnyH_done (by kernel_rfl) ?_ _;clear hH;have ht5:=ht4.below (rPlanEntry_ok NB) hC1;have kL5:=kL.below hC1;have kR5:=kR4.below hC1;have B5:=B4.trans (hC1.mono B4.size);clear HSS hd0 rO rO4 oL kM4 kR4 kL ht4 B4 hb5 hC1 HOC cz
 go_wp2_with fail
 refine(sFind_c _ nl cl l (mk:Int) v _ ht5).mono ?_;rintro e w6 ⟨i,rfl,hi,hw6⟩;subst hw6;obtain⟨N,hN⟩:∃ N,N=low'.fCost+oc:=⟨_,rfl⟩;have cP:=kL5.bx 3 _ rfl;have ⟨r0,f0,r1,f1,r2,f2,r3,f3⟩:=kR5.r4;have hBs:∀ a b c d,Below w.heap.size w (set4 w6 (w.heap.size+1) a b c d):=fun a b c d=>bls4 B5 (Nat.le_succ _) a b c d;by_cases hx5:∃ x,findE l (mk:Int) v=some x/\x.fCost<=N
 ·obtain⟨x,hf,hle⟩:=hx5
  rw [hf]at hi;obtain⟨k2,rfl,hk2⟩:=hi;have hk2l:k2<nl:=by have:=lt_of_at hk2;rw [ht5.len]at this;exact this
  have hk2L:(k2:Int)<nl:=by omega
  have hk20:(0:Int)<=(k2:Int):=by omega
  obtain⟨_,_,x',AX,nX,cX,eq,c0,c1,c2,c3,j0,j1,j2,rX,hx⟩:=ht.ePlanEntry hk2l;replace c0:=cells_below B5 _ _ c0;replace c1:=cells_below B5 _ _ c1;replace c2:=cells_below B5 _ _ c2;replace c3:=cells_below B5 _ _ c3;injection eq with eq;injection eq with q1 q2;subst q1 q2;obtain rfl:x'=x:=by have:=hx.out;rw [hk2]at this;injection this with this;exact this.symm
  have HR:Hid (inputE md s l (mk:Int) v=x'):=by
   show _=_;unfold inputE;rw [HLB.out,hf];show(if x'.fCost<=(sortE md s low' (mk:Int) v).fCost then x' else _)=x';rw [HSE.out];exact if_pos (by rw [<- hN];exact hle)
  have hle':x'.fCost<=low'.fCost+oc:=by rw [<- hN];exact hle
  clear hf hle hN hk2 hx HSE HLB;go_wp2;have k9:=kR5.put4 (.int .i64 x'.fMask) (.int .i64 x'.fOrder) (.int .i64 x'.fCost) (.slice AX nX cX);have B9:=hBs (.int .i64 x'.fMask) (.int .i64 x'.fOrder) (.int .i64 x'.fCost) (.slice AX nX cX);have r9:=rX.below (rPlanStep_ok NB) B9;refine bodyPost_ret (results_cell1 Tryz.results186 rfl k9.rangeAt Tryz.underlying107 rfl sizeEntT) rfl ?_;rw [HR.out];exact⟨AX,nX,cX,rfl,rPlanEntry_rep.2 ⟨AX,nX,cX,rfl,j0,j1,j2,r9⟩,B9⟩
 ·have HR:Hid (inputE md s l (mk:Int) v=⟨(mk:Int),v,N,sortedP low'.fPlan v⟩):=by
   show _=_;unfold inputE;rw [HLB.out];show(match findE l (mk:Int) v with|some x=>if x.fCost<=(sortE md s low' (mk:Int) v).fCost then x else sortE md s low' (mk:Int) v|none=>sortE md s low' (mk:Int) v)=_;rw [HSE.out];cases hf:findE l (mk:Int) v with
   | none=>rw [<- hN]
   | some x =>
    show(if x.fCost<=low'.fCost+oc then x else _)=_;rw [if_neg (fun h=>hx5 ⟨x,hf,by rw [hN];exact h⟩),<- hN]
  have hFL:findE l (mk:Int) v=none\/∃ x,findE l (mk:Int) v=some x/\¬ x.fCost<=low'.fCost+oc:=by
   cases hf:findE l (mk:Int) v with
   | none=>exact .inl rfl
   | some x=>exact .inr ⟨x,rfl,fun h=>hx5 ⟨x,hf,by rw [hN];exact h⟩⟩
  have hNI:I64 N:=⟨by omega,by omega⟩;have HN:=Lib.hid hN;clear hx5 hN HSE HLB r0 f0 r1 f1 r2 f2 r3 f3 hBs;rcases hFL with hf|⟨x,hf,hgt⟩
  focus
   rw [hf]at hi;have hi':i=-1:=hi;subst hi';clear hf hi
   go_wp2_with fail
  rotate_left
  focus
   rw [hf]at hi;obtain⟨k2,rfl,hk2⟩:=hi;have hk2l:k2<nl:=by have:=lt_of_at hk2;rw [ht5.len]at this;exact this
   have hk2L:(k2:Int)<nl:=by omega
   have hk20:(0:Int)<=(k2:Int):=by omega
   obtain⟨_,_,x',AX,nX,cX,eq,c0,c1,c2,c3,j0,j1,j2,rX,hx⟩:=ht.ePlanEntry hk2l;injection eq with eq;injection eq with q1 q2;subst q1 q2;obtain rfl:x'=x:=by have:=hx.out;rw [hk2]at this;injection this with this;exact this.symm
   replace c2:=cells_below B5 _ _ c2;clear c0 c1 c3 rX hx hk2 hf
   go_wp2_with fail
  all_goals
   refine(sSortPlan_c _ low'.fPlan v _ (rPlan_rep.2 ⟨AP,nP,cPl,rfl,rP.below (rPlanStep_ok NB) B5⟩) hv (by omega)).mono ?_;rintro e w7 ⟨cs,fp,rfl,oX,fX,hb7⟩;obtain⟨Aj,nj,cj,_,rfl,rfl,oj⟩:=rPlan_own.1 oX;have kR7:=kR5.below hb7;have B7:=B5.trans (hb7.mono B5.size);have ⟨r0,f0,r1,f1,r2,f2,r3,f3⟩:=kR7.r4;go_wp2;have k9:=kR7.put4 (.int .i64 (mk:Int)) (.int .i64 v) (.int .i64 (low'.fCost+oc)) (.slice Aj nj cj);refine bodyPost_ret (results_cell1 Tryz.results186 rfl k9.rangeAt Tryz.underlying107 rfl sizeEntT) rfl ?_;have B9:=bls4 B7 (Nat.le_succ _) (.int .i64 (mk:Int)) (.int .i64 v) (.int .i64 (low'.fCost+oc)) (.slice Aj nj cj)
   have hs7:=hb7.size;have hkz:=kR5.lt
   have o9:=(rPlanEntry_ok NB).okeep (w':=set4 w7 (w.heap.size+1) (.int .i64 (mk:Int)) (.int .i64 v) (.int .i64 (low'.fCost+oc)) (.slice Aj nj cj)) (rPlanEntry_own.2 ⟨Aj,nj,cj,fp,rfl,rfl,mkI,hv,(by rw [<- HN.out];exact hNI),oj⟩:(rPlanEntry NB).own w7 fp [.int .i64 (mk:Int),.int .i64 v,.int .i64 (low'.fCost+oc),.slice Aj nj cj] ⟨(mk:Int),v,low'.fCost+oc,sortedP low'.fPlan v⟩)
    (fun z hz=>set4_ne (by have:=fX.ge z hz;omega) _ _ _ _)
   rw [HR.out,HN.out];exact⟨Aj,nj,cj,rfl,(rPlanEntry_ok NB).toRep o9,B9⟩
end Go.Proofs.YtnlcfkpcmfljeaaGreat
namespace Go.Proofs.YtnlcfkpcmfljeaaGreat
open Go.RowKit
attribute [local go_sem ↓] Go.wp_at_zero Go.wp_at_succ
theorem eiPlanEntry:Ei Tryz.prog 110 107 (.agg #[.int .i64 0,.int .i64 0,.int .i64 0,.slice none 0 0]) (rPlanEntry NB).size 48:=⟨by kernel_rfl,by kernel_rfl,rfl⟩
theorem PT.made {B:Nat}{w w1:World}{n c:Nat}(hM:n<=NB) (hB:B<=w.heap.size) (hg:w.grownBy w1 none)
  (h:w1.ownsRow w.heap.size 107 4 (.slice (some ⟨w.heap.size,0,none⟩) n c) n (madeCells (Value.cells (.agg #[.int .i64 0,.int .i64 0,.int .i64 0,.slice none 0 0])) (n*4)).toList) :
  PT (rPlanEntry NB) 107 B (some ⟨w.heap.size,0,none⟩) n c (List.replicate n zPlanEntry) w1:=by
 have ok:=rK_ok (rPlanEntry_ok NB) (OutS.refl (fun k=>k∈blk (some ⟨w.heap.size,0,none⟩)\/k<B) w1);have:=MS.madeE (M:=NB) (B:=B) (l:=List.replicate n zPlanEntry) ok (by simp) hM hB (z:=.agg #[.int .i64 0,.int .i64 0,.int .i64 0,.slice none 0 0]) (x:=zPlanEntry) rfl (fun W=>⟨rfl,fun V hV=>(rPlanEntry_ok NB).toRep (zPlanEntry_own V)⟩) h;rw [part_zero,List.length_replicate]at this;exact this
theorem PT.entry {e:TypeId}{B n c:Nat}{A:Option Addr}{l:List PlanEntryD}{W:World}(h:PT (rPlanEntry NB) e B A n c l W) {k:Nat}(hk:k<n) :
  ∃ b off x AP nP cP,A=some ⟨b,off,none⟩/\W.cell? ⟨b,off+k*4,none⟩=some (.int .i64 x.fMask)/\W.cell? ⟨b,off+k*4+1,none⟩=some (.int .i64 x.fOrder)/\W.cell? ⟨b,off+k*4+2,none⟩=some (.int .i64 x.fCost)/\W.cell? ⟨b,off+k*4+3,none⟩=some (.slice AP nP cP) /\
   StS (rPlanEntry NB) (fun z=>z∈blk A\/z<B) W [.int .i64 x.fMask,.int .i64 x.fOrder,.int .i64 x.fCost,.slice AP nP cP] x/\Hid (l[k]?=some x):=by
 have q:=MS.rs h (rK_ok (rPlanEntry_ok NB) (OutS.refl (fun z=>z∈blk A\/z<B) W));obtain⟨b,off,x,cs,eq,hrep,hc,hx⟩:=q.at_ hk;obtain⟨AP,nP,cP,rfl,_,_,_,_⟩:=rPlanEntry_rep.1 (hrep W (OutS.refl _ W));exact⟨b,off,x,AP,nP,cP,eq,hc 0 _ rfl,hc 1 _ rfl,hc 2 _ rfl,hc 3 _ rfl,hrep,hx⟩
theorem below_app {T:Nat}{V U Z w':World}{A:Option Addr}(b:Below T Z w') (hb:Below V.heap.size V U) (hA:Below U.heap.size U Z) (hg:Z.grownBy w' (A.map (·.block))) (G:∀ k∈blk A,V.heap.size<=k):Below V.heap.size V w':=(hb.trans (hA.mono hb.size)).grown hg (Nat.le_trans hb.size hA.size) (fun k hk=>G k (mem_blk.2 hk))
theorem entry_o {w:World}{cs:List Value}{x:PlanEntryD}(h:(rPlanEntry NB).rep w cs x):I64 x.fOrder:=by
 obtain⟨_,_,_,_,_,h,_,_⟩:=rPlanEntry_rep.1 h;exact h
theorem sOfferE_c (csm:List Value) (md:ModelD) (As:Option Addr) (ns cc:Nat) (s:List Int) (B gm:Nat) (L:List PlanEntryD) (a b:PlanEntryD) (am bm:Nat) (Aa Ab:Option Addr) (na ca nb cb:Nat) (kd v made mk:Int) (k:Nat) (w:World)
  (hm:(rModel NB).rep w csm md) (hs:RS NB rInt w As ns cc s) (ha:RS NB (rPlanStep NB) w Aa na ca a.fPlan.fSteps) (hb:RS NB (rPlanStep NB) w Ab nb cb b.fPlan.fSteps)
  (hP:PT (rPlanEntry NB) 107 B (some ⟨gm,0,none⟩) 5 5 L w) (hB:B<=w.heap.size) (hk:k<5) (hmade:made=(k:Int) - 1) (hkd:I64 kd) (hv:I64 v) (ia:I64 a.fOrder) (ib:I64 b.fOrder)
  (ea:a.fMask=am) (eb:b.fMask=bm) (sd:Sides mk am bm) (oa:InOk a) (ob:InOk b) (hmk:mk<s.length) (hl16:s.length<=16) :
  Calls Tryz.prog 184 #[.agg csm.toArray,.slice As ns cc,.slice (some ⟨gm,0,none⟩) 5 5,.agg #[.int .i64 (am:Int),.int .i64 a.fOrder,.int .i64 a.fCost,.slice Aa na ca],.agg #[.int .i64 (bm:Int),.int .i64 b.fOrder,.int .i64 b.fCost,.slice Ab nb cb],.int .i64 kd,.int .i64 v,.int .i64 made] w
   fun e w'=>e=.returned (.tuple #[])/\PT (rPlanEntry NB) 107 B (some ⟨gm,0,none⟩) 5 5 (offerE md s L a b kd v k) w'/\Chg [gm] w w':=by
 obtain⟨a0,a1,a2,⟨a3⟩⟩:=a;obtain⟨b0,b1,b2,⟨b3⟩⟩:=b;simp only at ha hb ia ib ea eb;subst ea eb;have ba:=oa.bd;have bb:=ob.bd;simp only at ba bb;obtain⟨p1,p2,hsum,hor,hlt⟩:=sd
 exact sOffer_c csm md As ns cc s B gm L am bm a1 a2 b1 b2 a3 b3 Aa Ab na ca nb cb kd v made k w hm hs
  (rPlanEntry_rep.2 ⟨Aa,na,ca,rfl,⟨by simp only;omega,by simp only;omega⟩,ia,⟨by simp only;omega,by simp only;omega⟩,ha⟩)
  (rPlanEntry_rep.2 ⟨Ab,nb,cb,rfl,⟨by simp only;omega,by simp only;omega⟩,ib,⟨by simp only;omega,by simp only;omega⟩,hb⟩)
  hP hB hk hmade hkd hv (by omega) (by omega) (by omega) hl16 (by omega) (by omega) (by omega) (by omega)
theorem StS.ofRep {α:Type}{r:Rp α}(hr:r.Ok) {S:Nat->Prop}{V W:World}{cs:List Value}{x:α}(h:r.rep V cs x) (hb:Below V.heap.size V W) (hS:∀ k,S k->V.heap.size<=k):StS r S W cs x:=fun U hU=>hr.keep h fun p v hv=>by
 have hl:=World.block_lt_of_cell? V p hv;have e:U.heap[p.block]?=V.heap[p.block]?:=(hU.2 p.block (fun q=>by have:=hS _ q;omega) (Nat.lt_of_lt_of_le hl hb.size)).trans (hb.block _ hl);unfold World.cell? at hv ⊢;rw [e];exact hv
structure Jn (w:World) (gm:Nat) (w0:World) (csm:List Value) (cX:List Value) (L:List PlanEntryD) (W:World):Prop where
 ch:Chg [gm] w0 W
 be:Below w.heap.size w W
 kM:Bk W w.heap.size 46 csm
 kX:Bk W (w.heap.size+1) 158 cX
 pt:PT (rPlanEntry NB) 107 (w.heap.size+2) (some ⟨gm,0,none⟩) 5 5 L W
 hg:w.heap.size+2<=gm
section
variable {w w0 W W':World} {gm:Nat} {csm cX:List Value} {L L':List PlanEntryD}
theorem Jn.low (H:Jn w gm w0 csm cX L W) (h:Below W.heap.size W W'):Jn w gm w0 csm cX L W':=by
 obtain⟨ch,be,kM,kX,pt,hg⟩:=H;exact⟨ch.trans (Chg.ofBelow h _),be.trans (h.mono be.size),kM.below h,kX.below h,pt.below (rPlanEntry_ok NB) h,hg⟩
theorem Jn.off (H:Jn w gm w0 csm cX L W) (h:Chg [gm] W W') (pt:PT (rPlanEntry NB) 107 (w.heap.size+2) (some ⟨gm,0,none⟩) 5 5 L' W'):Jn w gm w0 csm cX L' W':=by
 obtain⟨ch,be,kM,kX,_,hg⟩:=H;exact⟨ch.trans h,be.trans (h.toBelow be.size (by simp;omega)),(h.block _ kM.lt (by simp;omega)).trans kM,(h.block _ kX.lt (by simp;omega)).trans kX,pt,hg⟩
end
theorem sJoin_c (csm:List Value) (md:ModelD) (As:Option Addr) (ns cc:Nat) (s:List Int) (Al:Option Addr) (nl cl:Nat) (l:List PlanEntryD) (mk:Nat) (sp:List (Int × List Int)) (A1:Option Addr) (c1:Nat) (A2:Option Addr) (c2:Nat) (n:Nat) (w:World)
  (hm:(rModel NB).rep w csm md) (hs:RS NB rInt w As ns cc s) (ht:RS NB (rPlanEntry NB) w Al nl cl l) (hx1:RS NB rInt w A1 n c1 (sp.map (·.1))) (hx2:RS NB (rSlice NB 3 rInt) w A2 n c2 (sp.map (·.2)))
  (hT:∀ x∈l,EntOk x) (hsp:SplsOk l (mk:Int) sp) (hmk:mk<s.length) (hl16:s.length<=16) :
  Calls Tryz.prog 129 #[.agg csm.toArray,.slice As ns cc,.slice Al nl cl,.agg #[.int .i64 (mk:Int),.slice A1 n c1,.slice A2 n c2]] w
   fun e w'=>∃ A n c,e=.returned (.slice A n c)/\PT (rPlanEntry NB) 107 w.heap.size A n c (joinE md s l (mk:Int) sp) w'/\Below w.heap.size w w':=by
 have lenm:=(rModel_ok NB).len hm;have hn1:sp.length=n:=by have:=hx1.len;simpa using this
 have hnb:=hx1.bound;obtain⟨i0,hi0,hz0,hz1,hz2⟩:=info_parts eiPlanEntry.hi;obtain⟨w1,hw1⟩:∃ W,W=w.alloc (.cells csm.toArray 46):=⟨_,rfl⟩;obtain⟨w2,hw2⟩:∃ W,W=w1.alloc (.cells #[.int .i64 (mk:Int),.slice A1 n c1,.slice A2 n c2] 158):=⟨_,rfl⟩;have hs1:w1.heap.size=w.heap.size+1:=by rw [hw1];simp
 have hs2:w2.heap.size=w.heap.size+2:=by rw [hw2];simp [hs1]
 have b1:Below w.heap.size w w1:=by rw [hw1];exact bal
 have b2:Below w1.heap.size w1 w2:=by rw [hw2];exact bal
 have kM2:Bk w2 w.heap.size 46 csm:=Bk.below (w:=w1) (by rw [hw1];exact Bk.new w _ _) b2;have kX2:Bk w2 (w.heap.size+1) 158 [.int .i64 (mk:Int),.slice A1 n c1,.slice A2 n c2]:=by rw [hw2,<- hs1];exact Bk.new w1 _ _
 have bb:Below w.heap.size w w2:=b1.trans (b2.mono b1.size);have HS2:=Lib.hid hs2;clear hs1 hs2 b1 b2
 go_enter Tryz.func129,Tryz.ntmps129
 go_upto_region 1 with fail
 rw [<- hw1,<- hw2];clear hw1 hw2
 go_wp2_with (at_make;refine wpList_make_full _ rfl _ _ 110 rfl w2.heap.size 107 i0 (.agg #[.int .i64 0,.int .i64 0,.int .i64 0,.slice none 0 0]) 4 Tryz.underlying110 hi0 hz0 hz1 .i64 .i64 _ _ 5 rfl rfl rfl rfl (by rw [hz2];omega) (by unfold maxLen;omega) (Nat.le_refl _) ?_;intro w3 hown hg)
 have P3:PT (rPlanEntry NB) 107 (w.heap.size+2) (some ⟨w2.heap.size,0,none⟩) 5 5 (List.replicate 5 zPlanEntry) w3:=PT.made (by unfold NB;omega) (by have:=HS2.out;omega) hg hown;have b3:Below w2.heap.size w2 w3:=(Below.refl _ _).grown hg (Nat.le_refl _) (by simp);obtain⟨gm,hgm⟩:∃ z,z=w2.heap.size:=⟨_,rfl⟩;rw [<- hgm]at P3;have H3:Jn w gm w3 csm [.int .i64 (mk:Int),.slice A1 n c1,.slice A2 n c2] (mineE md s l (mk:Int) (sp.take 0)) w3:=⟨Chg.refl _ _,bb.trans (b3.mono bb.size),kM2.below b3,kX2.below b3,P3,by have:=HS2.out;omega⟩;rw [<- hgm];clear hgm hown hg b3 kM2 kX2 bb HS2 P3 hi0 hz0 hz1 hz2
 go_loopw [10] (fun i wr=>∃ k:Nat,k<=n/\i=.int .i64 k/\Jn w gm w3 csm [.int .i64 (mk:Int),.slice A1 n c1,.slice A2 n c2] (mineE md s l (mk:Int) (sp.take k)) wr) (fun i _=>n - (intOf i).toNat)
 case atStart=>exact⟨0,Nat.zero_le _,rfl,H3⟩
 case round =>
  obtain⟨k,hk,rfl,H⟩:=hrel;clear H3;by_cases hlt:k<n
  ·obtain⟨W,hW⟩:∃ W,W=wr:=⟨_,rfl⟩
   rw [<- hW]at H ⊢;clear hW;have hxk:sp[k]?=some (sp[k]'(by omega)):=List.getElem?_eq_getElem _;obtain⟨xk,hxe⟩:∃ x,x=sp[k]'(by omega):=⟨_,rfl⟩;rw [<- hxe]at hxk;obtain⟨lf,rt,hS⟩:=hsp xk (mem_of_at hxk);have HXK:=Lib.hid hxk;have HSO:=Lib.hid hS;clear hxk hxe hS;obtain⟨bx1,ox1,v1,rfl,cv1,_,hv1⟩:=hx1.ati hlt
   obtain rfl:v1=(lf:Int):=by
    have:=hv1.out;rw [List.getElem?_map,HXK.out]at this;injection this with this;rw [<- this];exact HSO.out.e1
   replace cv1:=cells_below H.be _ _ cv1;have x0:=H.kX.bx 0 _ rfl;have x1:=H.kX.bx 1 _ rfl;have x2:=H.kX.bx 2 _ rfl;have hki:(k:Int)<n:=by omega
   have hsum:=HSO.out.sd.sum;have hwr:IntKind.i64.wrap ((mk:Int) - (lf:Int))=(rt:Int):=by rw [IntWalk.i64_in _ (by omega)];omega
   have ht1:=ht.below (rPlanEntry_ok NB) H.be;obtain⟨a,ha⟩:=HSO.out.b1;obtain⟨b,hb⟩:=HSO.out.b2;have HBa:=Lib.hid ha;have HBb:=Lib.hid hb;have Ea:=Lib.hid (bestE_mem ha).2;have Eb:=Lib.hid (bestE_mem hb).2;have Oa:=Lib.hid (hT _ (bestE_mem ha).1).toInOk;have Ob_:=Lib.hid (hT _ (bestE_mem hb).1).toInOk;clear ha hb
   go_wp2_with fail
   refine(sLow_c _ nl cl l (lf:Int) _ (ht.below (rPlanEntry_ok NB) H.be)).mono ?_;rintro e u1 ⟨i,rfl,hi,q⟩;rw [HBa.out]at hi;obtain⟨ka,rfl,hka⟩:=hi;have H1:=H.low q.belowS;have hkal:ka<nl:=by have:=lt_of_at hka;rw [ht.len]at this;exact this
   have hkaL:(ka:Int)<nl:=by omega
   obtain⟨ba,oa,a',APa,nPa,cPa,eta,a0,a1,a2,a3,_,ia,_,ra,hxa⟩:=ht.ePlanEntry hkal;obtain rfl:a'=a:=by have:=hxa.out;rw [hka]at this;injection this with this;exact this.symm
   subst eta;rw [Ea.out]at a0;replace a0:=cells_below H1.be _ _ a0;replace a1:=cells_below H1.be _ _ a1;replace a2:=cells_below H1.be _ _ a2;replace a3:=cells_below H1.be _ _ a3;obtain⟨ga,hga⟩:∃ z,z=u1.heap.size:=⟨_,rfl⟩;obtain⟨u2,hua⟩:∃ W,W=u1.alloc (.cells #[.int .i64 (lf:Int),.int .i64 a'.fOrder,.int .i64 a'.fCost,.slice APa nPa cPa] 107):=⟨_,rfl⟩;have bua:Below u1.heap.size u1 u2:=by rw [hua];exact bal
   have H2:=H1.low bua;have kA:Bk u2 ga 107 [.int .i64 (lf:Int),.int .i64 a'.fOrder,.int .i64 a'.fCost,.slice APa nPa cPa]:=by rw [hua,hga];exact Bk.new u1 _ _
   have hgga:gm<ga:=by rw [hga];exact H1.pt.lt
   have HUa:=Lib.hid hua;have HGa:=Lib.hid hga;have HKa:=Lib.hid hka;clear hua hga hka hxa q
   go_upto_region 8 with fail
   rw [<- HUa.out,<- HGa.out];clear HUa HGa a0 a1 a2 a3 bua
   go_wp2_with fail
   refine(sLow_c _ nl cl l (rt:Int) _ (ht.below (rPlanEntry_ok NB) H2.be)).mono ?_;rintro e u3 ⟨i,rfl,hi,q⟩;rw [HBb.out]at hi;obtain⟨kb,rfl,hkb⟩:=hi;have H3:=H2.low q.belowS;replace kA:=kA.below q.belowS;have hkbl:kb<nl:=by have:=lt_of_at hkb;rw [ht.len]at this;exact this
   have hkbL:(kb:Int)<nl:=by omega
   obtain⟨bb,ob,b',APb,nPb,cPb,etb,b0,b1,b2,b3,_,ib,_,rb,hxb⟩:=ht.ePlanEntry hkbl;obtain rfl:b'=b:=by have:=hxb.out;rw [hkb]at this;injection this with this;exact this.symm
   injection etb with etb;injection etb with q1 q2;subst q1 q2;rw [Eb.out]at b0;replace b0:=cells_below H3.be _ _ b0;replace b1:=cells_below H3.be _ _ b1;replace b2:=cells_below H3.be _ _ b2;replace b3:=cells_below H3.be _ _ b3;obtain⟨gb,hgb⟩:∃ z,z=u3.heap.size:=⟨_,rfl⟩;obtain⟨u4,hub⟩:∃ W,W=u3.alloc (.cells #[.int .i64 (rt:Int),.int .i64 b'.fOrder,.int .i64 b'.fCost,.slice APb nPb cPb] 107):=⟨_,rfl⟩;have bub:Below u3.heap.size u3 u4:=by rw [hub];exact bal
   have H4:=H3.low bub;replace kA:=kA.below bub;have kB:Bk u4 gb 107 [.int .i64 (rt:Int),.int .i64 b'.fOrder,.int .i64 b'.fCost,.slice APb nPb cPb]:=by rw [hub,hgb];exact Bk.new u3 _ _
   have hggb:gm<gb:=by rw [hgb];exact H3.pt.lt
   have HUb:=Lib.hid hub;have HGb:=Lib.hid hgb;have HKb:=Lib.hid hkb;clear hub hgb hkb hxb q
   go_upto_region 9 with fail
   rw [<- HUb.out,<- HGb.out];clear HUb HGb b0 b1 b2 b3 bub;have ⟨ca0,ca1,ca2,ca3⟩:=kA.bx.b4;have ⟨cb0,cb1,cb2,cb3⟩:=kB.bx.b4;have hz4:w.heap.size+2<=u4.heap.size:=Nat.le_trans H4.hg (Nat.le_of_lt H4.pt.lt);have sd:=HSO.out.sd;have hmk2:(mk:Int)<s.length:=by omega
   go_wp2_with (refine wpList_load_mid rfl 46 _ rfl w.heap.size 0 rfl csm _ H4.kM.rangeAt Tryz.underlying46 rfl (by rw [lenm];exact sizeModelT) ?_)
   refine(sOfferE_c csm md As ns cc s (w.heap.size+2) gm _ a' b' lf rt APa APb nPa cPa nPb cPb 3 0 (-1) (mk:Int) 0 _ ((rModel_ok NB).keep hm (cells_below H4.be)) (hs.below rInt_ok H4.be) (ra.below (rPlanStep_ok NB) H4.be) (rb.below (rPlanStep_ok NB) H4.be) H4.pt hz4 (by omega) rfl (by simp [I64]) (by simp [I64]) ia ib Ea.out Eb.out sd Oa.out Ob_.out hmk2 hl16).mono ?_;rintro e u5 ⟨rfl,P5,C5⟩;have H5:=H4.off C5 P5;have kB5:Bk u5 gb 107 [.int .i64 (rt:Int),.int .i64 b'.fOrder,.int .i64 b'.fCost,.slice APb nPb cPb]:=(C5.block _ kB.lt (by simp;omega)).trans kB;obtain⟨LA,hLA⟩:∃ LA,LA=offerE md s (mineE md s l (mk:Int) (sp.take k)) a' b' 3 0 0:=⟨_,rfl⟩
   rw [<- hLA]at H5;have HLA:=Lib.hid hLA;clear hLA C5 P5 ca0 ca1 ca2 ca3 cb0 cb1 cb2 cb3 kA kB H4 H3 H2 H1 H hz4 cv1 x0 x1 x2 hgga ht1 hwr;go_wp2
   go_loopw [15] (fun o wv=>∃ t:Nat,t<=5/\o=.int .i64 ((t:Int) - 1)/\Jn w gm w3 csm [.int .i64 (mk:Int),.slice (some ⟨bx1,ox1,none⟩) n c1,.slice A2 n c2] (nestE md s l (lf:Int) b' t LA) wv/\Bk wv gb 107 [.int .i64 (rt:Int),.int .i64 b'.fOrder,.int .i64 b'.fCost,.slice APb nPb cPb]) (fun o _=>5 - (intOf o+1).toNat)
   case atStart=>exact⟨0,by omega,rfl,H5,kB5⟩
   case round =>
    obtain⟨t,ht5,rfl,Hn,kBn⟩:=hrel;clear H5 kB5;by_cases hlt2:t<5
    ·obtain⟨V,hV⟩:∃ V,V=wr:=⟨_,rfl⟩
     rw [<- hV]at Hn kBn ⊢;clear hV;have htc:(t:Int) - 1<4:=by omega
     have hwt:IntKind.i64.wrap ((t:Int) - 1+1)=(t:Int):=by rw [IntWalk.i64_in _ (by omega)];omega
     go_wp2_with fail
     refine(sFind_c _ nl cl l (lf:Int) ((t:Int) - 1) _ (ht.below (rPlanEntry_ok NB) Hn.be)).mono ?_;rintro e V' ⟨i,rfl,hi,hV'⟩;subst V';cases hf:findE l (lf:Int) ((t:Int) - 1) with
     | none =>
      rw [hf]at hi;have hi':i=-1:=hi;subst hi';have HN2:Hid (nestE md s l (lf:Int) b' (t+1) LA=nestE md s l (lf:Int) b' t LA):=by show _=_;conv=>lhs;unfold nestE;rw [hf]
      clear hf hi;go_wp2;go_roundw
      case rel=>exact⟨t+1,by omega,by congr 1;omega,by rw [HN2.out];exact Hn,kBn⟩
      case measure=>simp [intOf];omega
     | some x =>
      rw [hf]at hi;obtain⟨kx,rfl,hkx⟩:=hi;have HN2:Hid (nestE md s l (lf:Int) b' (t+1) LA=offerE md s (nestE md s l (lf:Int) b' t LA) x b' 5 0 t):=by show _=_;conv=>lhs;unfold nestE;rw [hf]
      have hfm:=findE_mem hf;have hkxl:kx<nl:=by have:=lt_of_at hkx;rw [ht.len]at this;exact this
      have hkxL:(kx:Int)<nl:=by omega
      have hkx0:(0:Int)<=(kx:Int):=by omega
      obtain⟨_,_,x',APx,nPx,cPx,etx,y0,y1,y2,y3,_,ix,_,rx,hxx⟩:=ht.ePlanEntry hkxl;injection etx with etx;injection etx with q1 q2;subst q1 q2;obtain rfl:x'=x:=by have:=hxx.out;rw [hkx]at this;injection this with this;exact this.symm
      rw [hfm.2.1]at y0;have HFM:=Lib.hid hfm
      have HSS:Hid (∀ w':World,Chg [gm] V w'->w'.rangeAt w.heap.size 0 csm/\(w'.cell? ⟨ba,oa+kx*4,none⟩=some (.int .i64 (lf:Int))/\w'.cell? ⟨ba,oa+kx*4+1,none⟩=some (.int .i64 x'.fOrder)/\w'.cell? ⟨ba,oa+kx*4+2,none⟩=some (.int .i64 x'.fCost)/\w'.cell? ⟨ba,oa+kx*4+3,none⟩=some (.slice APx nPx cPx)) /\
        w'.cell? ⟨gb,0,none⟩=some (.int .i64 (rt:Int))/\w'.cell? ⟨gb,1,none⟩=some (.int .i64 b'.fOrder)/\w'.cell? ⟨gb,2,none⟩=some (.int .i64 b'.fCost)/\w'.cell? ⟨gb,3,none⟩=some (.slice APb nPb cPb)):=by
       show ∀ w':World,_->_;intro w' h;have hg2:=Hn.hg;have hw:=Hn.be.trans (h.toBelow Hn.be.size (by simp;omega));have e1:Bk w' w.heap.size 46 csm:=(h.block _ Hn.kM.lt (by simp;omega)).trans Hn.kM;have e2:Bk w' gb 107 [.int .i64 (rt:Int),.int .i64 b'.fOrder,.int .i64 b'.fCost,.slice APb nPb cPb]:=(h.block _ kBn.lt (by simp;omega)).trans kBn;exact⟨e1.rangeAt,⟨cells_below hw _ _ y0,cells_below hw _ _ y1,cells_below hw _ _ y2,cells_below hw _ _ y3⟩,e2.bx.b4⟩
      have hcd:Chg [gm] V V.drew:=Chg.ofBelow (Below.refl _ _).drew _;have Hd:=Hn.low (Below.refl V.heap.size V).drew;have hzd:w.heap.size+2<=V.drew.heap.size:=Nat.le_trans Hd.hg (Nat.le_of_lt Hd.pt.lt);clear hf y0 y1 y2 y3 hxx hkx hfm
      go_upto_region 15 with fail
      refine hbg HSS.out hcd (fun hH=>?_);refine ldm 0 66 (fun w h=>h.1) Tryz.underlying46 (by rw [lenm];exact sizeModelT) hH ?_;simp only [putS];refine tq4 1 hH ?_;simp only [putS];refine tq4 5 hH ?_;simp only [putS];refine rd 9 (some 75) fun K hK=>?_;clear hH;go_simp;refine(sOfferE_c csm md As ns cc s (w.heap.size+2) gm _ x' b' lf rt APx APb nPx cPx nPb cPb 5 0 ((t:Int) - 1) (mk:Int) t _ ((rModel_ok NB).keep hm (cells_below Hd.be)) (hs.below rInt_ok Hd.be) (rx.below (rPlanStep_ok NB) Hd.be) (rb.below (rPlanStep_ok NB) Hd.be) Hd.pt hzd hlt2 rfl (by simp [I64]) (by simp [I64]) ix ib HFM.out.2.1 Eb.out sd (hT _ HFM.out.1).toInOk Ob_.out hmk2 hl16).mono ?_
      rintro e V2 ⟨rfl,P2,C2⟩;have hCC:Chg [gm] V V2:=hcd.trans C2
      go_wp2_with fail
      refine hK.out _ _ (HSS.out _ hCC) (fun hH=>?_);clear hK K
      try simp only [putS]
      refine wpAnyH_done (by kernel_rfl) ?_ _;clear hH;have H2:=Hn.off hCC P2;have kB2:Bk V2 gb 107 [.int .i64 (rt:Int),.int .i64 b'.fOrder,.int .i64 b'.fCost,.slice APb nPb cPb]:=(hCC.block _ kBn.lt (by simp;omega)).trans kBn;clear HSS hcd Hd hzd P2 C2 hCC Hn kBn;go_wp2;go_roundw
      case rel=>exact⟨t+1,by omega,by congr 1;omega,by rw [HN2.out];exact H2,kB2⟩
      case measure=>simp [intOf];omega
    ·obtain⟨V,hV⟩:∃ V,V=wr:=⟨_,rfl⟩
     rw [<- hV]at Hn kBn ⊢;clear hV;have ht5':t=5:=by omega
     subst ht5';clear kBn;obtain⟨LN,hLN⟩:∃ LN,LN=nestE md s l (lf:Int) b' 5 LA:=⟨_,rfl⟩;rw [<- hLN]at Hn;have HLN:=Lib.hid hLN;clear hLN;obtain⟨bx2,ox2,vs,Av,nv,cv,rfl,cvv,rv,hvs⟩:=hx2.row hlt
     obtain rfl:vs=xk.2:=by
      have:=hvs.out;rw [List.getElem?_map,HXK.out]at this;injection this with this;exact this.symm
     have hnvb:=rv.bound;have htc:¬ ((5:Nat):Int) - 1<4:=by omega
     have x2:=Hn.kX.bx 2 _ rfl;have hcv:=cells_below Hn.be _ _ cvv;go_wp2
     go_loopw [17] (fun o wv=>∃ t:Nat,t<=nv/\o=.int .i64 (t:Int)/\Jn w gm w3 csm [.int .i64 (mk:Int),.slice (some ⟨bx1,ox1,none⟩) n c1,.slice (some ⟨bx2,ox2,none⟩) n c2] (mergeE md s l (lf:Int) (rt:Int) (xk.2.take t) LN) wv) (fun o _=>nv - (intOf o).toNat)
     case atStart=>exact⟨0,Nat.zero_le _,rfl,Hn⟩
     case round =>
      clear Hn x2 hcv htc;obtain⟨t,htv,rfl,Hm⟩:=hrel;obtain⟨U,hU⟩:∃ U,U=wr:=⟨_,rfl⟩;rw [<- hU]at Hm ⊢;clear hU;have x2:=Hm.kX.bx 2 _ rfl;have hcv:=cells_below Hm.be _ _ cvv;by_cases hlt3:t<nv
      ·obtain⟨bv,ov,v,rfl,cw,vI,hvt⟩:=rv.ati hlt3
       have hv03:=HSO.out.vs v (mem_of_at hvt.out);have hcw:=cells_below Hm.be _ _ cw;have HMG:Hid (mergeE md s l (lf:Int) (rt:Int) (xk.2.take (t+1)) LN=offerE md s (mergeE md s l (lf:Int) (rt:Int) (xk.2.take t) LN) (inputE md s l (lf:Int) v) (inputE md s l (rt:Int) v) 4 v (v+1).toNat):=by show _=_;unfold mergeE;rw [take_snoc hvt.out,List.foldl_append];rfl
       have hti:(t:Int)<nv:=by omega
       have HSS:Hid (∀ w':World,Chg [gm] U w'->w'.rangeAt w.heap.size 0 csm):=by
        show ∀ w':World,_->_;intro w' h;have hg2:=Hm.hg;have e1:Bk w' w.heap.size 46 csm:=(h.block _ Hm.kM.lt (by simp;omega)).trans Hm.kM;exact e1.rangeAt
       have hcd:Chg [gm] U U.drew:=Chg.ofBelow (Below.refl _ _).drew _;have Hd:=Hm.low (Below.refl U.heap.size U).drew;have hzd:w.heap.size+2<=U.drew.heap.size:=Nat.le_trans Hd.hg (Nat.le_of_lt Hd.pt.lt);obtain⟨E1,hE1⟩:∃ E,E=inputE md s l (lf:Int) v:=⟨_,rfl⟩;obtain⟨E2,hE2⟩:∃ E,E=inputE md s l (rt:Int) v:=⟨_,rfl⟩;have I1:=inputE_ok (md:=md) (s:=s) (v:=v) hT HBa.out;have I2:=inputE_ok (md:=md) (s:=s) (v:=v) hT HBb.out;rw [<- hE1]at I1;rw [<- hE2]at I2;rw [<- hE1,<- hE2]at HMG;have HE1:=Lib.hid hE1;have HE2:=Lib.hid hE2;replace I1:=Lib.hid I1;replace I2:=Lib.hid I2;clear hE1 hE2;have ba:=Oa.out.bd
       have bbb:=Ob_.out.bd;have hlf:lf<s.length:=by have:=sd.p2;have:=sd.sum;omega
       have hrt:rt<s.length:=by have:=sd.p1;have:=sd.sum;omega
       go_upto_region 20 with fail
       refine hbg HSS.out hcd (fun hH=>?_);refine ldm 0 94 (fun w h=>h) Tryz.underlying46 (by rw [lenm];exact sizeModelT) hH ?_;refine tq2 1 hH ?_;refine ldm 3 97 (fun w h=>h) Tryz.underlying46 (by rw [lenm];exact sizeModelT) hH ?_;simp only [putS];refine tq4 4 hH ?_;simp only [putS];refine ldm 9 103 (fun w h=>h) Tryz.underlying46 (by rw [lenm];exact sizeModelT) hH ?_;simp only [putS];refine tq4 10 hH ?_;simp only [putS];refine tq2 15 hH ?_;simp only [putS];refine rd 8 (some 102) fun K hK=>?_;clear hH;go_simp;have CC:=sInput_c csm md As ns cc s _ nl cl l lf v a' _ ((rModel_ok NB).keep hm (cells_below Hd.be)) (hs.below rInt_ok Hd.be) (ht.below (rPlanEntry_ok NB) Hd.be) HBa.out hlf vI (by omega) (by omega)
       rw [<- HE1.out]at CC;refine CC.mono ?_;clear CC;rintro e U1 ⟨Ai,ni,ci,rfl,ri,hbi⟩;rw [I1.out.2];have H1:=Hd.low hbi;have hC1:Chg [gm] U U1:=hcd.trans (Chg.ofBelow hbi _)
       go_wp2_with fail
       refine hK.out _ _ (HSS.out _ hC1) (fun hH=>?_);clear hK K
       try simp only [putS]
       refine rd 14 (some 108) fun K hK=>?_;clear hH;go_simp;have CC:=sInput_c csm md As ns cc s _ nl cl l rt v b' _ ((rModel_ok NB).keep hm (cells_below H1.be)) (hs.below rInt_ok H1.be) (ht.below (rPlanEntry_ok NB) H1.be) HBb.out hrt vI (by omega) (by omega);rw [<- HE2.out]at CC;refine CC.mono ?_;clear CC;rintro e U2 ⟨Aj,nj,cj,rfl,rj,hbj⟩;rw [I2.out.2];have H2:=H1.low hbj;have hC2:Chg [gm] U U2:=hC1.trans (Chg.ofBelow hbj _)
       go_wp2_with fail
       refine hK.out _ _ (HSS.out _ hC2) (fun hH=>?_);clear hK K
       try simp only [putS]
       have hz2:w.heap.size+2<=U2.heap.size:=Nat.le_trans H2.hg (Nat.le_of_lt H2.pt.lt);rw [I1.out.2]at ri;rw [I2.out.2]at rj;have ria:=(entry_rs ri).below (rPlanStep_ok NB) hbj;have rjb:=entry_rs rj;have io:=entry_o ri;have jo:=entry_o rj;refine rd 17 (some 111) fun K hK=>?_;clear hH;go_simp;refine(sOfferE_c csm md As ns cc s (w.heap.size+2) gm _ E1 E2 lf rt Ai Aj ni ci nj cj 4 v v (mk:Int) (v+1).toNat _ ((rModel_ok NB).keep hm (cells_below H2.be)) (hs.below rInt_ok H2.be) ria rjb H2.pt hz2 (by omega) (by omega) (by simp [I64]) vI io jo I1.out.2 I2.out.2 sd I1.out.1 I2.out.1 hmk2 hl16).mono ?_
       rintro e U3 ⟨rfl,P3,C3⟩;have hC3:Chg [gm] U U3:=hC2.trans C3
       go_wp2_with fail
       refine hK.out _ _ (HSS.out _ hC3) (fun hH=>?_);clear hK K
       try simp only [putS]
       refine wpAnyH_done (by kernel_rfl) ?_ _;clear hH;have H4:=Hm.off hC3 P3;clear HSS hcd Hd hzd P3 C3 hC1 hC2 hC3 Hm H1 H2 ria rjb ri rj hbi hbj;go_wp2;go_roundw
       case rel=>exact⟨t+1,by omega,by go_num,by rw [HMG.out];exact H4⟩
       case measure=>simp [intOf];omega
      ·have hnv:=rv.len
       have HMI:Hid (mineE md s l (mk:Int) (sp.take (k+1))=mergeE md s l (lf:Int) (rt:Int) (xk.2.take t) LN):=by
        show _=_;rw [show xk.2.take t=xk.2 from List.take_of_length_le (by omega)];have e1:mineE md s l (mk:Int) (sp.take (k+1))=splitE md s l (mk:Int) (mineE md s l (mk:Int) (sp.take k)) xk:=by unfold mineE;rw [take_snoc HXK.out,List.foldl_append];rfl
        rw [e1];unfold splitE;rw [HSO.out.e2,HSO.out.e1,HBa.out,HBb.out,HLN.out,HLA.out]
       go_wp2;go_roundw
       case rel=>exact⟨k+1,by omega,by go_num,by rw [HMI.out];exact Hm⟩
       case measure=>simp [intOf];omega
  ·obtain⟨V,hV⟩:∃ V,V=wr:=⟨_,rfl⟩
   rw [<- hV]at H ⊢;clear hV;have hkn:k=n:=by omega
   subst hkn;obtain⟨L,hL⟩:∃ L,L=mineE md s l (mk:Int) sp:=⟨_,rfl⟩;rw [List.take_of_length_le (by omega),<- hL]at H;have HL:=Lib.hid hL;clear hL;have rL:=H.pt.rs (rPlanEntry_ok NB);have hLl:L.length=5:=rL.len;have x1:=H.kX.bx 1 _ rfl;have bA:=(Below.refl V.heap.size V).alloc (Nat.le_refl _) (.cells #[] 107);have P0:=PT.new (r:=rPlanEntry NB) (e:=107) (W:=V) H.be.size;have G0:∀ k∈blk (some (⟨V.heap.size,0,none⟩:Addr)),V.heap.size<=k:=fun k hk=>by simp [blk]at hk;omega
   go_wp2
   go_loopw [19,20] (fun ov iv wv=>∃ (t n2 c2':Nat) (A:Option Addr),t<=5/\iv=.int .i64 (t:Int)/\ov=.slice A n2 c2'/\PT (rPlanEntry NB) 107 w.heap.size A n2 c2' ((L.take t).filter (fun x=>decide (0<x.fMask))) wv/\(∀ k∈blk A,V.heap.size<=k)/\Below V.heap.size V wv) (fun _ i _=>5 - (intOf i).toNat)
   case atStart=>exact⟨0,0,0,_,by omega,rfl,rfl,P0,G0,bA⟩
   case round =>
    clear P0 G0 bA x1;obtain⟨t,n2,c2',A,ht5,rfl,rfl,P,G,hb⟩:=hrel;obtain⟨U,hU⟩:∃ U,U=wr:=⟨_,rfl⟩;rw [<- hU]at P hb ⊢;clear hU;by_cases hlt2:t<5
    ·obtain⟨_,_,y,APy,nPy,cPy,ety,y0,y1,y2,y3,hsy,hy⟩:=H.pt.entry (k:=t) hlt2
     injection ety with ety;injection ety with q1 q2;subst q1 q2;rw [Nat.zero_add]at y0 y1 y2 y3;replace y0:=cells_below hb _ _ y0;replace y1:=cells_below hb _ _ y1;replace y2:=cells_below hb _ _ y2;replace y3:=cells_below hb _ _ y3;have htI:(t:Int)<=4:=by omega
     have htJ:(t:Int)<5:=by omega
     have hn2:n2<=5:=by have:=P.len;have h2:=List.length_filter_le (fun x=>decide (0<x.fMask)) (L.take t);rw [List.length_take]at h2;omega
     by_cases hpos:0<y.fMask
     ·have HF:Hid ((L.take (t+1)).filter (fun x=>decide (0<x.fMask))=(L.take t).filter (fun x=>decide (0<x.fMask))++[y]):=by
       show _=_;rw [take_snoc hy.out,List.filter_append];congr 1;simp [hpos]
      have hA1:=(Below.refl U.heap.size U).alloc (Nat.le_refl _) (.cells #[.int .i64 y.fMask,.int .i64 y.fOrder,.int .i64 y.fCost,.slice APy nPy cPy] 107);have hwU:w.heap.size<=U.heap.size:=Nat.le_trans H.be.size hb.size;have hUA:=hb.trans (hA1.mono hb.size)
      have hS:StS (rPlanEntry NB) (fun k=>k∈blk A\/k<w.heap.size) (U.alloc (.cells #[.int .i64 y.fMask,.int .i64 y.fOrder,.int .i64 y.fCost,.slice APy nPy cPy] 107)) [.int .i64 y.fMask,.int .i64 y.fOrder,.int .i64 y.fCost,.slice APy nPy cPy] y :=
       hsy.next hUA.size (fun k hk hn=>⟨fun e=>e.elim (fun e=>by have:=G k e;omega) (fun e=>hn (.inr (by omega))),hUA.block k hk⟩)
      clear hUA;have hcn:=cells_new U 107 [.int .i64 y.fMask,.int .i64 y.fOrder,.int .i64 y.fCost,.slice APy nPy cPy]
      go_wp2_with (at_builtin;go_loud (refine wpList_appK2 rfl _ _ 110 rfl _ 48 eiPlanEntry (rPlanEntry_ok NB) rfl P hA1 hwU ⟨U.heap.size,0,none⟩ rfl [.int .i64 y.fMask,.int .i64 y.fOrder,.int .i64 y.fCost,.slice APy nPy cPy] y hS hcn (by unfold NB;omega) (by omega) ?_;intro A' c' w' P' b' g' q'))
      go_roundw
      case rel=>exact⟨t+1,n2+1,c',A',by omega,by go_num,rfl,by rw [HF.out];exact P',fun k hk=>(q' k hk).elim (fun e=>G k e) (fun e=>Nat.le_trans (Nat.le_trans hb.size hA1.size) e),below_app b' hb hA1 g' G⟩
      case measure=>simp [intOf];omega
     ·have HF:Hid ((L.take (t+1)).filter (fun x=>decide (0<x.fMask))=(L.take t).filter (fun x=>decide (0<x.fMask))):=by
       show _=_;rw [take_snoc hy.out,List.filter_append];simp [hpos]
      go_wp2;go_roundw
      case rel=>exact⟨t+1,n2,c2',A,by omega,by go_num,rfl,by rw [HF.out];exact P,G,hb⟩
      case measure=>simp [intOf];omega
    ·have htI:¬ (t:Int)<=4:=by omega
     have HJ:Hid ((L.take t).filter (fun x=>decide (0<x.fMask))=joinE md s l (mk:Int) sp):=by
      show _=_;rw [List.take_of_length_le (by omega),HL.out];rfl
     go_wp2;go_ret;exact⟨A,n2,c2',rfl,by rw [<- HJ.out];exact P,H.be.trans (hb.mono H.be.size)⟩
end Go.Proofs.YtnlcfkpcmfljeaaGreat
