/-
  Open, Opens, ToM
-/
import Derived.Test.YtpodldagcnfhlaaGreatBase
import Derived.Deep.Slices
import Derived.ChangeSame
import Derived.WideShapes
import Derived.Carry
import Derived.Test.YtpodldagcnfhlaaGreatSz
import Derived.Test.YtpodldagcnfhlaaGreatTo
import Derived.Test.YtpodldagcnfhlaaGreatOper
import Derived.Deep.MidRow
namespace Go.Proofs.YtpodldagcnfhlaaGreat
open Go.RowKit Go.Deep Go.ChangeShapes Go.WideShapes

def Opens {α:Type} (P:Program) (t:TypeId) (r:Rp α):Prop :=
 ∀ {H:Type} {enc:TypeId × Value->H} {w:World} {base:Nat} {spare:Nat->Bool} {held:Bool} {fuel:Nat} {cs:List Value} {x:DataW H × List MemPlace},
  DataW.trod enc P w base spare held fuel t cs=some x->∃ y,r.rep w cs y

theorem opens_int {P:Program}{t:TypeId}(ht:P.underlying t=some (.int .i64)):Opens P t rInt:=by
 intro H enc w base spare held fuel cs x h
 obtain⟨n,rfl,_,hw⟩:=DataW.trod_int ht h
 exact⟨n,rfl,bounds_i64 hw⟩
theorem opens_str {P:Program}{t:TypeId}(ht:P.underlying t=some .string):Opens P t (rStr maxLen):=by
 intro H enc w base spare held fuel cs x h
 obtain⟨n,rfl,_,hs⟩:=DataW.trod_string ht h
 exact⟨n,rfl,hs⟩

theorem cell_addr {w:World}{a:Addr}{v:Value}(h:w.cell? a=some v):a=⟨a.block,a.off,none⟩:=by
 cases a with
 | mk b o s =>
  cases s with
  | none=>rfl
  | some s =>
   exfalso
   unfold World.cell? at h
   split at h<;>simp at h
theorem add_addr {a:Addr}(ha:a=⟨a.block,a.off,none⟩) (j:Nat):a.add j=⟨a.block,a.off+j,none⟩:=by
 rw [ha];unfold Addr.add
 split
 ·subst_vars;rfl
 ·rfl

theorem list_of_at {α:Type}(R:Nat->α->Prop) (n:Nat) (h:∀ i,i<n->∃ y,R i y):∃ l:List α,l.length=n/\∀ j x,l[j]?=some x->R j x:=by
 induction n with
 | zero=>exact⟨[],rfl,fun j x hj=>by simp at hj⟩
 | succ n ih =>
  obtain⟨l,hl,h1⟩:=ih fun i hi=>h i (by omega)
  obtain⟨y,hy⟩:=h n (by omega)
  refine⟨l++[y],by simp [hl],fun j x hj=>?_⟩
  by_cases hlt:j<n
  ·rw [List.getElem?_append_left (by omega)]at hj;exact h1 j x hj
  ·have:j<(l++[y]).length:=lt_of_at hj
   have e:j=n:=by simp [hl]at this;omega
   subst e
   rw [List.getElem?_append_right (by omega),hl,Nat.sub_self]at hj
   simp at hj;subst hj;exact hy

theorem opens_slice {α:Type}{P:Program}{t e:TypeId}{r:Rp α}(hr:r.Ok) (ht:P.underlying t=some (.slice e)) (hC:P.cellsOf e=r.size) (he:Opens P e r):Opens P t (rSlice maxLen e r):=by
 intro H enc w base spare held fuel cs x h
 rcases open_slice ht h with ⟨rfl,_⟩|⟨a,len,cap,m,n,D,Pl,rfl,_,hlc,hcm,hm,_,hel⟩
 ·exact⟨[],none,0,0,rfl,RS.nil _ _ _ _ _⟩
 ·rw [hC]at hel
  have hlm:len<=m:=by rw [hm];split<;>omega
  have hex:∀ i,i<len->∃ y,∃ cs,r.rep w cs y/\∀ j v,cs[j]?=some v->w.cell? ((a.add (i*r.size)).add j)=some v:=by
   intro i hi
   obtain⟨cs',h1,h2⟩:=hel i (by omega)
   obtain⟨y,hy⟩:=he h2
   obtain⟨_,h3,h4⟩:=World.cells?_some h1
   exact⟨y,cs',hy,fun j v hj=>by rw [h4 j (by rw [<- h3];exact lt_of_at hj)];exact hj⟩
  obtain⟨l,hl,hl2⟩:=list_of_at _ len hex
  refine⟨l,some a,len,cap,rfl,⟨hl,by omega,hlc,fun h0=>?_⟩⟩
  have ha:a=⟨a.block,a.off,none⟩:=by
   obtain⟨y,cs',hy,h5⟩:=hex 0 h0
   have hp:=hr.len hy
   have h6:=h5 0 (cs'[0]'(by rw [hp];exact hr.pos)) (List.getElem?_eq_getElem _)
   rw [Nat.zero_mul]at h6
   exact cell_addr h6
  refine⟨a.block,a.off,by rw [<- ha],fun j x hj=>?_⟩
  obtain⟨cs',h7,h8⟩:=hl2 j x hj
  refine⟨cs',h7,fun i v hi=>?_⟩
  have h9:=h8 i v hi
  rw [add_addr ha,add_addr rfl]at h9
  exact h9

theorem rPair_split {α β:Type}{r:Rp α}{q:Rp β}{w:World}{cs:List Value}{x:α}{y:β}(k:Nat) (h1:r.rep w (cs.take k) x) (h2:q.rep w (cs.drop k) y):(rPair r q).rep w cs (x,y) :=
 ⟨cs.take k,cs.drop k,(List.take_append_drop k cs).symm,h1,h2⟩

theorem opens_field {α:Type}{P:Program}{t:TypeId}{r:Rp α}(ho:Opens P t r) {H:Type}{enc:TypeId × Value->H}{w:World}{base:Nat}{spare:Nat->Bool}{held:Bool}{n:Nat}{cs:List Value}{xs:List (DataW H × List MemPlace)}{i:Nat}
  (hi:i<xs.length) (h:DataW.trod enc P w base spare held n t cs=xs[i]?):∃ y,r.rep w cs y:=by
 rw [List.getElem?_eq_getElem hi]at h
 exact ho h

end Go.Proofs.YtpodldagcnfhlaaGreat
namespace Go.Proofs.YtpodldagcnfhlaaGreat
open Go.RowKit Go.Deep Go.ChangeShapes Go.WideShapes
set_option linter.unusedVariables false
set_option linter.unusedSimpArgs false

theorem smallIntS {w:World}{A:Option Addr}{n cap:Nat}{l:List Int}(h:RS maxLen rInt w A n cap l) (hb:l.length<=1048576):RS NB rInt w A n cap l:=by
 have hl:=h.len
 refine⟨h.len,by unfold NB;omega,h.nc,fun hn=>?_⟩
 obtain⟨b,off,e,hc⟩:=h.cell hn
 refine⟨b,off,e,fun j x hj=>?_⟩
 obtain⟨cs,h1,h2⟩:=hc j x hj
 exact⟨cs,h1,h2⟩
theorem smallIntSS {w:World}{A:Option Addr}{n cap:Nat}{l:List (List Int)}(h:RS maxLen (rSlice maxLen 3 rInt) w A n cap l) (hb:bulkS (fun x=>x.length) l<=1048576):RS NB (rSlice NB 3 rInt) w A n cap l:=by
 have hl:=h.len
 unfold bulkS at hb
 refine⟨h.len,by unfold NB;omega,h.nc,fun hn=>?_⟩
 obtain⟨b,off,e,hc⟩:=h.cell hn
 refine⟨b,off,e,fun j x hj=>?_⟩
 obtain⟨cs,h1,h2⟩:=hc j x hj
 have e1:=sum_ge (fun x=>x.length) hj
 obtain⟨A1,n1,c1,rfl,h3⟩:=h1
 exact⟨_,⟨A1,n1,c1,rfl,smallIntS h3 (by omega)⟩,h2⟩
theorem smallTable {w:World}{cs:List Value}{x:TableD}(h:(rTable maxLen).rep w cs x) (hb:bulkTable x<=1048576):(rTable NB).rep w cs x:=by
 obtain⟨ARows,nRows,cRows,rfl,hName,hArity,hRows⟩:=rTable_rep.1 h
 simp only [bulkTable]at hb
 exact rTable_rep.2 ⟨ARows,nRows,cRows,rfl,(by unfold NB;omega),hArity,(smallIntSS hRows (by omega))⟩
theorem smallTableS {w:World}{A:Option Addr}{n cap:Nat}{l:List TableD}(h:RS maxLen (rTable maxLen) w A n cap l) (hb:bulkS (fun x=>bulkTable x) l<=1048576):RS NB (rTable NB) w A n cap l:=by
 have hl:=h.len
 unfold bulkS at hb
 refine⟨h.len,by unfold NB;omega,h.nc,fun hn=>?_⟩
 obtain⟨b,off,e,hc⟩:=h.cell hn
 refine⟨b,off,e,fun j x hj=>?_⟩
 obtain⟨cs,h1,h2⟩:=hc j x hj
 have e1:=sum_ge (fun x=>bulkTable x) hj
 exact⟨cs,smallTable h1 (by omega),h2⟩
theorem smallDatabase {w:World}{cs:List Value}{x:DatabaseD}(h:(rDatabase maxLen).rep w cs x) (hb:bulkDatabase x<=1048576):(rDatabase NB).rep w cs x:=by
 obtain⟨ATables,nTables,cTables,rfl,hTables⟩:=rDatabase_rep.1 h
 simp only [bulkDatabase]at hb
 exact rDatabase_rep.2 ⟨ATables,nTables,cTables,rfl,(smallTableS hTables (by omega))⟩
theorem smallAtom {w:World}{cs:List Value}{x:AtomD}(h:(rAtom maxLen).rep w cs x) (hb:bulkAtom x<=1048576):(rAtom NB).rep w cs x:=by
 obtain⟨AVars,nVars,cVars,rfl,hName,hVars⟩:=rAtom_rep.1 h
 simp only [bulkAtom]at hb
 exact rAtom_rep.2 ⟨AVars,nVars,cVars,rfl,(by unfold NB;omega),(smallIntS hVars (by omega))⟩
theorem smallAtomS {w:World}{A:Option Addr}{n cap:Nat}{l:List AtomD}(h:RS maxLen (rAtom maxLen) w A n cap l) (hb:bulkS (fun x=>bulkAtom x) l<=1048576):RS NB (rAtom NB) w A n cap l:=by
 have hl:=h.len
 unfold bulkS at hb
 refine⟨h.len,by unfold NB;omega,h.nc,fun hn=>?_⟩
 obtain⟨b,off,e,hc⟩:=h.cell hn
 refine⟨b,off,e,fun j x hj=>?_⟩
 obtain⟨cs,h1,h2⟩:=hc j x hj
 have e1:=sum_ge (fun x=>bulkAtom x) hj
 exact⟨cs,smallAtom h1 (by omega),h2⟩
theorem smallQuery {w:World}{cs:List Value}{x:QueryD}(h:(rQuery maxLen).rep w cs x) (hb:bulkQuery x<=1048576):(rQuery NB).rep w cs x:=by
 obtain⟨AAtoms,nAtoms,cAtoms,rfl,hVariableCount,hAtoms⟩:=rQuery_rep.1 h
 simp only [bulkQuery]at hb
 exact rQuery_rep.2 ⟨AAtoms,nAtoms,cAtoms,rfl,hVariableCount,(smallAtomS hAtoms (by omega))⟩
theorem smallPlanStep {w:World}{cs:List Value}{x:PlanStepD}(h:(rPlanStep maxLen).rep w cs x):(rPlanStep NB).rep w cs x:=by
 exact rPlanStep_rep.2 (rPlanStep_rep.1 h)
theorem smallPlanStepS {w:World}{A:Option Addr}{n cap:Nat}{l:List PlanStepD}(h:RS maxLen (rPlanStep maxLen) w A n cap l) (hb:l.length<=1048576):RS NB (rPlanStep NB) w A n cap l:=by
 have hl:=h.len
 refine⟨h.len,by unfold NB;omega,h.nc,fun hn=>?_⟩
 obtain⟨b,off,e,hc⟩:=h.cell hn
 refine⟨b,off,e,fun j x hj=>?_⟩
 obtain⟨cs,h1,h2⟩:=hc j x hj
 exact⟨cs,smallPlanStep h1,h2⟩
theorem smallPlan {w:World}{cs:List Value}{x:PlanD}(h:(rPlan maxLen).rep w cs x) (hb:bulkPlan x<=1048576):(rPlan NB).rep w cs x:=by
 obtain⟨ASteps,nSteps,cSteps,rfl,hSteps⟩:=rPlan_rep.1 h
 simp only [bulkPlan]at hb
 exact rPlan_rep.2 ⟨ASteps,nSteps,cSteps,rfl,(smallPlanStepS hSteps (by omega))⟩
theorem opensTable:Opens Tryz.prog 193 (rTable maxLen):=by
 intro H enc w base spare held fuel cs x h
 obtain⟨xs,n,rfl,_,hlen,hxl,hf⟩:=DataW.trod_struct Tryz.underlying193 h
 have e0:(Tryz.prog.cellsOf 9)=1:=by kernel_rfl
 have f0:DataW.trod enc Tryz.prog w base spare held n 9 ((cs.drop 0).take 1)=xs[0]?:=(congrArg (fun k=>DataW.trod enc Tryz.prog w base spare held n 9 ((cs.drop 0).take k)) e0.symm).trans (hf 0 _ rfl)
 obtain⟨y0,g0⟩:=opens_field (opens_str Tryz.underlying9) (i:=0) (by rw [hxl];decide) f0
 have e1:(Tryz.prog.cellsOf 3)=1:=by kernel_rfl
 have f1:DataW.trod enc Tryz.prog w base spare held n 3 ((cs.drop 1).take 1)=xs[1]?:=(congrArg (fun k=>DataW.trod enc Tryz.prog w base spare held n 3 ((cs.drop 1).take k)) e1.symm).trans (hf 1 _ rfl)
 obtain⟨y1,g1⟩:=opens_field (opens_int Tryz.underlying3) (i:=1) (by rw [hxl];decide) f1
 have e2:(Tryz.prog.cellsOf 33)=1:=by kernel_rfl
 have f2:DataW.trod enc Tryz.prog w base spare held n 33 ((cs.drop 2).take 1)=xs[2]?:=(congrArg (fun k=>DataW.trod enc Tryz.prog w base spare held n 33 ((cs.drop 2).take k)) e2.symm).trans (hf 2 _ rfl)
 obtain⟨y2,g2⟩:=opens_field (opens_slice (rSlice_ok maxLen _ rInt_ok) Tryz.underlying33 (by kernel_rfl) (opens_slice rInt_ok Tryz.underlying32 (by kernel_rfl) (opens_int Tryz.underlying3))) (i:=2) (by rw [hxl];decide) f2
 have hl:cs.length=3:=hlen.trans (by kernel_rfl)
 refine⟨⟨y0,y1,y2⟩,?_⟩
 have t2:(rSlice maxLen 32 (rSlice maxLen 3 rInt)).rep w (cs.drop 2) y2:=by rw [List.take_of_length_le (by rw [List.length_drop,hl];decide)]at g2;exact g2
 have t1:(rPair rInt ((rSlice maxLen 32 (rSlice maxLen 3 rInt)))).rep w (cs.drop 1) (y1,y2):=rPair_split 1 g1 (by rw [List.drop_drop];exact t2)
 have t0:(rPair (rStr maxLen) (rPair rInt ((rSlice maxLen 32 (rSlice maxLen 3 rInt))))).rep w (cs.drop 0) (y0,y1,y2):=rPair_split 1 g0 (by rw [List.drop_drop];exact t1)
 exact t0
theorem opensDatabase:Opens Tryz.prog 47 (rDatabase maxLen):=by
 intro H enc w base spare held fuel cs x h
 obtain⟨xs,n,rfl,_,hlen,hxl,hf⟩:=DataW.trod_struct Tryz.underlying47 h
 have e0:(Tryz.prog.cellsOf 45)=1:=by kernel_rfl
 have f0:DataW.trod enc Tryz.prog w base spare held n 45 ((cs.drop 0).take 1)=xs[0]?:=(congrArg (fun k=>DataW.trod enc Tryz.prog w base spare held n 45 ((cs.drop 0).take k)) e0.symm).trans (hf 0 _ rfl)
 obtain⟨y0,g0⟩:=opens_field (opens_slice (rTable_ok maxLen) Tryz.underlying45 (by kernel_rfl) opensTable) (i:=0) (by rw [hxl];decide) f0
 have hl:cs.length=1:=hlen.trans (by kernel_rfl)
 refine⟨⟨y0⟩,?_⟩
 show(rSlice maxLen 108 (rTable maxLen)).rep w cs y0
 rw [List.drop_zero,List.take_of_length_le (by rw [hl];decide)]at g0
 exact g0
theorem opensAtom:Opens Tryz.prog 195 (rAtom maxLen):=by
 intro H enc w base spare held fuel cs x h
 obtain⟨xs,n,rfl,_,hlen,hxl,hf⟩:=DataW.trod_struct Tryz.underlying195 h
 have e0:(Tryz.prog.cellsOf 9)=1:=by kernel_rfl
 have f0:DataW.trod enc Tryz.prog w base spare held n 9 ((cs.drop 0).take 1)=xs[0]?:=(congrArg (fun k=>DataW.trod enc Tryz.prog w base spare held n 9 ((cs.drop 0).take k)) e0.symm).trans (hf 0 _ rfl)
 obtain⟨y0,g0⟩:=opens_field (opens_str Tryz.underlying9) (i:=0) (by rw [hxl];decide) f0
 have e1:(Tryz.prog.cellsOf 32)=1:=by kernel_rfl
 have f1:DataW.trod enc Tryz.prog w base spare held n 32 ((cs.drop 1).take 1)=xs[1]?:=(congrArg (fun k=>DataW.trod enc Tryz.prog w base spare held n 32 ((cs.drop 1).take k)) e1.symm).trans (hf 1 _ rfl)
 obtain⟨y1,g1⟩:=opens_field (opens_slice rInt_ok Tryz.underlying32 (by kernel_rfl) (opens_int Tryz.underlying3)) (i:=1) (by rw [hxl];decide) f1
 have hl:cs.length=2:=hlen.trans (by kernel_rfl)
 refine⟨⟨y0,y1⟩,?_⟩
 have t1:(rSlice maxLen 3 rInt).rep w (cs.drop 1) y1:=by rw [List.take_of_length_le (by rw [List.length_drop,hl];decide)]at g1;exact g1
 have t0:(rPair (rStr maxLen) ((rSlice maxLen 3 rInt))).rep w (cs.drop 0) (y0,y1):=rPair_split 1 g0 (by rw [List.drop_drop];exact t1)
 exact t0
theorem opensQuery:Opens Tryz.prog 50 (rQuery maxLen):=by
 intro H enc w base spare held fuel cs x h
 obtain⟨xs,n,rfl,_,hlen,hxl,hf⟩:=DataW.trod_struct Tryz.underlying50 h
 have e0:(Tryz.prog.cellsOf 3)=1:=by kernel_rfl
 have f0:DataW.trod enc Tryz.prog w base spare held n 3 ((cs.drop 0).take 1)=xs[0]?:=(congrArg (fun k=>DataW.trod enc Tryz.prog w base spare held n 3 ((cs.drop 0).take k)) e0.symm).trans (hf 0 _ rfl)
 obtain⟨y0,g0⟩:=opens_field (opens_int Tryz.underlying3) (i:=0) (by rw [hxl];decide) f0
 have e1:(Tryz.prog.cellsOf 48)=1:=by kernel_rfl
 have f1:DataW.trod enc Tryz.prog w base spare held n 48 ((cs.drop 1).take 1)=xs[1]?:=(congrArg (fun k=>DataW.trod enc Tryz.prog w base spare held n 48 ((cs.drop 1).take k)) e1.symm).trans (hf 1 _ rfl)
 obtain⟨y1,g1⟩:=opens_field (opens_slice (rAtom_ok maxLen) Tryz.underlying48 (by kernel_rfl) opensAtom) (i:=1) (by rw [hxl];decide) f1
 have hl:cs.length=2:=hlen.trans (by kernel_rfl)
 refine⟨⟨y0,y1⟩,?_⟩
 have t1:(rSlice maxLen 41 (rAtom maxLen)).rep w (cs.drop 1) y1:=by rw [List.take_of_length_le (by rw [List.length_drop,hl];decide)]at g1;exact g1
 have t0:(rPair rInt ((rSlice maxLen 41 (rAtom maxLen)))).rep w (cs.drop 0) (y0,y1):=rPair_split 1 g0 (by rw [List.drop_drop];exact t1)
 exact t0
theorem opensPlanStep:Opens Tryz.prog 201 (rPlanStep maxLen):=by
 intro H enc w base spare held fuel cs x h
 obtain⟨xs,n,rfl,_,hlen,hxl,hf⟩:=DataW.trod_struct Tryz.underlying201 h
 have e0:(Tryz.prog.cellsOf 3)=1:=by kernel_rfl
 have f0:DataW.trod enc Tryz.prog w base spare held n 3 ((cs.drop 0).take 1)=xs[0]?:=(congrArg (fun k=>DataW.trod enc Tryz.prog w base spare held n 3 ((cs.drop 0).take k)) e0.symm).trans (hf 0 _ rfl)
 obtain⟨y0,g0⟩:=opens_field (opens_int Tryz.underlying3) (i:=0) (by rw [hxl];decide) f0
 have e1:(Tryz.prog.cellsOf 3)=1:=by kernel_rfl
 have f1:DataW.trod enc Tryz.prog w base spare held n 3 ((cs.drop 1).take 1)=xs[1]?:=(congrArg (fun k=>DataW.trod enc Tryz.prog w base spare held n 3 ((cs.drop 1).take k)) e1.symm).trans (hf 1 _ rfl)
 obtain⟨y1,g1⟩:=opens_field (opens_int Tryz.underlying3) (i:=1) (by rw [hxl];decide) f1
 have e2:(Tryz.prog.cellsOf 3)=1:=by kernel_rfl
 have f2:DataW.trod enc Tryz.prog w base spare held n 3 ((cs.drop 2).take 1)=xs[2]?:=(congrArg (fun k=>DataW.trod enc Tryz.prog w base spare held n 3 ((cs.drop 2).take k)) e2.symm).trans (hf 2 _ rfl)
 obtain⟨y2,g2⟩:=opens_field (opens_int Tryz.underlying3) (i:=2) (by rw [hxl];decide) f2
 have hl:cs.length=3:=hlen.trans (by kernel_rfl)
 refine⟨⟨y0,y1,y2⟩,?_⟩
 have t2:rInt.rep w (cs.drop 2) y2:=by rw [List.take_of_length_le (by rw [List.length_drop,hl];decide)]at g2;exact g2
 have t1:(rPair rInt (rInt)).rep w (cs.drop 1) (y1,y2):=rPair_split 1 g1 (by rw [List.drop_drop];exact t2)
 have t0:(rPair rInt (rPair rInt (rInt))).rep w (cs.drop 0) (y0,y1,y2):=rPair_split 1 g0 (by rw [List.drop_drop];exact t1)
 exact t0
theorem opensPlan:Opens Tryz.prog 53 (rPlan maxLen):=by
 intro H enc w base spare held fuel cs x h
 obtain⟨xs,n,rfl,_,hlen,hxl,hf⟩:=DataW.trod_struct Tryz.underlying53 h
 have e0:(Tryz.prog.cellsOf 51)=1:=by kernel_rfl
 have f0:DataW.trod enc Tryz.prog w base spare held n 51 ((cs.drop 0).take 1)=xs[0]?:=(congrArg (fun k=>DataW.trod enc Tryz.prog w base spare held n 51 ((cs.drop 0).take k)) e0.symm).trans (hf 0 _ rfl)
 obtain⟨y0,g0⟩:=opens_field (opens_slice (rPlanStep_ok maxLen) Tryz.underlying51 (by kernel_rfl) opensPlanStep) (i:=0) (by rw [hxl];decide) f0
 have hl:cs.length=1:=hlen.trans (by kernel_rfl)
 refine⟨⟨y0⟩,?_⟩
 show(rSlice maxLen 153 (rPlanStep maxLen)).rep w cs y0
 rw [List.drop_zero,List.take_of_length_le (by rw [hl];decide)]at g0
 exact g0
end Go.Proofs.YtpodldagcnfhlaaGreat
namespace Go.Proofs.YtpodldagcnfhlaaGreat
open Go.RowKit
set_option linter.unusedVariables false
set_option linter.unusedSimpArgs false

theorem Bk.setCells {w:World}{g:Nat}{t:TypeId}{cs:List Value}(h:Bk w g t cs) (i:Nat) (vs:List Value):Bk (setCells w g i vs) g t (over cs i vs):=by
 induction vs generalizing w cs i with
 | nil=>exact h
 | cons v vs ih=>exact ih (h.set i v) _
theorem Out.setCells {T:Nat}{a w:World}(h:Out T a w) {g:Nat}(hg:g<T) (i:Nat) (vs:List Value):Out T a (Go.Proofs.YtpodldagcnfhlaaGreat.setCells w g i vs) :=
 ⟨by rw [setCells_size];exact h.1,fun k hk hk'=>(setCells_other w g i vs k (by omega)).trans (h.2 k hk hk')⟩
theorem Bk.rangeAt {w:World}{g:Nat}{t:TypeId}{cs:List Value}(h:Bk w g t cs):w.rangeAt g 0 cs:=fun j v hj=>by rw [Nat.zero_add];exact h.bx j v hj
end Go.Proofs.YtpodldagcnfhlaaGreat
