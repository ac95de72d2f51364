/-
  Iby
-/
import Derived.Test.YtnlcfkpcmfljeaaGreatIbe
import Derived.Test.YtnlcfkpcmfljeaaGreatMarkC
namespace Go.Proofs.YtnlcfkpcmfljeaaGreat
open Go.RowKit
set_option linter.unusedVariables false
set_option linter.unusedSimpArgs false
theorem bestX_len {md:ModelD}{q:QueryD}{l:List Int}(ha:admitted md=true) (hq:validQ q=true) (hl:isLoc l=true) (hn:(l.length:Int)=fullMask q+1):(bestX md q (locSizes l)).fPlan.fSteps.length<=13:=by
 unfold bestX
 cases h:bestE (tableE md q (locSizes l)) (fullMask q) with
 | none=>exact Nat.zero_le _
 | some x =>
  have hx:=(bestE_mem h).1
  have:=tabI_len (md:=md) (isSizes_locI hq hl hn) hq (sortUp ha hl) (k:=(connMasks q).length) (Nat.le_refl _) x (by rw [List.take_length];exact hx)
  exact this.1
theorem plans_small {md:ModelD}{q:QueryD}{b:BoxD}(h:canBuild md q b=true) (n:Nat) (hn:(n:Int)<=boxVol b):∀ p∈(buildOf md q b n).fPlans,p.fSteps.length<=13:=by
 obtain⟨ha,hq,hv,hvv,h1,h2,hll⟩:=canBuild_parts h
 induction n with
 | zero=>intro p hp;cases hp
 | succ n ih =>
  intro p hp
  have hlo:=loc_ok hv (i:=n) (by rw [<- hvv];omega)
  have hb:=bestX_len ha hq hlo.1 (by rw [hlo.2];exact hll)
  have e:buildOf md q b (n+1)=addS (buildOf md q b n) (bestX md q (locSizes (boxLoc b (n:Int)).1)):=rfl
  rw [e]at hp
  unfold addS at hp
  split at hp
  ·rcases List.mem_append.1 hp with hp|hp
   ·exact ih (by omega) p hp
   ·rw [List.mem_singleton]at hp;rw [hp];exact hb
  ·exact ih (by omega) p hp
theorem cnt_plans (l:List PlanD) (h:∀ p∈l,p.fSteps.length<=13):cnt_PlanS l<=39*l.length:=by
 induction l with
 | nil=>simp [cnt_PlanS,cntS]
 | cons p l ih =>
  have h1:=h p (by simp)
  have h2:=ih (fun x hx=>h x (by simp [hx]))
  unfold cnt_PlanS cntS at h2 ⊢
  simp only [List.map_cons,List.sum_cons,List.length_cons,Nat.mul_add,Nat.mul_one]
  have e0:∀ x:PlanStepD,cntE_PlanStep x=3:=fun x=>rfl
  have e1:∀ m:List PlanStepD,(m.map cntE_PlanStep).sum=3*m.length:=fun m=>by
   induction m with
   | nil=>rfl
   | cons y m ihm=>rw [List.map_cons,List.sum_cons,ihm,e0,List.length_cons];omega
  have e2:cntE_Plan p=3*p.fSteps.length:=e1 p.fSteps
  omega
theorem cnt_build (md:ModelD) (q:QueryD) (b:BoxD):cnt_Space (buildE md q b).1<=cnt_Box b+17000:=by
 unfold buildE
 split
 ·rename_i h
  obtain⟨ha,hq,hv,hvv,h1,h2,hll⟩:=canBuild_parts h
  obtain⟨l1,l2,l3,l4⟩:=buildOf_len md q b (boxVol b).toNat
  have hp:=cnt_plans _ (plans_small h (boxVol b).toNat (by omega))
  show cnt_Space (buildOf md q b (boxVol b).toNat)<=_
  unfold cnt_Space
  have c1:cnt_IntS (buildOf md q b (boxVol b).toNat).fCosts<=400:=by show(buildOf md q b (boxVol b).toNat).fCosts.length<=400;omega
  have c2:cnt_IntS (buildOf md q b (boxVol b).toNat).fChoices<=400:=by show(buildOf md q b (boxVol b).toNat).fChoices.length<=400;omega
  rw [l4]
  omega
 ·have:cnt_Space zSpace=0:=by simp [zSpace,cnt_Space,cnt_Box,cnt_IntS,cnt_PlanS,cntS]
  show cnt_Space zSpace<=_
  omega
end Go.Proofs.YtnlcfkpcmfljeaaGreat
