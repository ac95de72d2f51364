/-
  Bsp
-/
import Derived.Test.YtnlcfkpcmfljeaaGreatTbp
import Derived.Test.YtnlcfkpcmfljeaaGreatSpace
import Derived.Test.YtnlcfkpcmfljeaaGreatTrip
set_option linter.unusedSimpArgs false
set_option linter.unusedVariables false
namespace Go.Proofs.YtnlcfkpcmfljeaaGreat
open Go.RowKit
def knownP (p:PlanD):List PlanD->Nat->Int
 | [],_=>-1
 | x::xs,k=>if x=p then k else knownP p xs (k+1)
theorem knownP_yes {p x:PlanD}{l:List PlanD}{k:Nat}(hx:l[k]?=some x) (h:x=p):knownP p (l.drop k) k=k:=by
 rw [List.drop_eq_getElem_cons (lt_of_at hx)];have e:l[k]'(lt_of_at hx)=x:=by have:=List.getElem?_eq_getElem (lt_of_at hx);rw [hx]at this;injection this with this;exact this.symm
 unfold knownP;rw [e,if_pos h]
theorem knownP_no {p x:PlanD}{l:List PlanD}{k:Nat}(hx:l[k]?=some x) (h:¬ x=p):knownP p (l.drop k) k=knownP p (l.drop (k+1)) (k+1):=by
 rw [List.drop_eq_getElem_cons (lt_of_at hx)];have e:l[k]'(lt_of_at hx)=x:=by have:=List.getElem?_eq_getElem (lt_of_at hx);rw [hx]at this;injection this with this;exact this.symm
 unfold knownP;rw [e,if_neg h];cases l.drop (k+1)<;>rfl
theorem knownP_bd (p:PlanD) (l:List PlanD):∀ k,knownP p l k=-1\/∃ j:Nat,knownP p l k=j/\k<=j/\j<k+l.length:=by
 induction l with
 | nil=>exact fun k=>.inl rfl
 | cons x xs ih =>
  intro k;unfold knownP;split
  ·exact .inr ⟨k,rfl,Nat.le_refl _,by simp⟩
  ·rcases ih (k+1) with h|⟨j,h1,h2,h3⟩
   ·exact .inl h
   ·exact .inr ⟨j,h1,by omega,by simp;omega⟩
def addS (s:SpaceD) (x:PlanEntryD):SpaceD:=if knownP x.fPlan s.fPlans 0<0 then ⟨s.fBox,s.fCosts++[x.fCost],s.fChoices++[(s.fPlans.length:Int)],s.fPlans++[x.fPlan]⟩ else ⟨s.fBox,s.fCosts++[x.fCost],s.fChoices++[knownP x.fPlan s.fPlans 0],s.fPlans⟩
def bestX (md:ModelD) (q:QueryD) (s:List Int):PlanEntryD:=(bestE (tableE md q s) (fullMask q)).getD zPlanEntry
def buildOf (md:ModelD) (q:QueryD) (b:BoxD):Nat->SpaceD
 | 0=>⟨b,[],[],[]⟩
 | n+1=>addS (buildOf md q b n) (bestX md q (locSizes (boxLoc b n).1))
def canBuild (md:ModelD) (q:QueryD) (b:BoxD):Bool:=admitted md&&(isConn q (fullMask q)&&(inR (boxVol b) 1 400&&decide ((b.fLow.length:Int)=fullMask q+1)))
def buildE (md:ModelD) (q:QueryD) (b:BoxD):SpaceD × Bool:=if canBuild md q b then (buildOf md q b (boxVol b).toNat,true) else (zSpace,false)
theorem addS_len (s:SpaceD) (x:PlanEntryD):(addS s x).fCosts.length=s.fCosts.length+1/\(addS s x).fChoices.length=s.fChoices.length+1/\(addS s x).fPlans.length<=s.fPlans.length+1/\s.fPlans.length<=(addS s x).fPlans.length/\(addS s x).fBox=s.fBox:=by
 unfold addS;split<;>simp
theorem buildOf_len (md:ModelD) (q:QueryD) (b:BoxD) (n:Nat):(buildOf md q b n).fCosts.length=n/\(buildOf md q b n).fChoices.length=n/\(buildOf md q b n).fPlans.length<=n/\(buildOf md q b n).fBox=b:=by
 induction n with
 | zero=>exact⟨rfl,rfl,Nat.le_refl _,rfl⟩
 | succ n ih =>
  obtain⟨h1,h2,h3,h4⟩:=ih;obtain⟨g1,g2,g3,_,g5⟩:=addS_len (buildOf md q b n) (bestX md q (locSizes (boxLoc b n).1));show(addS _ _).fCosts.length=_/\_;exact⟨by rw [g1,h1],by show(addS _ _).fChoices.length=_;rw [g2,h2],by show(addS _ _).fPlans.length<=_;omega,by show(addS _ _).fBox=_;rw [g5,h4]⟩
theorem loc_ok {b:BoxD}(hv:validBox b=true) {i:Nat}(h:(i:Int)<volume b):isLoc (boxLoc b i).1=true/\(boxLoc b i).1.length=b.fLow.length:=by
 obtain⟨l,e,hin,_⟩:=loc_in hv (i:=(i:Int)) (by omega) h;rw [e];obtain⟨_,h2,h3,h4,h5⟩:=inBox_parts hin;have hp:=validBox_parts hv;refine⟨?_,h2⟩;show isLoc l=true;unfold isLoc;rw [Bool.and_eq_true,List.all_eq_true,decide_eq_true_eq];refine⟨fun x hx=>?_,by have:=(isLoc_at hp.1).1;omega⟩;obtain⟨k,hk⟩:=List.getElem?_of_mem hx;have hkl:=lt_of_at hk;have hy:=List.getElem?_eq_getElem (l:=b.fLow) (i:=k) (by omega);have hz:=List.getElem?_eq_getElem (l:=b.fHigh) (i:=k) (by omega);have a1:=h4 k _ _ hk hy;have a2:=h5 k _ _ hz hk;have a3:=(isLoc_at hp.1).2 k _ hy;have a4:=(isLoc_at hp.2.1).2 k _ hz;exact inR_t.2 ⟨by omega,by omega⟩
theorem canBuild_parts {md:ModelD}{q:QueryD}{b:BoxD}(h:canBuild md q b=true):admitted md=true/\validQ q=true/\validBox b=true/\boxVol b=volume b/\1<=boxVol b/\boxVol b<=400/\(b.fLow.length:Int)=fullMask q+1:=by
 unfold canBuild at h;simp only [Bool.and_eq_true,decide_eq_true_eq]at h;obtain⟨h1,h2,h3,h4⟩:=h;have h3:=inR_t.1 h3
 have hq:validQ q=true:=by
  unfold isConn at h2;rw [Bool.and_eq_true]at h2;exact(maskOk_bd h2.1).1
 have hb:validBox b=true:=by
  cases e:validBox b with
  | true=>rfl
  | false=>unfold boxVol at h3;rw [e]at h3;simp at h3
 have hv:boxVol b=volume b:=by
  unfold boxVol at h3 ⊢;rw [hb]at h3 ⊢;simp at h3 ⊢;omega
 exact⟨h1,hq,hb,hv,h3.1,h3.2,h4⟩
theorem locSizes_len {b:BoxD}(hv:validBox b=true) {i:Nat}(h:(i:Int)<volume b):(locSizes (boxLoc b i).1).length=b.fLow.length:=by
 obtain⟨h1,h2⟩:=loc_ok hv h;unfold locSizes;rw [h1];simp [h2]
def tabV (md:ModelD) (q:QueryD) (s:List Int):List PlanEntryD:=if admitted md&&isSizes q s then tableE md q s else []
def optV (md:ModelD) (q:QueryD) (s:List Int):Option PlanEntryD:=bestE (tabV md q s) (fullMask q)
def costV (o:Option PlanEntryD):Int:=match o with
 | some x=>x.fCost
 | none=>-1
def optC (md:ModelD) (q:QueryD) (l:List Int):Int:=costV (optV md q (locSizes l))
end Go.Proofs.YtnlcfkpcmfljeaaGreat
