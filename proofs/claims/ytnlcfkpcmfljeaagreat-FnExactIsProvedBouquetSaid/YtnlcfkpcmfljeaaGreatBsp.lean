/-
  Bsp
-/
import Derived.Test.YtnlcfkpcmfljeaaGreatTbp
import Derived.Test.YtnlcfkpcmfljeaaGreatSpace
import Derived.Test.YtnlcfkpcmfljeaaGreatTrip
set_option linter.unusedSimpArgs false
set_option linter.unusedVariables false
namespace Go.Proofs.YtnlcfkpcmfljeaaGreat
open Go.RowKit
def bestX (md:ModelD) (q:QueryD) (s:List Int):PlanEntryD:=(bestE (tableE md q s) (fullMask q)).getD zPlanEntry
theorem loc_ok {b:BoxD}(hv:validBox b=true) {i:Nat}(h:(i:Int)<volume b):isLoc (boxLoc b i).1=true/\(boxLoc b i).1.length=b.fLow.length:=by
 obtain⟨l,e,hin,_⟩:=loc_in hv (i:=(i:Int)) (by omega) h;rw [e];obtain⟨_,h2,h3,h4,h5⟩:=inBox_parts hin;have hp:=validBox_parts hv;refine⟨?_,h2⟩;show isLoc l=true;unfold isLoc;rw [Bool.and_eq_true,List.all_eq_true,decide_eq_true_eq];refine⟨fun x hx=>?_,by have:=(isLoc_at hp.1).1;omega⟩;obtain⟨k,hk⟩:=List.getElem?_of_mem hx;have hkl:=lt_of_at hk;have hy:=List.getElem?_eq_getElem (l:=b.fLow) (i:=k) (by omega);have hz:=List.getElem?_eq_getElem (l:=b.fHigh) (i:=k) (by omega);have a1:=h4 k _ _ hk hy;have a2:=h5 k _ _ hz hk;have a3:=(isLoc_at hp.1).2 k _ hy;have a4:=(isLoc_at hp.2.1).2 k _ hz;exact inR_t.2 ⟨by omega,by omega⟩
theorem locSizes_len {b:BoxD}(hv:validBox b=true) {i:Nat}(h:(i:Int)<volume b):(locSizes (boxLoc b i).1).length=b.fLow.length:=by
 obtain⟨h1,h2⟩:=loc_ok hv h;unfold locSizes;rw [h1];simp [h2]
def tabV (md:ModelD) (q:QueryD) (s:List Int):List PlanEntryD:=if admitted md&&isSizes q s then tableE md q s else []
def optV (md:ModelD) (q:QueryD) (s:List Int):Option PlanEntryD:=bestE (tabV md q s) (fullMask q)
def costV (o:Option PlanEntryD):Int:=match o with
 | some x=>x.fCost
 | none=>-1
def optC (md:ModelD) (q:QueryD) (l:List Int):Int:=costV (optV md q (locSizes l))
end Go.Proofs.YtnlcfkpcmfljeaaGreat
