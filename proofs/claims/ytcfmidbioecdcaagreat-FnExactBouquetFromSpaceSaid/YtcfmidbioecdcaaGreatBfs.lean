/-
  Bfs
-/
import Derived.Test.YtcfmidbioecdcaaGreatKeep
import Derived.Test.YtcfmidbioecdcaaGreatApr
import Derived.Test.YtcfmidbioecdcaaGreatRdp
import Derived.Test.YtcfmidbioecdcaaGreatSrt
import Derived.Test.YtcfmidbioecdcaaGreatVbp
import Derived.Test.YtcfmidbioecdcaaGreatVbs
import Derived.Test.YtcfmidbioecdcaaGreatBudg
import Derived.Test.YtcfmidbioecdcaaGreatSlk
import Derived.Test.YtcfmidbioecdcaaGreatMono
import Derived.Test.YtcfmidbioecdcaaGreatSpc
import Derived.Test.YtcfmidbioecdcaaGreatSpl
import Derived.Test.YtcfmidbioecdcaaGreatTrip
import Derived.Test.YtcfmidbioecdcaaGreatMark
namespace Go.Proofs.YtcfmidbioecdcaaGreat
open Go.RowKit
set_option linter.unusedVariables false
set_option linter.unusedSimpArgs false
section
variable {w:World} {g:Nat} {t:TypeId} {x0 x1 x2 x3 x4 x5 x6 x7:Value}
theorem Bk.r8 (h:Bk w g t [x0,x1,x2,x3,x4,x5,x6,x7]):w.cell? ⟨g,0,none⟩=some x0/\w.frozen? ⟨g,0,none⟩=false/\w.cell? ⟨g,1,none⟩=some x1/\w.frozen? ⟨g,1,none⟩=false/\w.cell? ⟨g,2,none⟩=some x2/\w.frozen? ⟨g,2,none⟩=false/\w.cell? ⟨g,3,none⟩=some x3/\w.frozen? ⟨g,3,none⟩=false/\w.cell? ⟨g,4,none⟩=some x4/\w.frozen? ⟨g,4,none⟩=false/\w.cell? ⟨g,5,none⟩=some x5/\w.frozen? ⟨g,5,none⟩=false/\w.cell? ⟨g,6,none⟩=some x6/\w.frozen? ⟨g,6,none⟩=false/\w.cell? ⟨g,7,none⟩=some x7/\w.frozen? ⟨g,7,none⟩=false :=
 ⟨h.bx 0 _ rfl,h.frozen 0,h.bx 1 _ rfl,h.frozen 1,h.bx 2 _ rfl,h.frozen 2,h.bx 3 _ rfl,h.frozen 3,h.bx 4 _ rfl,h.frozen 4,h.bx 5 _ rfl,h.frozen 5,h.bx 6 _ rfl,h.frozen 6,h.bx 7 _ rfl,h.frozen 7⟩
/-- eight cells of w stored -/
abbrev set8 (w:World) (g:Nat) (a b c d e f h i:Value):World:=((((set4 w g a b c d).setCell ⟨g,4,none⟩ e).setCell ⟨g,5,none⟩ f).setCell ⟨g,6,none⟩ h).setCell ⟨g,7,none⟩ i
theorem Bk.set8 (h:Bk w g t [x0,x1,x2,x3,x4,x5,x6,x7]) (a b c d e f k i:Value):Bk (set8 w g a b c d e f k i) g t [a,b,c,d,e,f,k,i] :=
 (((((((h.set 0 a).set 1 b).set 2 c).set 3 d).set 4 e).set 5 f).set 6 k).set 7 i
theorem set8_other (w:World) {r z:Nat}{a b c d e f h i:Value}(hz:z≠r):(set8 w r a b c d e f h i).heap[z]?=w.heap[z]?:=by
 have k:∀ (w:World) (j:Nat) (v:Value),(w.setCell ⟨r,j,none⟩ v).heap[z]?=w.heap[z]?:=fun w j v=>heap_setCell_other w ⟨r,j,none⟩ z v (fun e=>hz e)
 exact(k _ 7 _).trans ((k _ 6 _).trans ((k _ 5 _).trans ((k _ 4 _).trans ((k _ 3 _).trans ((k _ 2 _).trans ((k _ 1 _).trans (k _ 0 _)))))))
theorem bls8 {B:Nat}{z:World}(h:Below B z w) (hg:B<=g) (a b c d e f k i:Value):Below B z (set8 w g a b c d e f k i) :=
 ((((bls4 h hg a b c d).setCell (p:=⟨g,4,none⟩) hg _).setCell (p:=⟨g,5,none⟩) hg _).setCell (p:=⟨g,6,none⟩) hg _).setCell (p:=⟨g,7,none⟩) hg _
end
/-- a load of many cells in a region walked by hand, its last operation freed -/
theorem tgm {P:Program}{ops:Array Oper}{Q:Exit->Act->World->Prop}{md:Region.Mode}{S:World->Prop}{z n:Nat}{q:Array Bool}{a:Act}{w:World}(i:Nat) (d:Tmp) {op:Op}{ty:TypeId}{pos:String}{af:Array Edge}{gd:Option (Nat × Bool)}{v:Value}
  (hi:ops[i]?=some ⟨some d,op,ty,pos,af,gd⟩) (hS:S w) (hy:YieldsIf P ops S ⟨some d,op,ty,pos,af,gd⟩ v a) (h:wpG P md ops Q S z n (q.setIfInBounds i true) (a.put (some d) v) w)
  (hs:Region.noSelect ops=true:=by kernel_rfl) (hf:Region.free md ops q i=true:=by kernel_rfl) (hr:(Region.ready md ops q).contains i=true:=by kernel_rfl)
  (hz:waitsB md ops z i=true:=by kernel_rfl) (hzi:i≠z:=by decide)
  (hQ:∀ c a w,Q (.panic c) (a.put (some d) v) w->Q (.panic c) a w:=by exact fun _ _ _ h=>h):wpG P md ops Q S z (n+1) q a w :=
 wpG_first hi (Region.noSelect_spec hs) hz hzi hQ n q a w (Region.free_spec hi hf) (by simpa using hr) hy hS h
/-- the plans of one contour -/
def bfC (m:ModelD) (q:QueryD) (s:SpaceD) (slack x:Int):List Int:=reducePlans (fun k y=>coversL m q s k y (slackOf x slack)) (frontierPlans s (frontier s x)) (frontier s x)
def bfOk (m:ModelD) (s:SpaceD) (ver slack:Int) (U:List Int):Bool:=admitted m&&(validSpace s&&(inR ver 1 999&&(decide (U.length≠0)&&inR slack 0 100)))
def bfB (m:ModelD) (q:QueryD) (s:SpaceD) (ver ratio slack:Int) (U:List Int):BouquetD:=⟨ver,ratio,slack,s.fBox,U,s.fPlans,U.map (bfC m q s slack)⟩
def bfs (m:ModelD) (q:QueryD) (s:SpaceD) (ver ratio slack:Int):BouquetD × Bool :=
 if bfOk m s ver slack (contours (costRange s).1 (costRange s).2 ratio)&&validBouquet q (bfB m q s ver ratio slack (contours (costRange s).1 (costRange s).2 ratio)) then (bfB m q s ver ratio slack (contours (costRange s).1 (costRange s).2 ratio),true) else (zBouquet,false)
theorem bfs_no {m:ModelD}{q:QueryD}{s:SpaceD}{ver ratio slack:Int}{U:List Int}(hU:contours (costRange s).1 (costRange s).2 ratio=U) (h:bfOk m s ver slack U=false\/validBouquet q (bfB m q s ver ratio slack U)=false):bfs m q s ver ratio slack=(zBouquet,false):=by
 subst hU;unfold bfs;rw [if_neg];rcases h with h|h<;>simp [h]
theorem bfs_yes {m:ModelD}{q:QueryD}{s:SpaceD}{ver ratio slack:Int}{U:List Int}(hU:contours (costRange s).1 (costRange s).2 ratio=U) (h:bfOk m s ver slack U=true) (h2:validBouquet q (bfB m q s ver ratio slack U)=true):bfs m q s ver ratio slack=(bfB m q s ver ratio slack U,true):=by
 subst hU;unfold bfs;rw [h,h2];rfl
theorem contours_r {lo hi r:Int}(h:contours lo hi r≠[]):2<=r/\r<=8:=by
 unfold contours at h
 by_cases hv:validC lo hi r=true
 ·unfold validC at hv
  simp only [Bool.and_eq_true]at hv
  exact inR_t.1 hv.2.2
 ·rw [if_neg hv]at h;exact absurd rfl h
/-- a bouquet under way in its box g: its parts lie apart from it, its contours behind wl -/
structure Bfw (R g:Nat) (ver ratio slack:Int) (AL:Option Addr) (nL cL:Nat) (AH:Option Addr) (nH cH:Nat) (AU:Option Addr) (nU cU:Nat) (AP:Option Addr) (nP cP:Nat) (X:BoxD) (U:List Int) (PL:List PlanD) (wl:World) (A:Option Addr) (n c:Nat) (L:List (List Int)) (W:World):Prop where
 k:Bk W g 43 [.int .i64 ver,.int .i64 ratio,.int .i64 slack,.slice AL nL cL,.slice AH nH cH,.slice AU nU cU,.slice AP nP cP,.slice A n c]
 o:∃ fl fh fU fP,OS NB 3 rInt W fl AL nL cL X.fLow/\OS NB 3 rInt W fh AH nH cH X.fHigh/\OS NB 3 rInt W fU AU nU cU U/\OS NB 114 (rPlan NB) W fP AP nP cP PL/\Fr (R+1) ((fl++fh)++(fU++fP))/\∀ z∈(fl++fh)++(fU++fP),z<wl.heap.size/\z≠g
 ms:MS wl.heap.size NB 30 (rSlice NB 3 rInt) W A n c L
 ch:Chg [g] wl W
 gt:R<g/\g<wl.heap.size
section
variable {R g:Nat} {ver ratio slack:Int} {AL:Option Addr} {nL cL:Nat} {AH:Option Addr} {nH cH:Nat} {AU:Option Addr} {nU cU:Nat} {AP:Option Addr} {nP cP:Nat} {X:BoxD} {U:List Int} {PL:List PlanD} {wl:World} {A:Option Addr} {n c:Nat} {L:List (List Int)} {W W':World}
theorem Bfw.chg (h:Bfw R g ver ratio slack AL nL cL AH nH cH AU nU cU AP nP cP X U PL wl A n c L W) (hc:∀ z,z<W.heap.size->z≠g->W'.heap[z]?=W.heap[z]?) (h2:Chg [g] wl W') {A':Option Addr}{n' c':Nat}{L':List (List Int)}(hm:MS wl.heap.size NB 30 (rSlice NB 3 rInt) W' A' n' c' L') (hk:Bk W' g 43 [.int .i64 ver,.int .i64 ratio,.int .i64 slack,.slice AL nL cL,.slice AH nH cH,.slice AU nU cU,.slice AP nP cP,.slice A' n' c']):Bfw R g ver ratio slack AL nL cL AH nH cH AU nU cU AP nP cP X U PL wl A' n' c' L' W':=by
 obtain⟨fl,fh,fU,fP,o1,o2,o3,o4,fr,hl⟩:=h.o
 have hz:∀ z∈(fl++fh)++(fU++fP),W'.heap[z]?=W.heap[z]?:=fun z hz=>hc z (by have:=(hl z hz).1;have:=h.ch.size;omega) (hl z hz).2
 exact⟨hk,⟨fl,fh,fU,fP,o1.okeep rInt_ok (fun z h=>hz z (by simp [h])),o2.okeep rInt_ok (fun z h=>hz z (by simp [h])),o3.okeep rInt_ok (fun z h=>hz z (by simp [h])),o4.okeep (rPlan_ok NB) (fun z h=>hz z (by simp [h])),fr,hl⟩,hm,h2,h.gt⟩
theorem Bfw.below (h:Bfw R g ver ratio slack AL nL cL AH nH cH AU nU cU AP nP cP X U PL wl A n c L W) (hb:Below W.heap.size W W'):Bfw R g ver ratio slack AL nL cL AH nH cH AU nU cU AP nP cP X U PL wl A n c L W' :=
 h.chg (fun z hz _=>hb.block z hz) (h.ch.trans (Chg.ofBelow hb _)) (h.ms.below (rSlice_ok NB _ rInt_ok) hb) (h.k.below hb)
/-- behind an append, and its store -/
theorem Bfw.app (h:Bfw R g ver ratio slack AL nL cL AH nH cH AU nU cU AP nP cP X U PL wl A n c L W) {A':Option Addr}{n' c':Nat}{L':List (List Int)}(hm:MS wl.heap.size NB 30 (rSlice NB 3 rInt) W' A' n' c' L') (hb:Below wl.heap.size W W') :
  Bk W' g 43 [.int .i64 ver,.int .i64 ratio,.int .i64 slack,.slice AL nL cL,.slice AH nH cH,.slice AU nU cU,.slice AP nP cP,.slice A n c]/\Bfw R g ver ratio slack AL nL cL AH nH cH AU nU cU AP nP cP X U PL wl A' n' c' L' (W'.setCell ⟨g,7,none⟩ (.slice A' n' c')):=by
 have hs:∀ z,z≠g->(W'.setCell ⟨g,7,none⟩ (.slice A' n' c')).heap[z]?=W'.heap[z]?:=fun z hz=>heap_setCell_other _ ⟨g,7,none⟩ z _ (fun e=>hz e)
 have k1:Bk W' g 43 [.int .i64 ver,.int .i64 ratio,.int .i64 slack,.slice AL nL cL,.slice AH nH cH,.slice AU nU cU,.slice AP nP cP,.slice A n c]:=(hb.block _ h.gt.2).trans h.k
 have hc:Chg [g] wl W':=⟨hb.os.trans h.ch.os,hb.tape.trans h.ch.tape,hb.output.trans h.ch.output,Nat.le_trans h.ch.size hb.size,fun z hz hn=>(hb.block z hz).trans (h.ch.block z hz hn)⟩
 obtain⟨fl,fh,fU,fP,o1,o2,o3,o4,fr,hl⟩:=h.o
 have hz:∀ z∈(fl++fh)++(fU++fP),(W'.setCell ⟨g,7,none⟩ (.slice A' n' c')).heap[z]?=W.heap[z]?:=fun z hz=>(hs z (hl z hz).2).trans (hb.block z (hl z hz).1)
 refine⟨k1,k1.set 7 _,⟨fl,fh,fU,fP,o1.okeep rInt_ok (fun z h=>hz z (by simp [h])),o2.okeep rInt_ok (fun z h=>hz z (by simp [h])),o3.okeep rInt_ok (fun z h=>hz z (by simp [h])),o4.okeep (rPlan_ok NB) (fun z h=>hz z (by simp [h])),fr,hl⟩,?_,hc.setCell (by simp) _ _,h.gt⟩
 obtain⟨f,o,fr⟩:=hm
 exact⟨f,o.okeep (rSlice_ok NB _ rInt_ok) (fun z hz=>hs z (by have:=fr.ge z hz;have:=h.gt;omega)),fr⟩
/-- read, or handed back: nothing above R has changed -/
theorem Bfw.fin (h:Bfw R g ver ratio slack AL nL cL AH nH cH AU nU cU AP nP cP X U PL wl A n c L W) (hI:I64 ver/\I64 ratio/\I64 slack) (hk:∀ z,R<z->W'.heap[z]?=W.heap[z]?):∃ fp,(rBouquet NB).own W' fp [.int .i64 ver,.int .i64 ratio,.int .i64 slack,.slice AL nL cL,.slice AH nH cH,.slice AU nU cU,.slice AP nP cP,.slice A n c] ⟨ver,ratio,slack,X,U,PL,L⟩/\Fr (R+1) fp:=by
 obtain⟨fl,fh,fU,fP,o1,o2,o3,o4,fr,hl⟩:=h.o
 obtain⟨f,o,fr2⟩:=h.ms
 have hz:∀ z∈(fl++fh)++(fU++fP),W'.heap[z]?=W.heap[z]?:=fun z hz=>hk z (fr.ge z hz)
 have hg:=h.gt
 refine⟨(fl++fh)++(fU++(fP++f)),rBouquet_own.2 ⟨AL,nL,cL,AH,nH,cH,AU,nU,cU,AP,nP,cP,A,n,c,fl,fh,fU,fP,f,rfl,rfl,hI.1,hI.2.1,hI.2.2,o1.okeep rInt_ok (fun z h=>hz z (by simp [h])),o2.okeep rInt_ok (fun z h=>hz z (by simp [h])),o3.okeep rInt_ok (fun z h=>hz z (by simp [h])),o4.okeep (rPlan_ok NB) (fun z h=>hz z (by simp [h])),o.okeep (rSlice_ok NB _ rInt_ok) (fun z hz=>hk z (by have:=fr2.ge z hz;omega))⟩,?_⟩
 rw [<- List.append_assoc fU fP f,<- List.append_assoc]
 exact fr.append fr2 (fun z hz=>(hl z hz).1) (by omega)
theorem Bfw.budgets (h:Bfw R g ver ratio slack AL nL cL AH nH cH AU nU cU AP nP cP X U PL wl A n c L W):RS NB rInt W AU nU cU U:=by
 obtain⟨fl,fh,fU,fP,o1,o2,o3,o4,fr,hl⟩:=h.o
 exact o3.rs rInt_ok
theorem Bfw.be (h:Bfw R g ver ratio slack AL nL cL AH nH cH AU nU cU AP nP cP X U PL wl A n c L W) {T:Nat}(hT:T<=g):Below T wl W:=h.ch.toBelow (by have:=h.gt;omega) (fun z hz=>by simp at hz;omega)
/-- the box is filled: the beginning -/
theorem Bfw.mk0 {fl fh fU fP:List Nat}{T T2:Nat}(hR:R<g) (hk:Bk wl g 43 [.int .i64 ver,.int .i64 ratio,.int .i64 slack,.slice AL nL cL,.slice AH nH cH,.slice AU nU cU,.slice AP nP cP,.slice none 0 0]) (hW:∀ z,z<W.heap.size->z≠g->wl.heap[z]?=W.heap[z]?) (hsz:W.heap.size<=wl.heap.size) (o1:OS NB 3 rInt W fl AL nL cL X.fLow) (o2:OS NB 3 rInt W fh AH nH cH X.fHigh) (o3:OS NB 3 rInt W fU AU nU cU U) (o4:OS NB 114 (rPlan NB) W fP AP nP cP PL)
  (hU:Fr (R+1) fU) (hU2:∀ z∈fU,z<T) (hX:Fr T (fl++fh)) (hX2:∀ z∈fl++fh,z<T2) (hP:Fr T2 fP) (hRT:R+1<=T) (hT:T<=T2) (hn:∀ z∈(fl++fh)++(fU++fP),z≠g):Bfw R g ver ratio slack AL nL cL AH nH cH AU nU cU AP nP cP X U PL wl none 0 0 [] wl:=by
 have hb:∀ z∈(fl++fh)++(fU++fP),z<W.heap.size:=fun z hzz=>by
  simp only [List.mem_append]at hzz
  rcases hzz with (h|h)|(h|h)
  ·exact o1.lt rInt_ok z h
  ·exact o2.lt rInt_ok z h
  ·exact o3.lt rInt_ok z h
  ·exact o4.lt (rPlan_ok NB) z h
 have hz:∀ z∈(fl++fh)++(fU++fP),wl.heap[z]?=W.heap[z]?:=fun z h=>hW z (hb z h) (hn z h)
 refine⟨hk,⟨fl,fh,fU,fP,o1.okeep rInt_ok (fun z h=>hz z (by simp [h])),o2.okeep rInt_ok (fun z h=>hz z (by simp [h])),o3.okeep rInt_ok (fun z h=>hz z (by simp [h])),o4.okeep (rPlan_ok NB) (fun z h=>hz z (by simp [h])),⟨?_,fun z hz=>?_⟩,fun z hzz=>⟨Nat.lt_of_lt_of_le (hb z hzz) hsz,hn z hzz⟩⟩,MS.nil _ (Nat.zero_le _),Chg.refl _ _,hR,hk.lt⟩
 ·have h1:=(hU.append hP (fun z h=>by have:=hU2 z h;omega) (by omega)).nd
  refine List.nodup_append.2 ⟨hX.nd,h1,fun a ha b hb e=>?_⟩
  subst e
  rcases List.mem_append.1 hb with hb|hb
  ·have:=hU2 a hb;have:=hX.ge a ha;omega
  ·have:=hX2 a ha;have:=hP.ge a hb;omega
 ·rcases List.mem_append.1 hz with h|h
  ·have:=hX.ge z h;omega
  ·rcases List.mem_append.1 h with h|h
   ·exact hU.ge z h
   ·have:=hP.ge z h;omega
end
set_option maxRecDepth 100000 in
set_option maxHeartbeats 12800000 in
theorem sBouquetFromSpace_c (csm:List Value) (m:ModelD) (csq:List Value) (q:QueryD) (css:List Value) (s:SpaceD) (ver:Int) (ratio:Int) (slack:Int) (w:World) (hm:(rModel NB).rep w csm m) (hq:(rQuery NB).rep w csq q) (hs:(rSpace NB).rep w css s) :
  Calls Tryz.prog 7 #[.agg csm.toArray,.agg csq.toArray,.agg css.toArray,.int .i64 ver,.int .i64 ratio,.int .i64 slack] w (RetVB (rBouquet NB) (bfs m q s ver ratio slack).1 (.bool (bfs m q s ver ratio slack).2) w):=by
 have rm:=hm
 have lenm:=(rModel_ok NB).len hm
 clear hm
 have rq:=hq
 obtain⟨AqAtoms,nqAtoms,cqAtoms,rfl,hqVariableCount,hqAtoms⟩:=rQuery_rep.1 hq
 clear hq
 have rs:=hs
 obtain⟨AsBoxLow,nsBoxLow,csBoxLow,AsBoxHigh,nsBoxHigh,csBoxHigh,AsCosts,nsCosts,csCosts,AsChoices,nsChoices,csChoices,AsPlans,nsPlans,csPlans,rfl,hsBoxLow,hsBoxHigh,hsCosts,hsChoices,hsPlans⟩:=rSpace_rep.1 hs
 clear hs
 have hB:Below w.heap.size w w:=Below.refl _ _
 have hAm:=(Below.refl (World.heap (w)).size (w)).alloc (Nat.le_refl _) (.cells csm.toArray 50)
 replace hB:=hB.trans (hAm.mono hB.size)
 have bxm:=Bx.new (w) csm 50
 clear hAm
 have hAq:=(Below.refl (World.heap ((w).alloc (.cells csm.toArray 50))).size ((w).alloc (.cells csm.toArray 50))).alloc (Nat.le_refl _) (.cells #[.int .i64 q.fVariableCount,.slice AqAtoms nqAtoms cqAtoms] 54)
 replace hB:=hB.trans (hAq.mono hB.size)
 replace bxm:=bxm.below hAq
 have bxq:=Bx.new ((w).alloc (.cells csm.toArray 50)) [.int .i64 q.fVariableCount,.slice AqAtoms nqAtoms cqAtoms] 54
 simp only [World.size_alloc]at bxq
 clear hAq
 have hAs:=(Below.refl (World.heap (((w).alloc (.cells csm.toArray 50)).alloc (.cells #[.int .i64 q.fVariableCount,.slice AqAtoms nqAtoms cqAtoms] 54))).size (((w).alloc (.cells csm.toArray 50)).alloc (.cells #[.int .i64 q.fVariableCount,.slice AqAtoms nqAtoms cqAtoms] 54))).alloc (Nat.le_refl _) (.cells #[.slice AsBoxLow nsBoxLow csBoxLow,.slice AsBoxHigh nsBoxHigh csBoxHigh,.slice AsCosts nsCosts csCosts,.slice AsChoices nsChoices csChoices,.slice AsPlans nsPlans csPlans] 57)
 replace hB:=hB.trans (hAs.mono hB.size)
 replace bxm:=bxm.below hAs
 replace bxq:=bxq.below hAs
 have bxs:=Bx.new (((w).alloc (.cells csm.toArray 50)).alloc (.cells #[.int .i64 q.fVariableCount,.slice AqAtoms nqAtoms cqAtoms] 54)) [.slice AsBoxLow nsBoxLow csBoxLow,.slice AsBoxHigh nsBoxHigh csBoxHigh,.slice AsCosts nsCosts csCosts,.slice AsChoices nsChoices csChoices,.slice AsPlans nsPlans csPlans] 57
 simp only [World.size_alloc]at bxs
 clear hAs
 have lenm':csm.length=30:=lenm
 clear lenm
 obtain⟨wa,hwa⟩:∃ W,W=((w.alloc (.cells csm.toArray 50)).alloc (.cells #[.int .i64 q.fVariableCount,.slice AqAtoms nqAtoms cqAtoms] 54)).alloc (.cells #[.slice AsBoxLow nsBoxLow csBoxLow,.slice AsBoxHigh nsBoxHigh csBoxHigh,.slice AsCosts nsCosts csCosts,.slice AsChoices nsChoices csChoices,.slice AsPlans nsPlans csPlans] 57):=⟨_,rfl⟩
 rw [<- hwa]at hB bxm bxq bxs
 have hsa:wa.heap.size=w.heap.size+1+1+1:=by rw [hwa];simp
 obtain⟨wb,hwb⟩:∃ W,W=wa.alloc (.cells #[.int .i64 0,.int .i64 0,.int .i64 0,.slice none 0 0,.slice none 0 0,.slice none 0 0,.slice none 0 0,.slice none 0 0] 43):=⟨_,rfl⟩
 have hbb:Below wa.heap.size wa wb:=by rw [hwb];exact(Below.refl _ _).alloc (Nat.le_refl _) _
 have hsb:wb.heap.size=w.heap.size+1+1+1+1:=by rw [hwb];simp [hsa]
 replace hB:=hB.trans (hbb.mono hB.size)
 replace bxm:=bxm.below hbb
 replace bxq:=bxq.below hbb
 replace bxs:=bxs.below hbb
 clear hbb
 have kR:Bk wb (w.heap.size+1+1+1) 43 [.int .i64 0,.int .i64 0,.int .i64 0,.slice none 0 0,.slice none 0 0,.slice none 0 0,.slice none 0 0,.slice none 0 0]:=by rw [hwb,<- hsa];exact Bk.new wa _ _
 go_enter Tryz.func7,Tryz.ntmps7
 go_upto_region 1 with fail
 rw [<- hwa,<- hwb]
 clear hwa hwb hsa
 have ks_0:=bxs 0 _ rfl
 have ks_1:=bxs 1 _ rfl
 have ks_2:=bxs 2 _ rfl
 have ks_3:=bxs 3 _ rfl
 have ks_4:=bxs 4 _ rfl
 go_wp2_with fail
 refine(sCostRange_c _ s _ ((rSpace_ok NB).keep rs (cells_below hB))).mono ?_
 rintro e w1 ⟨rfl,hb1⟩
 replace hB:=hB.trans (hb1.mono hB.size)
 replace bxm:=bxm.below hb1
 replace bxq:=bxq.below hb1
 replace bxs:=bxs.below hb1
 replace kR:=kR.below hb1
 clear hb1 ks_0 ks_1 ks_2 ks_3 ks_4
 have hz1:=kR.lt
 go_wp2_with fail
 refine(sContourBudgets_c _ _ _ _).mono ?_
 rintro e w2 ⟨AU,nU,cU,rfl,mU,hb2⟩
 replace hB:=hB.trans (hb2.mono hB.size)
 replace bxm:=bxm.below hb2
 replace bxq:=bxq.below hb2
 replace bxs:=bxs.below hb2
 replace kR:=kR.below hb2
 clear hb2
 replace mU:=mU.base (show w.heap.size+1+1+1+1<=_ from hz1)
 clear hz1
 obtain⟨U,hU⟩:∃ U,contours (costRange s).1 (costRange s).2 ratio=U:=⟨_,rfl⟩
 rw [hU]at mU
 have HU:=Lib.hid hU;clear hU
 have hnU:=mU.len
 have hbU:nU<=4294967296:=mU.nb
 have HLU:=Lib.hid hnU;clear hnU
 go_wp2_with (refine wpList_load_mid rfl 50 _ rfl w.heap.size 0 rfl csm _ bxm.range Tryz.underlying50 rfl (by rw [lenm'];exact sizeModel) ?_)
 refine(sIsAdmitted_c _ m _ ((rModel_ok NB).keep rm (cells_below hB))).mono ?_
 rintro e w3 ⟨rfl,hb3⟩
 replace hB:=hB.trans (hb3.mono hB.size)
 replace bxm:=bxm.below hb3
 replace bxq:=bxq.below hb3
 replace bxs:=bxs.below hb3
 replace kR:=kR.below hb3
 replace mU:=mU.below rInt_ok hb3
 clear hb3
 cases e1:admitted m
 focus
  have HS:Hid (bfs m q s ver ratio slack=(zBouquet,false)):=by show _=_;exact bfs_no HU.out (.inl (by unfold bfOk;rw [e1];rfl))
  clear e1
  obtain⟨z0,f0,z1,f1,z2,f2,z3,f3,z4,f4,z5,f5,z6,f6,z7,f7⟩:=kR.r8
  go_wp2
 rotate_left
 have E1:=Lib.hid e1;clear e1
 have ks_0:=bxs 0 _ rfl
 have ks_1:=bxs 1 _ rfl
 have ks_2:=bxs 2 _ rfl
 have ks_3:=bxs 3 _ rfl
 have ks_4:=bxs 4 _ rfl
 go_wp2_with fail
 refine(sIsValidSpace_c _ s _ ((rSpace_ok NB).keep rs (cells_below hB))).mono ?_
 rintro e w4 ⟨rfl,hb4⟩
 replace hB:=hB.trans (hb4.mono hB.size)
 replace bxm:=bxm.below hb4
 replace bxq:=bxq.below hb4
 replace bxs:=bxs.below hb4
 replace kR:=kR.below hb4
 replace mU:=mU.below rInt_ok hb4
 clear hb4 ks_0 ks_1 ks_2 ks_3 ks_4
 cases e1:validSpace s
 focus
  have HS:Hid (bfs m q s ver ratio slack=(zBouquet,false)):=by show _=_;exact bfs_no HU.out (.inl (by unfold bfOk;rw [e1,Bool.false_and,Bool.and_false]))
  clear e1
  obtain⟨z0,f0,z1,f1,z2,f2,z3,f3,z4,f4,z5,f5,z6,f6,z7,f7⟩:=kR.r8
  go_wp2
 rotate_left
 have E2:=Lib.hid e1;clear e1
 go_wp2_with fail
 refine(l1In_c _ _ _ _).mono ?_
 rintro e w' ⟨rfl,rfl⟩
 cases e1:inR ver 1 999
 focus
  have HS:Hid (bfs m q s ver ratio slack=(zBouquet,false)):=by show _=_;exact bfs_no HU.out (.inl (by unfold bfOk;rw [e1,Bool.false_and,Bool.and_false,Bool.and_false]))
  clear e1
  obtain⟨z0,f0,z1,f1,z2,f2,z3,f3,z4,f4,z5,f5,z6,f6,z7,f7⟩:=kR.r8
  go_wp2
 rotate_left
 have E3:=Lib.hid e1;clear e1
 by_cases e1:nU=0
 focus
  have HS:Hid (bfs m q s ver ratio slack=(zBouquet,false)):=by show _=_;exact bfs_no HU.out (.inl (by unfold bfOk;rw [show decide (U.length≠0)=false by rw [HLU.out,e1];rfl,Bool.false_and,Bool.and_false,Bool.and_false,Bool.and_false]))
  have d0:((nU:Int)==0)=true:=by simp [e1]
  clear e1
  obtain⟨z0,f0,z1,f1,z2,f2,z3,f3,z4,f4,z5,f5,z6,f6,z7,f7⟩:=kR.r8
  go_wp2
 rotate_left
 have d0:((nU:Int)==0)=false:=by simp;omega
 have N0:=Lib.hid e1;clear e1
 go_wp2_with fail
 refine(l1In_c _ _ _ _).mono ?_
 rintro e w' ⟨rfl,rfl⟩
 cases e1:inR slack 0 100
 focus
  have HS:Hid (bfs m q s ver ratio slack=(zBouquet,false)):=by show _=_;exact bfs_no HU.out (.inl (by unfold bfOk;rw [e1,Bool.and_false,Bool.and_false,Bool.and_false,Bool.and_false]))
  clear e1
  obtain⟨z0,f0,z1,f1,z2,f2,z3,f3,z4,f4,z5,f5,z6,f6,z7,f7⟩:=kR.r8
  go_wp2
 rotate_left
 have E4:=Lib.hid e1;clear e1
 rotate_left
 iterate 5 (obtain⟨q0,_,q1,_,q2,_,q3,_,q4,_,q5,_,q6,_,q7,_⟩:=(kR.set8 (.int .i64 0) (.int .i64 0) (.int .i64 0) (.slice none 0 0) (.slice none 0 0) (.slice none 0 0) (.slice none 0 0) (.slice none 0 0)).r8;refine bodyPost_ret (v:=.tuple #[.agg #[.int .i64 0,.int .i64 0,.int .i64 0,.slice none 0 0,.slice none 0 0,.slice none 0 0,.slice none 0 0,.slice none 0 0],.bool false]) (by simp [results,Tryz.results7,go_sem,q0,q1,q2,q3,q4,q5,q6,q7]) rfl ?_;rw [HS.out];exact⟨_,[],rfl,zBouquet_own _,Fr.nil _,bls8 hB (by omega) _ _ _ _ _ _ _ _⟩)
 have HOk:Hid (bfOk m s ver slack U=true):=by show _=_;unfold bfOk;rw [E1.out,E2.out,E3.out,E4.out,decide_eq_true (by rw [HLU.out];exact N0.out)];rfl
 have HI:Hid (I64 ver/\I64 ratio/\I64 slack):=by
  show _/\_
  have h3:=inR_t.1 E3.out
  have h4:=inR_t.1 E4.out
  have h5:=contours_r (lo:=(costRange s).1) (hi:=(costRange s).2) (r:=ratio) (by rw [HU.out];intro e;rw [e]at HLU;exact N0.out HLU.out.symm)
  unfold I64;omega
 go_upto_region 5 with fail
 rename World=>w5
 obtain⟨fU,oU,frU⟩:=mU
 have hlU:=oU.lt rInt_ok
 have hlR:=kR.lt
 have HS5:Hid (∀ W,Below w5.heap.size w5 W->W.cell? ⟨w.heap.size+1+1,0,none⟩=some (.slice AsBoxLow nsBoxLow csBoxLow)/\W.cell? ⟨w.heap.size+1+1,1,none⟩=some (.slice AsBoxHigh nsBoxHigh csBoxHigh)/\W.cell? ⟨w.heap.size+1+1,4,none⟩=some (.slice AsPlans nsPlans csPlans)):=by
  show ∀ W,_->_
  intro W hW
  exact⟨(bxs.below hW) 0 _ rfl,(bxs.below hW) 1 _ rfl,(bxs.below hW) 4 _ rfl⟩
 have RX:Hid (∀ W,Below w5.heap.size w5 W->(rBox NB).rep W [.slice AsBoxLow nsBoxLow csBoxLow,.slice AsBoxHigh nsBoxHigh csBoxHigh] s.fBox):=by
  show ∀ W,_->_
  intro W hW
  have hX:=hB.trans (hW.mono hB.size)
  exact(rBox_rep.2 ⟨AsBoxLow,nsBoxLow,csBoxLow,AsBoxHigh,nsBoxHigh,csBoxHigh,rfl,hsBoxLow.below rInt_ok hX,hsBoxHigh.below rInt_ok hX⟩)
 have RP:Hid (∀ W,Below w5.heap.size w5 W->RS NB (rPlan NB) W AsPlans nsPlans csPlans s.fPlans):=by
  show ∀ W,_->_
  intro W hW
  have hX:=hB.trans (hW.mono hB.size)
  exact(hsPlans.below (rPlan_ok NB) hX)
 have hd5:=(Below.refl w5.heap.size w5).drew
 go_wp2
 refine hbg HS5.out hd5 (fun hHeld=>?_)
 refine tka 0 53 hHeld ?_;simp only [putS]
 refine tka 1 54 hHeld ?_;simp only [putS]
 refine tka 2 55 hHeld ?_;simp only [putS]
 refine tka 3 56 hHeld ?_;simp only [putS]
 refine tka 4 57 hHeld ?_;simp only [putS]
 refine tka 6 59 hHeld ?_;simp only [putS]
 refine tka 7 60 hHeld ?_;simp only [putS]
 refine tka 8 61 hHeld ?_;simp only [putS]
 refine rd2 5 (some 58) 11 (some 17) (fun K hK=>?_) fun K hK=>?_
 all_goals clear hHeld
 focus
  go_simp
  refine(sCopyBox_c _ s.fBox _ (RX.out _ hd5)).mono ?_
  rintro e w6 ⟨cs,fp,rfl,oX,frX,hb6⟩
  obtain⟨AL,nL,cL,AH,nH,cH,fl,fh,rfl,rfl,oL,oH⟩:=rBox_own.1 oX
  have hC:Below w5.heap.size w5 w6:=hd5.trans (hb6.mono hd5.size)
  have frX0:=frX
  have frX:Fr w5.heap.size (fl++fh):=frX.mono hd5.size
  have hlX:∀ z∈fl++fh,z<w6.heap.size:=(rBox_ok NB).lt oX
  go_wp2_with fail
  refine hK.out _ _ (HS5.out _ hC) (fun hHeld=>?_)
  clear hK K
  try simp only [putS]
  refine rd2 9 (some 62) 11 (some 17) (fun K hK=>?_) fun K hK=>?_
  all_goals clear hHeld
  focus
   go_simp
   refine(sPlans_c _ _ _ s.fPlans _ (RP.out _ hC)).mono ?_
   rintro e w7 ⟨AP,nP,cP,rfl,⟨fP,oP,frP⟩,hb7⟩
   have hD:Below w5.heap.size w5 w7:=hC.trans (hb7.mono hC.size)
   go_wp2_with fail
   refine hK.out _ _ (HS5.out _ hD) (fun hHeld=>?_)
   clear hK K
   try simp only [putS]
   refine tka 10 63 hHeld ?_;simp only [putS]
   have hz:=Below.alb hD (.cells #[.int .i64 0,.int .i64 0,.int .i64 0,.slice none 0 0,.slice none 0 0,.slice none 0 0,.slice none 0 0,.slice none 0 0] 43)
   refine rd 11 (some 17) fun K hK=>?_
   clear hHeld
   go_simp
   refine hK.out _ _ (HS5.out _ hz) (fun hHeld=>?_)
   clear hK K
   try simp only [putS]
   have hs:=Below.alb hD (.cells #[.int .i64 ver,.int .i64 ratio,.int .i64 slack,.slice AL nL cL,.slice AH nH cH,.slice AU nU cU,.slice AP nP cP,.slice none 0 0] 43)
   refine rd 12 none fun K hK=>?_
   clear hHeld
   go_simp
   refine hK.out _ _ (HS5.out _ hs) (fun hHeld=>?_)
   clear hK K
   try simp only [putS]
   refine wpAnyH_done (by kernel_rfl) ?_ _
   clear hHeld
   obtain⟨wl,hwl⟩:∃ W,W=w7.alloc (.cells #[.int .i64 ver,.int .i64 ratio,.int .i64 slack,.slice AL nL cL,.slice AH nH cH,.slice AU nU cU,.slice AP nP cP,.slice none 0 0] 43):=⟨_,rfl⟩
   obtain⟨g,hg⟩:∃ g,g=w7.heap.size:=⟨_,rfl⟩
   have J0:Bfw (w.heap.size+1+1+1) g ver ratio slack AL nL cL AH nH cH AU nU cU AP nP cP s.fBox U s.fPlans wl none 0 0 [] wl:=by
    rw [hwl,hg]
    exact Bfw.mk0 (W:=w7) (T:=w5.heap.size) (T2:=w6.heap.size) (by have:=hD.size;omega) (Bk.new _ _ _) (fun z hz _=>((Below.refl w7.heap.size w7).alloc (Nat.le_refl _) _).block z hz) (by simp) (oL.belowS rInt_ok hb7) (oH.belowS rInt_ok hb7) (oU.belowS rInt_ok hD) oP frU hlU frX hlX frP (by omega) hC.size (fun z hz=>by have h1:=hD.size;have h2:=hb7.size;simp only [List.mem_append]at hz;rcases hz with (h|h)|(h|h);(have:=hlX z (by simp [h]);omega);(have:=hlX z (by simp [h]);omega);(have:=hlU z h;omega);(have:=oP.lt (rPlan_ok NB) z h;omega))
   have hBl:Below w5.heap.size w5 wl:=by rw [hwl];exact hs
   rw [<- hwl,<- hg]
   clear hg hwl
  rotate_left
  focus
   have hz:=Below.alb hC (.cells #[.int .i64 0,.int .i64 0,.int .i64 0,.slice none 0 0,.slice none 0 0,.slice none 0 0,.slice none 0 0,.slice none 0 0] 43)
   go_simp
   refine hK.out _ _ (HS5.out _ hz) (fun hHeld=>?_)
   clear hK K
   try simp only [putS]
   have kz:=Bk.new w6 [.int .i64 0,.int .i64 0,.int .i64 0,.slice none 0 0,.slice none 0 0,.slice none 0 0,.slice none 0 0,.slice none 0 0] 43
   refine rd 9 (some 62) fun K hK=>?_
   clear hHeld
   go_simp
   refine(sPlans_c _ _ _ s.fPlans _ (RP.out _ hz)).mono ?_
   rintro e w7 ⟨AP,nP,cP,rfl,⟨fP,oP,frP⟩,hb7⟩
   have hD:Below w5.heap.size w5 w7:=hz.trans (hb7.mono hz.size)
   go_wp2_with fail
   refine hK.out _ _ (HS5.out _ hD) (fun hHeld=>?_)
   clear hK K
   try simp only [putS]
   replace kz:=kz.below hb7
   have ⟨z0,f0,z1,f1,z2,f2,z3,f3,z4,f4,z5,f5,z6,f6,z7,f7⟩:=kz.r8
   refine tka 10 63 hHeld ?_;simp only [putS]
   have hs:Below w5.heap.size w5 (set8 w7 w6.heap.size (.int .i64 ver) (.int .i64 ratio) (.int .i64 slack) (.slice AL nL cL) (.slice AH nH cH) (.slice AU nU cU) (.slice AP nP cP) (.slice none 0 0)):=bls8 hD hC.size _ _ _ _ _ _ _ _
   refine rd 12 none fun K hK=>?_
   clear hHeld
   go_simp
   refine hK.out _ _ (HS5.out _ hs) (fun hHeld=>?_)
   clear hK K
   try simp only [putS]
   refine wpAnyH_done (by kernel_rfl) ?_ _
   clear hHeld
   obtain⟨wl,hwl⟩:∃ W,W=((((((((w7.setCell ⟨w6.heap.size,0,none⟩ (.int .i64 ver)).setCell ⟨w6.heap.size,1,none⟩ (.int .i64 ratio)).setCell ⟨w6.heap.size,2,none⟩ (.int .i64 slack)).setCell ⟨w6.heap.size,3,none⟩ (.slice AL nL cL)).setCell ⟨w6.heap.size,4,none⟩ (.slice AH nH cH)).setCell ⟨w6.heap.size,5,none⟩ (.slice AU nU cU)).setCell ⟨w6.heap.size,6,none⟩ (.slice AP nP cP)).setCell ⟨w6.heap.size,7,none⟩ (.slice none 0 0)):=⟨_,rfl⟩
   obtain⟨g,hg⟩:∃ g,g=w6.heap.size:=⟨_,rfl⟩
   have J0:Bfw (w.heap.size+1+1+1) g ver ratio slack AL nL cL AH nH cH AU nU cU AP nP cP s.fBox U s.fPlans wl none 0 0 [] wl:=by
    rw [hwl,hg]
    have ha:=(Below.refl w6.heap.size w6).alloc (Nat.le_refl _) (.cells #[.int .i64 0,.int .i64 0,.int .i64 0,.slice none 0 0,.slice none 0 0,.slice none 0 0,.slice none 0 0,.slice none 0 0] 43)
    have hab:=ha.trans (hb7.mono ha.size)
    exact Bfw.mk0 (W:=w7) (T:=w5.heap.size) (T2:=w6.heap.size) (by have:=hC.size;omega) (kz.set8 ..) (fun z _ hz=>set8_other _ hz) (by simp) (oL.belowS rInt_ok hab) (oH.belowS rInt_ok hab) (oU.belowS rInt_ok hD) oP frU hlU frX hlX (frP.mono (by simp)) (by omega) hC.size (fun z hz=>by have h1:=hC.size;simp only [List.mem_append]at hz;rcases hz with (h|h)|(h|h);(have:=hlX z (by simp [h]);omega);(have:=hlX z (by simp [h]);omega);(have:=hlU z h;omega);(have:=frP.ge z h;simp only [World.size_alloc]at this;omega))
   have hBl:Below w5.heap.size w5 wl:=by rw [hwl];exact hs
   rw [<- hwl,<- hg]
   clear hg hwl
  rotate_left
  rotate_left
 rotate_left
 rotate_left
 focus
  have hz:=Below.alb hd5 (.cells #[.int .i64 0,.int .i64 0,.int .i64 0,.slice none 0 0,.slice none 0 0,.slice none 0 0,.slice none 0 0,.slice none 0 0] 43)
  go_simp
  refine hK.out _ _ (HS5.out _ hz) (fun hHeld=>?_)
  clear hK K
  try simp only [putS]
  have kz:Bk (w5.drew.alloc (.cells #[.int .i64 0,.int .i64 0,.int .i64 0,.slice none 0 0,.slice none 0 0,.slice none 0 0,.slice none 0 0,.slice none 0 0] 43)) w5.heap.size 43 [.int .i64 0,.int .i64 0,.int .i64 0,.slice none 0 0,.slice none 0 0,.slice none 0 0,.slice none 0 0,.slice none 0 0]:=Bk.new w5.drew _ _
  refine rd 5 (some 58) fun K hK=>?_
  clear hHeld
  go_simp
  refine(sCopyBox_c _ s.fBox _ (RX.out _ hz)).mono ?_
  rintro e w6 ⟨cs,fp,rfl,oX,frX,hb6⟩
  obtain⟨AL,nL,cL,AH,nH,cH,fl,fh,rfl,rfl,oL,oH⟩:=rBox_own.1 oX
  have hC:Below w5.heap.size w5 w6:=hz.trans (hb6.mono hz.size)
  have frX0:=frX
  have frX:Fr w5.heap.size (fl++fh):=frX.mono hz.size
  have hlX:∀ z∈fl++fh,z<w6.heap.size:=(rBox_ok NB).lt oX
  go_wp2_with fail
  refine hK.out _ _ (HS5.out _ hC) (fun hHeld=>?_)
  clear hK K
  try simp only [putS]
  replace kz:=kz.below hb6
  refine rd 9 (some 62) fun K hK=>?_
  clear hHeld
  go_simp
  refine(sPlans_c _ _ _ s.fPlans _ (RP.out _ hC)).mono ?_
  rintro e w7 ⟨AP,nP,cP,rfl,⟨fP,oP,frP⟩,hb7⟩
  have hD:Below w5.heap.size w5 w7:=hC.trans (hb7.mono hC.size)
  go_wp2_with fail
  refine hK.out _ _ (HS5.out _ hD) (fun hHeld=>?_)
  clear hK K
  try simp only [putS]
  replace kz:=kz.below hb7
  have ⟨z0,f0,z1,f1,z2,f2,z3,f3,z4,f4,z5,f5,z6,f6,z7,f7⟩:=kz.r8
  refine tka 10 63 hHeld ?_;simp only [putS]
  have hs:Below w5.heap.size w5 (set8 w7 w5.heap.size (.int .i64 ver) (.int .i64 ratio) (.int .i64 slack) (.slice AL nL cL) (.slice AH nH cH) (.slice AU nU cU) (.slice AP nP cP) (.slice none 0 0)):=bls8 hD (Nat.le_refl _) _ _ _ _ _ _ _ _
  refine rd 12 none fun K hK=>?_
  clear hHeld
  go_simp
  refine hK.out _ _ (HS5.out _ hs) (fun hHeld=>?_)
  clear hK K
  try simp only [putS]
  refine wpAnyH_done (by kernel_rfl) ?_ _
  clear hHeld
  obtain⟨wl,hwl⟩:∃ W,W=((((((((w7.setCell ⟨w5.heap.size,0,none⟩ (.int .i64 ver)).setCell ⟨w5.heap.size,1,none⟩ (.int .i64 ratio)).setCell ⟨w5.heap.size,2,none⟩ (.int .i64 slack)).setCell ⟨w5.heap.size,3,none⟩ (.slice AL nL cL)).setCell ⟨w5.heap.size,4,none⟩ (.slice AH nH cH)).setCell ⟨w5.heap.size,5,none⟩ (.slice AU nU cU)).setCell ⟨w5.heap.size,6,none⟩ (.slice AP nP cP)).setCell ⟨w5.heap.size,7,none⟩ (.slice none 0 0)):=⟨_,rfl⟩
  obtain⟨g,hg⟩:∃ g,g=w5.heap.size:=⟨_,rfl⟩
  have J0:Bfw (w.heap.size+1+1+1) g ver ratio slack AL nL cL AH nH cH AU nU cU AP nP cP s.fBox U s.fPlans wl none 0 0 [] wl:=by
   rw [hwl,hg]
   have hfX:∀ z∈fl++fh,w5.heap.size<z:=fun z hz=>by have:=frX0.ge z hz;simp only [World.size_alloc,World.size_drew]at this;omega
   exact Bfw.mk0 (W:=w7) (T:=w5.heap.size) (T2:=w6.heap.size) (by omega) (kz.set8 ..) (fun z _ hz=>set8_other _ hz) (by simp) (oL.belowS rInt_ok hb7) (oH.belowS rInt_ok hb7) (oU.belowS rInt_ok hD) oP frU hlU frX hlX frP (by omega) hC.size (fun z hz=>by have h1:=hC.size;have h3:w5.heap.size<w6.heap.size:=Nat.lt_of_lt_of_le (by simp) hb6.size;simp only [List.mem_append]at hz;rcases hz with (h|h)|(h|h);(have:=hfX z (by simp [h]);omega);(have:=hfX z (by simp [h]);omega);(have:=hlU z h;omega);(have:=frP.ge z h;omega))
  have hBl:Below w5.heap.size w5 wl:=by rw [hwl];exact hs
  rw [<- hwl,<- hg]
  clear hg hwl
 all_goals
  have hBw:=hB.trans (hBl.mono hB.size)
  have hgR:=J0.gt.1
  have GM:=Lib.hid (bxm.below hBl)
  have GQ:=Lib.hid (bxq.below hBl)
  have GS:=Lib.hid (bxs.below hBl)
  have GR:=Lib.hid (kR.below hBl)
  go_wp2
  go_loopw [18] (fun i wr=>∃ (k c:Nat) (A:Option Addr),k<=nU/\i=.int .i64 k/\Bfw (w.heap.size+1+1+1) g ver ratio slack AL nL cL AH nH cH AU nU cU AP nP cP s.fBox U s.fPlans wl A k c ((U.take k).map (bfC m q s slack)) wr) (fun i _=>nU - (intOf i).toNat)
  case atStart=>exact⟨0,0,none,Nat.zero_le _,rfl,by simpa using J0⟩
  case round =>
   clear J0
   obtain⟨k,c,A,hk,rfl,J⟩:=hrel
   have hEg:=J.be (Nat.le_refl g)
   have hBr:=hBw.trans (hEg.mono (by omega))
   have bm:=GM.out.low (by omega) hEg
   have bq:=GQ.out.low (by omega) hEg
   have bs:=GS.out.low (by omega) hEg
   have RQ:Hid (∀ W,Below wr.heap.size wr W->(rQuery NB).rep W [.int .i64 q.fVariableCount,.slice AqAtoms nqAtoms cqAtoms] q):=by
    show ∀ W,_->_
    intro W hW
    have hX:=hBr.trans (hW.mono hBr.size)
    exact((rQuery_ok NB).keep rq (cells_below hX))
   by_cases hlt:k<nU
   ·obtain⟨bU,pU,x,hAU,hcU,hIx,hx⟩:=J.budgets.ati hlt
    subst hAU
    have HT:=Lib.hid (show(U.take (k+1)).map (bfC m q s slack)=(U.take k).map (bfC m q s slack)++[bfC m q s slack x] from by rw [take_snoc hx.out,List.map_append];rfl)
    have hgl:=J.gt.2
    have HS9:Hid (∀ W,Below wr.heap.size wr W->W.rangeAt w.heap.size 0 csm/\W.cell? ⟨w.heap.size+1,0,none⟩=some (.int .i64 q.fVariableCount)/\W.cell? ⟨w.heap.size+1,1,none⟩=some (.slice AqAtoms nqAtoms cqAtoms)/\W.cell? ⟨w.heap.size+1+1,0,none⟩=some (.slice AsBoxLow nsBoxLow csBoxLow)/\W.cell? ⟨w.heap.size+1+1,1,none⟩=some (.slice AsBoxHigh nsBoxHigh csBoxHigh)/\W.cell? ⟨w.heap.size+1+1,2,none⟩=some (.slice AsCosts nsCosts csCosts)/\W.cell? ⟨w.heap.size+1+1,3,none⟩=some (.slice AsChoices nsChoices csChoices)/\W.cell? ⟨w.heap.size+1+1,4,none⟩=some (.slice AsPlans nsPlans csPlans)/\W.cell? ⟨g,7,none⟩=some (.slice A k c)/\W.cell? ⟨bU,pU+k,none⟩=some (.int .i64 x)):=by
     show ∀ W,_->_
     intro W hW
     exact⟨(bm.below hW).range,(bq.below hW) 0 _ rfl,(bq.below hW) 1 _ rfl,(bs.below hW) 0 _ rfl,(bs.below hW) 1 _ rfl,(bs.below hW) 2 _ rfl,(bs.below hW) 3 _ rfl,(bs.below hW) 4 _ rfl,(J.k.below hW).bx 7 _ rfl,cells_below hW _ _ hcU⟩
    have RM:Hid (∀ W,Below wr.heap.size wr W->(rModel NB).rep W csm m):=by
     show ∀ W,_->_
     intro W hW
     have hX:=hBr.trans (hW.mono hBr.size)
     exact((rModel_ok NB).keep rm (cells_below hX))
    have RS_:Hid (∀ W,Below wr.heap.size wr W->(rSpace NB).rep W [.slice AsBoxLow nsBoxLow csBoxLow,.slice AsBoxHigh nsBoxHigh csBoxHigh,.slice AsCosts nsCosts csCosts,.slice AsChoices nsChoices csChoices,.slice AsPlans nsPlans csPlans] s):=by
     show ∀ W,_->_
     intro W hW
     have hX:=hBr.trans (hW.mono hBr.size)
     exact((rSpace_ok NB).keep rs (cells_below hX))
    have hd:=(Below.refl wr.heap.size wr).drew
    go_wp2
    refine hbg HS9.out hd (fun hHeld=>?_)
    refine' wpAnyH_take (i:=0) (oi:=⟨some 70,_,_,_,_,_⟩) (v:=_) rfl (by kernel_rfl) (by kernel_rfl) (by kernel_rfl) (fun _ _ _ h=>h) (yieldsIf_load_mid (by rfl) _ _ rfl _ _ rfl _ _ (fun w h=>h.1) Tryz.underlying50 rfl (by rw [lenm'];exact sizeModel)) hHeld ?_
    simp only [putS]
    refine tka 1 71 hHeld ?_;simp only [putS]
    refine tka 2 72 hHeld ?_;simp only [putS]
    refine tka 3 73 hHeld ?_;simp only [putS]
    refine tka 4 74 hHeld ?_;simp only [putS]
    refine tka 5 75 hHeld ?_;simp only [putS]
    refine tka 6 76 hHeld ?_;simp only [putS]
    refine tka 7 77 hHeld ?_;simp only [putS]
    refine tka 9 79 hHeld ?_;simp only [putS]
    refine tka 10 80 hHeld ?_;simp only [putS]
    refine tka 11 81 hHeld ?_;simp only [putS]
    refine tka 12 82 hHeld ?_;simp only [putS]
    refine tka 13 83 hHeld ?_;simp only [putS]
    refine rd 8 (some 78) fun K hK=>?_
    clear hHeld
    go_simp
    refine(sFrontier_c _ s x _ (RS_.out _ hd)).mono ?_
    rintro e w6 ⟨AF,nF,cF,rfl,mF,hb6⟩
    have hC:Below wr.heap.size wr w6:=hd.trans (hb6.mono hd.size)
    replace mF:=mF.rs rInt_ok
    go_wp2_with fail
    refine hK.out _ _ (HS9.out _ hC) (fun hHeld=>?_)
    clear hK K
    try simp only [putS]
    refine rd 14 (some 84) fun K hK=>?_
    clear hHeld
    go_simp
    refine(sSlackBudget_w rfl _).mono ?_
    rintro e w' ⟨rfl,hww⟩;replace hww:=hww.symm;subst hww
    go_wp2_with fail
    refine hK.out _ _ (HS9.out _ hC) (fun hHeld=>?_)
    clear hK K
    try simp only [putS]
    refine rd 15 (some 85) fun K hK=>?_
    clear hHeld
    go_simp
    refine(sReducePlans_c _ m _ q _ s AF nF cF (frontier s x) (slackOf x slack) _ (RM.out _ hC) (RQ.out _ hC) (RS_.out _ hC) mF).mono ?_
    rintro e w8 ⟨AR,nR,cR,rfl,⟨fR,oR,frR⟩,hb8⟩
    have hD:Below wr.heap.size wr w8:=hC.trans (hb8.mono hC.size)
    have frR:Fr wr.heap.size fR:=frR.mono hC.size
    go_wp2_with fail
    refine hK.out _ _ (HS9.out _ hD) (fun hHeld=>?_)
    clear hK K
    try simp only [putS]
    refine tka 16 19 hHeld ?_;simp only [putS]
    refine wpAnyH_done (by kernel_rfl) ?_ _
    clear hHeld
    clear HS9
    have k8:=J.k.below hD
    have x8:=k8.bx 7 _ rfl
    have hF:=Below.alb hD (.cells #[.slice AR nR cR] 30)
    go_wp2_with (at_builtin;refine wpList_appB (r:=rSlice NB 3 rInt) rfl _ _ 41 rfl _ 24 eiRowS (rSlice_ok NB _ rInt_ok) rfl J.ms hF J.ch.size ⟨w8.heap.size,0,none⟩ rfl fR [.slice AR nR cR] (bfC m q s slack x) ⟨AR,nR,cR,rfl,oR.belowS rInt_ok ((Below.refl _ _).alloc (Nat.le_refl _) _)⟩ frR (cell_one_new _ _ _) (by unfold NB;omega) (Nat.le_refl _) (by omega) ?_;intro A9 c9 w9 hM9 hb9 hg9 hA9;obtain⟨k9,J9⟩:=(J.below hF).app hM9 hb9;have f9:=k9.frozen 7;have x9:=k9.bx 7 _ rfl)
    go_roundw
    case rel=>exact⟨k+1,c9,A9,by omega,by go_num,by rw [HT.out];exact J9⟩
    case measure=>simp [intOf];omega
   ·have hkn:nU=k:=by omega
    subst hkn
    rw [List.take_of_length_le (by have:=HLU.out;omega)]at J
    have kR:=(hEg.block _ (by omega)).trans GR.out
    have q0:=bq 0 _ rfl
    have q1:=bq 1 _ rfl
    have ⟨z0,f0,z1,f1,z2,f2,z3,f3,z4,f4,z5,f5,z6,f6,z7,f7⟩:=J.k.r8
    go_wp2_with fail
    obtain⟨fp,oB,frB⟩:=J.fin (W':=wr) HI.out (fun z _=>rfl)
    refine(sIsValidBouquet_c _ q _ (bfB m q s ver ratio slack U) _ (RQ.out _ (Below.refl _ _)) ((rBouquet_ok NB).toRep oB)).mono ?_
    rintro e w9 ⟨rfl,hb9⟩
    clear q0 q1 z0 z1 z2 z3 z4 z5 z6 z7 f0 f1 f2 f3 f4 f5 f6 f7 fp oB frB
    replace J:=J.below hb9
    have kR:Bk w9 (w.heap.size+1+1+1) 43 [.int .i64 0,.int .i64 0,.int .i64 0,.slice none 0 0,.slice none 0 0,.slice none 0 0,.slice none 0 0,.slice none 0 0]:=Bk.below kR hb9
    have hB:=hBr.trans (hb9.mono hBr.size)
    have ⟨z0,f0,z1,f1,z2,f2,z3,f3,z4,f4,z5,f5,z6,f6,z7,f7⟩:=kR.r8
    cases e1:validBouquet q (bfB m q s ver ratio slack U)
    ·have HS:Hid (bfs m q s ver ratio slack=(zBouquet,false)):=by show _=_;exact bfs_no HU.out (.inr e1)
     clear e1
     go_wp2
     obtain⟨q0,_,q1,_,q2,_,q3,_,q4,_,q5,_,q6,_,q7,_⟩:=(kR.set8 (.int .i64 0) (.int .i64 0) (.int .i64 0) (.slice none 0 0) (.slice none 0 0) (.slice none 0 0) (.slice none 0 0) (.slice none 0 0)).r8;refine bodyPost_ret (v:=.tuple #[.agg #[.int .i64 0,.int .i64 0,.int .i64 0,.slice none 0 0,.slice none 0 0,.slice none 0 0,.slice none 0 0,.slice none 0 0],.bool false]) (by simp [results,Tryz.results7,go_sem,q0,q1,q2,q3,q4,q5,q6,q7]) rfl ?_;rw [HS.out];exact⟨_,[],rfl,zBouquet_own _,Fr.nil _,bls8 hB (by omega) _ _ _ _ _ _ _ _⟩
    ·have HS:Hid (bfs m q s ver ratio slack=(bfB m q s ver ratio slack U,true)):=by show _=_;exact bfs_yes HU.out HOk.out e1
     clear e1
     have ⟨y0,_,y1,_,y2,_,y3,_,y4,_,y5,_,y6,_,y7,_⟩:=J.k.r8
     go_wp2
     obtain⟨q0,_,q1,_,q2,_,q3,_,q4,_,q5,_,q6,_,q7,_⟩:=(kR.set8 (.int .i64 ver) (.int .i64 ratio) (.int .i64 slack) (.slice AL nL cL) (.slice AH nH cH) (.slice AU nU cU) (.slice AP nP cP) (.slice A nU c)).r8
     refine bodyPost_ret (v:=.tuple #[.agg #[.int .i64 ver,.int .i64 ratio,.int .i64 slack,.slice AL nL cL,.slice AH nH cH,.slice AU nU cU,.slice AP nP cP,.slice A nU c],.bool true]) (by simp [results,Tryz.results7,go_sem,q0,q1,q2,q3,q4,q5,q6,q7]) rfl ?_
     rw [HS.out]
     obtain⟨fp,oB,frB⟩:=J.fin HI.out (fun z hz=>set8_other w9 (r:=w.heap.size+1+1+1) (a:=.int .i64 ver) (b:=.int .i64 ratio) (c:=.int .i64 slack) (d:=.slice AL nL cL) (e:=.slice AH nH cH) (f:=.slice AU nU cU) (h:=.slice AP nP cP) (i:=.slice A nU c) (by omega))
     exact⟨_,fp,rfl,oB,frB.mono (by omega),bls8 hB (by omega) _ _ _ _ _ _ _ _⟩
set_option maxRecDepth 100000 in
set_option maxHeartbeats 12800000 in
theorem iBouquetFromSpace_c (csm:List Value) (m:ModelD) (csq:List Value) (q:QueryD) (css:List Value) (s:SpaceD) (ver:Int) (ratio:Int) (slack:Int) (w:World) (hm:(rModel NB).rep w csm m) (hq:(rQuery NB).rep w csq q) (hs:(rSpace NB).rep w css s) :
  Calls Tryz.prog 11 #[.agg csm.toArray,.agg csq.toArray,.agg css.toArray,.int .i64 ver,.int .i64 ratio,.int .i64 slack] w (RetVB (rBouquet NB) (bfs m q s ver ratio slack).1 (.bool (bfs m q s ver ratio slack).2) w):=by
 have rm:=hm
 have lenm:=(rModel_ok NB).len hm
 clear hm
 have rq:=hq
 obtain⟨AqAtoms,nqAtoms,cqAtoms,rfl,hqVariableCount,hqAtoms⟩:=rQuery_rep.1 hq
 clear hq
 have rs:=hs
 obtain⟨AsBoxLow,nsBoxLow,csBoxLow,AsBoxHigh,nsBoxHigh,csBoxHigh,AsCosts,nsCosts,csCosts,AsChoices,nsChoices,csChoices,AsPlans,nsPlans,csPlans,rfl,hsBoxLow,hsBoxHigh,hsCosts,hsChoices,hsPlans⟩:=rSpace_rep.1 hs
 clear hs
 have hB:Below w.heap.size w w:=Below.refl _ _
 have hAm:=(Below.refl (World.heap (w)).size (w)).alloc (Nat.le_refl _) (.cells csm.toArray 50)
 replace hB:=hB.trans (hAm.mono hB.size)
 have bxm:=Bx.new (w) csm 50
 clear hAm
 have hAq:=(Below.refl (World.heap ((w).alloc (.cells csm.toArray 50))).size ((w).alloc (.cells csm.toArray 50))).alloc (Nat.le_refl _) (.cells #[.int .i64 q.fVariableCount,.slice AqAtoms nqAtoms cqAtoms] 54)
 replace hB:=hB.trans (hAq.mono hB.size)
 replace bxm:=bxm.below hAq
 have bxq:=Bx.new ((w).alloc (.cells csm.toArray 50)) [.int .i64 q.fVariableCount,.slice AqAtoms nqAtoms cqAtoms] 54
 simp only [World.size_alloc]at bxq
 clear hAq
 have hAs:=(Below.refl (World.heap (((w).alloc (.cells csm.toArray 50)).alloc (.cells #[.int .i64 q.fVariableCount,.slice AqAtoms nqAtoms cqAtoms] 54))).size (((w).alloc (.cells csm.toArray 50)).alloc (.cells #[.int .i64 q.fVariableCount,.slice AqAtoms nqAtoms cqAtoms] 54))).alloc (Nat.le_refl _) (.cells #[.slice AsBoxLow nsBoxLow csBoxLow,.slice AsBoxHigh nsBoxHigh csBoxHigh,.slice AsCosts nsCosts csCosts,.slice AsChoices nsChoices csChoices,.slice AsPlans nsPlans csPlans] 57)
 replace hB:=hB.trans (hAs.mono hB.size)
 replace bxm:=bxm.below hAs
 replace bxq:=bxq.below hAs
 have bxs:=Bx.new (((w).alloc (.cells csm.toArray 50)).alloc (.cells #[.int .i64 q.fVariableCount,.slice AqAtoms nqAtoms cqAtoms] 54)) [.slice AsBoxLow nsBoxLow csBoxLow,.slice AsBoxHigh nsBoxHigh csBoxHigh,.slice AsCosts nsCosts csCosts,.slice AsChoices nsChoices csChoices,.slice AsPlans nsPlans csPlans] 57
 simp only [World.size_alloc]at bxs
 clear hAs
 have lenm':csm.length=30:=lenm
 clear lenm
 obtain⟨wa,hwa⟩:∃ W,W=((w.alloc (.cells csm.toArray 50)).alloc (.cells #[.int .i64 q.fVariableCount,.slice AqAtoms nqAtoms cqAtoms] 54)).alloc (.cells #[.slice AsBoxLow nsBoxLow csBoxLow,.slice AsBoxHigh nsBoxHigh csBoxHigh,.slice AsCosts nsCosts csCosts,.slice AsChoices nsChoices csChoices,.slice AsPlans nsPlans csPlans] 57):=⟨_,rfl⟩
 rw [<- hwa]at hB bxm bxq bxs
 have hsa:wa.heap.size=w.heap.size+1+1+1:=by rw [hwa];simp
 obtain⟨wb,hwb⟩:∃ W,W=wa.alloc (.cells #[.int .i64 0,.int .i64 0,.int .i64 0,.slice none 0 0,.slice none 0 0,.slice none 0 0,.slice none 0 0,.slice none 0 0] 43):=⟨_,rfl⟩
 have hbb:Below wa.heap.size wa wb:=by rw [hwb];exact(Below.refl _ _).alloc (Nat.le_refl _) _
 have hsb:wb.heap.size=w.heap.size+1+1+1+1:=by rw [hwb];simp [hsa]
 replace hB:=hB.trans (hbb.mono hB.size)
 replace bxm:=bxm.below hbb
 replace bxq:=bxq.below hbb
 replace bxs:=bxs.below hbb
 clear hbb
 have kR:Bk wb (w.heap.size+1+1+1) 43 [.int .i64 0,.int .i64 0,.int .i64 0,.slice none 0 0,.slice none 0 0,.slice none 0 0,.slice none 0 0,.slice none 0 0]:=by rw [hwb,<- hsa];exact Bk.new wa _ _
 go_enter Tryz.func11,Tryz.ntmps11
 go_upto_region 1 with fail
 rw [<- hwa,<- hwb]
 clear hwa hwb hsa
 have ks_0:=bxs 0 _ rfl
 have ks_1:=bxs 1 _ rfl
 have ks_2:=bxs 2 _ rfl
 have ks_3:=bxs 3 _ rfl
 have ks_4:=bxs 4 _ rfl
 go_wp2_with fail
 refine(iCostRange_c _ s _ ((rSpace_ok NB).keep rs (cells_below hB))).mono ?_
 rintro e w1 ⟨rfl,hb1⟩
 replace hB:=hB.trans (hb1.mono hB.size)
 replace bxm:=bxm.below hb1
 replace bxq:=bxq.below hb1
 replace bxs:=bxs.below hb1
 replace kR:=kR.below hb1
 clear hb1 ks_0 ks_1 ks_2 ks_3 ks_4
 have hz1:=kR.lt
 go_wp2_with fail
 refine(iContourBudgets_c _ _ _ _).mono ?_
 rintro e w2 ⟨AU,nU,cU,rfl,mU,hb2⟩
 replace hB:=hB.trans (hb2.mono hB.size)
 replace bxm:=bxm.below hb2
 replace bxq:=bxq.below hb2
 replace bxs:=bxs.below hb2
 replace kR:=kR.below hb2
 clear hb2
 replace mU:=mU.base (show w.heap.size+1+1+1+1<=_ from hz1)
 clear hz1
 obtain⟨U,hU⟩:∃ U,contours (costRange s).1 (costRange s).2 ratio=U:=⟨_,rfl⟩
 rw [hU]at mU
 have HU:=Lib.hid hU;clear hU
 have hnU:=mU.len
 have hbU:nU<=4294967296:=mU.nb
 have HLU:=Lib.hid hnU;clear hnU
 go_wp2_with (refine wpList_load_mid rfl 50 _ rfl w.heap.size 0 rfl csm _ bxm.range Tryz.underlying50 rfl (by rw [lenm'];exact sizeModel) ?_)
 refine(iIsAdmitted_c _ m _ ((rModel_ok NB).keep rm (cells_below hB))).mono ?_
 rintro e w3 ⟨rfl,hb3⟩
 replace hB:=hB.trans (hb3.mono hB.size)
 replace bxm:=bxm.below hb3
 replace bxq:=bxq.below hb3
 replace bxs:=bxs.below hb3
 replace kR:=kR.below hb3
 replace mU:=mU.below rInt_ok hb3
 clear hb3
 cases e1:admitted m
 focus
  have HS:Hid (bfs m q s ver ratio slack=(zBouquet,false)):=by show _=_;exact bfs_no HU.out (.inl (by unfold bfOk;rw [e1];rfl))
  clear e1
  obtain⟨z0,f0,z1,f1,z2,f2,z3,f3,z4,f4,z5,f5,z6,f6,z7,f7⟩:=kR.r8
  go_wp2
 rotate_left
 have E1:=Lib.hid e1;clear e1
 have ks_0:=bxs 0 _ rfl
 have ks_1:=bxs 1 _ rfl
 have ks_2:=bxs 2 _ rfl
 have ks_3:=bxs 3 _ rfl
 have ks_4:=bxs 4 _ rfl
 go_wp2_with fail
 refine(iIsValidSpace_c _ s _ ((rSpace_ok NB).keep rs (cells_below hB))).mono ?_
 rintro e w4 ⟨rfl,hb4⟩
 replace hB:=hB.trans (hb4.mono hB.size)
 replace bxm:=bxm.below hb4
 replace bxq:=bxq.below hb4
 replace bxs:=bxs.below hb4
 replace kR:=kR.below hb4
 replace mU:=mU.below rInt_ok hb4
 clear hb4 ks_0 ks_1 ks_2 ks_3 ks_4
 cases e1:validSpace s
 focus
  have HS:Hid (bfs m q s ver ratio slack=(zBouquet,false)):=by show _=_;exact bfs_no HU.out (.inl (by unfold bfOk;rw [e1,Bool.false_and,Bool.and_false]))
  clear e1
  obtain⟨z0,f0,z1,f1,z2,f2,z3,f3,z4,f4,z5,f5,z6,f6,z7,f7⟩:=kR.r8
  go_wp2
 rotate_left
 have E2:=Lib.hid e1;clear e1
 go_wp2_with fail
 refine(within_c _ _ _ _).mono ?_
 rintro e w' ⟨rfl,rfl⟩
 cases e1:inR ver 1 999
 focus
  have HS:Hid (bfs m q s ver ratio slack=(zBouquet,false)):=by show _=_;exact bfs_no HU.out (.inl (by unfold bfOk;rw [e1,Bool.false_and,Bool.and_false,Bool.and_false]))
  clear e1
  obtain⟨z0,f0,z1,f1,z2,f2,z3,f3,z4,f4,z5,f5,z6,f6,z7,f7⟩:=kR.r8
  go_wp2
 rotate_left
 have E3:=Lib.hid e1;clear e1
 by_cases e1:nU=0
 focus
  have HS:Hid (bfs m q s ver ratio slack=(zBouquet,false)):=by show _=_;exact bfs_no HU.out (.inl (by unfold bfOk;rw [show decide (U.length≠0)=false by rw [HLU.out,e1];rfl,Bool.false_and,Bool.and_false,Bool.and_false,Bool.and_false]))
  have d0:((nU:Int)==0)=true:=by simp [e1]
  clear e1
  obtain⟨z0,f0,z1,f1,z2,f2,z3,f3,z4,f4,z5,f5,z6,f6,z7,f7⟩:=kR.r8
  go_wp2
 rotate_left
 have d0:((nU:Int)==0)=false:=by simp;omega
 have N0:=Lib.hid e1;clear e1
 go_wp2_with fail
 refine(within_c _ _ _ _).mono ?_
 rintro e w' ⟨rfl,rfl⟩
 cases e1:inR slack 0 100
 focus
  have HS:Hid (bfs m q s ver ratio slack=(zBouquet,false)):=by show _=_;exact bfs_no HU.out (.inl (by unfold bfOk;rw [e1,Bool.and_false,Bool.and_false,Bool.and_false,Bool.and_false]))
  clear e1
  obtain⟨z0,f0,z1,f1,z2,f2,z3,f3,z4,f4,z5,f5,z6,f6,z7,f7⟩:=kR.r8
  go_wp2
 rotate_left
 have E4:=Lib.hid e1;clear e1
 rotate_left
 iterate 5 (obtain⟨q0,_,q1,_,q2,_,q3,_,q4,_,q5,_,q6,_,q7,_⟩:=(kR.set8 (.int .i64 0) (.int .i64 0) (.int .i64 0) (.slice none 0 0) (.slice none 0 0) (.slice none 0 0) (.slice none 0 0) (.slice none 0 0)).r8;refine bodyPost_ret (v:=.tuple #[.agg #[.int .i64 0,.int .i64 0,.int .i64 0,.slice none 0 0,.slice none 0 0,.slice none 0 0,.slice none 0 0,.slice none 0 0],.bool false]) (by simp [results,Tryz.results11,go_sem,q0,q1,q2,q3,q4,q5,q6,q7]) rfl ?_;rw [HS.out];exact⟨_,[],rfl,zBouquet_own _,Fr.nil _,bls8 hB (by omega) _ _ _ _ _ _ _ _⟩)
 have HOk:Hid (bfOk m s ver slack U=true):=by show _=_;unfold bfOk;rw [E1.out,E2.out,E3.out,E4.out,decide_eq_true (by rw [HLU.out];exact N0.out)];rfl
 have HI:Hid (I64 ver/\I64 ratio/\I64 slack):=by
  show _/\_
  have h3:=inR_t.1 E3.out
  have h4:=inR_t.1 E4.out
  have h5:=contours_r (lo:=(costRange s).1) (hi:=(costRange s).2) (r:=ratio) (by rw [HU.out];intro e;rw [e]at HLU;exact N0.out HLU.out.symm)
  unfold I64;omega
 go_upto_region 5 with fail
 rename World=>w5
 obtain⟨fU,oU,frU⟩:=mU
 have hlU:=oU.lt rInt_ok
 have hlR:=kR.lt
 have HS5:Hid (∀ W,Below w5.heap.size w5 W->W.cell? ⟨w.heap.size+1+1,0,none⟩=some (.slice AsBoxLow nsBoxLow csBoxLow)/\W.cell? ⟨w.heap.size+1+1,1,none⟩=some (.slice AsBoxHigh nsBoxHigh csBoxHigh)/\W.cell? ⟨w.heap.size+1+1,4,none⟩=some (.slice AsPlans nsPlans csPlans)):=by
  show ∀ W,_->_
  intro W hW
  exact⟨(bxs.below hW) 0 _ rfl,(bxs.below hW) 1 _ rfl,(bxs.below hW) 4 _ rfl⟩
 have RX:Hid (∀ W,Below w5.heap.size w5 W->(rBox NB).rep W [.slice AsBoxLow nsBoxLow csBoxLow,.slice AsBoxHigh nsBoxHigh csBoxHigh] s.fBox):=by
  show ∀ W,_->_
  intro W hW
  have hX:=hB.trans (hW.mono hB.size)
  exact(rBox_rep.2 ⟨AsBoxLow,nsBoxLow,csBoxLow,AsBoxHigh,nsBoxHigh,csBoxHigh,rfl,hsBoxLow.below rInt_ok hX,hsBoxHigh.below rInt_ok hX⟩)
 have RP:Hid (∀ W,Below w5.heap.size w5 W->RS NB (rPlan NB) W AsPlans nsPlans csPlans s.fPlans):=by
  show ∀ W,_->_
  intro W hW
  have hX:=hB.trans (hW.mono hB.size)
  exact(hsPlans.below (rPlan_ok NB) hX)
 have hd5:=(Below.refl w5.heap.size w5).drew
 go_wp2
 refine hbg HS5.out hd5 (fun hHeld=>?_)
 refine tka 0 53 hHeld ?_;simp only [putS]
 refine tka 1 54 hHeld ?_;simp only [putS]
 refine tka 2 55 hHeld ?_;simp only [putS]
 refine tka 3 56 hHeld ?_;simp only [putS]
 refine tka 4 57 hHeld ?_;simp only [putS]
 refine tka 6 59 hHeld ?_;simp only [putS]
 refine tka 7 60 hHeld ?_;simp only [putS]
 refine tka 8 61 hHeld ?_;simp only [putS]
 refine rd2 5 (some 58) 11 (some 17) (fun K hK=>?_) fun K hK=>?_
 all_goals clear hHeld
 focus
  go_simp
  refine(iCopyBox_c _ s.fBox _ (RX.out _ hd5)).mono ?_
  rintro e w6 ⟨cs,fp,rfl,oX,frX,hb6⟩
  obtain⟨AL,nL,cL,AH,nH,cH,fl,fh,rfl,rfl,oL,oH⟩:=rBox_own.1 oX
  have hC:Below w5.heap.size w5 w6:=hd5.trans (hb6.mono hd5.size)
  have frX0:=frX
  have frX:Fr w5.heap.size (fl++fh):=frX.mono hd5.size
  have hlX:∀ z∈fl++fh,z<w6.heap.size:=(rBox_ok NB).lt oX
  go_wp2_with fail
  refine hK.out _ _ (HS5.out _ hC) (fun hHeld=>?_)
  clear hK K
  try simp only [putS]
  refine rd2 9 (some 62) 11 (some 17) (fun K hK=>?_) fun K hK=>?_
  all_goals clear hHeld
  focus
   go_simp
   refine(iCopyPlans_c _ _ _ s.fPlans _ (RP.out _ hC)).mono ?_
   rintro e w7 ⟨AP,nP,cP,rfl,⟨fP,oP,frP⟩,hb7⟩
   have hD:Below w5.heap.size w5 w7:=hC.trans (hb7.mono hC.size)
   go_wp2_with fail
   refine hK.out _ _ (HS5.out _ hD) (fun hHeld=>?_)
   clear hK K
   try simp only [putS]
   refine tka 10 63 hHeld ?_;simp only [putS]
   have hz:=Below.alb hD (.cells #[.int .i64 0,.int .i64 0,.int .i64 0,.slice none 0 0,.slice none 0 0,.slice none 0 0,.slice none 0 0,.slice none 0 0] 43)
   refine rd 11 (some 17) fun K hK=>?_
   clear hHeld
   go_simp
   refine hK.out _ _ (HS5.out _ hz) (fun hHeld=>?_)
   clear hK K
   try simp only [putS]
   have hs:=Below.alb hD (.cells #[.int .i64 ver,.int .i64 ratio,.int .i64 slack,.slice AL nL cL,.slice AH nH cH,.slice AU nU cU,.slice AP nP cP,.slice none 0 0] 43)
   refine rd 12 none fun K hK=>?_
   clear hHeld
   go_simp
   refine hK.out _ _ (HS5.out _ hs) (fun hHeld=>?_)
   clear hK K
   try simp only [putS]
   refine wpAnyH_done (by kernel_rfl) ?_ _
   clear hHeld
   obtain⟨wl,hwl⟩:∃ W,W=w7.alloc (.cells #[.int .i64 ver,.int .i64 ratio,.int .i64 slack,.slice AL nL cL,.slice AH nH cH,.slice AU nU cU,.slice AP nP cP,.slice none 0 0] 43):=⟨_,rfl⟩
   obtain⟨g,hg⟩:∃ g,g=w7.heap.size:=⟨_,rfl⟩
   have J0:Bfw (w.heap.size+1+1+1) g ver ratio slack AL nL cL AH nH cH AU nU cU AP nP cP s.fBox U s.fPlans wl none 0 0 [] wl:=by
    rw [hwl,hg]
    exact Bfw.mk0 (W:=w7) (T:=w5.heap.size) (T2:=w6.heap.size) (by have:=hD.size;omega) (Bk.new _ _ _) (fun z hz _=>((Below.refl w7.heap.size w7).alloc (Nat.le_refl _) _).block z hz) (by simp) (oL.belowS rInt_ok hb7) (oH.belowS rInt_ok hb7) (oU.belowS rInt_ok hD) oP frU hlU frX hlX frP (by omega) hC.size (fun z hz=>by have h1:=hD.size;have h2:=hb7.size;simp only [List.mem_append]at hz;rcases hz with (h|h)|(h|h);(have:=hlX z (by simp [h]);omega);(have:=hlX z (by simp [h]);omega);(have:=hlU z h;omega);(have:=oP.lt (rPlan_ok NB) z h;omega))
   have hBl:Below w5.heap.size w5 wl:=by rw [hwl];exact hs
   rw [<- hwl,<- hg]
   clear hg hwl
  rotate_left
  focus
   have hz:=Below.alb hC (.cells #[.int .i64 0,.int .i64 0,.int .i64 0,.slice none 0 0,.slice none 0 0,.slice none 0 0,.slice none 0 0,.slice none 0 0] 43)
   go_simp
   refine hK.out _ _ (HS5.out _ hz) (fun hHeld=>?_)
   clear hK K
   try simp only [putS]
   have kz:=Bk.new w6 [.int .i64 0,.int .i64 0,.int .i64 0,.slice none 0 0,.slice none 0 0,.slice none 0 0,.slice none 0 0,.slice none 0 0] 43
   refine rd 9 (some 62) fun K hK=>?_
   clear hHeld
   go_simp
   refine(iCopyPlans_c _ _ _ s.fPlans _ (RP.out _ hz)).mono ?_
   rintro e w7 ⟨AP,nP,cP,rfl,⟨fP,oP,frP⟩,hb7⟩
   have hD:Below w5.heap.size w5 w7:=hz.trans (hb7.mono hz.size)
   go_wp2_with fail
   refine hK.out _ _ (HS5.out _ hD) (fun hHeld=>?_)
   clear hK K
   try simp only [putS]
   replace kz:=kz.below hb7
   have ⟨z0,f0,z1,f1,z2,f2,z3,f3,z4,f4,z5,f5,z6,f6,z7,f7⟩:=kz.r8
   refine tka 10 63 hHeld ?_;simp only [putS]
   have hs:Below w5.heap.size w5 (set8 w7 w6.heap.size (.int .i64 ver) (.int .i64 ratio) (.int .i64 slack) (.slice AL nL cL) (.slice AH nH cH) (.slice AU nU cU) (.slice AP nP cP) (.slice none 0 0)):=bls8 hD hC.size _ _ _ _ _ _ _ _
   refine rd 12 none fun K hK=>?_
   clear hHeld
   go_simp
   refine hK.out _ _ (HS5.out _ hs) (fun hHeld=>?_)
   clear hK K
   try simp only [putS]
   refine wpAnyH_done (by kernel_rfl) ?_ _
   clear hHeld
   obtain⟨wl,hwl⟩:∃ W,W=((((((((w7.setCell ⟨w6.heap.size,0,none⟩ (.int .i64 ver)).setCell ⟨w6.heap.size,1,none⟩ (.int .i64 ratio)).setCell ⟨w6.heap.size,2,none⟩ (.int .i64 slack)).setCell ⟨w6.heap.size,3,none⟩ (.slice AL nL cL)).setCell ⟨w6.heap.size,4,none⟩ (.slice AH nH cH)).setCell ⟨w6.heap.size,5,none⟩ (.slice AU nU cU)).setCell ⟨w6.heap.size,6,none⟩ (.slice AP nP cP)).setCell ⟨w6.heap.size,7,none⟩ (.slice none 0 0)):=⟨_,rfl⟩
   obtain⟨g,hg⟩:∃ g,g=w6.heap.size:=⟨_,rfl⟩
   have J0:Bfw (w.heap.size+1+1+1) g ver ratio slack AL nL cL AH nH cH AU nU cU AP nP cP s.fBox U s.fPlans wl none 0 0 [] wl:=by
    rw [hwl,hg]
    have ha:=(Below.refl w6.heap.size w6).alloc (Nat.le_refl _) (.cells #[.int .i64 0,.int .i64 0,.int .i64 0,.slice none 0 0,.slice none 0 0,.slice none 0 0,.slice none 0 0,.slice none 0 0] 43)
    have hab:=ha.trans (hb7.mono ha.size)
    exact Bfw.mk0 (W:=w7) (T:=w5.heap.size) (T2:=w6.heap.size) (by have:=hC.size;omega) (kz.set8 ..) (fun z _ hz=>set8_other _ hz) (by simp) (oL.belowS rInt_ok hab) (oH.belowS rInt_ok hab) (oU.belowS rInt_ok hD) oP frU hlU frX hlX (frP.mono (by simp)) (by omega) hC.size (fun z hz=>by have h1:=hC.size;simp only [List.mem_append]at hz;rcases hz with (h|h)|(h|h);(have:=hlX z (by simp [h]);omega);(have:=hlX z (by simp [h]);omega);(have:=hlU z h;omega);(have:=frP.ge z h;simp only [World.size_alloc]at this;omega))
   have hBl:Below w5.heap.size w5 wl:=by rw [hwl];exact hs
   rw [<- hwl,<- hg]
   clear hg hwl
  rotate_left
  rotate_left
 rotate_left
 rotate_left
 focus
  have hz:=Below.alb hd5 (.cells #[.int .i64 0,.int .i64 0,.int .i64 0,.slice none 0 0,.slice none 0 0,.slice none 0 0,.slice none 0 0,.slice none 0 0] 43)
  go_simp
  refine hK.out _ _ (HS5.out _ hz) (fun hHeld=>?_)
  clear hK K
  try simp only [putS]
  have kz:Bk (w5.drew.alloc (.cells #[.int .i64 0,.int .i64 0,.int .i64 0,.slice none 0 0,.slice none 0 0,.slice none 0 0,.slice none 0 0,.slice none 0 0] 43)) w5.heap.size 43 [.int .i64 0,.int .i64 0,.int .i64 0,.slice none 0 0,.slice none 0 0,.slice none 0 0,.slice none 0 0,.slice none 0 0]:=Bk.new w5.drew _ _
  refine rd 5 (some 58) fun K hK=>?_
  clear hHeld
  go_simp
  refine(iCopyBox_c _ s.fBox _ (RX.out _ hz)).mono ?_
  rintro e w6 ⟨cs,fp,rfl,oX,frX,hb6⟩
  obtain⟨AL,nL,cL,AH,nH,cH,fl,fh,rfl,rfl,oL,oH⟩:=rBox_own.1 oX
  have hC:Below w5.heap.size w5 w6:=hz.trans (hb6.mono hz.size)
  have frX0:=frX
  have frX:Fr w5.heap.size (fl++fh):=frX.mono hz.size
  have hlX:∀ z∈fl++fh,z<w6.heap.size:=(rBox_ok NB).lt oX
  go_wp2_with fail
  refine hK.out _ _ (HS5.out _ hC) (fun hHeld=>?_)
  clear hK K
  try simp only [putS]
  replace kz:=kz.below hb6
  refine rd 9 (some 62) fun K hK=>?_
  clear hHeld
  go_simp
  refine(iCopyPlans_c _ _ _ s.fPlans _ (RP.out _ hC)).mono ?_
  rintro e w7 ⟨AP,nP,cP,rfl,⟨fP,oP,frP⟩,hb7⟩
  have hD:Below w5.heap.size w5 w7:=hC.trans (hb7.mono hC.size)
  go_wp2_with fail
  refine hK.out _ _ (HS5.out _ hD) (fun hHeld=>?_)
  clear hK K
  try simp only [putS]
  replace kz:=kz.below hb7
  have ⟨z0,f0,z1,f1,z2,f2,z3,f3,z4,f4,z5,f5,z6,f6,z7,f7⟩:=kz.r8
  refine tka 10 63 hHeld ?_;simp only [putS]
  have hs:Below w5.heap.size w5 (set8 w7 w5.heap.size (.int .i64 ver) (.int .i64 ratio) (.int .i64 slack) (.slice AL nL cL) (.slice AH nH cH) (.slice AU nU cU) (.slice AP nP cP) (.slice none 0 0)):=bls8 hD (Nat.le_refl _) _ _ _ _ _ _ _ _
  refine rd 12 none fun K hK=>?_
  clear hHeld
  go_simp
  refine hK.out _ _ (HS5.out _ hs) (fun hHeld=>?_)
  clear hK K
  try simp only [putS]
  refine wpAnyH_done (by kernel_rfl) ?_ _
  clear hHeld
  obtain⟨wl,hwl⟩:∃ W,W=((((((((w7.setCell ⟨w5.heap.size,0,none⟩ (.int .i64 ver)).setCell ⟨w5.heap.size,1,none⟩ (.int .i64 ratio)).setCell ⟨w5.heap.size,2,none⟩ (.int .i64 slack)).setCell ⟨w5.heap.size,3,none⟩ (.slice AL nL cL)).setCell ⟨w5.heap.size,4,none⟩ (.slice AH nH cH)).setCell ⟨w5.heap.size,5,none⟩ (.slice AU nU cU)).setCell ⟨w5.heap.size,6,none⟩ (.slice AP nP cP)).setCell ⟨w5.heap.size,7,none⟩ (.slice none 0 0)):=⟨_,rfl⟩
  obtain⟨g,hg⟩:∃ g,g=w5.heap.size:=⟨_,rfl⟩
  have J0:Bfw (w.heap.size+1+1+1) g ver ratio slack AL nL cL AH nH cH AU nU cU AP nP cP s.fBox U s.fPlans wl none 0 0 [] wl:=by
   rw [hwl,hg]
   have hfX:∀ z∈fl++fh,w5.heap.size<z:=fun z hz=>by have:=frX0.ge z hz;simp only [World.size_alloc,World.size_drew]at this;omega
   exact Bfw.mk0 (W:=w7) (T:=w5.heap.size) (T2:=w6.heap.size) (by omega) (kz.set8 ..) (fun z _ hz=>set8_other _ hz) (by simp) (oL.belowS rInt_ok hb7) (oH.belowS rInt_ok hb7) (oU.belowS rInt_ok hD) oP frU hlU frX hlX frP (by omega) hC.size (fun z hz=>by have h1:=hC.size;have h3:w5.heap.size<w6.heap.size:=Nat.lt_of_lt_of_le (by simp) hb6.size;simp only [List.mem_append]at hz;rcases hz with (h|h)|(h|h);(have:=hfX z (by simp [h]);omega);(have:=hfX z (by simp [h]);omega);(have:=hlU z h;omega);(have:=frP.ge z h;omega))
  have hBl:Below w5.heap.size w5 wl:=by rw [hwl];exact hs
  rw [<- hwl,<- hg]
  clear hg hwl
 all_goals
  have hBw:=hB.trans (hBl.mono hB.size)
  have hgR:=J0.gt.1
  have GM:=Lib.hid (bxm.below hBl)
  have GQ:=Lib.hid (bxq.below hBl)
  have GS:=Lib.hid (bxs.below hBl)
  have GR:=Lib.hid (kR.below hBl)
  go_wp2
  go_loopw [66] (fun i wr=>∃ (k c:Nat) (A:Option Addr),k<=nU/\i=.int .i64 k/\Bfw (w.heap.size+1+1+1) g ver ratio slack AL nL cL AH nH cH AU nU cU AP nP cP s.fBox U s.fPlans wl A k c ((U.take k).map (bfC m q s slack)) wr) (fun i _=>nU - (intOf i).toNat)
  case atStart=>exact⟨0,0,none,Nat.zero_le _,rfl,by simpa using J0⟩
  case round =>
   clear J0
   obtain⟨k,c,A,hk,rfl,J⟩:=hrel
   have hEg:=J.be (Nat.le_refl g)
   have hBr:=hBw.trans (hEg.mono (by omega))
   have bm:=GM.out.low (by omega) hEg
   have bq:=GQ.out.low (by omega) hEg
   have bs:=GS.out.low (by omega) hEg
   have RQ:Hid (∀ W,Below wr.heap.size wr W->(rQuery NB).rep W [.int .i64 q.fVariableCount,.slice AqAtoms nqAtoms cqAtoms] q):=by
    show ∀ W,_->_
    intro W hW
    have hX:=hBr.trans (hW.mono hBr.size)
    exact((rQuery_ok NB).keep rq (cells_below hX))
   by_cases hlt:k<nU
   ·obtain⟨bU,pU,x,hAU,hcU,hIx,hx⟩:=J.budgets.ati hlt
    subst hAU
    have HT:=Lib.hid (show(U.take (k+1)).map (bfC m q s slack)=(U.take k).map (bfC m q s slack)++[bfC m q s slack x] from by rw [take_snoc hx.out,List.map_append];rfl)
    have hgl:=J.gt.2
    have HS9:Hid (∀ W,Below wl.heap.size wr W->W.rangeAt w.heap.size 0 csm/\W.cell? ⟨w.heap.size+1,0,none⟩=some (.int .i64 q.fVariableCount)/\W.cell? ⟨w.heap.size+1,1,none⟩=some (.slice AqAtoms nqAtoms cqAtoms)/\W.cell? ⟨w.heap.size+1+1,0,none⟩=some (.slice AsBoxLow nsBoxLow csBoxLow)/\W.cell? ⟨w.heap.size+1+1,1,none⟩=some (.slice AsBoxHigh nsBoxHigh csBoxHigh)/\W.cell? ⟨w.heap.size+1+1,2,none⟩=some (.slice AsCosts nsCosts csCosts)/\W.cell? ⟨w.heap.size+1+1,3,none⟩=some (.slice AsChoices nsChoices csChoices)/\W.cell? ⟨w.heap.size+1+1,4,none⟩=some (.slice AsPlans nsPlans csPlans)/\W.cell? ⟨g,7,none⟩=some (.slice A k c)):=by
     show ∀ W,_->_
     intro W hW
     exact⟨(bm.low (by omega) hW).range,(bq.low (by omega) hW) 0 _ rfl,(bq.low (by omega) hW) 1 _ rfl,(bs.low (by omega) hW) 0 _ rfl,(bs.low (by omega) hW) 1 _ rfl,(bs.low (by omega) hW) 2 _ rfl,(bs.low (by omega) hW) 3 _ rfl,(bs.low (by omega) hW) 4 _ rfl,Bk.bx ((hW.block g J.gt.2).trans J.k) 7 _ rfl⟩
    have RM:Hid (∀ W,Below wr.heap.size wr W->(rModel NB).rep W csm m):=by
     show ∀ W,_->_
     intro W hW
     have hX:=hBr.trans (hW.mono hBr.size)
     exact((rModel_ok NB).keep rm (cells_below hX))
    have RS_:Hid (∀ W,Below wr.heap.size wr W->(rSpace NB).rep W [.slice AsBoxLow nsBoxLow csBoxLow,.slice AsBoxHigh nsBoxHigh csBoxHigh,.slice AsCosts nsCosts csCosts,.slice AsChoices nsChoices csChoices,.slice AsPlans nsPlans csPlans] s):=by
     show ∀ W,_->_
     intro W hW
     have hX:=hBr.trans (hW.mono hBr.size)
     exact((rSpace_ok NB).keep rs (cells_below hX))
    have hd:=(Below.refl wr.heap.size wr).drew
    go_wp2
    refine hgg 15 HS9.out (hd.mono J.ch.size) (fun hHeld=>?_)
    refine tgk 0 70 hHeld ?_;simp only [putS]
    refine tgk 1 71 hHeld ?_;simp only [putS]
    refine' tgm 2 72 rfl hHeld (yieldsIf_load_mid (by rfl) _ _ rfl _ _ rfl _ _ (fun w h=>h.1) Tryz.underlying50 rfl (by rw [lenm'];exact sizeModel)) ?_
    simp only [putS]
    refine tgk 3 73 hHeld ?_;simp only [putS]
    refine tgk 4 74 hHeld ?_;simp only [putS]
    refine tgk 5 75 hHeld ?_;simp only [putS]
    refine tgk 6 76 hHeld ?_;simp only [putS]
    refine tgk 8 78 hHeld ?_;simp only [putS]
    refine tgk 9 79 hHeld ?_;simp only [putS]
    refine rg 7 (some 77) fun K hK=>?_
    clear hHeld
    go_simp
    refine(iFrontier_c _ s x _ (RS_.out _ hd)).mono ?_
    rintro e w6 ⟨AF,nF,cF,rfl,mF,hb6⟩
    have hC:Below wr.heap.size wr w6:=hd.trans (hb6.mono hd.size)
    replace mF:=mF.rs rInt_ok
    go_wp2_with fail
    refine hK.out _ _ (fun _=>HS9.out _ (hC.mono J.ch.size)) fun hHeld=>?_
    replace hHeld:=hHeld (by decide)
    clear hK K
    try simp only [putS]
    refine rg 10 (some 80) fun K hK=>?_
    clear hHeld
    go_simp
    refine(iSlackBudget_w rfl _).mono ?_
    rintro e w' ⟨rfl,hww⟩;replace hww:=hww.symm;subst hww
    go_wp2_with fail
    refine hK.out _ _ (fun _=>HS9.out _ (hC.mono J.ch.size)) fun hHeld=>?_
    replace hHeld:=hHeld (by decide)
    clear hK K
    try simp only [putS]
    refine rg 11 (some 81) fun K hK=>?_
    clear hHeld
    go_simp
    refine(iReducePlans_c _ m _ q _ s AF nF cF (frontier s x) (slackOf x slack) _ (RM.out _ hC) (RQ.out _ hC) (RS_.out _ hC) mF).mono ?_
    rintro e w8 ⟨AR,nR,cR,rfl,⟨fR,oR,frR⟩,hb8⟩
    have hD:Below wr.heap.size wr w8:=hC.trans (hb8.mono hC.size)
    have frR:Fr wr.heap.size fR:=frR.mono hC.size
    go_wp2_with fail
    refine hK.out _ _ (fun _=>HS9.out _ (hD.mono J.ch.size)) fun hHeld=>?_
    replace hHeld:=hHeld (by decide)
    clear hK K
    try simp only [putS]
    have hF:=Below.alb hD (.cells #[.slice AR nR cR] 30)
    refine rg 12 (some 82) fun K hK=>?_
    clear hHeld
    go_simp
    refine hK.out _ _ (fun _=>HS9.out _ (hF.mono J.ch.size)) fun hHeld=>?_
    replace hHeld:=hHeld (by decide)
    clear hK K
    try simp only [putS]
    refine rg 13 (some 83) fun K hK=>?_
    clear hHeld
    refine step_appR (r:=rSlice NB 3 rInt) (by rfl) _ _ 41 (by rfl) _ 24 eiRowS (rSlice_ok NB _ rInt_ok) (by rfl) J.ms hF J.ch.size ⟨w8.heap.size,0,none⟩ (by rfl) (f:=fR) (cs:=[.slice AR nR cR]) (y:=bfC m q s slack x) ⟨AR,nR,cR,rfl,oR.belowS rInt_ok ((Below.refl _ _).alloc (Nat.le_refl _) _)⟩ frR (cell_one_new _ _ _) (by unfold NB;omega) (Nat.le_refl _) (by omega) ?_
    intro A9 c9 w9 hM9 hb9 hg9 hA9
    obtain⟨k9,J9⟩:=(J.below hF).app hM9 hb9
    have hG:=(hF.mono J.ch.size).trans hb9
    have f9:=k9.frozen 7
    have x9:=k9.bx 7 _ rfl
    refine hK.out _ _ (fun _=>HS9.out _ hG) fun hHeld=>?_
    replace hHeld:=hHeld (by decide)
    clear hK K
    try simp only [putS]
    refine tgk 14 84 hHeld ?_;simp only [putS]
    refine rg 15 none fun K hK=>?_
    clear hHeld
    go_simp
    refine hK.out _ _ (fun h=>absurd rfl h) fun hHeld=>?_
    clear hK K
    try simp only [putS]
    refine wpG_done (by kernel_rfl) ?_ _
    clear hHeld
    clear HS9
    go_wp2
    go_roundw
    case rel=>exact⟨k+1,c9,A9,by omega,by go_num,by rw [HT.out];exact J9⟩
    case measure=>simp [intOf];omega
   ·have hkn:nU=k:=by omega
    subst hkn
    rw [List.take_of_length_le (by have:=HLU.out;omega)]at J
    have kR:=(hEg.block _ (by omega)).trans GR.out
    have q0:=bq 0 _ rfl
    have q1:=bq 1 _ rfl
    have ⟨z0,f0,z1,f1,z2,f2,z3,f3,z4,f4,z5,f5,z6,f6,z7,f7⟩:=J.k.r8
    go_wp2_with fail
    obtain⟨fp,oB,frB⟩:=J.fin (W':=wr) HI.out (fun z _=>rfl)
    refine(iIsValidBouquet_c _ q _ (bfB m q s ver ratio slack U) _ (RQ.out _ (Below.refl _ _)) ((rBouquet_ok NB).toRep oB)).mono ?_
    rintro e w9 ⟨rfl,hb9⟩
    clear q0 q1 z0 z1 z2 z3 z4 z5 z6 z7 f0 f1 f2 f3 f4 f5 f6 f7 fp oB frB
    replace J:=J.below hb9
    have kR:Bk w9 (w.heap.size+1+1+1) 43 [.int .i64 0,.int .i64 0,.int .i64 0,.slice none 0 0,.slice none 0 0,.slice none 0 0,.slice none 0 0,.slice none 0 0]:=Bk.below kR hb9
    have hB:=hBr.trans (hb9.mono hBr.size)
    have ⟨z0,f0,z1,f1,z2,f2,z3,f3,z4,f4,z5,f5,z6,f6,z7,f7⟩:=kR.r8
    cases e1:validBouquet q (bfB m q s ver ratio slack U)
    ·have HS:Hid (bfs m q s ver ratio slack=(zBouquet,false)):=by show _=_;exact bfs_no HU.out (.inr e1)
     clear e1
     go_wp2
     obtain⟨q0,_,q1,_,q2,_,q3,_,q4,_,q5,_,q6,_,q7,_⟩:=(kR.set8 (.int .i64 0) (.int .i64 0) (.int .i64 0) (.slice none 0 0) (.slice none 0 0) (.slice none 0 0) (.slice none 0 0) (.slice none 0 0)).r8;refine bodyPost_ret (v:=.tuple #[.agg #[.int .i64 0,.int .i64 0,.int .i64 0,.slice none 0 0,.slice none 0 0,.slice none 0 0,.slice none 0 0,.slice none 0 0],.bool false]) (by simp [results,Tryz.results11,go_sem,q0,q1,q2,q3,q4,q5,q6,q7]) rfl ?_;rw [HS.out];exact⟨_,[],rfl,zBouquet_own _,Fr.nil _,bls8 hB (by omega) _ _ _ _ _ _ _ _⟩
    ·have HS:Hid (bfs m q s ver ratio slack=(bfB m q s ver ratio slack U,true)):=by show _=_;exact bfs_yes HU.out HOk.out e1
     clear e1
     have ⟨y0,_,y1,_,y2,_,y3,_,y4,_,y5,_,y6,_,y7,_⟩:=J.k.r8
     go_wp2
     obtain⟨q0,_,q1,_,q2,_,q3,_,q4,_,q5,_,q6,_,q7,_⟩:=(kR.set8 (.int .i64 ver) (.int .i64 ratio) (.int .i64 slack) (.slice AL nL cL) (.slice AH nH cH) (.slice AU nU cU) (.slice AP nP cP) (.slice A nU c)).r8
     refine bodyPost_ret (v:=.tuple #[.agg #[.int .i64 ver,.int .i64 ratio,.int .i64 slack,.slice AL nL cL,.slice AH nH cH,.slice AU nU cU,.slice AP nP cP,.slice A nU c],.bool true]) (by simp [results,Tryz.results11,go_sem,q0,q1,q2,q3,q4,q5,q6,q7]) rfl ?_
     rw [HS.out]
     obtain⟨fp,oB,frB⟩:=J.fin HI.out (fun z hz=>set8_other w9 (r:=w.heap.size+1+1+1) (a:=.int .i64 ver) (b:=.int .i64 ratio) (c:=.int .i64 slack) (d:=.slice AL nL cL) (e:=.slice AH nH cH) (f:=.slice AU nU cU) (h:=.slice AP nP cP) (i:=.slice A nU c) (by omega))
     exact⟨_,fp,rfl,oB,frB.mono (by omega),bls8 hB (by omega) _ _ _ _ _ _ _ _⟩
open Go.RowKit
set_option linter.unusedVariables false
set_option linter.unusedSimpArgs false
theorem growTo_le (r h:Int) (f:Nat) (b:Int):(growTo r h f b).length<=f+1:=by
 induction f generalizing b with
 | zero=>simp [growTo]
 | succ f ih =>
  unfold growTo
  split
  ·have:=ih (b*r);simp;omega
  ·simp
theorem reduceF_le (cov:Int->Int->Bool) (ps:List Int) (f:Nat) (l:List Int):(reduceF cov ps f l).length<=f:=by
 induction f generalizing l with
 | zero=>simp [reduceF]
 | succ f ih =>
  unfold reduceF
  split
  ·have:=ih (leftOf cov l (by assumption));simp only [List.length_cons];omega
  ·simp
theorem bfC_le (m:ModelD) (q:QueryD) (s:SpaceD) (slack x:Int):(bfC m q s slack x).length<=401:=by
 have h0:(frontier s x).length<=400:=by
  unfold frontier
  split
  ·have h1:=frontTo_len s x s.fCosts.length
   have h2:=costs_len (s:=s) (by assumption)
   omega
  ·simp
 have h1:=(onceI_ok (frontier s x) _ (Nat.le_refl _)).2.2
 rw [List.take_length]at h1
 unfold bfC reducePlans reduce
 have:=reduceF_le (fun k y=>coversL m q s k y (slackOf x slack)) (frontierPlans s (frontier s x)) ((onceI (frontier s x)).length+1) (onceI (frontier s x))
 omega
theorem cnt_rows {α:Type}(f:α->List Int) (n:Nat) (h:∀ x,(f x).length<=n):∀ l:List α,cnt_IntSS (l.map f)<=n*l.length
 | []=>by simp [cnt_IntSS,cntS]
 | x::l=>by
  have h1:=h x
  have h2:=cnt_rows f n h l
  unfold cnt_IntSS cntS at h2 ⊢
  simp only [List.map_cons,List.sum_cons,List.length_cons,Nat.mul_add,Nat.mul_one]
  have:cnt_IntS (f x)<=n:=h1
  omega
theorem cnt_bfs (m:ModelD) (q:QueryD) (s:SpaceD) (ver ratio slack:Int):cnt_Bouquet (bfs m q s ver ratio slack).1<=cnt_Space s+30000:=by
 unfold bfs
 split
 ·show cnt_Box s.fBox+cnt_IntS (contours (costRange s).1 (costRange s).2 ratio)+cnt_PlanS s.fPlans+cnt_IntSS ((contours (costRange s).1 (costRange s).2 ratio).map (bfC m q s slack))<=_
  have h1:=cnt_rows (bfC m q s slack) 401 (bfC_le m q s slack) (contours (costRange s).1 (costRange s).2 ratio)
  have h2:(contours (costRange s).1 (costRange s).2 ratio).length<=65:=by
   unfold contours
   split
   ·exact growTo_le _ _ _ _
   ·simp
  have h3:cnt_IntS (contours (costRange s).1 (costRange s).2 ratio)<=65:=h2
  have h4:cnt_Box s.fBox+cnt_PlanS s.fPlans<=cnt_Space s:=by unfold cnt_Space;omega
  have h5:401*(contours (costRange s).1 (costRange s).2 ratio).length<=401*65:=Nat.mul_le_mul_left _ h2
  omega
 ·have:cnt_Bouquet zBouquet=0:=by simp [zBouquet,cnt_Bouquet,cnt_Box,cnt_IntS,cnt_PlanS,cnt_IntSS,cntS]
  show cnt_Bouquet zBouquet<=_
  omega
end Go.Proofs.YtcfmidbioecdcaaGreat
