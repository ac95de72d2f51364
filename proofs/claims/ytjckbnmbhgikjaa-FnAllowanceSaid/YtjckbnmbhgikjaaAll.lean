/-
  All
-/
import Derived.Test.YtjckbnmbhgikjaaPan
import Derived.Test.YtjckbnmbhgikjaaOdr
import Derived.Test.YtjckbnmbhgikjaaDbd
import Derived.Test.YtjckbnmbhgikjaaMid
import Derived.Test.YtjckbnmbhgikjaaKeep
namespace Go.Proofs.Ytjckbnmbhgikjaa
open Go.RowKit
set_option linter.unusedVariables false
set_option linter.unusedSimpArgs false
attribute [local go_sem ↓] Go.wp_at_zero Go.wp_at_succ
/-- what l28All hands back: a cursor; data that read the same whatever becomes of it -/
def DrawnAll (w:World) (e:Ending) (W:World):Prop:=∃ (g:Nat) (m:ModelD) (cm:List Value) (d:DatabaseD) (Ad:Option Addr) (nd cd:Nat) (q:QueryD) (vc:Int) (Aq:Option Addr) (nq cq:Nat) (p:PlanD) (Ap:Option Addr) (np cp:Nat),
 e=.returned (.tuple #[.pointer (some ⟨g,0,none⟩),.agg cm.toArray,.agg #[.slice Ad nd cd],.agg #[.int .i64 vc,.slice Aq nq cq],.agg #[.slice Ap np cp]])/\w.heap.size<=g/\Cur W g/\Below w.heap.size w W /\
 StS (rModel NB) (fun k=>k<=g) W cm m/\StS (rDatabase NB) (fun k=>k<=g) W [.slice Ad nd cd] d/\StS (rQuery NB) (fun k=>k<=g) W [.int .i64 vc,.slice Aq nq cq] q/\StS (rPlan NB) (fun k=>k<=g) W [.slice Ap np cp] p
/-- under way: the cursor and the results' boxes -/
structure La (w:World) (g:Nat) (W:World):Prop where
 cu:Cur W g
 be:Below w.heap.size w W
 r0:Bk W w.heap.size 28 [.int .i64 0,.int .i64 0,.int .i64 0,.int .i64 0,.int .i64 0,.slice none 0 0,.int .i64 0,.int .i64 0,.int .i64 0,.int .i64 0,.int .i64 0,.slice none 0 0,.int .i64 0,.int .i64 0,.int .i64 0,.int .i64 0,.int .i64 0,.slice none 0 0,.int .i64 0,.int .i64 0,.int .i64 0,.int .i64 0,.int .i64 0,.slice none 0 0,.int .i64 0,.int .i64 0,.int .i64 0,.int .i64 0,.int .i64 0,.slice none 0 0]
 r1:Bk W (w.heap.size+1) 40 [.slice none 0 0]
 r2:Bk W (w.heap.size+1+1) 43 [.int .i64 0,.slice none 0 0]
 r3:Bk W (w.heap.size+1+1+1) 46 [.slice none 0 0]
 hg:w.heap.size+4<=g
theorem s2o' {w:World}{r z:Nat}(h:z≠r) (u v:Value):(set2 w r u v).heap[z]?=w.heap[z]?:=(heap_setCell_other _ ⟨r,1,none⟩ z _ (fun e=>h e)).trans (heap_setCell_other _ ⟨r,0,none⟩ z _ (fun e=>h e))
section
variable {w W W':World} {g:Nat}
theorem La.step (H:La w g W) (h:Chg [g] W W') (cu:Cur W' g):La w g W':=by
 obtain⟨_,be,r0,r1,r2,r3,hg⟩:=H
 exact⟨cu,be.trans (h.toBelow be.size (by simp;omega)),(h.block _ r0.lt (by simp;omega)).trans r0,(h.block _ r1.lt (by simp;omega)).trans r1,(h.block _ r2.lt (by simp;omega)).trans r2,(h.block _ r3.lt (by simp;omega)).trans r3,hg⟩
theorem La.low (H:La w g W) {B:Nat}(hb:Below B W W') (hB:g<B):La w g W':=by
 obtain⟨cu,be,r0,r1,r2,r3,hg⟩:=H
 exact⟨cu.low hB hb,be.trans (hb.mono (by omega)),(hb.block _ (by omega)).trans r0,(hb.block _ (by omega)).trans r1,(hb.block _ (by omega)).trans r2,(hb.block _ (by omega)).trans r3,hg⟩
/-- the results' boxes hold no bytes -/
theorem La.fin (H:La w g W) (hs:W.heap.size<=W'.heap.size) (hk:∀ z,z<W.heap.size->¬ (w.heap.size<=z/\z<w.heap.size+4)->W'.heap[z]?=W.heap[z]?):Cur W' g:=by
 obtain⟨cu,be,r0,r1,r2,r3,hg⟩:=H
 refine cu.boxed (fun z=>w.heap.size<=z/\z<w.heap.size+4) (fun z hz=>⟨by omega,?_⟩) hs hk
 have hz4:z=w.heap.size\/z=w.heap.size+1\/z=w.heap.size+2\/z=w.heap.size+3:=by omega
 rcases hz4 with rfl|rfl|rfl|rfl
 ·exact⟨_,_,r0,by simp⟩
 ·exact⟨_,_,r1,by simp⟩
 ·exact⟨_,_,r2,by simp⟩
 ·exact⟨_,_,r3,by simp⟩
/-- the four results stored -/
theorem stores4 {b:Nat}(r0:Bk W b 28 [.int .i64 0,.int .i64 0,.int .i64 0,.int .i64 0,.int .i64 0,.slice none 0 0,.int .i64 0,.int .i64 0,.int .i64 0,.int .i64 0,.int .i64 0,.slice none 0 0,.int .i64 0,.int .i64 0,.int .i64 0,.int .i64 0,.int .i64 0,.slice none 0 0,.int .i64 0,.int .i64 0,.int .i64 0,.int .i64 0,.int .i64 0,.slice none 0 0,.int .i64 0,.int .i64 0,.int .i64 0,.int .i64 0,.int .i64 0,.slice none 0 0]) (r1:Bk W (b+1) 40 [.slice none 0 0]) (r2:Bk W (b+1+1) 43 [.int .i64 0,.slice none 0 0]) (r3:Bk W (b+1+1+1) 46 [.slice none 0 0]) {cm:List Value}(hl:cm.length=30) (vd vq0 vq1 vp:Value) {W1 W2 W3 W4:World}(h1:W1=setCells W b 0 cm) (h2:W2=W1.setCell ⟨b+1,0,none⟩ vd) (h3:W3=set2 W2 (b+1+1) vq0 vq1) (h4:W4=W3.setCell ⟨b+1+1+1,0,none⟩ vp) :
  (Bk W1 (b+1) 40 [.slice none 0 0]/\Bk W2 (b+1+1) 43 [.int .i64 0,.slice none 0 0]/\Bk W3 (b+1+1+1) 46 [.slice none 0 0]) /\
  (Bk W4 b 28 cm/\Bk W4 (b+1) 40 [vd]/\Bk W4 (b+1+1) 43 [vq0,vq1]/\Bk W4 (b+1+1+1) 46 [vp]) /\
  (∀ k,¬ (b<=k/\k<b+4)->W1.heap[k]?=W.heap[k]?/\W2.heap[k]?=W.heap[k]?/\W3.heap[k]?=W.heap[k]?/\W4.heap[k]?=W.heap[k]?)/\W4.heap.size=W.heap.size/\Below b W W4:=by
 have a1:∀ k,k≠b->W1.heap[k]?=W.heap[k]?:=fun k hk=>by rw [h1];exact setCells_other _ _ _ _ _ hk
 have a2:∀ k,k≠b+1->W2.heap[k]?=W1.heap[k]?:=fun k hk=>by rw [h2];exact heap_setCell_other _ ⟨b+1,0,none⟩ k _ (fun e=>hk e)
 have a3:∀ k,k≠b+1+1->W3.heap[k]?=W2.heap[k]?:=fun k hk=>by rw [h3];exact s2o' hk _ _
 have a4:∀ k,k≠b+1+1+1->W4.heap[k]?=W3.heap[k]?:=fun k hk=>by rw [h4];exact heap_setCell_other _ ⟨b+1+1+1,0,none⟩ k _ (fun e=>hk e)
 have q0:Bk W1 b 28 cm:=by rw [h1];exact r0.fill (by rw [hl];rfl)
 have q1:Bk W1 (b+1) 40 [.slice none 0 0]:=(a1 _ (by omega)).trans r1
 have q2:Bk W2 (b+1+1) 43 [.int .i64 0,.slice none 0 0]:=(a2 _ (by omega)).trans ((a1 _ (by omega)).trans r2)
 have q3:Bk W3 (b+1+1+1) 46 [.slice none 0 0]:=(a3 _ (by omega)).trans ((a2 _ (by omega)).trans ((a1 _ (by omega)).trans r3))
 have p1:Bk W2 (b+1) 40 [vd]:=by rw [h2];exact q1.set 0 _
 have p2:Bk W3 (b+1+1) 43 [vq0,vq1]:=by rw [h3];exact(q2.set 0 _).set 1 _
 refine⟨⟨q1,q2,q3⟩,⟨(a4 _ (by omega)).trans ((a3 _ (by omega)).trans ((a2 _ (by omega)).trans q0)),(a4 _ (by omega)).trans ((a3 _ (by omega)).trans p1),(a4 _ (by omega)).trans p2,by rw [h4];exact q3.set 0 _⟩,fun k hk=>?_,by rw [h4,h3,h2,h1];simp [setCells_size],?_⟩
 ·have e1:=a1 k (by omega)
  have e2:=(a2 k (by omega)).trans e1
  have e3:=(a3 k (by omega)).trans e2
  exact⟨e1,e2,e3,(a4 k (by omega)).trans e3⟩
 ·rw [h4,h3,h2,h1]
  exact(bls2 ((Below.setCells (Below.refl _ _) (Nat.le_refl _) _ _).setCell (p:=⟨b+1,0,none⟩) (by simp) _) (by omega) _ _).setCell (p:=⟨b+1+1+1,0,none⟩) (by simp;omega) _
end
theorem sizeDbT:(Try.prog.info? 40).map (·.size)=some 1:=by kernel_rfl
set_option maxRecDepth 100000 in
set_option maxHeartbeats 6400000 in
theorem l28All_c (A:Option Addr) (n cap:Nat) (l:List Int) (w:World) (hr:RS NB rByte w A n cap l) :
  Calls Try.prog 12 #[.slice A n cap] w (DrawnAll w):=by
 obtain⟨w1,hw1⟩:∃ W,W=w.alloc (.cells #[.int .i64 0,.int .i64 0,.int .i64 0,.int .i64 0,.int .i64 0,.slice none 0 0,.int .i64 0,.int .i64 0,.int .i64 0,.int .i64 0,.int .i64 0,.slice none 0 0,.int .i64 0,.int .i64 0,.int .i64 0,.int .i64 0,.int .i64 0,.slice none 0 0,.int .i64 0,.int .i64 0,.int .i64 0,.int .i64 0,.int .i64 0,.slice none 0 0,.int .i64 0,.int .i64 0,.int .i64 0,.int .i64 0,.int .i64 0,.slice none 0 0] 28):=⟨_,rfl⟩
 obtain⟨w2,hw2⟩:∃ W,W=w1.alloc (.cells #[.slice none 0 0] 40):=⟨_,rfl⟩
 obtain⟨w3,hw3⟩:∃ W,W=w2.alloc (.cells #[.int .i64 0,.slice none 0 0] 43):=⟨_,rfl⟩
 obtain⟨w4,hw4⟩:∃ W,W=w3.alloc (.cells #[.slice none 0 0] 46):=⟨_,rfl⟩
 have hs1:w1.heap.size=w.heap.size+1:=by rw [hw1];simp
 have hs2:w2.heap.size=w.heap.size+2:=by rw [hw2];simp [hs1]
 have hs3:w3.heap.size=w.heap.size+3:=by rw [hw3];simp [hs2]
 have hs4:w4.heap.size=w.heap.size+4:=by rw [hw4];simp [hs3]
 have b1:Below w.heap.size w w1:=by rw [hw1];exact(Below.refl _ _).alloc (Nat.le_refl _) _
 have b2:Below w1.heap.size w1 w2:=by rw [hw2];exact(Below.refl _ _).alloc (Nat.le_refl _) _
 have b3:Below w2.heap.size w2 w3:=by rw [hw3];exact(Below.refl _ _).alloc (Nat.le_refl _) _
 have b4:Below w3.heap.size w3 w4:=by rw [hw4];exact(Below.refl _ _).alloc (Nat.le_refl _) _
 have k0:Bk w4 w.heap.size 28 [.int .i64 0,.int .i64 0,.int .i64 0,.int .i64 0,.int .i64 0,.slice none 0 0,.int .i64 0,.int .i64 0,.int .i64 0,.int .i64 0,.int .i64 0,.slice none 0 0,.int .i64 0,.int .i64 0,.int .i64 0,.int .i64 0,.int .i64 0,.slice none 0 0,.int .i64 0,.int .i64 0,.int .i64 0,.int .i64 0,.int .i64 0,.slice none 0 0,.int .i64 0,.int .i64 0,.int .i64 0,.int .i64 0,.int .i64 0,.slice none 0 0]:=Bk.below (w:=w3) (Bk.below (w:=w2) (Bk.below (w:=w1) (by rw [hw1];exact Bk.new w _ _) b2) b3) b4
 have k1:Bk w4 (w.heap.size+1) 40 [.slice none 0 0]:=Bk.below (w:=w3) (Bk.below (w:=w2) (by rw [hw2,<- hs1];exact Bk.new w1 _ _) b3) b4
 have k2:Bk w4 (w.heap.size+2) 43 [.int .i64 0,.slice none 0 0]:=Bk.below (w:=w3) (by rw [hw3,<- hs2];exact Bk.new w2 _ _) b4
 have k3:Bk w4 (w.heap.size+3) 46 [.slice none 0 0]:=by rw [hw4,<- hs3];exact Bk.new w3 _ _
 have bb:=((b1.trans (b2.mono (by omega))).trans (b3.mono (by omega))).trans (b4.mono (by omega))
 have hr4:=hr.below rByte_ok bb
 have HS4:=Lib.hid hs4
 have HW:Hid (w1=w.alloc (.cells #[.int .i64 0,.int .i64 0,.int .i64 0,.int .i64 0,.int .i64 0,.slice none 0 0,.int .i64 0,.int .i64 0,.int .i64 0,.int .i64 0,.int .i64 0,.slice none 0 0,.int .i64 0,.int .i64 0,.int .i64 0,.int .i64 0,.int .i64 0,.slice none 0 0,.int .i64 0,.int .i64 0,.int .i64 0,.int .i64 0,.int .i64 0,.slice none 0 0,.int .i64 0,.int .i64 0,.int .i64 0,.int .i64 0,.int .i64 0,.slice none 0 0] 28)/\w2=w1.alloc (.cells #[.slice none 0 0] 40)/\w3=w2.alloc (.cells #[.int .i64 0,.slice none 0 0] 43)/\w4=w3.alloc (.cells #[.slice none 0 0] 46)/\w1.heap.size=w.heap.size+1/\w2.heap.size=w.heap.size+2/\w3.heap.size=w.heap.size+3):=⟨hw1,hw2,hw3,hw4,hs1,hs2,hs3⟩
 clear hw1 hw2 hw3 hw4 hs1 hs2 hs3 hs4 b1 b2 b3 b4 hr
 go_enter Try.func12,Try.ntmps12
 go_upto_region 1 with fail
 obtain⟨hw1,hw2,hw3,hw4,hs1,hs2,hs3⟩:=HW.out
 rw [<- hw1,<- hw2,<- hw3,<- hw4]
 clear hw1 hw2 hw3 hw4 HW hs1 hs2 hs3
 go_wp2_with fail
 refine(l1New_c _ _ _ _ _ hr4).mono ?_
 rintro e w5 ⟨g,rfl,hg,cu5,hb5⟩
 have H5:La w g w5:=⟨cu5,bb.trans (hb5.mono bb.size),k0.below hb5,k1.below hb5,k2.below hb5,k3.below hb5,by have:=HS4.out;omega⟩
 clear hr4 hg cu5 hb5 k0 k1 k2 k3 bb HS4
 go_wp2_with fail
 refine(l22Model_c g w5 H5.cu).mono ?_
 rintro e w6 ⟨m,cm,rfl,SM,cu6,ch6⟩
 have H6:=H5.step ch6 cu6
 have lenm:=(rModel_ok NB).len SM.rep
 have ON:=one_rep (rModel_ok NB) SM.rep
 obtain⟨gM,hgM⟩:∃ z,z=w6.heap.size:=⟨_,rfl⟩
 obtain⟨w7,hw7⟩:∃ W,W=w6.alloc (.cells #[.int .i64 0,.int .i64 0,.int .i64 0,.int .i64 0,.int .i64 0,.slice none 0 0,.int .i64 0,.int .i64 0,.int .i64 0,.int .i64 0,.int .i64 0,.slice none 0 0,.int .i64 0,.int .i64 0,.int .i64 0,.int .i64 0,.int .i64 0,.slice none 0 0,.int .i64 0,.int .i64 0,.int .i64 0,.int .i64 0,.int .i64 0,.slice none 0 0,.int .i64 0,.int .i64 0,.int .i64 0,.int .i64 0,.int .i64 0,.slice none 0 0] 28):=⟨_,rfl⟩
 have b7:Below w6.heap.size w6 w7:=by rw [hw7];exact(Below.refl _ _).alloc (Nat.le_refl _) _
 have kM0:Bk w7 gM 28 [.int .i64 0,.int .i64 0,.int .i64 0,.int .i64 0,.int .i64 0,.slice none 0 0,.int .i64 0,.int .i64 0,.int .i64 0,.int .i64 0,.int .i64 0,.slice none 0 0,.int .i64 0,.int .i64 0,.int .i64 0,.int .i64 0,.int .i64 0,.slice none 0 0,.int .i64 0,.int .i64 0,.int .i64 0,.int .i64 0,.int .i64 0,.slice none 0 0,.int .i64 0,.int .i64 0,.int .i64 0,.int .i64 0,.int .i64 0,.slice none 0 0]:=by rw [hw7,hgM];exact Bk.new w6 _ _
 have hcz:cm.toArray.size=30:=List.size_toArray.trans lenm
 have TH:w7.there gM 0 cm.toArray.size:=by rw [hcz];exact kM0.there
 obtain⟨w8,hw8⟩:∃ W,W=setCells w7 gM 0 cm:=⟨_,rfl⟩
 have b8:Below gM w6 w8:=by rw [hw8];exact Below.setCells (hgM▸b7) (Nat.le_refl _) _ _
 have kM:Bk w8 gM 28 cm:=by rw [hw8];exact kM0.fill (by rw [lenm];rfl)
 have hgg:g<gM:=by rw [hgM];exact cu6.lt
 have H8:=H6.low b8 hgg
 have HM:StS (rModel NB) (fun k=>k<=g\/k=gM) w8 cm m:=SM.sts (by rw [<- hgM]at b7;exact b8.size) (fun k h1 h2=>⟨by have:=H5.cu.lt;omega,b8.block k (by omega)⟩)
 have HWK:Hid (w7.setCells gM 0 cm.toArray.toList=w8):=by show _=_;rw [setCells_kit,hw8]
 have HW7:=Lib.hid hw7
 have HGM:=Lib.hid hgM
 clear hgM hw7 hw8 b7 b8 H5 H6 ch6 cu6 kM0 SM
 go_wp2_with (refine wpList_store_mid rfl 28 _ _ rfl gM 0 cm.toArray (by rw [HGM.out];rfl) rfl (by rw [<- HW7.out];exact TH) (by rw [hcz];exact sizeModelT) ON ?_;rw [<- HW7.out,HWK.out,<- HGM.out])
 clear HWK HW7 HGM TH ON hcz lenm
 refine(l1Once_c g 10 _ (by omega) H8.cu).mono ?_
 rintro e w9 ⟨b,rfl,cu9,ch9⟩
 have H9:=H8.step ch9 cu9
 replace kM:Bk w9 gM 28 cm:=(ch9.block _ kM.lt (by simp;omega)).trans kM
 replace HM:=HM.step (OutS.chg ch9 (by simp))
 clear H8 cu9 ch9
 cases b
 focus
  go_upto_region 5 with fail
  obtain⟨wr,rfl⟩:∃ z,z=w9:=⟨_,rfl⟩
  refine Hid.out (?_:Hid _)
 rotate_left
 focus
  go_wp2_with fail
  refine(l22Any_c g _ H9.cu).mono ?_
  rintro e w10 ⟨m2,cm2,rfl,SM,cu10,ch10⟩
  have H10:=H9.step ch10 cu10
  have kM2:Bk w10 gM 28 cm:=(ch10.block _ kM.lt (by simp;omega)).trans kM
  have len1:=(rModel_ok NB).len HM.rep
  have lenm:=(rModel_ok NB).len SM.rep
  have ON:=one_rep (rModel_ok NB) SM.rep
  have hcz:cm2.toArray.size=30:=List.size_toArray.trans lenm
  have TH:w10.there gM 0 cm2.toArray.size:=by rw [hcz];exact kM2.thr 0 30 (by rw [len1];exact Nat.le_refl _)
  obtain⟨w11,hw11⟩:∃ W,W=setCells w10 gM 0 cm2:=⟨_,rfl⟩
  have b11:Below gM w10 w11:=by rw [hw11];exact Below.setCells (Below.refl _ _) (Nat.le_refl _) _ _
  have kM3:Bk w11 gM 28 cm2:=by rw [hw11];exact kM2.fill (by rw [lenm,len1])
  have H11:=H10.low b11 hgg
  have hk:∀ k,k≠gM->w11.heap[k]?=w10.heap[k]?:=fun k hk=>by rw [hw11];exact setCells_other _ _ _ _ _ hk
  have HM2:StS (rModel NB) (fun k=>k<=g\/k=gM) w11 cm2 m2:=SM.sts b11.size (fun k h1 h2=>by have h3:k≠gM:=(by have:=kM.lt;omega);exact⟨by have:=H9.cu.lt;omega,hk k h3⟩)
  have HWK:Hid (w10.setCells gM 0 cm2.toArray.toList=w11):=by show _=_;rw [setCells_kit,hw11]
  clear hw11 hk b11 kM2 SM H10 H9 cu10 ch10 kM HM len1
  go_wp2_with (refine wpList_store_mid rfl 28 _ _ rfl gM 0 cm2.toArray rfl rfl TH (by rw [hcz];exact sizeModelT) ON ?_;rw [HWK.out])
  clear HWK ON TH hcz lenm
  go_upto_region 5 with fail
  obtain⟨wr,rfl⟩:∃ z,z=w11:=⟨_,rfl⟩
  have H9:=H11
  have kM:=kM3
  have HM:=HM2
  clear H11 kM3 HM2
  obtain⟨cm,rfl⟩:∃ z,z=cm2:=⟨_,rfl⟩
  obtain⟨m,rfl⟩:∃ z,z=m2:=⟨_,rfl⟩
  refine Hid.out (?_:Hid _)
 all_goals
  refine Lib.hid ?_
  rename World=>V
  go_wp2_with fail
  refine(l5Db_c g _ H9.cu).mono ?_
  rintro e w12 ⟨d,cs,fp,rfl,oD,fD,_,cu12,ch12⟩
  obtain⟨Ad,nd,cd,_,rfl,rfl,_⟩:=rDatabase_own.1 oD
  have H12:=H9.step ch12 cu12
  have hMV:gM<V.heap.size:=kM.lt
  have hgV:g<V.heap.size:=H9.cu.lt
  replace kM:Bk w12 gM 28 cm:=(ch12.block _ kM.lt (by simp;omega)).trans kM
  replace HM:=HM.step (OutS.chg ch12 (by simp))
  have HD:StS (rDatabase NB) (fun k=>k<=g\/k=gM) w12 [.slice Ad nd cd] d:=StS.ofOwn (rDatabase_ok NB) oD (fun k hk=>by have:=fD.ge k hk;omega)
  obtain⟨gD,hgD⟩:∃ z,z=w12.heap.size:=⟨_,rfl⟩
  obtain⟨w13,hw13⟩:∃ W,W=w12.alloc (.cells #[.slice Ad nd cd] 40):=⟨_,rfl⟩
  have b13:Below w12.heap.size w12 w13:=by rw [hw13];exact(Below.refl _ _).alloc (Nat.le_refl _) _
  have kD:Bk w13 gD 40 [.slice Ad nd cd]:=by rw [hw13,hgD];exact Bk.new w12 _ _
  replace kM:Bk w13 gM 28 cm:=kM.below b13
  replace HM:StS (rModel NB) (fun k=>k<=g\/k=gM\/k=gD) w13 cm m:=HM.next b13.size (fun k h1 h2=>⟨by omega,b13.block k h1⟩)
  replace HD:StS (rDatabase NB) (fun k=>k<=g\/k=gM\/k=gD) w13 [.slice Ad nd cd] d:=HD.next b13.size (fun k h1 h2=>⟨by omega,b13.block k h1⟩)
  have hgD2:gM<gD/\g<gD:=by have:=ch12.size;omega
  have H13:=H12.low b13 (by omega)
  have HGD:=Lib.hid hgD
  have HW13:=Lib.hid hw13
  clear hgD hw13 b13 H12 H9 hMV hgV ch12 cu12 oD fD
  go_upto_region 6 with fail
  rw [<- HW13.out,<- HGD.out]
  clear HW13 HGD
  go_wp2_with fail
  refine(l23Any_c g _ H13.cu).mono ?_
  rintro e w14 ⟨q,cq,p,cp,rfl,SQ,SP,cu14,ch14⟩
  obtain⟨vc,Aq,nq,cc,rfl⟩:=repQu SQ.rep
  obtain⟨Ap,np,cpp,rfl⟩:∃ A n c,cp=[.slice A n c]:=by obtain⟨A,n,c,h,_⟩:=rPlan_rep.1 SP.rep;exact⟨A,n,c,h⟩
  have H14:=H13.step ch14 cu14
  have hDV:gD<w13.heap.size:=kD.lt
  replace kM:Bk w14 gM 28 cm:=(ch14.block _ kM.lt (by simp;omega)).trans kM
  replace kD:Bk w14 gD 40 [.slice Ad nd cd]:=(ch14.block _ kD.lt (by simp;omega)).trans kD
  replace HM:=HM.step (OutS.chg ch14 (by simp))
  replace HD:=HD.step (OutS.chg ch14 (by simp))
  obtain⟨gQ,hgQ⟩:∃ z,z=w14.heap.size:=⟨_,rfl⟩
  obtain⟨w15,hw15⟩:∃ W,W=w14.alloc (.cells #[.int .i64 vc,.slice Aq nq cc] 43):=⟨_,rfl⟩
  obtain⟨w16,hw16⟩:∃ W,W=w15.alloc (.cells #[.slice Ap np cpp] 46):=⟨_,rfl⟩
  have b15:Below w14.heap.size w14 w15:=by rw [hw15];exact(Below.refl _ _).alloc (Nat.le_refl _) _
  have b16:Below w15.heap.size w15 w16:=by rw [hw16];exact(Below.refl _ _).alloc (Nat.le_refl _) _
  have hs15:w15.heap.size=gQ+1:=by rw [hw15,hgQ];simp
  have bq:Below w14.heap.size w14 w16:=b15.trans (b16.mono b15.size)
  have kQ:Bk w16 gQ 43 [.int .i64 vc,.slice Aq nq cc]:=Bk.below (w:=w15) (by rw [hw15,hgQ];exact Bk.new w14 _ _) b16
  have kP:Bk w16 (gQ+1) 46 [.slice Ap np cpp]:=by rw [hw16,<- hs15];exact Bk.new w15 _ _
  have H16:=H14.low bq H14.cu.lt
  have hgd:g<gD:=by have:=hgD2;omega
  have hDQ:gD<gQ:=by rw [hgQ];exact kD.lt
  replace kM:Bk w16 gM 28 cm:=kM.below bq
  replace kD:Bk w16 gD 40 [.slice Ad nd cd]:=kD.below bq
  replace HM:StS (rModel NB) (fun k=>k<=g) w16 cm m:=(HM.next bq.size (fun k h1 h2=>⟨by omega,bq.block k h1⟩))
  replace HD:StS (rDatabase NB) (fun k=>k<=g) w16 [.slice Ad nd cd] d:=HD.next bq.size (fun k h1 h2=>⟨by omega,bq.block k h1⟩)
  have hgV:g<w13.heap.size:=by omega
  have HQ:StS (rQuery NB) (fun k=>k<=g) w16 [.int .i64 vc,.slice Aq nq cc] q:=SQ.sts bq.size (fun k h1 h2=>⟨by omega,bq.block k h2⟩)
  have HP:StS (rPlan NB) (fun k=>k<=g) w16 [.slice Ap np cpp] p:=SP.sts bq.size (fun k h1 h2=>⟨by omega,bq.block k h2⟩)
  have lenm:=(rModel_ok NB).len HM.rep
  have ON:=one_rep (rModel_ok NB) HM.rep
  have hcz:cm.toArray.size=30:=List.size_toArray.trans lenm
  have HG:=Lib.hid hgQ
  have HW15:=Lib.hid hw15
  have HW16:=Lib.hid hw16
  clear hgQ hw15 hw16 b15 b16 hs15 bq H14 SQ SP ch14 cu14 hgV H13
  go_upto_region 7 with fail
  rw [<- HW15.out,<- HW16.out,<- HG.out]
  clear HG HW15 HW16
  obtain⟨W0,hW0⟩:∃ W,W=w16.drew:=⟨_,rfl⟩
  have HWD:La w g W0:=by rw [hW0];exact H16.low (Below.refl _ _).drew H16.cu.lt
  obtain⟨W1,h1⟩:∃ W,W=setCells W0 w.heap.size 0 cm:=⟨_,rfl⟩
  obtain⟨W2,h2⟩:∃ W,W=W1.setCell ⟨w.heap.size+1,0,none⟩ (.slice Ad nd cd):=⟨_,rfl⟩
  obtain⟨W3,h3⟩:∃ W,W=set2 W2 (w.heap.size+1+1) (.int .i64 vc) (.slice Aq nq cc):=⟨_,rfl⟩
  obtain⟨W4,h4⟩:∃ W,W=W3.setCell ⟨w.heap.size+1+1+1,0,none⟩ (.slice Ap np cpp):=⟨_,rfl⟩
  obtain⟨⟨t1,t2,t3⟩,⟨u0,u1,u2,u3⟩,hk,hsz,hbz⟩:=stores4 HWD.r0 HWD.r1 HWD.r2 HWD.r3 lenm (.slice Ad nd cd) (.int .i64 vc) (.slice Aq nq cc) (.slice Ap np cpp) h1 h2 h3 h4
  have hk0:∀ k,¬ (w.heap.size<=k/\k<w.heap.size+4)->W1.heap[k]?=w16.heap[k]?/\W2.heap[k]?=w16.heap[k]?/\W3.heap[k]?=w16.heap[k]?/\W4.heap[k]?=w16.heap[k]?:=fun k h=>by have:=hk k h;rw [hW0]at this;exact this
  have hwg:=H16.hg
  have TH:W0.there w.heap.size 0 cm.toArray.size:=by rw [hcz];exact HWD.r0.there
  have HSS:Hid (∀ w':World,(∀ k,¬ (w.heap.size<=k/\k<w.heap.size+4)->w'.heap[k]?=w16.heap[k]?)->w'.rangeAt gM 0 cm/\w'.cell? ⟨gD,0,none⟩=some (.slice Ad nd cd)/\w'.cell? ⟨gQ,0,none⟩=some (.int .i64 vc)/\w'.cell? ⟨gQ,1,none⟩=some (.slice Aq nq cc)/\w'.cell? ⟨gQ+1,0,none⟩=some (.slice Ap np cpp)):=by
   show ∀ w':World,_->_
   intro w' h
   have e1:Bk w' gM 28 cm:=(h gM (by omega)).trans kM
   have e2:Bk w' gD 40 [.slice Ad nd cd]:=(h gD (by omega)).trans kD
   have e3:Bk w' gQ 43 [.int .i64 vc,.slice Aq nq cc]:=(h gQ (by omega)).trans kQ
   have e4:Bk w' (gQ+1) 46 [.slice Ap np cpp]:=(h (gQ+1) (by omega)).trans kP
   exact⟨e1.rangeAt,e2.bx 0 _ rfl,e3.bx 0 _ rfl,e3.bx 1 _ rfl,e4.bx 0 _ rfl⟩
  have c1:=t1.bx 0 _ rfl
  have f1:=t1.frozen 0
  have ⟨c2,f2,c2',f2'⟩:=t2.r2
  have c3:=t3.bx 0 _ rfl
  have f3:=t3.frozen 0
  have q1:∀ k,¬ (w.heap.size<=k/\k<w.heap.size+4)->W1.heap[k]?=w16.heap[k]?:=fun k h=>(hk0 k h).1
  have q2:∀ k,¬ (w.heap.size<=k/\k<w.heap.size+4)->W2.heap[k]?=w16.heap[k]?:=fun k h=>(hk0 k h).2.1
  have q3:∀ k,¬ (w.heap.size<=k/\k<w.heap.size+4)->W3.heap[k]?=w16.heap[k]?:=fun k h=>(hk0 k h).2.2.1
  have q4:∀ k,¬ (w.heap.size<=k/\k<w.heap.size+4)->W4.heap[k]?=w16.heap[k]?:=fun k h=>(hk0 k h).2.2.2
  have h3':W3=(W2.setCell ⟨w.heap.size+1+1,0,none⟩ (.int .i64 vc)).setCell ⟨w.heap.size+1+1,1,none⟩ (.slice Aq nq cc):=h3
  have D:DrawnAll w (.returned (.tuple #[.pointer (some ⟨g,0,none⟩),.agg cm.toArray,.agg #[.slice Ad nd cd],.agg #[.int .i64 vc,.slice Aq nq cc],.agg #[.slice Ap np cpp]])) W4:=by
   have hs0:W0.heap.size=w16.heap.size:=by rw [hW0];rfl
   have X:OutS (fun k=>k<=g) w16 W4:=⟨by omega,fun k hn _=>q4 k (by omega)⟩
   exact⟨g,m,cm,d,Ad,nd,cd,q,vc,Aq,nq,cc,p,Ap,np,cpp,rfl,by omega,H16.fin (by omega) (fun z _ hz=>q4 z hz),HWD.be.trans hbz,HM.step X,HD.step X,HQ.step X,HP.step X⟩
  have G0:=Lib.hid hW0
  have G1:=Lib.hid h1
  have G2:=Lib.hid h2
  have G3:=Lib.hid h3'
  have G4:=Lib.hid h4
  rw [hW0]at TH
  clear hW0 h1 h2 h3' h4
  clear hk hk0 HWD t1 t2 t3 hsz hbz HM HD HQ HP kM kD kQ kP h3
  refine hbg HSS.out (fun k _=>rfl) (fun hHeld=>?_)
  refine tka 0 27 hHeld ?_;simp only [putS]
  refine' wpAnyH_take (i:=1) (oi:=⟨some 28,_,_,_,_,_⟩) (v:=_) rfl (by kernel_rfl) (by kernel_rfl) (by kernel_rfl) (fun _ _ _ h=>h) (yieldsIf_load_mid (by rfl) _ _ rfl _ _ rfl _ _ (fun w h=>h.1) Try.underlying28 rfl (by rw [lenm];exact sizeModelT)) hHeld ?_
  simp only [putS]
  refine tka 2 29 hHeld ?_;simp only [putS]
  refine tka 3 30 hHeld ?_;simp only [putS]
  refine tka 4 31 hHeld ?_;simp only [putS]
  have q0:∀ k,¬ (w.heap.size<=k/\k<w.heap.size+4)->w16.drew.heap[k]?=w16.heap[k]?:=fun k _=>rfl
  refine rd 5 (some 2) fun K hK=>?_
  clear hHeld
  go_simp
  refine hK.out _ _ (HSS.out _ q0) (fun hHeld=>?_)
  clear hK K
  try simp only [putS]
  refine rd 6 none fun K hK=>?_
  clear hHeld
  rw [if_pos (by rfl)]
  refine wp_store_mid 28 _ _ rfl w.heap.size 0 cm.toArray rfl rfl TH (by rw [hcz];exact sizeModelT) ON ?_
  rw [setCells_kit,List.toList_toArray,<- G0.out,<- G1.out]
  refine hK.out _ _ (HSS.out _ q1) (fun hHeld=>?_)
  clear hK K
  try simp only [putS]
  refine rd 7 none fun K hK=>?_
  clear hHeld
  go_simp
  rw [<- G2.out]
  refine hK.out _ _ (HSS.out _ q2) (fun hHeld=>?_)
  clear hK K
  try simp only [putS]
  refine rd 8 none fun K hK=>?_
  clear hHeld
  go_simp
  rw [<- G3.out]
  refine hK.out _ _ (HSS.out _ q3) (fun hHeld=>?_)
  clear hK K
  try simp only [putS]
  refine rd 9 none fun K hK=>?_
  clear hHeld
  go_simp
  rw [<- G4.out]
  refine hK.out _ _ (HSS.out _ q4) (fun hHeld=>?_)
  clear hK K
  try simp only [putS]
  refine wpAnyH_done (by kernel_rfl) ?_ _
  clear hHeld
  go_wp2
  refine bodyPost_ret (results_tcccc Try.results12 rfl (RC.mk' rfl u0.rangeAt Try.underlying28 rfl (by rw [lenm];exact sizeModelT)) (RC.mk' rfl u1.rangeAt Try.underlying40 rfl sizeDbT) (RC.mk' rfl u2.rangeAt Try.underlying43 rfl sizeQueryT) (RC.mk' rfl u3.rangeAt Try.underlying46 rfl sizePlanT)) rfl ?_
  exact D
end Go.Proofs.Ytjckbnmbhgikjaa
namespace Go.Proofs.Ytjckbnmbhgikjaa
open Go.RowKit
set_option linter.unusedVariables false
set_option linter.unusedSimpArgs false
attribute [local go_sem ↓] Go.wp_at_zero Go.wp_at_succ
set_option maxRecDepth 100000 in
set_option maxHeartbeats 6400000 in
theorem drawAllow_c (A:Option Addr) (n cap:Nat) (l:List Int) (w:World) (hr:RS NB rByte w A n cap l) :
  Calls Try.prog 5 #[.slice A n cap] w fun e W=>∃ (m:ModelD) (cm:List Value) (k x y b:Int),e=.returned (.tuple #[.agg cm.toArray,.int .i64 k,.int .i64 x,.int .i64 y,.int .i64 b])/\(rModel NB).rep W cm m/\I64 k/\I64 x/\I64 y/\I64 b/\Below w.heap.size w W:=by
 obtain⟨w1,hw1⟩:∃ W,W=w.alloc (.cells #[.int .i64 0,.int .i64 0,.int .i64 0,.int .i64 0,.int .i64 0,.slice none 0 0,.int .i64 0,.int .i64 0,.int .i64 0,.int .i64 0,.int .i64 0,.slice none 0 0,.int .i64 0,.int .i64 0,.int .i64 0,.int .i64 0,.int .i64 0,.slice none 0 0,.int .i64 0,.int .i64 0,.int .i64 0,.int .i64 0,.int .i64 0,.slice none 0 0,.int .i64 0,.int .i64 0,.int .i64 0,.int .i64 0,.int .i64 0,.slice none 0 0] 28):=⟨_,rfl⟩
 have b1:Below w.heap.size w w1:=by rw [hw1];exact(Below.refl _ _).alloc (Nat.le_refl _) _
 have k0:Bk w1 w.heap.size 28 [.int .i64 0,.int .i64 0,.int .i64 0,.int .i64 0,.int .i64 0,.slice none 0 0,.int .i64 0,.int .i64 0,.int .i64 0,.int .i64 0,.int .i64 0,.slice none 0 0,.int .i64 0,.int .i64 0,.int .i64 0,.int .i64 0,.int .i64 0,.slice none 0 0,.int .i64 0,.int .i64 0,.int .i64 0,.int .i64 0,.int .i64 0,.slice none 0 0,.int .i64 0,.int .i64 0,.int .i64 0,.int .i64 0,.int .i64 0,.slice none 0 0]:=by rw [hw1];exact Bk.new w _ _
 have hr1:=hr.below rByte_ok b1
 clear hr
 go_enter Try.func5,Try.ntmps5
 go_upto_region 1 with fail
 rw [<- hw1]
 clear hw1
 go_wp2_with fail
 refine(l28All_c _ _ _ _ _ hr1).mono ?_
 rintro e w2 ⟨g,m,cm,d,Ad,nd,cd,q,vc,Aq,nq,cq,p,Ap,np,cp,rfl,hg,cu2,hb2,SM,_,_,_⟩
 have kR:=k0.below hb2
 have hB:=b1.trans (hb2.mono b1.size)
 have hgw:w.heap.size<g:=by have:=k0.lt;omega
 have lenm:=(rModel_ok NB).len SM.rep
 have ON:=one_rep (rModel_ok NB) SM.rep
 have hcz:cm.toArray.size=30:=List.size_toArray.trans lenm
 clear hr1 hb2 k0 b1 hg
 obtain⟨gM,hgM⟩:∃ z,z=w2.heap.size:=⟨_,rfl⟩
 obtain⟨u1,hu1⟩:∃ W,W=w2.alloc (.cells #[.int .i64 0,.int .i64 0,.int .i64 0,.int .i64 0,.int .i64 0,.slice none 0 0,.int .i64 0,.int .i64 0,.int .i64 0,.int .i64 0,.int .i64 0,.slice none 0 0,.int .i64 0,.int .i64 0,.int .i64 0,.int .i64 0,.int .i64 0,.slice none 0 0,.int .i64 0,.int .i64 0,.int .i64 0,.int .i64 0,.int .i64 0,.slice none 0 0,.int .i64 0,.int .i64 0,.int .i64 0,.int .i64 0,.int .i64 0,.slice none 0 0] 28):=⟨_,rfl⟩
 obtain⟨u2,hu2⟩:∃ W,W=u1.alloc (.cells #[.slice none 0 0] 40):=⟨_,rfl⟩
 obtain⟨u3,hu3⟩:∃ W,W=u2.alloc (.cells #[.int .i64 0,.slice none 0 0] 43):=⟨_,rfl⟩
 obtain⟨u4,hu4⟩:∃ W,W=u3.alloc (.cells #[.slice none 0 0] 46):=⟨_,rfl⟩
 have hs1:u1.heap.size=gM+1:=by rw [hu1,hgM];simp
 have hs2:u2.heap.size=gM+1+1:=by rw [hu2];simp [hs1]
 have hs3:u3.heap.size=gM+1+1+1:=by rw [hu3];simp [hs2]
 have c1:Below w2.heap.size w2 u1:=by rw [hu1];exact(Below.refl _ _).alloc (Nat.le_refl _) _
 have c2:Below u1.heap.size u1 u2:=by rw [hu2];exact(Below.refl _ _).alloc (Nat.le_refl _) _
 have c3:Below u2.heap.size u2 u3:=by rw [hu3];exact(Below.refl _ _).alloc (Nat.le_refl _) _
 have c4:Below u3.heap.size u3 u4:=by rw [hu4];exact(Below.refl _ _).alloc (Nat.le_refl _) _
 have r0:Bk u4 gM 28 [.int .i64 0,.int .i64 0,.int .i64 0,.int .i64 0,.int .i64 0,.slice none 0 0,.int .i64 0,.int .i64 0,.int .i64 0,.int .i64 0,.int .i64 0,.slice none 0 0,.int .i64 0,.int .i64 0,.int .i64 0,.int .i64 0,.int .i64 0,.slice none 0 0,.int .i64 0,.int .i64 0,.int .i64 0,.int .i64 0,.int .i64 0,.slice none 0 0,.int .i64 0,.int .i64 0,.int .i64 0,.int .i64 0,.int .i64 0,.slice none 0 0]:=Bk.below (w:=u3) (Bk.below (w:=u2) (Bk.below (w:=u1) (by rw [hu1,hgM];exact Bk.new w2 _ _) c2) c3) c4
 have r1:Bk u4 (gM+1) 40 [.slice none 0 0]:=Bk.below (w:=u3) (Bk.below (w:=u2) (by rw [hu2,<- hs1];exact Bk.new u1 _ _) c3) c4
 have r2:Bk u4 (gM+1+1) 43 [.int .i64 0,.slice none 0 0]:=Bk.below (w:=u3) (by rw [hu3,<- hs2];exact Bk.new u2 _ _) c4
 have r3:Bk u4 (gM+1+1+1) 46 [.slice none 0 0]:=by rw [hu4,<- hs3];exact Bk.new u3 _ _
 have bu:Below gM w2 u4:=by rw [hgM];exact((c1.trans (c2.mono (by omega))).trans (c3.mono (by omega))).trans (c4.mono (by omega))
 have TH:u4.there gM 0 cm.toArray.size:=by rw [hcz];exact r0.there
 obtain⟨W1,h1⟩:∃ W,W=setCells u4 gM 0 cm:=⟨_,rfl⟩
 obtain⟨W2,h2⟩:∃ W,W=W1.setCell ⟨gM+1,0,none⟩ (.slice Ad nd cd):=⟨_,rfl⟩
 obtain⟨W3,h3⟩:∃ W,W=set2 W2 (gM+1+1) (.int .i64 vc) (.slice Aq nq cq):=⟨_,rfl⟩
 obtain⟨W4,h4⟩:∃ W,W=W3.setCell ⟨gM+1+1+1,0,none⟩ (.slice Ap np cp):=⟨_,rfl⟩
 obtain⟨⟨t1,t2,t3⟩,⟨kM,_,_,_⟩,_,_,hbz⟩:=stores4 r0 r1 r2 r3 lenm (.slice Ad nd cd) (.int .i64 vc) (.slice Aq nq cq) (.slice Ap np cp) h1 h2 h3 h4
 have hbw:=bu.trans hbz
 have f1:=t1.frozen 0
 have x1:=t1.bx 0 _ rfl
 have h3':W3=(W2.setCell ⟨gM+1+1,0,none⟩ (.int .i64 vc)).setCell ⟨gM+1+1,1,none⟩ (.slice Aq nq cq):=h3
 have x2:(W1.setCell ⟨gM+1,0,none⟩ (.slice Ad nd cd)).cell? ⟨gM+1+1,0,none⟩=some (.int .i64 0):=by rw [<- h2];exact t2.bx 0 _ rfl
 have f2:(W1.setCell ⟨gM+1,0,none⟩ (.slice Ad nd cd)).frozen? ⟨gM+1+1,0,none⟩=false:=by rw [<- h2];exact t2.frozen 0
 have x4:((W1.setCell ⟨gM+1,0,none⟩ (.slice Ad nd cd)).setCell ⟨gM+1+1,0,none⟩ (.int .i64 vc)).cell? ⟨gM+1+1,1,none⟩=some (.slice none 0 0):=by rw [<- h2];exact(t2.set 0 _).bx 1 _ rfl
 have f4:((W1.setCell ⟨gM+1,0,none⟩ (.slice Ad nd cd)).setCell ⟨gM+1+1,0,none⟩ (.int .i64 vc)).frozen? ⟨gM+1+1,1,none⟩=false:=by rw [<- h2];exact(t2.set 0 _).frozen 1
 have x3:(((W1.setCell ⟨gM+1,0,none⟩ (.slice Ad nd cd)).setCell ⟨gM+1+1,0,none⟩ (.int .i64 vc)).setCell ⟨gM+1+1,1,none⟩ (.slice Aq nq cq)).cell? ⟨gM+1+1+1,0,none⟩=some (.slice none 0 0):=by rw [<- h2,<- h3'];exact t3.bx 0 _ rfl
 have f3:(((W1.setCell ⟨gM+1,0,none⟩ (.slice Ad nd cd)).setCell ⟨gM+1+1,0,none⟩ (.int .i64 vc)).setCell ⟨gM+1+1,1,none⟩ (.slice Aq nq cq)).frozen? ⟨gM+1+1+1,0,none⟩=false:=by rw [<- h2,<- h3'];exact t3.frozen 0
 have HU:Hid (gM=w2.heap.size/\u1=w2.alloc (.cells #[.int .i64 0,.int .i64 0,.int .i64 0,.int .i64 0,.int .i64 0,.slice none 0 0,.int .i64 0,.int .i64 0,.int .i64 0,.int .i64 0,.int .i64 0,.slice none 0 0,.int .i64 0,.int .i64 0,.int .i64 0,.int .i64 0,.int .i64 0,.slice none 0 0,.int .i64 0,.int .i64 0,.int .i64 0,.int .i64 0,.int .i64 0,.slice none 0 0,.int .i64 0,.int .i64 0,.int .i64 0,.int .i64 0,.int .i64 0,.slice none 0 0] 28)/\u2=u1.alloc (.cells #[.slice none 0 0] 40)/\u3=u2.alloc (.cells #[.int .i64 0,.slice none 0 0] 43)/\u4=u3.alloc (.cells #[.slice none 0 0] 46)):=⟨hgM,hu1,hu2,hu3,hu4⟩
 have G1:=Lib.hid h1
 have G2:=Lib.hid h2
 have G3:=Lib.hid h3'
 have G4:=Lib.hid h4
 have kR4:Bk W4 w.heap.size 28 [.int .i64 0,.int .i64 0,.int .i64 0,.int .i64 0,.int .i64 0,.slice none 0 0,.int .i64 0,.int .i64 0,.int .i64 0,.int .i64 0,.int .i64 0,.slice none 0 0,.int .i64 0,.int .i64 0,.int .i64 0,.int .i64 0,.int .i64 0,.slice none 0 0,.int .i64 0,.int .i64 0,.int .i64 0,.int .i64 0,.int .i64 0,.slice none 0 0,.int .i64 0,.int .i64 0,.int .i64 0,.int .i64 0,.int .i64 0,.slice none 0 0]:=(hbw.block _ (by have:=kR.lt;omega)).trans kR
 have cu4:Cur W4 g:=cu2.low (by rw [hgM];exact cu2.lt) hbw
 have SM4:StS (rModel NB) (fun k=>k<=g) W4 cm m:=SM.step ⟨hbw.size,fun k _ hk=>hbw.block k (by omega)⟩
 have hB4:=hB.trans (hbw.mono (by rw [hgM];have:=kR.lt;omega))
 have hgM2:g<gM:=by rw [hgM];exact cu2.lt
 clear h1 h2 h3 h3' h4 hu1 hu2 hu3 hu4 hs1 hs2 hs3 c1 c2 c3 c4 r0 r1 r2 r3 bu hbz hbw t1 t2 t3 hgM kR cu2 SM hB
 go_wp2_with (refine wpList_store_mid rfl 28 _ _ rfl gM 0 cm.toArray (by rw [HU.out.1];rfl) rfl (by rw [<- HU.out.2.1,<- HU.out.2.2.1,<- HU.out.2.2.2.1,<- HU.out.2.2.2.2];exact TH) (by rw [hcz];exact sizeModelT) ON ?_;rw [<- HU.out.2.1,<- HU.out.2.2.1,<- HU.out.2.2.2.1,<- HU.out.2.2.2.2,<- HU.out.1,setCells_kit,List.toList_toArray,<- G1.out])
 rw [<- G2.out,<- G3.out,<- G4.out]
 clear G1 G2 G3 G4 HU x1 f1 x2 f2 x3 f3 x4 f4 TH
 refine(l1Below_c g 8 _ (by omega) cu4).mono ?_
 rintro e v1 ⟨k,rfl,⟨ka,_,kb⟩,cu5,ch5⟩
 have kc:=kb (by omega)
 have hwk:IntKind.i64.wrap (k - 1)=k - 1:=IntWalk.i64_in _ (by omega)
 have kI:I64 (k - 1):=⟨by omega,by omega⟩
 replace kM:Bk v1 gM 28 cm:=(ch5.block _ kM.lt (by simp;omega)).trans kM
 replace kR4:Bk v1 w.heap.size 28 [.int .i64 0,.int .i64 0,.int .i64 0,.int .i64 0,.int .i64 0,.slice none 0 0,.int .i64 0,.int .i64 0,.int .i64 0,.int .i64 0,.int .i64 0,.slice none 0 0,.int .i64 0,.int .i64 0,.int .i64 0,.int .i64 0,.int .i64 0,.slice none 0 0,.int .i64 0,.int .i64 0,.int .i64 0,.int .i64 0,.int .i64 0,.slice none 0 0,.int .i64 0,.int .i64 0,.int .i64 0,.int .i64 0,.int .i64 0,.slice none 0 0]:=(ch5.block _ kR4.lt (by simp;omega)).trans kR4
 replace SM4:=SM4.step (OutS.chg ch5 (by simp))
 replace hB4:=hB4.trans (ch5.toBelow hB4.size (by simp;omega))
 clear ch5 cu4 kb
 go_wp2_with fail
 refine(l1PickInt_c g _ 7 7 [0,1,4,16,64,5000,-1] _ (RS.lit v1 [0,1,4,16,64,5000,-1] _ (by simp) (by simp [I64])) cu5.ne (by omega) (cu5.alloc _)).mono ?_
 rintro e v2 ⟨x,rfl,hx,c6cu,c6⟩
 have xI:I64 x:=by simp at hx;unfold I64;omega
 replace c6:=c6.al
 replace kM:Bk v2 gM 28 cm:=(c6.block _ kM.lt (by simp;omega)).trans kM
 replace kR4:Bk v2 w.heap.size 28 [.int .i64 0,.int .i64 0,.int .i64 0,.int .i64 0,.int .i64 0,.slice none 0 0,.int .i64 0,.int .i64 0,.int .i64 0,.int .i64 0,.int .i64 0,.slice none 0 0,.int .i64 0,.int .i64 0,.int .i64 0,.int .i64 0,.int .i64 0,.slice none 0 0,.int .i64 0,.int .i64 0,.int .i64 0,.int .i64 0,.int .i64 0,.slice none 0 0,.int .i64 0,.int .i64 0,.int .i64 0,.int .i64 0,.int .i64 0,.slice none 0 0]:=(c6.block _ kR4.lt (by simp;omega)).trans kR4
 replace SM4:=SM4.step (OutS.chg c6 (by simp))
 replace hB4:=hB4.trans (c6.toBelow hB4.size (by simp;omega))
 clear hx c6
 have cu6:=c6cu
 clear c6cu cu5 hwk
 go_wp2_with fail
 refine(l1PickInt_c g _ 6 6 [0,1,4,16,64,5000] _ (RS.lit v2 [0,1,4,16,64,5000] _ (by simp) (by simp [I64])) cu6.ne (by omega) (cu6.alloc _)).mono ?_
 rintro e v3 ⟨y,rfl,hy,c7cu,c7⟩
 have yI:I64 y:=by simp at hy;unfold I64;omega
 replace c7:=c7.al
 replace kM:Bk v3 gM 28 cm:=(c7.block _ kM.lt (by simp;omega)).trans kM
 replace kR4:Bk v3 w.heap.size 28 [.int .i64 0,.int .i64 0,.int .i64 0,.int .i64 0,.int .i64 0,.slice none 0 0,.int .i64 0,.int .i64 0,.int .i64 0,.int .i64 0,.int .i64 0,.slice none 0 0,.int .i64 0,.int .i64 0,.int .i64 0,.int .i64 0,.int .i64 0,.slice none 0 0,.int .i64 0,.int .i64 0,.int .i64 0,.int .i64 0,.int .i64 0,.slice none 0 0,.int .i64 0,.int .i64 0,.int .i64 0,.int .i64 0,.int .i64 0,.slice none 0 0]:=(c7.block _ kR4.lt (by simp;omega)).trans kR4
 replace SM4:=SM4.step (OutS.chg c7 (by simp))
 replace hB4:=hB4.trans (c7.toBelow hB4.size (by simp;omega))
 clear hy c7
 have cu7:=c7cu
 clear c7cu cu6
 have HSS:Hid (∀ w':World,w'.heap[gM]?=v3.heap[gM]?->w'.rangeAt gM 0 cm):=by
  show ∀ w':World,_->_
  intro w' h
  exact Bk.rangeAt (t:=28) (h.trans kM)
 have hMl:=kM.lt
 go_upto_region 5 with fail
 refine hbg HSS.out rfl (fun hHeld=>?_)
 refine' wpAnyH_take (i:=0) (oi:=⟨some 32,_,_,_,_,_⟩) (v:=_) rfl (by kernel_rfl) (by kernel_rfl) (by kernel_rfl) (fun _ _ _ h=>h) (yieldsIf_load_mid (by rfl) _ _ rfl _ _ rfl _ _ (fun w h=>h) Try.underlying28 rfl (by rw [lenm];exact sizeModelT)) hHeld ?_
 simp only [putS]
 refine tka 1 33 hHeld ?_;simp only [putS]
 refine tka 2 34 hHeld ?_;simp only [putS]
 refine tka 3 35 hHeld ?_;simp only [putS]
 refine tka 4 36 hHeld ?_;simp only [putS]
 refine rd 5 (some 37) fun K hK=>?_
 clear hHeld
 go_simp
 refine(l28Budget_c g _ (cu7.below (Below.refl _ _).drew)).mono ?_
 rintro e v4 ⟨z,rfl,zI,cu8,ch8⟩
 have CP:Chg [g] v3 v4:=(Chg.ofBelow (Below.refl _ _).drew _).trans ch8
 have XA:v4.heap[gM]?=v3.heap[gM]?:=CP.block _ hMl (by simp;omega)
 go_wp2_with fail
 refine hK.out _ _ (HSS.out _ XA) (fun hHeld=>?_)
 clear hK K
 try simp only [putS]
 have kR8:Bk v4 w.heap.size 28 [.int .i64 0,.int .i64 0,.int .i64 0,.int .i64 0,.int .i64 0,.slice none 0 0,.int .i64 0,.int .i64 0,.int .i64 0,.int .i64 0,.int .i64 0,.slice none 0 0,.int .i64 0,.int .i64 0,.int .i64 0,.int .i64 0,.int .i64 0,.slice none 0 0,.int .i64 0,.int .i64 0,.int .i64 0,.int .i64 0,.int .i64 0,.slice none 0 0,.int .i64 0,.int .i64 0,.int .i64 0,.int .i64 0,.int .i64 0,.slice none 0 0]:=(CP.block _ kR4.lt (by simp;omega)).trans kR4
 have SM8:=SM4.step (OutS.chg CP (by simp))
 have hB8:=hB4.trans (CP.toBelow hB4.size (by simp;omega))
 have TH:v4.there w.heap.size 0 cm.toArray.size:=by rw [hcz];exact kR8.there
 have bF:=kR8.fill (c:=cm) (by rw [lenm];rfl)
 have XB:(setCells v4 w.heap.size 0 cm).heap[gM]?=v3.heap[gM]?:=(setCells_other _ _ _ _ _ (by omega)).trans XA
 have SM9:=SM8.step (w':=setCells v4 w.heap.size 0 cm) ⟨by rw [setCells_size];exact Nat.le_refl _,fun k hk _=>setCells_other _ _ _ _ _ (by omega)⟩
 have hB9:=Below.setCells hB8 (Nat.le_refl _) 0 cm
 refine rd 6 none fun K hK=>?_
 clear hHeld
 rw [if_pos (by rfl)]
 refine wp_store_mid 28 _ _ rfl w.heap.size 0 cm.toArray rfl rfl TH (by rw [hcz];exact sizeModelT) ON ?_
 rw [setCells_kit,List.toList_toArray]
 refine hK.out _ _ (HSS.out _ XB) (fun hHeld=>?_)
 clear hK K
 try simp only [putS]
 refine rd 7 (some 3) fun K hK=>?_
 clear hHeld
 go_simp
 refine hK.out _ _ (HSS.out _ XB) (fun hHeld=>?_)
 clear hK K
 try simp only [putS]
 refine rd 8 (some 4) fun K hK=>?_
 clear hHeld
 go_simp
 refine hK.out _ _ (HSS.out _ XB) (fun hHeld=>?_)
 clear hK K
 try simp only [putS]
 refine rd 9 (some 5) fun K hK=>?_
 clear hHeld
 go_simp
 refine hK.out _ _ (HSS.out _ XB) (fun hHeld=>?_)
 clear hK K
 try simp only [putS]
 refine rd 10 (some 6) fun K hK=>?_
 clear hHeld
 go_simp
 refine hK.out _ _ (HSS.out _ XB) (fun hHeld=>?_)
 clear hK K
 try simp only [putS]
 refine wpAnyH_done (by kernel_rfl) ?_ _
 clear hHeld
 go_wp2
 refine bodyPost_ret (results_ctttt Try.results5 (RC.mk' rfl bF.rangeAt Try.underlying28 rfl (by rw [lenm];exact sizeModelT)) rfl rfl rfl rfl) rfl ?_
 exact⟨m,cm,k - 1,x,y,z,rfl,SM9.rep,kI,xI,yI,zI,hB9⟩
end Go.Proofs.Ytjckbnmbhgikjaa
