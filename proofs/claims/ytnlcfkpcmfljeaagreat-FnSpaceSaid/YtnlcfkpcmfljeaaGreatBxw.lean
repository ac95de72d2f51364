/-
  Bxw
-/
import Derived.Test.YtnlcfkpcmfljeaaGreatMid
import Derived.Test.YtnlcfkpcmfljeaaGreatJss
import Derived.Test.YtnlcfkpcmfljeaaGreatTbp
set_option linter.unusedSimpArgs false
set_option linter.unusedVariables false
set_option maxHeartbeats 6400000
set_option maxRecDepth 100000
namespace Go.Proofs.YtnlcfkpcmfljeaaGreat
open Go.RowKit
theorem neB1:(36:TypeId)≠3:=by decide
structure Bxl (w0:World) (g gO:Nat) (lo hi:List Int) (AL:Option Addr) (nL cL:Nat) (AH:Option Addr) (nH cH:Nat) (wr:World):Prop where
 kO:Bk wr gO 36 [.slice AL nL cL,.slice AH nH cH]
 mL:MS w0.heap.size NB 3 rInt wr AL nL cL lo
 mH:MS w0.heap.size NB 3 rInt wr AH nH cH hi
 dj:∀ k∈blk AL,k∉blk AH
 cur:Cur wr g
 chg:Chg [g] w0 wr
section
variable {w0 wr w' wA:World} {g gO:Nat} {lo hi lo' hi':List Int} {AL AH A':Option Addr} {nL cL nH cH n' c':Nat}
theorem Bxl.step (h:Bxl w0 g gO lo hi AL nL cL AH nH cH wr) (hg:g<w0.heap.size) (hO:w0.heap.size<=gO) (hc:Chg [g] wr w') (cu:Cur w' g):Bxl w0 g gO lo hi AL nL cL AH nH cH w' :=
 ⟨(hc.block _ h.kO.lt (by simp;omega)).trans h.kO,h.mL.keepI (fun k hk=>hc.block k (h.mL.bI.2 k hk).2 (by have:=(h.mL.bI.2 k hk).1;simp;omega)),h.mH.keepI (fun k hk=>hc.block k (h.mH.bI.2 k hk).2 (by have:=(h.mH.bI.2 k hk).1;simp;omega)),h.dj,cu,h.chg.trans hc⟩
theorem Bxl.below (h:Bxl w0 g gO lo hi AL nL cL AH nH cH wr) (hb:Below wr.heap.size wr w'):Bxl w0 g gO lo hi AL nL cL AH nH cH w' :=
 ⟨h.kO.below hb,h.mL.below rInt_ok hb,h.mH.below rInt_ok hb,h.dj,h.cur.below hb,h.chg.trans (Chg.ofBelow hb _)⟩
theorem Chg.low {w0 wA w':World}{g:Nat}(h:Chg [g] w0 wA) (hb:Below w0.heap.size wA w'):Chg [g] w0 w' :=
 ⟨hb.os.trans h.os,hb.tape.trans h.tape,hb.output.trans h.output,Nat.le_trans h.size hb.size,fun k hk hn=>(hb.block k hk).trans (h.block k hk hn)⟩
theorem Bxl.appL (h:Bxl w0 g gO lo hi AL nL cL AH nH cH wA) (hg0:g<w0.heap.size) (hO:w0.heap.size<=gO) (hm:MS w0.heap.size NB 3 rInt w' A' n' c' lo') (hb:Below w0.heap.size wA w') (hgr:wA.grownBy w' (AL.map (·.block)))
  (hA:A'.map (·.block)=AL.map (·.block)\/A'.map (·.block)=some wA.heap.size) :
  Bk w' gO 36 [.slice AL nL cL,.slice AH nH cH]/\Bxl w0 g gO lo' hi A' n' c' AH nH cH (w'.setCell ⟨gO,0,none⟩ (.slice A' n' c')):=by
 have n1:=osI_ne h.mL.bI.1 h.kO neB1;have k1:Bk w' gO 36 [.slice AL nL cL,.slice AH nH cH]:=(hgr.block gO h.kO.lt (fun e=>n1 (mem_blk.2 e.symm))).trans h.kO;have m2:MS w0.heap.size NB 3 rInt w' AH nH cH hi:=h.mH.keepI (fun k hk=>hgr.block k (h.mH.bI.2 k hk).2 (fun e=>h.dj k (mem_blk.2 e.symm) hk))
 have d2:∀ k∈blk A',k∉blk AH:=by
  intro k hk hk2;have h1:=mem_blk.1 hk;rcases hA with e|e
  ·exact h.dj k (mem_blk.2 (e▸h1)) hk2
  ·rw [e]at h1;injection h1 with h1;have:=(h.mH.bI.2 k hk2).2;omega
 have hs:∀ k,k≠gO->(w'.setCell ⟨gO,0,none⟩ (.slice A' n' c')).heap[k]?=w'.heap[k]?:=fun k hk=>heap_setCell_other _ _ _ _ (fun e=>hk e);have b2:Below w0.heap.size w' (w'.setCell ⟨gO,0,none⟩ (.slice A' n' c')):=(Below.refl _ _).setCell hO _;have n2:=osI_ne hm.bI.1 k1 neB1;have n3:=osI_ne m2.bI.1 k1 neB1;exact⟨k1,k1.set 0 _,hm.keepI (fun k hk=>hs k (fun e=>n2 (e▸hk))),m2.keepI (fun k hk=>hs k (fun e=>n3 (e▸hk))),d2,(h.cur.low hg0 hb).low hg0 b2,(h.chg.low hb).low b2⟩
theorem Bxl.appH (h:Bxl w0 g gO lo hi AL nL cL AH nH cH wA) (hg0:g<w0.heap.size) (hO:w0.heap.size<=gO) (hm:MS w0.heap.size NB 3 rInt w' A' n' c' hi') (hb:Below w0.heap.size wA w') (hgr:wA.grownBy w' (AH.map (·.block)))
  (hA:A'.map (·.block)=AH.map (·.block)\/A'.map (·.block)=some wA.heap.size) :
  Bk w' gO 36 [.slice AL nL cL,.slice AH nH cH]/\Bxl w0 g gO lo hi' AL nL cL A' n' c' (w'.setCell ⟨gO,1,none⟩ (.slice A' n' c')):=by
 have n1:=osI_ne h.mH.bI.1 h.kO neB1;have k1:Bk w' gO 36 [.slice AL nL cL,.slice AH nH cH]:=(hgr.block gO h.kO.lt (fun e=>n1 (mem_blk.2 e.symm))).trans h.kO;have m2:MS w0.heap.size NB 3 rInt w' AL nL cL lo:=h.mL.keepI (fun k hk=>hgr.block k (h.mL.bI.2 k hk).2 (fun e=>h.dj k hk (mem_blk.2 e.symm)))
 have d2:∀ k∈blk AL,k∉blk A':=by
  intro k hk2 hk;have h1:=mem_blk.1 hk;rcases hA with e|e
  ·exact h.dj k hk2 (mem_blk.2 (e▸h1))
  ·rw [e]at h1;injection h1 with h1;have:=(h.mL.bI.2 k hk2).2;omega
 have hs:∀ k,k≠gO->(w'.setCell ⟨gO,1,none⟩ (.slice A' n' c')).heap[k]?=w'.heap[k]?:=fun k hk=>heap_setCell_other _ _ _ _ (fun e=>hk e);have b2:Below w0.heap.size w' (w'.setCell ⟨gO,1,none⟩ (.slice A' n' c')):=(Below.refl _ _).setCell hO _;have n2:=osI_ne hm.bI.1 k1 neB1;have n3:=osI_ne m2.bI.1 k1 neB1;exact⟨k1,k1.set 1 _,m2.keepI (fun k hk=>hs k (fun e=>n3 (e▸hk))),hm.keepI (fun k hk=>hs k (fun e=>n2 (e▸hk))),d2,(h.cur.low hg0 hb).low hg0 b2,(h.chg.low hb).low b2⟩
end
theorem Bxl.own {w1 wr:World}{g gO:Nat}{lo hi:List Int}{AL AH:Option Addr}{nL cL nH cH:Nat}(h:Bxl w1 g gO lo hi AL nL cL AH nH cH wr):∃ fp,(rBox NB).own wr fp [.slice AL nL cL,.slice AH nH cH] ⟨lo,hi⟩/\Fr w1.heap.size fp:=by
 have o1:=h.mL.bI;have o2:=h.mH.bI;refine⟨blk AL++blk AH,rBox_own.2 ⟨AL,nL,cL,AH,nH,cH,blk AL,blk AH,rfl,rfl,o1.1,o2.1⟩,⟨List.nodup_append.2 ⟨by cases AL<;>simp [blk],by cases AH<;>simp [blk],fun p hp q hq e=>h.dj p hp (e▸hq)⟩,fun q hq=>?_⟩⟩;rcases List.mem_append.1 hq with hq|hq
 ·exact(o1.2 q hq).1
 ·exact(o2.2 q hq).1
theorem Bxl.setH {w1 W:World}{g gO gH:Nat}{lo hi:List Int}{AL:Option Addr}{nL cL nH cH:Nat}(h:Bxl w1 g gO lo hi AL nL cL (some ⟨gH,0,none⟩) nH cH W) (hg0:g<w1.heap.size) (k:Nat) {x:Int}(hx:I64 x) :
  Bxl w1 g gO lo (hi.set k x) AL nL cL (some ⟨gH,0,none⟩) nH cH (W.setCell ⟨gH,k,none⟩ (.int .i64 x)):=by
 have n1:=osI_ne h.mH.bI.1 h.kO neB1;have hB:=(h.mH.bI.2 gH (by simp [blk])).1;have hs:∀ z,z≠gH->(W.setCell ⟨gH,k,none⟩ (.int .i64 x)).heap[z]?=W.heap[z]?:=fun z hz=>heap_setCell_other _ _ _ _ (fun e=>hz e);have b2:Below w1.heap.size W (W.setCell ⟨gH,k,none⟩ (.int .i64 x)):=(Below.refl _ _).setCell hB _;exact⟨(hs gO (fun e=>n1 (by rw [e];simp [blk]))).trans h.kO,h.mL.keepI (fun z hz=>hs z (fun e=>h.dj z hz (by rw [e];simp [blk]))),h.mH.set k hx,h.dj,h.cur.low hg0 b2,h.chg.low b2⟩
attribute [local go_sem ↓] Go.wp_at_zero Go.wp_at_succ
theorem sizeBoxT2:(Tryz.prog.info? 36).map (·.size)=some 2:=by kernel_rfl
theorem lbx_fin {w w2 W:World}{g gO:Nat}{lo hi:List Int}{AL AH:Option Addr}{nL cL nH cH:Nat}(h:Bxl w2 g gO lo hi AL nL cL AH nH cH W) (hs:w2.heap.size=w.heap.size+1+1) (hc:Chg [g] w w2) (hg:g<w.heap.size) (v1 v2:Value) :
  DrawnV (rBox NB) (fun _=>True) g w (.returned (.agg #[.slice AL nL cL,.slice AH nH cH])) (set2 W (w.heap.size+1) v1 v2):=by
 obtain⟨fp,o,f⟩:=h.own;have b2:Below w.heap.size W (set2 W (w.heap.size+1) v1 v2):=bls2 (Below.refl w.heap.size W) (Nat.le_succ _) v1 v2;exact⟨⟨lo,hi⟩,[.slice AL nL cL,.slice AH nH cH],fp,rfl,own_set2 (rBox_ok NB) o (f.mono (by omega)) _ _,f.mono (by omega),trivial,h.cur.low hg b2,(hc.trans h.chg).low b2⟩
theorem l24Box_c (g:Nat) (q:QueryD) (Aq:Option Addr) (nq cq:Nat) (T:Nat) (w:World) (hc:Cur w g) (hgT:g<T) (hT:T<=w.heap.size) (hq:Stb (rQuery NB) T w [.int .i64 q.fVariableCount,.slice Aq nq cq] q) :
  Calls Tryz.prog 87 #[.pointer (some ⟨g,0,none⟩),.agg #[.int .i64 q.fVariableCount,.slice Aq nq cq]] w (DrawnV (rBox NB) (fun _=>True) g w):=by
 have hgw:=hc.lt;obtain⟨w1,hw1⟩:∃ W,W=w.alloc (.cells #[.int .i64 q.fVariableCount,.slice Aq nq cq] 50):=⟨_,rfl⟩;obtain⟨w2,hw2⟩:∃ W,W=w1.alloc (.cells #[.slice none 0 0,.slice none 0 0] 36):=⟨_,rfl⟩;obtain⟨w3,hw3⟩:∃ W,W=w2.alloc (.cells #[.slice none 0 0,.slice none 0 0] 36):=⟨_,rfl⟩;have hs1:w1.heap.size=w.heap.size+1:=by rw [hw1];simp
 have hs2:w2.heap.size=w.heap.size+1+1:=by rw [hw2];simp [hs1]
 have b1:Below w.heap.size w w1:=by rw [hw1];exact bal
 have b2:Below w1.heap.size w1 w2:=by rw [hw2];exact bal
 have b3:Below w2.heap.size w2 w3:=by rw [hw3];exact bal
 have kQ:Bk w2 w.heap.size 50 [.int .i64 q.fVariableCount,.slice Aq nq cq]:=Bk.below (w:=w1) (by rw [hw1];exact Bk.new w _ _) b2;have kR:Bk w2 (w.heap.size+1) 36 [.slice none 0 0,.slice none 0 0]:=by rw [hw2,<- hs1];exact Bk.new w1 _ _
 have b12:Below w.heap.size w w2:=b1.trans (b2.mono b1.size);have C2:Chg [g] w w2:=Chg.ofBelow b12 _;have cu3:=((hc.below b1).below b2).below b3
 have J0:Bxl w2 g (w.heap.size+1+1) [] [] none 0 0 none 0 0 w3 :=
  ⟨by rw [hw3,<- hs2];exact Bk.new w2 _ _,MS.nil _ (Nat.zero_le _),MS.nil _ (Nat.zero_le _),fun k hk=>(by cases hk),cu3,Chg.ofBelow b3 _⟩
 have HO2:Hid (∀ W,Chg [g] w2 W->(rQuery NB).rep W [.int .i64 q.fVariableCount,.slice Aq nq cq] q):=by
  show ∀ W,_->_;exact fun W h=>hq W ((Out.chg C2 (by simp;omega)).trans (Out.chg h (by simp;omega)))
 have HK:Hid (∀ W,Chg [g] w2 W->Bk W w.heap.size 50 [.int .i64 q.fVariableCount,.slice Aq nq cq]/\Bk W (w.heap.size+1) 36 [.slice none 0 0,.slice none 0 0]):=by
  show ∀ W,_->_;exact fun W h=>⟨(h.block _ kQ.lt (by simp;omega)).trans kQ,(h.block _ kR.lt (by simp;omega)).trans kR⟩
 have HG:Hid (g<w2.heap.size):=by show _<_;omega
 have HO:Hid (w2.heap.size<=w.heap.size+1+1):=by show _<=_;omega
 have HGW:=Lib.hid hgw;have HC2:=Lib.hid C2;have HS2:=Lib.hid hs2;clear hs1 hs2 b1 b2 b3 b12 kQ kR C2 cu3 hq hc hgT hT;obtain⟨F,hF⟩:∃ v,fullMask q=v:=⟨_,rfl⟩;have hF15:0<=F/\F<=15:=by rw [<- hF];exact⟨by unfold fullMask;split<;>(have:=Nat.one_le_two_pow (n:=q.fAtoms.length);omega),fm15 q⟩
 have HF:=Lib.hid hF;clear hF hgw
 go_enter Tryz.func87,Tryz.ntmps87
 go_upto_region 2 with fail
 rw [<- hw1,<- hw2,<- hw3];clear hw1 hw2 hw3
 go_wp2_with fail
 go_loopw [6,7] (fun ov iv wr=>∃ (k:Nat) (z:Int) (lo hi:List Int) (AL AH:Option Addr) (nL cL nH cH:Nat),(k:Int)<=F+1/\ov=.int .i64 z/\0<=z/\z<=3/\iv=.int .i64 (k:Int)/\lo.length=k/\hi.length=k/\Bxl w2 g (w.heap.size+1+1) lo hi AL nL cL AH nH cH wr) (fun _ i _=>(F+1).toNat - (intOf i).toNat)
 case atStart=>exact⟨0,0,[],[],none,none,0,0,0,0,by omega,rfl,by omega,by omega,rfl,rfl,rfl,J0⟩
 case round =>
  clear J0;obtain⟨k,z,lo,hi,AL,AH,nL,cL,nH,cH,hk,rfl,hz0,hz3,rfl,hlo,hhi,J⟩:=hrel;have hnL:nL=k:=by rw [<- J.mL.len,hlo]
  have hnH:nH=k:=by rw [<- J.mH.len,hhi]
  subst hnL;subst hnH;have HLo:=Lib.hid hlo;have HHi:=Lib.hid hhi;clear hlo hhi;have ⟨q0,q1⟩:=(HK.out wr J.chg).1.bx.b2
  go_wp2_with fail
  refine(sFullMask_c _ q wr (HO2.out wr J.chg)).mono ?_;rintro e w4 ⟨rfl,hb4⟩;rw [HF.out];have J4:=J.below hb4;clear q0 q1 J hb4;by_cases hlt:(nH:Int)<=F
  ·have hwm:IntKind.i64.wrap ((nH:Int) - 1)=(nH:Int) - 1:=IntWalk.i64_in _ (by omega)
   have hpN:decide (0<nH)=decide (0<(nH:Int)):=by simp
   by_cases hb2:bits .and .i64 (nH:Int) ((nH:Int) - 1)=0
   ·by_cases hp:0<nH
    ·go_wp2_with fail
     refine(l1Below_c g 3 w4 (by omega) J4.cur).mono ?_;rintro e w5 ⟨x,rfl,⟨x0,_,x1⟩,cu5,ch5⟩;have x2:=x1 (by omega);have J6:=J4.step HG.out HO.out ch5 cu5;clear x1 ch5 cu5 J4;have J5:=J6;clear J6;have HG2:=HG.out;have szW:=J5.chg.size;have ko:=J5.kO.bx 0 _ rfl;have hbz:nH+1<=NB:=by unfold NB;omega
     have hbb:(nH+1)*8<=140737488355328:=by omega
     have hxI2:I64 (x):=by unfold I64;omega
     have hyI2:I64 (x):=by unfold I64;omega
     go_upto_region 18 with (at_builtin;refine wpList_appB (r:=rInt) rfl _ _ 30 rfl _ 8 eiInt rInt_ok rfl J5.mL (bal) szW ⟨w5.heap.size,0,none⟩ rfl [] [.int .i64 (x)] (x) ⟨rfl,rfl,hxI2⟩ (Fr.nil _) (cell_one_new _ _ _) hbz (Nat.le_refl _) hbb ?_;intro Au cu yu hMu hbu hgu hAu;obtain⟨ku,Ju⟩:=(J5.below ((Below.refl _ _).alloc (Nat.le_refl _) (.cells #[.int .i64 (x)] 3))).appL HG.out HO.out hMu hbu hgu hAu;have fu:=ku.frozen 0;have xu:=ku.bx 0 _ rfl)
     obtain⟨W6,hW6⟩:∃ W,W=yu.setCell ⟨w.heap.size+1+1,0,none⟩ (.slice Au (nH+1) cu):=⟨_,rfl⟩;rw [<- hW6]at Ju ⊢;clear hW6 fu xu ku hMu hbu hgu hAu J5 ko szW;have szW:=Ju.chg.size;have ko:=Ju.kO.bx 1 _ rfl
     go_wp2_with (at_builtin;refine wpList_appB (r:=rInt) rfl _ _ 30 rfl _ 8 eiInt rInt_ok rfl Ju.mH (bal) szW ⟨W6.heap.size,0,none⟩ rfl [] [.int .i64 (x)] (x) ⟨rfl,rfl,hyI2⟩ (Fr.nil _) (cell_one_new _ _ _) hbz (Nat.le_refl _) hbb ?_;intro Av cv yv hMv hbv hgv hAv;obtain⟨kv,Jv⟩:=(Ju.below ((Below.refl _ _).alloc (Nat.le_refl _) (.cells #[.int .i64 (x)] 3))).appH HG.out HO.out hMv hbv hgv hAv;have fv:=kv.frozen 1;have xv:=kv.bx 1 _ rfl)
     go_roundw
     case rel=>exact⟨nH+1,(z),lo++[(x)],hi++[(x)],_,_,_,_,_,_,by omega,rfl,by omega,by omega,by go_num,by simp [HLo.out],by simp [HHi.out],Jv⟩
     case measure=>simp [intOf];omega
    ·have J6:=J4
     clear J4;have J5:=J6;clear J6;have HG2:=HG.out;have szW:=J5.chg.size;have ko:=J5.kO.bx 0 _ rfl;have hbz:nH+1<=NB:=by unfold NB;omega
     have hbb:(nH+1)*8<=140737488355328:=by omega
     have hxI2:I64 (0):=by unfold I64;omega
     have hyI2:I64 (0):=by unfold I64;omega
     go_upto_region 18 with (at_builtin;refine wpList_appB (r:=rInt) rfl _ _ 30 rfl _ 8 eiInt rInt_ok rfl J5.mL (bal) szW ⟨w4.heap.size,0,none⟩ rfl [] [.int .i64 (0)] (0) ⟨rfl,rfl,hxI2⟩ (Fr.nil _) (cell_one_new _ _ _) hbz (Nat.le_refl _) hbb ?_;intro Au cu yu hMu hbu hgu hAu;obtain⟨ku,Ju⟩:=(J5.below ((Below.refl _ _).alloc (Nat.le_refl _) (.cells #[.int .i64 (0)] 3))).appL HG.out HO.out hMu hbu hgu hAu;have fu:=ku.frozen 0;have xu:=ku.bx 0 _ rfl)
     obtain⟨W6,hW6⟩:∃ W,W=yu.setCell ⟨w.heap.size+1+1,0,none⟩ (.slice Au (nH+1) cu):=⟨_,rfl⟩;rw [<- hW6]at Ju ⊢;clear hW6 fu xu ku hMu hbu hgu hAu J5 ko szW;have szW:=Ju.chg.size;have ko:=Ju.kO.bx 1 _ rfl
     go_wp2_with (at_builtin;refine wpList_appB (r:=rInt) rfl _ _ 30 rfl _ 8 eiInt rInt_ok rfl Ju.mH (bal) szW ⟨W6.heap.size,0,none⟩ rfl [] [.int .i64 (0)] (0) ⟨rfl,rfl,hyI2⟩ (Fr.nil _) (cell_one_new _ _ _) hbz (Nat.le_refl _) hbb ?_;intro Av cv yv hMv hbv hgv hAv;obtain⟨kv,Jv⟩:=(Ju.below ((Below.refl _ _).alloc (Nat.le_refl _) (.cells #[.int .i64 (0)] 3))).appH HG.out HO.out hMv hbv hgv hAv;have fv:=kv.frozen 1;have xv:=kv.bx 1 _ rfl)
     go_roundw
     case rel=>exact⟨nH+1,(z),lo++[(0)],hi++[(0)],_,_,_,_,_,_,by omega,rfl,by omega,by omega,by go_num,by simp [HLo.out],by simp [HHi.out],Jv⟩
     case measure=>simp [intOf];omega
   ·by_cases hp:0<nH
    ·have ⟨q0,q1⟩:=(HK.out w4 J4.chg).1.bx.b2
     go_wp2_with fail
     refine(sIsConnected_c _ q (nH:Int) w4 (HO2.out w4 J4.chg)).mono ?_;rintro e w5 ⟨rfl,hb5⟩;have J6:=J4.below hb5;obtain⟨v2,hv2⟩:∃ v,isConn q (nH:Int)=v:=⟨_,rfl⟩;rw [hv2];clear hv2 q0 q1 hb5 J4;cases v2
     ·skip
      have J5:=J6;clear J6;have HG2:=HG.out;have szW:=J5.chg.size;have ko:=J5.kO.bx 0 _ rfl;have hbz:nH+1<=NB:=by unfold NB;omega
      have hbb:(nH+1)*8<=140737488355328:=by omega
      have hxI2:I64 (0):=by unfold I64;omega
      have hyI2:I64 (0):=by unfold I64;omega
      go_upto_region 18 with (at_builtin;refine wpList_appB (r:=rInt) rfl _ _ 30 rfl _ 8 eiInt rInt_ok rfl J5.mL (bal) szW ⟨w5.heap.size,0,none⟩ rfl [] [.int .i64 (0)] (0) ⟨rfl,rfl,hxI2⟩ (Fr.nil _) (cell_one_new _ _ _) hbz (Nat.le_refl _) hbb ?_;intro Au cu yu hMu hbu hgu hAu;obtain⟨ku,Ju⟩:=(J5.below ((Below.refl _ _).alloc (Nat.le_refl _) (.cells #[.int .i64 (0)] 3))).appL HG.out HO.out hMu hbu hgu hAu;have fu:=ku.frozen 0;have xu:=ku.bx 0 _ rfl)
      obtain⟨W6,hW6⟩:∃ W,W=yu.setCell ⟨w.heap.size+1+1,0,none⟩ (.slice Au (nH+1) cu):=⟨_,rfl⟩;rw [<- hW6]at Ju ⊢;clear hW6 fu xu ku hMu hbu hgu hAu J5 ko szW;have szW:=Ju.chg.size;have ko:=Ju.kO.bx 1 _ rfl
      go_wp2_with (at_builtin;refine wpList_appB (r:=rInt) rfl _ _ 30 rfl _ 8 eiInt rInt_ok rfl Ju.mH (bal) szW ⟨W6.heap.size,0,none⟩ rfl [] [.int .i64 (0)] (0) ⟨rfl,rfl,hyI2⟩ (Fr.nil _) (cell_one_new _ _ _) hbz (Nat.le_refl _) hbb ?_;intro Av cv yv hMv hbv hgv hAv;obtain⟨kv,Jv⟩:=(Ju.below ((Below.refl _ _).alloc (Nat.le_refl _) (.cells #[.int .i64 (0)] 3))).appH HG.out HO.out hMv hbv hgv hAv;have fv:=kv.frozen 1;have xv:=kv.bx 1 _ rfl)
      go_roundw
      case rel=>exact⟨nH+1,(z),lo++[(0)],hi++[(0)],_,_,_,_,_,_,by omega,rfl,by omega,by omega,by go_num,by simp [HLo.out],by simp [HHi.out],Jv⟩
      case measure=>simp [intOf];omega
     ·go_wp2_with fail
      refine(l1Below_c g 3 w5 (by omega) J6.cur).mono ?_;rintro e w6 ⟨x,rfl,⟨x0,_,x1⟩,cu6,ch6⟩;have x2:=x1 (by omega);have J7:=J6.step HG.out HO.out ch6 cu6;clear x1 ch6 cu6 J6;by_cases hz:z<3
      ·go_wp2_with fail
       refine(l1Once_c g 4 w6 (by omega) J7.cur).mono ?_;rintro e w7 ⟨b,rfl,cu7,ch7⟩;have J8:=J7.step HG.out HO.out ch7 cu7;clear ch7 cu7 J7;cases b
       ·go_wp2_with fail
        refine(l1Below_c g 3 w7 (by omega) J8.cur).mono ?_;rintro e w8 ⟨y,rfl,⟨y0,_,y1⟩,cu8,ch8⟩;have y2:=y1 (by omega);have J9:=J8.step HG.out HO.out ch8 cu8;clear y1 ch8 cu8 J8;have e1:IntKind.i64.wrap (x+1)=x+1:=IntWalk.i64_in _ (by omega);have e2:IntKind.i64.wrap (x+1+y)=x+1+y:=IntWalk.i64_in _ (by omega);have e3:IntKind.i64.wrap (z+1)=z+1:=IntWalk.i64_in _ (by omega);have J5:=J9;clear J9;have HG2:=HG.out;have szW:=J5.chg.size;have ko:=J5.kO.bx 0 _ rfl;have hbz:nH+1<=NB:=by unfold NB;omega
        have hbb:(nH+1)*8<=140737488355328:=by omega
        have hxI2:I64 (x):=by unfold I64;omega
        have hyI2:I64 (x+1+y):=by unfold I64;omega
        go_upto_region 18 with (at_builtin;refine wpList_appB (r:=rInt) rfl _ _ 30 rfl _ 8 eiInt rInt_ok rfl J5.mL (bal) szW ⟨w8.heap.size,0,none⟩ rfl [] [.int .i64 (x)] (x) ⟨rfl,rfl,hxI2⟩ (Fr.nil _) (cell_one_new _ _ _) hbz (Nat.le_refl _) hbb ?_;intro Au cu yu hMu hbu hgu hAu;obtain⟨ku,Ju⟩:=(J5.below ((Below.refl _ _).alloc (Nat.le_refl _) (.cells #[.int .i64 (x)] 3))).appL HG.out HO.out hMu hbu hgu hAu;have fu:=ku.frozen 0;have xu:=ku.bx 0 _ rfl)
        obtain⟨W6,hW6⟩:∃ W,W=yu.setCell ⟨w.heap.size+1+1,0,none⟩ (.slice Au (nH+1) cu):=⟨_,rfl⟩;rw [<- hW6]at Ju ⊢;clear hW6 fu xu ku hMu hbu hgu hAu J5 ko szW;have szW:=Ju.chg.size;have ko:=Ju.kO.bx 1 _ rfl
        go_wp2_with (at_builtin;refine wpList_appB (r:=rInt) rfl _ _ 30 rfl _ 8 eiInt rInt_ok rfl Ju.mH (bal) szW ⟨W6.heap.size,0,none⟩ rfl [] [.int .i64 (x+1+y)] (x+1+y) ⟨rfl,rfl,hyI2⟩ (Fr.nil _) (cell_one_new _ _ _) hbz (Nat.le_refl _) hbb ?_;intro Av cv yv hMv hbv hgv hAv;obtain⟨kv,Jv⟩:=(Ju.below ((Below.refl _ _).alloc (Nat.le_refl _) (.cells #[.int .i64 (x+1+y)] 3))).appH HG.out HO.out hMv hbv hgv hAv;have fv:=kv.frozen 1;have xv:=kv.bx 1 _ rfl)
        go_roundw
        case rel=>exact⟨nH+1,(z+1),lo++[(x)],hi++[(x+1+y)],_,_,_,_,_,_,by omega,rfl,by omega,by omega,by go_num,by simp [HLo.out],by simp [HHi.out],Jv⟩
        case measure=>simp [intOf];omega
       ·skip
        have J5:=J8;clear J8;have HG2:=HG.out;have szW:=J5.chg.size;have ko:=J5.kO.bx 0 _ rfl;have hbz:nH+1<=NB:=by unfold NB;omega
        have hbb:(nH+1)*8<=140737488355328:=by omega
        have hxI2:I64 (x):=by unfold I64;omega
        have hyI2:I64 (x):=by unfold I64;omega
        go_upto_region 18 with (at_builtin;refine wpList_appB (r:=rInt) rfl _ _ 30 rfl _ 8 eiInt rInt_ok rfl J5.mL (bal) szW ⟨w7.heap.size,0,none⟩ rfl [] [.int .i64 (x)] (x) ⟨rfl,rfl,hxI2⟩ (Fr.nil _) (cell_one_new _ _ _) hbz (Nat.le_refl _) hbb ?_;intro Au cu yu hMu hbu hgu hAu;obtain⟨ku,Ju⟩:=(J5.below ((Below.refl _ _).alloc (Nat.le_refl _) (.cells #[.int .i64 (x)] 3))).appL HG.out HO.out hMu hbu hgu hAu;have fu:=ku.frozen 0;have xu:=ku.bx 0 _ rfl)
        obtain⟨W6,hW6⟩:∃ W,W=yu.setCell ⟨w.heap.size+1+1,0,none⟩ (.slice Au (nH+1) cu):=⟨_,rfl⟩;rw [<- hW6]at Ju ⊢;clear hW6 fu xu ku hMu hbu hgu hAu J5 ko szW;have szW:=Ju.chg.size;have ko:=Ju.kO.bx 1 _ rfl
        go_wp2_with (at_builtin;refine wpList_appB (r:=rInt) rfl _ _ 30 rfl _ 8 eiInt rInt_ok rfl Ju.mH (bal) szW ⟨W6.heap.size,0,none⟩ rfl [] [.int .i64 (x)] (x) ⟨rfl,rfl,hyI2⟩ (Fr.nil _) (cell_one_new _ _ _) hbz (Nat.le_refl _) hbb ?_;intro Av cv yv hMv hbv hgv hAv;obtain⟨kv,Jv⟩:=(Ju.below ((Below.refl _ _).alloc (Nat.le_refl _) (.cells #[.int .i64 (x)] 3))).appH HG.out HO.out hMv hbv hgv hAv;have fv:=kv.frozen 1;have xv:=kv.bx 1 _ rfl)
        go_roundw
        case rel=>exact⟨nH+1,(z),lo++[(x)],hi++[(x)],_,_,_,_,_,_,by omega,rfl,by omega,by omega,by go_num,by simp [HLo.out],by simp [HHi.out],Jv⟩
        case measure=>simp [intOf];omega
      ·skip
       have J5:=J7;clear J7;have HG2:=HG.out;have szW:=J5.chg.size;have ko:=J5.kO.bx 0 _ rfl;have hbz:nH+1<=NB:=by unfold NB;omega
       have hbb:(nH+1)*8<=140737488355328:=by omega
       have hxI2:I64 (x):=by unfold I64;omega
       have hyI2:I64 (x):=by unfold I64;omega
       go_upto_region 18 with (at_builtin;refine wpList_appB (r:=rInt) rfl _ _ 30 rfl _ 8 eiInt rInt_ok rfl J5.mL (bal) szW ⟨w6.heap.size,0,none⟩ rfl [] [.int .i64 (x)] (x) ⟨rfl,rfl,hxI2⟩ (Fr.nil _) (cell_one_new _ _ _) hbz (Nat.le_refl _) hbb ?_;intro Au cu yu hMu hbu hgu hAu;obtain⟨ku,Ju⟩:=(J5.below ((Below.refl _ _).alloc (Nat.le_refl _) (.cells #[.int .i64 (x)] 3))).appL HG.out HO.out hMu hbu hgu hAu;have fu:=ku.frozen 0;have xu:=ku.bx 0 _ rfl)
       obtain⟨W6,hW6⟩:∃ W,W=yu.setCell ⟨w.heap.size+1+1,0,none⟩ (.slice Au (nH+1) cu):=⟨_,rfl⟩;rw [<- hW6]at Ju ⊢;clear hW6 fu xu ku hMu hbu hgu hAu J5 ko szW;have szW:=Ju.chg.size;have ko:=Ju.kO.bx 1 _ rfl
       go_wp2_with (at_builtin;refine wpList_appB (r:=rInt) rfl _ _ 30 rfl _ 8 eiInt rInt_ok rfl Ju.mH (bal) szW ⟨W6.heap.size,0,none⟩ rfl [] [.int .i64 (x)] (x) ⟨rfl,rfl,hyI2⟩ (Fr.nil _) (cell_one_new _ _ _) hbz (Nat.le_refl _) hbb ?_;intro Av cv yv hMv hbv hgv hAv;obtain⟨kv,Jv⟩:=(Ju.below ((Below.refl _ _).alloc (Nat.le_refl _) (.cells #[.int .i64 (x)] 3))).appH HG.out HO.out hMv hbv hgv hAv;have fv:=kv.frozen 1;have xv:=kv.bx 1 _ rfl)
       go_roundw
       case rel=>exact⟨nH+1,(z),lo++[(x)],hi++[(x)],_,_,_,_,_,_,by omega,rfl,by omega,by omega,by go_num,by simp [HLo.out],by simp [HHi.out],Jv⟩
       case measure=>simp [intOf];omega
    ·have J6:=J4
     clear J4;have J5:=J6;clear J6;have HG2:=HG.out;have szW:=J5.chg.size;have ko:=J5.kO.bx 0 _ rfl;have hbz:nH+1<=NB:=by unfold NB;omega
     have hbb:(nH+1)*8<=140737488355328:=by omega
     have hxI2:I64 (0):=by unfold I64;omega
     have hyI2:I64 (0):=by unfold I64;omega
     go_upto_region 18 with (at_builtin;refine wpList_appB (r:=rInt) rfl _ _ 30 rfl _ 8 eiInt rInt_ok rfl J5.mL (bal) szW ⟨w4.heap.size,0,none⟩ rfl [] [.int .i64 (0)] (0) ⟨rfl,rfl,hxI2⟩ (Fr.nil _) (cell_one_new _ _ _) hbz (Nat.le_refl _) hbb ?_;intro Au cu yu hMu hbu hgu hAu;obtain⟨ku,Ju⟩:=(J5.below ((Below.refl _ _).alloc (Nat.le_refl _) (.cells #[.int .i64 (0)] 3))).appL HG.out HO.out hMu hbu hgu hAu;have fu:=ku.frozen 0;have xu:=ku.bx 0 _ rfl)
     obtain⟨W6,hW6⟩:∃ W,W=yu.setCell ⟨w.heap.size+1+1,0,none⟩ (.slice Au (nH+1) cu):=⟨_,rfl⟩;rw [<- hW6]at Ju ⊢;clear hW6 fu xu ku hMu hbu hgu hAu J5 ko szW;have szW:=Ju.chg.size;have ko:=Ju.kO.bx 1 _ rfl
     go_wp2_with (at_builtin;refine wpList_appB (r:=rInt) rfl _ _ 30 rfl _ 8 eiInt rInt_ok rfl Ju.mH (bal) szW ⟨W6.heap.size,0,none⟩ rfl [] [.int .i64 (0)] (0) ⟨rfl,rfl,hyI2⟩ (Fr.nil _) (cell_one_new _ _ _) hbz (Nat.le_refl _) hbb ?_;intro Av cv yv hMv hbv hgv hAv;obtain⟨kv,Jv⟩:=(Ju.below ((Below.refl _ _).alloc (Nat.le_refl _) (.cells #[.int .i64 (0)] 3))).appH HG.out HO.out hMv hbv hgv hAv;have fv:=kv.frozen 1;have xv:=kv.bx 1 _ rfl)
     go_roundw
     case rel=>exact⟨nH+1,(z),lo++[(0)],hi++[(0)],_,_,_,_,_,_,by omega,rfl,by omega,by omega,by go_num,by simp [HLo.out],by simp [HHi.out],Jv⟩
     case measure=>simp [intOf];omega
  ·have hkF:0<nH:=by omega
   go_wp2_with fail
   refine(l1Once_c g 20 w4 (by omega) J4.cur).mono ?_;rintro e w5 ⟨b,rfl,cu5,ch5⟩;have J6:=J4.step HG.out HO.out ch5 cu5;clear ch5 cu5 J4;cases b
   ·skip
    have ⟨c0,c1⟩:=J6.kO.bx.b2;have kRW:=(HK.out w5 J6.chg).2;have ⟨r0,f0,r1,f1⟩:=kRW.r2;go_wp2;have k9:=(kRW.set 0 (.slice AL nH cL)).set 1 (.slice AH nH cH);refine bodyPost_ret (results_cell1 Tryz.results87 rfl k9.rangeAt Tryz.underlying36 rfl sizeBoxT2) rfl ?_;exact lbx_fin J6 HS2.out HC2.out HGW.out _ _
   ·obtain⟨gX,hA,hXl,hXB⟩:=J6.mH.form hkF
    subst hA;have HSS:=Lib.hid (fun (w':World) (h:∃ lo hi,Bxl w2 g (w.heap.size+1+1) lo hi AL nH cL (some ⟨gX,0,none⟩) nH cH w')=>(h.elim fun _ h=>h.elim fun _ h=>h.kO.bx 1 _ rfl:w'.cell? ⟨w.heap.size+1+1,1,none⟩=some (.slice (some ⟨gX,0,none⟩) nH cH)));have J3:=J6.below (Below.refl w5.heap.size w5).drew
    go_upto_region 20 with fail
    refine hbg HSS.out ⟨_,_,J3⟩ (fun hH=>?_);refine tq2 0 hH ?_;refine tq1 2 hH ?_;simp only [putS];have J8:=J3.below ((Below.refl _ _).alloc (Nat.le_refl _) (.cells #[.int .i64 (-1),.int .i64 7,.int .i64 8] 3));refine rd 3 (some 70) fun K hK=>?_;clear hH;go_simp;refine hK.out _ _ (HSS.out _ ⟨_,_,J8⟩) (fun hH=>?_);clear hK K
    try simp only [putS]
    refine rd 4 (some 71) fun K hK=>?_;clear hH;go_simp;refine(l1PickInt_c g _ 3 3 [-1,7,8] _ (RS.lit w5.drew [-1,7,8] _ (by simp) (by simp [I64])) J3.cur.ne (by omega) J8.cur).mono ?_;rintro e w6 ⟨v,rfl,hv,cu6,ch6⟩;have J5:=J8.step HG.out HO.out ch6 cu6;have hv2:-1<=v/\v<=8:=by simp at hv;omega
    go_wp2_with fail
    refine hK.out _ _ (HSS.out _ ⟨_,_,J5⟩) (fun hH=>?_);clear hK K
    try simp only [putS]
    refine tq1 5 hH ?_;simp only [putS];have hXc:=J5.mH.frozen 0;obtain⟨u,hu⟩:∃ u,w6.cell? ⟨gX,0,none⟩=some u:=by obtain⟨u,hu,_⟩:=J5.mH.celli (k:=0) hkF;exact⟨_,by simpa using hu⟩
    have J9:=J5.setH HG.out 0 (x:=v) ⟨by omega,by omega⟩;refine rd 6 none fun K hK=>?_;clear hH;go_simp;refine hK.out _ _ (HSS.out _ ⟨_,_,J9⟩) (fun hH=>?_);clear hK K
    try simp only [putS]
    refine wpAnyH_done (by kernel_rfl) ?_ _;clear hH;obtain⟨w7,hw7⟩:∃ W,W=w6.setCell ⟨gX,0,none⟩ (.int .i64 v):=⟨_,rfl⟩;rw [<- hw7]at J9 ⊢;clear HSS hu hw7 hXc J5 J8 J3 J6;have ⟨c0,c1⟩:=J9.kO.bx.b2;have kRW:=(HK.out w7 J9.chg).2;have ⟨r0,f0,r1,f1⟩:=kRW.r2;go_wp2;have k9:=(kRW.set 0 (.slice AL nH cL)).set 1 (.slice (some ⟨gX,0,none⟩) nH cH);refine bodyPost_ret (results_cell1 Tryz.results87 rfl k9.rangeAt Tryz.underlying36 rfl sizeBoxT2) rfl ?_;exact lbx_fin J9 HS2.out HC2.out HGW.out _ _
end Go.Proofs.YtnlcfkpcmfljeaaGreat
