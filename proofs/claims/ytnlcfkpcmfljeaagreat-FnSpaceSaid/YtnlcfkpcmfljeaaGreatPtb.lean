/-
  Ptb
-/
import Derived.Test.YtnlcfkpcmfljeaaGreatSpl
import Derived.Test.YtnlcfkpcmfljeaaGreatPtr
import Derived.Test.YtnlcfkpcmfljeaaGreatTbs
import Derived.Test.YtnlcfkpcmfljeaaGreatPii
set_option linter.unusedSimpArgs false
set_option linter.unusedVariables false
set_option maxHeartbeats 6400000
set_option maxRecDepth 100000
namespace Go.Proofs.YtnlcfkpcmfljeaaGreat
open Go.RowKit
attribute [local go_sem ↓] Go.wp_at_zero Go.wp_at_succ
def minE (y e:PlanEntryD):PlanEntryD:=if e.fCost<y.fCost then e else y
theorem best_min {l:List PlanEntryD}:∀ (y:PlanEntryD),l.foldl better (some y)=some (l.foldl minE y):=by
 induction l with
 | nil=>intro y;rfl
 | cons x l ih =>
  intro y;rw [List.foldl_cons,List.foldl_cons]
  have e:better (some y) x=some (minE y x):=by
   show(if x.fCost<y.fCost then some x else some y)=some (if x.fCost<y.fCost then x else y);split<;>rfl
  rw [e];exact ih _
theorem best_first {l:List PlanEntryD}{x:PlanEntryD}(h:l[0]?=some x):bestL l=some (l.foldl minE x):=by
 cases l with
 | nil=>cases h
 | cons y l =>
  have e:y=x:=by simpa using h
  subst e;unfold bestL;rw [List.foldl_cons,List.foldl_cons];have e2:minE y y=y:=by unfold minE;rw [if_neg (by omega)]
  rw [e2];exact best_min y
theorem min_snoc {l:List PlanEntryD}{k:Nat}{y x:PlanEntryD}(h:l[k]?=some x):(l.take (k+1)).foldl minE y=minE ((l.take k).foldl minE y) x:=by
 rw [take_snoc h,List.foldl_append];rfl
theorem iBestOfU_c (A:Option Addr) (n c:Nat) (l:List PlanEntryD) (U w:World) (hU:Below U.heap.size U w) (hr:RS NB (rPlanEntry NB) U A n c l) (h0:0<n) :
  Calls Tryz.prog 197 #[.slice A n c] w fun e W=>∃ x AX nX cX,e=.returned (.agg #[.int .i64 x.fMask,.int .i64 x.fOrder,.int .i64 x.fCost,.slice AX nX cX])/\bestL l=some x/\RS NB (rPlanStep NB) U AX nX cX x.fPlan.fSteps/\I64 x.fMask/\I64 x.fOrder/\I64 x.fCost/\Below w.heap.size w W:=by
 have hn:=hr.bound;obtain⟨w1,hw1⟩:∃ W,W=w.alloc (.cells #[.int .i64 0,.int .i64 0,.int .i64 0,.slice none 0 0] 107):=⟨_,rfl⟩;have b1:Below w.heap.size w w1:=by rw [hw1];exact bal
 have kR:Bk w1 w.heap.size 107 [.int .i64 0,.int .i64 0,.int .i64 0,.slice none 0 0]:=by rw [hw1];exact Bk.new w _ _
 have hs1:w1.heap.size=w.heap.size+1:=by rw [hw1];simp
 obtain⟨bl,ol,x0,AX,nX,cX,rfl,c0,c1,c2,c3,j0,j1,j2,rX,hx⟩:=hr.ePlanEntry h0;rw [Nat.zero_mul,Nat.add_zero]at c0 c1 c2 c3;replace c0:=cells_below hU _ _ c0;replace c1:=cells_below hU _ _ c1;replace c2:=cells_below hU _ _ c2;replace c3:=cells_below hU _ _ c3;have HB0:=Lib.hid (best_first hx.out);have d0:=cells_below b1 _ _ c0;have d1:=cells_below b1 _ _ c1;have d2:=cells_below b1 _ _ c2;have d3:=cells_below b1 _ _ c3;have hnI:(0:Int)<n:=by omega
 obtain⟨w2,hw2⟩:∃ W,W=w1.alloc (.cells #[.int .i64 x0.fMask,.int .i64 x0.fOrder,.int .i64 x0.fCost,.slice AX nX cX] 107):=⟨_,rfl⟩;have b2:Below w1.heap.size w1 w2:=by rw [hw2];exact bal
 have kB:Bk w2 w1.heap.size 107 [.int .i64 x0.fMask,.int .i64 x0.fOrder,.int .i64 x0.fCost,.slice AX nX cX]:=by rw [hw2];exact Bk.new w1 _ _
 have kR2:=kR.below b2;have B2:=b1.trans (b2.mono (by omega));have H1:=Lib.hid hw1;have H2:=Lib.hid hw2;have HG:=Lib.hid hs1;clear hw1 hw2 hs1 c0 c1 c2 c3 b1 b2 kR hx
 go_enter Tryz.func197,Tryz.ntmps197
 go_upto_region 1 with fail
 rw [<- H1.out]
 go_upto_region 2 with fail
 rw [<- H2.out]
 go_wp2_with fail
 go_loopw [11] (fun i wr=>∃ (k:Nat) (y:PlanEntryD) (AY:Option Addr) (nY cY:Nat),k<=n/\i=.int .i64 k/\Hid ((l.take k).foldl minE x0=y)/\Bk wr w1.heap.size 107 [.int .i64 y.fMask,.int .i64 y.fOrder,.int .i64 y.fCost,.slice AY nY cY]/\RS NB (rPlanStep NB) U AY nY cY y.fPlan.fSteps/\(I64 y.fMask/\I64 y.fOrder/\I64 y.fCost)/\Below w.heap.size w wr/\Bk wr w.heap.size 107 [.int .i64 0,.int .i64 0,.int .i64 0,.slice none 0 0]) (fun i _=>n - (intOf i).toNat)
 case atStart=>exact⟨0,x0,AX,nX,cX,Nat.zero_le _,rfl,Lib.hid rfl,kB,rX,⟨j0,j1,j2⟩,B2,kR2⟩
 case round =>
  obtain⟨k,y,AY,nY,cY,hk,rfl,hy,kY,rY,jY,hB,kZ⟩:=hrel;have hgs:=HG.out;have HGS:=Lib.hid hgs;clear hgs;by_cases hlt:k<n
  ·obtain⟨be,oe,x,AE,nE,cE,eA,c0,c1,c2,c3,i0,i1,i2,rE,hx⟩:=hr.ePlanEntry hlt
   simp only [Option.some.injEq,Addr.mk.injEq,and_true]at eA;obtain⟨rfl,rfl⟩:=eA;have hkL:(k:Int)<n:=by omega
   have d0:=cells_below (hU.trans (hB.mono hU.size)) _ _ c0;have d1:=cells_below (hU.trans (hB.mono hU.size)) _ _ c1;have d2:=cells_below (hU.trans (hB.mono hU.size)) _ _ c2;have d3:=cells_below (hU.trans (hB.mono hU.size)) _ _ c3;obtain⟨wn,hwn⟩:∃ W,W=wr.alloc (.cells #[.int .i64 x.fMask,.int .i64 x.fOrder,.int .i64 x.fCost,.slice AE nE cE] 107):=⟨_,rfl⟩;have bn:Below wr.heap.size wr wn:=by rw [hwn];exact bal
   have kE:Bk wn wr.heap.size 107 [.int .i64 x.fMask,.int .i64 x.fOrder,.int .i64 x.fCost,.slice AE nE cE]:=by rw [hwn];exact Bk.new wr _ _
   have kY2:=kY.below bn;have kZ2:=kZ.below bn;have B3:=hB.trans (bn.mono hB.size);have ⟨y0,g0,y1,g1,y2,g2,y3,g3⟩:=kY2.r4;have ⟨e0,f0,e1,f1,e2,f2,e3,f3⟩:=kE.r4;have HN:=Lib.hid hwn;have HY:=min_snoc (y:=x0) hx.out;rw [hy.out]at HY;have HY:=Lib.hid HY;clear hwn c0 c1 c2 c3 hx hy kY kZ
   go_upto_region 5 with fail
   rw [<- HN.out];by_cases hc:x.fCost<y.fCost
   ·have hcd:decide (x.fCost<y.fCost)=true:=decide_eq_true hc
    go_wp2;go_roundw
    case rel =>
     have hm:minE y x=x:=by unfold minE;rw [if_pos hc]
     have h1:=HGS.out;exact⟨k+1,x,AE,nE,cE,by omega,by go_num,Lib.hid (HY.out.trans hm),kY2.put4 (.int .i64 x.fMask) (.int .i64 x.fOrder) (.int .i64 x.fCost) (.slice AE nE cE),rE,⟨i0,i1,i2⟩,bls4 B3 (by omega) _ _ _ _,(set4_ne (by omega) _ _ _ _).trans kZ2⟩
    case measure=>simp [intOf];omega
   ·have hcd:decide (x.fCost<y.fCost)=false:=decide_eq_false hc
    go_wp2;go_roundw
    case rel =>
     have hm:minE y x=y:=by unfold minE;rw [if_neg hc]
     exact⟨k+1,y,AY,nY,cY,by omega,by go_num,Lib.hid (HY.out.trans hm),kY2,rY,jY,B3,kZ2⟩
    case measure=>simp [intOf];omega
  ·have ⟨y0,g0,y1,g1,y2,g2,y3,g3⟩:=kY.r4
   have ⟨z0,f0,z1,f1,z2,f2,z3,f3⟩:=kZ.r4;have hkn:k=n:=by omega
   have HY:=hy.out;rw [hkn,<- hr.len,List.take_length]at HY;have HY:=Lib.hid HY;have k9:=kZ.put4 (.int .i64 y.fMask) (.int .i64 y.fOrder) (.int .i64 y.fCost) (.slice AY nY cY);have B9:=bls4 hB (Nat.le_refl _) (.int .i64 y.fMask) (.int .i64 y.fOrder) (.int .i64 y.fCost) (.slice AY nY cY);clear hy kY kZ hkn;go_wp2;refine bodyPost_ret (results_cell1 Tryz.results197 rfl k9.rangeAt Tryz.underlying107 rfl sizeEntT) rfl ?_;exact⟨y,AY,nY,cY,rfl,by rw [HB0.out,HY.out],rY,jY.1,jY.2.1,jY.2.2,B9⟩
theorem iBestOf_c (A:Option Addr) (n c:Nat) (l:List PlanEntryD) (w:World) (hr:RS NB (rPlanEntry NB) w A n c l) (h0:0<n) :
  Calls Tryz.prog 197 #[.slice A n c] w fun e W=>∃ x AX nX cX,e=.returned (.agg #[.int .i64 x.fMask,.int .i64 x.fOrder,.int .i64 x.fCost,.slice AX nX cX])/\bestL l=some x/\RS NB (rPlanStep NB) w AX nX cX x.fPlan.fSteps/\I64 x.fMask/\I64 x.fOrder/\I64 x.fCost/\Below w.heap.size w W:=iBestOfU_c A n c l w w (Below.refl _ _) hr h0
end Go.Proofs.YtnlcfkpcmfljeaaGreat
namespace Go.Proofs.YtnlcfkpcmfljeaaGreat
open Go.RowKit
attribute [local go_sem ↓] Go.wp_at_zero Go.wp_at_succ
theorem iScanPlan_c (k:Int) (w:World) (hk:I64 k):Calls Tryz.prog 202 #[.int .i64 k] w (RetV (rPlan NB) ⟨[⟨1,k,0⟩]⟩ w):=by
 obtain⟨w1,hw1⟩:∃ W,W=w.alloc (.cells #[.slice none 0 0] 76):=⟨_,rfl⟩;have hs1:w1.heap.size=w.heap.size+1:=by rw [hw1];simp
 have b1:Below w.heap.size w w1:=by rw [hw1];exact bal
 have kR:Bk w1 w.heap.size 76 [.slice none 0 0]:=by rw [hw1];exact Bk.new w _ _
 have m1:=ps_one (B:=w.heap.size) w1 (by omega) ⟨1,k,0⟩ (by unfold I64;simp) hk I64_zero;have b2:=(Below.refl w1.heap.size w1).alloc (Nat.le_refl _) (.cells #[.int .i64 1,.int .i64 k,.int .i64 0] 173);have k2:=kR.below b2;have c0:=k2.bx 0 _ rfl;have f0:=k2.frozen 0;have HS:=Lib.hid hs1;clear hs1
 go_enter Tryz.func202,Tryz.ntmps202
 go_upto_region 1 with fail
 rw [<- hw1];clear hw1;go_wp2;have q:=(k2.set 0 (.slice (some ⟨w1.heap.size,0,none⟩) 1 1)).bx 0 _ rfl;refine bodyPost_ret (v:=.agg #[.slice (some ⟨w1.heap.size,0,none⟩) 1 1]) (by simp [results,Tryz.results202,go_sem,q]) rfl ?_;obtain⟨fp,o,f⟩:=plan_box k2 m1 (.slice (some ⟨w1.heap.size,0,none⟩) 1 1);exact⟨[.slice (some ⟨w1.heap.size,0,none⟩) 1 1],fp,rfl,rPlan_own.2 ⟨_,_,_,fp,rfl,rfl,o⟩,f,(b1.trans (b2.mono b1.size)).setCell (p:=⟨w.heap.size,0,none⟩) (Nat.le_refl _) _⟩
theorem iMaskAtoms_c (m:Int) (w:World) (h0:0<=m) (h1:m<16):Calls Tryz.prog 200 #[.int .i64 m] w (RetS 3 rInt (listV m 4) w):=by
 have hM0:=MS.empty (B:=w.heap.size) (M:=NB) (e:=3) (r:=rInt) w (Nat.le_refl _);have hA0:=(Below.refl w.heap.size w).alloc (Nat.le_refl _) (.cells #[] 3);have C1:=Lib.hid (fun W=>within_v (inR_t.2 (show 0<=m/\m<=15 by omega)) W)
 go_enter Tryz.func200,Tryz.ntmps200
 go_wp2_with (go_at_call 89;refine(C1.out _).mono ?_;rintro e w' ⟨rfl,hw'⟩;rw [hw'];clear hw' w')
 go_loopw [3,4] (fun o i wr=>∃ (k n c:Nat) (A:Option Addr),k<=4/\n<=k/\i=.int .i64 k/\o=.slice A n c/\MS w.heap.size NB 3 rInt wr A n c (listV m k)/\Below w.heap.size w wr) (fun _ i _=>4 - (intOf i).toNat)
 case atStart=>exact⟨0,0,0,_,by omega,by omega,rfl,rfl,hM0,hA0⟩
 case round =>
  clear hM0 hA0;obtain⟨k,n,c,A,hk,hn,rfl,rfl,hM,hE⟩:=hrel;have hz:=hE.size;by_cases hlt:k<4
  ·have hk16:(k:Int)<=15:=by omega
   have hlt':(k:Int)<4:=by omega
   cases hb:mbit m k
   ·have hbt:=mbit_test h0 (by omega) hb
    have HB:=Lib.hid (listV_no hb);clear hb
    go_wp2_with fail
    go_roundw
    case rel=>exact⟨k+1,n,c,A,by omega,by omega,by go_num,rfl,by rw [HB.out];exact hM,hE⟩
    case measure=>simp [intOf];omega
   ·have hbt:=mbit_test h0 (by omega) hb
    have HB:=Lib.hid (listV_yes hb);clear hb
    go_wp2_with ((at_builtin;refine wpList_app (r:=rInt) rfl _ _ 30 rfl _ 8 eiInt rInt_ok rfl hM (bal) hz ⟨_,0,none⟩ rfl [] [.int .i64 (k:Int)] (k:Int) ⟨rfl,rfl,by unfold I64;omega⟩ (Fr.nil _) (cell_one_new _ _ _) (by unfold NB;omega) (Nat.le_refl _) (by omega) ?_;intro A9 k9 w9 hM9 hb9 hg9))
    go_roundw
    case rel=>exact⟨k+1,n+1,k9,A9,by omega,by omega,by go_num,rfl,by rw [HB.out];exact hM9,(hE.alloc hE.size _).trans hb9⟩
    case measure=>simp [intOf];omega
  ·have hk4:k=4:=by omega
   subst hk4
   go_wp2_with fail
   go_ret;exact⟨_,_,_,rfl,hM,hE⟩
end Go.Proofs.YtnlcfkpcmfljeaaGreat
namespace Go.Proofs.YtnlcfkpcmfljeaaGreat
open Go.RowKit
attribute [local go_sem ↓] Go.wp_at_zero Go.wp_at_succ
theorem iSortPlan_c (csp:List Value) (p:PlanD) (v:Int) (w:World) (hp:(rPlan NB).rep w csp p) (hv:I64 v) (hl:p.fSteps.length<=100) :
  Calls Tryz.prog 241 #[.agg csp.toArray,.int .i64 v] w (RetV (rPlan NB) ⟨p.fSteps++[⟨2,0,v⟩]⟩ w):=by
 obtain⟨Ap_d5,np_d5,cp_d5,rfl,hp_d5⟩:=rPlan_rep.1 hp;have HL:=Lib.hid hp_d5.len;clear hp;obtain⟨w1,hw1⟩:∃ W,W=w.alloc (.cells #[.slice Ap_d5 np_d5 cp_d5] 76):=⟨_,rfl⟩;obtain⟨w2,hw2⟩:∃ W,W=w1.alloc (.cells #[.slice none 0 0] 76):=⟨_,rfl⟩;have hs1:w1.heap.size=w.heap.size+1:=by rw [hw1];simp
 have hs2:w2.heap.size=w.heap.size+1+1:=by rw [hw2];simp [hs1]
 have b1:Below w.heap.size w w1:=by rw [hw1];exact bal
 have b2:Below w1.heap.size w1 w2:=by rw [hw2];exact bal
 have h2:=b1.trans (b2.mono b1.size)
 have kP:Bk w2 w.heap.size 76 [.slice Ap_d5 np_d5 cp_d5]:=by
  have:Bk w1 w.heap.size 76 [.slice Ap_d5 np_d5 cp_d5]:=by rw [hw1];exact Bk.new w _ _
  exact this.below b2
 have kR:Bk w2 (w.heap.size+1) 76 [.slice none 0 0]:=by rw [hw2,<- hs1];exact Bk.new w1 _ _
 have c0:=kP.bx 0 _ rfl;have HS1:=Lib.hid hs1;have HS2:=Lib.hid hs2;clear hs1 hs2
 go_enter Tryz.func241,Tryz.ntmps241
 go_upto_region 1 with fail
 rw [<- hw1,<- hw2];clear hw1 hw2
 go_wp2_with fail
 refine(iCopyPlan_c _ p w2 (rPlan_rep.2 ⟨_,_,_,rfl,hp_d5.below (rPlanStep_ok NB) h2⟩)).mono ?_;rintro e w4 ⟨cs4,fp4,rfl,o4,f4,hb4⟩;obtain⟨A4,n4,c4,fp5,rfl,rfl,o5⟩:=rPlan_own.1 o4;have hn4:np_d5=n4:=by rw [<- HL.out];exact o5.len
 subst hn4;obtain⟨w5,hw5⟩:∃ W,W=w4.alloc (.cells #[.slice A4 np_d5 c4] 76):=⟨_,rfl⟩
 have P5:Pb w w5 (w.heap.size+1) w4.heap.size A4 np_d5 c4 p.fSteps:=by
  have ba:Below w4.heap.size w4 w5:=by rw [hw5];exact(Below.refl w4.heap.size w4).alloc (Nat.le_refl _) _
  have h24:=h2.trans (hb4.mono h2.size);exact⟨h24.trans (ba.mono h24.size),(kR.below hb4).below ba,by rw [hw5];exact Bk.new _ _ _,⟨_,o5.belowS (rPlanStep_ok NB) ba,⟨f4.nd,fun k hk=>Nat.le_trans h2.size (f4.ge k hk)⟩⟩⟩
 have hlt:w2.heap.size<=w4.heap.size:=hb4.size
 go_upto_region 2 with fail
 rw [<- hw5];clear hw5 o5 f4 hb4 c0;have hz5:=P5.be.size;have hx5:=P5.kX.bx 0 _ rfl;have ha5:=(Below.refl w5.heap.size w5).alloc (Nat.le_refl _) (.cells #[.int .i64 2,.int .i64 0,.int .i64 v] 173)
 go_upto_region 3 with (at_builtin;go_loud (refine wpList_app (r:=rPlanStep NB) rfl _ _ 74 rfl _ 24 eiPlanStep (rPlanStep_ok NB) rfl P5.ms ha5 hz5 ⟨_,0,none⟩ rfl [] [.int .i64 2,.int .i64 0,.int .i64 v] ⟨2,0,v⟩ (rPlanStep_own.2 ⟨rfl,rfl,by unfold I64;simp,I64_zero,hv⟩) (Fr.nil _) (cells_new _ _ _) (by have:=HL.out;unfold NB;omega) (Nat.le_refl _) (by have:=HL.out;omega) ?_;intro A7 c7 w7 m7 hb7 hg7;have k7:=P5.kX7 ha5 hg7;have f7:=k7.frozen 0;have x7:=k7.bx 0 _ rfl))
 have P8:=P5.grow ha5 hg7 hb7 m7 (by have:=h2.size;have:=HS2.out;omega) (by have:=HS2.out;omega);obtain⟨w8,hw8⟩:∃ W,W=w7.setCell ⟨w4.heap.size,0,none⟩ (.slice A7 (np_d5+1) c7):=⟨_,rfl⟩;rw [<- hw8]at P8 ⊢;clear hw8 k7 f7 x7 hx5 ha5 m7 hb7 hg7 P5;have x8:=P8.kX.bx 0 _ rfl;have r8:=P8.kR.bx 0 _ rfl;have g8:=P8.kR.frozen 0;go_wp2;have q:=(P8.kR.set 0 (.slice A7 (np_d5+1) c7)).bx 0 _ rfl;refine bodyPost_ret (v:=.agg #[.slice A7 (np_d5+1) c7]) (by simp [results,Tryz.results241,go_sem,q]) rfl ?_;exact P8.fin (Nat.le_succ _) _
theorem iJoinPlans_c (csa:List Value) (a:PlanD) (csb:List Value) (b:PlanD) (kd:Int) (v:Int) (w:World) (ha:(rPlan NB).rep w csa a) (hb:(rPlan NB).rep w csb b) (hk:I64 kd) (hv:I64 v) (hla:a.fSteps.length<=100) (hlb:b.fSteps.length<=100) :
  Calls Tryz.prog 204 #[.agg csa.toArray,.agg csb.toArray,.int .i64 kd,.int .i64 v] w (RetV (rPlan NB) ⟨a.fSteps++b.fSteps++[⟨kd,0,v⟩]⟩ w):=by
 obtain⟨Aa_d5,na_d5,ca_d5,rfl,ha_d5⟩:=rPlan_rep.1 ha;obtain⟨Ab_d5,nb_d5,cb_d5,rfl,hb_d5⟩:=rPlan_rep.1 hb;have HL:=Lib.hid ha_d5.len;have HLB:=Lib.hid hb_d5.len;clear ha hb;obtain⟨w1,hw1⟩:∃ W,W=w.alloc (.cells #[.slice Aa_d5 na_d5 ca_d5] 76):=⟨_,rfl⟩;obtain⟨w1b,hw1b⟩:∃ W,W=w1.alloc (.cells #[.slice Ab_d5 nb_d5 cb_d5] 76):=⟨_,rfl⟩;obtain⟨w2,hw2⟩:∃ W,W=w1b.alloc (.cells #[.slice none 0 0] 76):=⟨_,rfl⟩;have hs1:w1.heap.size=w.heap.size+1:=by rw [hw1];simp
 have hs1b:w1b.heap.size=w.heap.size+1+1:=by rw [hw1b];simp [hs1]
 have hs2:w2.heap.size=w.heap.size+1+1+1:=by rw [hw2];simp [hs1b]
 have b1:Below w.heap.size w w1:=by rw [hw1];exact bal
 have b1b:Below w1.heap.size w1 w1b:=by rw [hw1b];exact bal
 have b2:Below w1b.heap.size w1b w2:=by rw [hw2];exact bal
 have h2:=(b1.trans (b1b.mono b1.size)).trans (b2.mono (by omega))
 have kP:Bk w2 w.heap.size 76 [.slice Aa_d5 na_d5 ca_d5]:=by
  have:Bk w1 w.heap.size 76 [.slice Aa_d5 na_d5 ca_d5]:=by rw [hw1];exact Bk.new w _ _
  exact(this.below b1b).below b2
 have kQ:Bk w2 (w.heap.size+1) 76 [.slice Ab_d5 nb_d5 cb_d5]:=by
  have:Bk w1b (w.heap.size+1) 76 [.slice Ab_d5 nb_d5 cb_d5]:=by rw [hw1b,<- hs1];exact Bk.new w1 _ _
  exact this.below b2
 have kR:Bk w2 (w.heap.size+1+1) 76 [.slice none 0 0]:=by rw [hw2,<- hs1b];exact Bk.new w1b _ _
 have c0:=kP.bx 0 _ rfl;have HS2:=Lib.hid hs2;clear hs1 hs1b hs2
 go_enter Tryz.func204,Tryz.ntmps204
 go_upto_region 1 with fail
 rw [<- hw1,<- hw1b,<- hw2];clear hw1 hw1b hw2
 go_wp2_with fail
 refine(iCopyPlan_c _ a w2 (rPlan_rep.2 ⟨_,_,_,rfl,ha_d5.below (rPlanStep_ok NB) h2⟩)).mono ?_;rintro e w4 ⟨cs4,fp4,rfl,o4,f4,hb4⟩;obtain⟨A4,n4,c4,fp5,rfl,rfl,o5⟩:=rPlan_own.1 o4;have hn4:na_d5=n4:=by rw [<- HL.out];exact o5.len
 subst hn4;obtain⟨w5,hw5⟩:∃ W,W=w4.alloc (.cells #[.slice A4 na_d5 c4] 76):=⟨_,rfl⟩;have ba:Below w4.heap.size w4 w5:=by rw [hw5];exact(Below.refl w4.heap.size w4).alloc (Nat.le_refl _) _
 have b5:=hb4.trans (ba.mono hb4.size)
 have P5:Pb w w5 (w.heap.size+1+1) w4.heap.size A4 na_d5 c4 a.fSteps:=by
  have h24:=h2.trans (hb4.mono h2.size);exact⟨h24.trans (ba.mono h24.size),(kR.below hb4).below ba,by rw [hw5];exact Bk.new _ _ _,⟨_,o5.belowS (rPlanStep_ok NB) ba,⟨f4.nd,fun k hk=>Nat.le_trans h2.size (f4.ge k hk)⟩⟩⟩
 have hlt:w2.heap.size<=w4.heap.size:=hb4.size
 go_upto_region 2 with fail
 rw [<- hw5];clear hw5 o5 f4 hb4 c0 ba;have hz5:=P5.be.size;have hx5:=P5.kX.bx 0 _ rfl;have hq5:=(kQ.below b5).bx 0 _ rfl;have hb5:=hb_d5.below (rPlanStep_ok NB) (h2.trans (b5.mono h2.size));have ha5:=Below.refl w5.heap.size w5
 go_upto_region 3 with (at_builtin;go_loud (refine wpList_appf (r:=rPlanStep NB) rfl _ _ 74 rfl _ 24 eiPlanStep (rPlanStep_ok NB) (rPlanStep_flt NB) rfl P5.ms ha5 hz5 rfl hb5 (by have:=HL.out;have:=HLB.out;unfold NB;omega) (Nat.le_refl _) (by have:=HL.out;have:=HLB.out;omega) ?_;intro A7 c7 w7 m7 hb7 hg7;have k7:=P5.kX7 ha5 hg7;have f7:=k7.frozen 0;have x7:=k7.bx 0 _ rfl))
 have P8:=P5.grow ha5 hg7 hb7 m7 (by have:=h2.size;have:=HS2.out;omega) (by have:=HS2.out;omega);obtain⟨w8,hw8⟩:∃ W,W=w7.setCell ⟨w4.heap.size,0,none⟩ (.slice A7 (na_d5+nb_d5) c7):=⟨_,rfl⟩;rw [<- hw8]at P8 ⊢;clear hw8 k7 f7 x7 hx5 ha5 m7 hb7 hg7 P5 hq5 hb5 hz5;have hz8:=P8.be.size;have hx8:=P8.kX.bx 0 _ rfl;have ha8:=(Below.refl w8.heap.size w8).alloc (Nat.le_refl _) (.cells #[.int .i64 kd,.int .i64 0,.int .i64 v] 173)
 go_upto_region 4 with (at_builtin;go_loud (refine wpList_app (r:=rPlanStep NB) rfl _ _ 74 rfl _ 24 eiPlanStep (rPlanStep_ok NB) rfl P8.ms ha8 hz8 ⟨_,0,none⟩ rfl [] [.int .i64 kd,.int .i64 0,.int .i64 v] ⟨kd,0,v⟩ (rPlanStep_own.2 ⟨rfl,rfl,hk,I64_zero,hv⟩) (Fr.nil _) (cells_new _ _ _) (by have:=HL.out;have:=HLB.out;unfold NB;omega) (Nat.le_refl _) (by have:=HL.out;have:=HLB.out;omega) ?_;intro A9 c9 w9 m9 hb9 hg9;have k9:=P8.kX7 ha8 hg9;have f9:=k9.frozen 0;have x9:=k9.bx 0 _ rfl))
 have PA:=P8.grow ha8 hg9 hb9 m9 (by have:=h2.size;have:=HS2.out;omega) (by have:=HS2.out;omega);obtain⟨wA,hwA⟩:∃ W,W=w9.setCell ⟨w4.heap.size,0,none⟩ (.slice A9 (na_d5+nb_d5+1) c9):=⟨_,rfl⟩;rw [<- hwA]at PA ⊢;clear hwA k9 f9 x9 hx8 ha8 m9 hb9 hg9 P8 hz8;have x8:=PA.kX.bx 0 _ rfl;have r8:=PA.kR.bx 0 _ rfl;have g8:=PA.kR.frozen 0;go_wp2;have q:=(PA.kR.set 0 (.slice A9 (na_d5+nb_d5+1) c9)).bx 0 _ rfl;refine bodyPost_ret (v:=.agg #[.slice A9 (na_d5+nb_d5+1) c9]) (by simp [results,Tryz.results204,go_sem,q]) rfl ?_;exact PA.fin (by omega) _
end Go.Proofs.YtnlcfkpcmfljeaaGreat
namespace Go.Proofs.YtnlcfkpcmfljeaaGreat
open Go.RowKit
attribute [local go_sem ↓] Go.wp_at_zero Go.wp_at_succ
theorem over_left {α:Type}(x y vs:List α) (i:Nat) (h:i+vs.length<=x.length):over (x++y) i vs=over x i vs++y:=by
 induction vs generalizing x i with
 | nil=>rfl
 | cons v vs ih =>
  have hi:i<x.length:=by simp at h;omega
  show over ((x++y).set i v) (i+1) vs=over (x.set i v) (i+1) vs++y;rw [List.set_append_left _ _ hi];exact ih _ _ (by simp at h ⊢;omega)
theorem over_len {α:Type}(x vs:List α) (i:Nat):(over x i vs).length=x.length:=by
 induction vs generalizing x i with
 | nil=>rfl
 | cons v vs ih=>show(over (x.set i v) (i+1) vs).length=_;rw [ih,List.length_set]
theorem over_lo {α:Type}(x vs:List α) (i j:Nat) (h:j<i):(over x i vs)[j]?=x[j]?:=by
 induction vs generalizing x i with
 | nil=>rfl
 | cons v vs ih=>show(over (x.set i v) (i+1) vs)[j]?=_;rw [ih _ _ (by omega),List.getElem?_set_ne (by omega)]
def ofC (csm:List Value) (cq:List Value) (As:Option Addr) (ns cc:Nat) (mk:Int) (ecs:List (List Value)) (L:List PlanEntryD):List Value :=
 csm++(cq++([.slice As ns cc,.int .i64 mk]++(ecs.flatten++L.map (fun x=>.bool (some0 x)))))
section
variable {csm cq:List Value} {As:Option Addr} {ns cc:Nat} {mk:Int} {ecs:List (List Value)} {L:List PlanEntryD}
theorem ofC_m (h:csm.length=30) {j:Nat}{v:Value}(hj:csm[j]?=some v):(ofC csm cq As ns cc mk ecs L)[j]?=some v:=by
 unfold ofC;rw [List.getElem?_append_left (by have:=lt_of_at hj;omega)];exact hj
theorem ofC_q (h:csm.length=30) {j:Nat}{v:Value}(hj:cq[j]?=some v):(ofC csm cq As ns cc mk ecs L)[30+j]?=some v:=by
 unfold ofC;rw [List.getElem?_append_right (by omega),h,Nat.add_sub_cancel_left,List.getElem?_append_left (lt_of_at hj)];exact hj
theorem ofC_s (h:csm.length=30) (hq:cq.length=2):(ofC csm cq As ns cc mk ecs L)[32]?=some (.slice As ns cc)/\(ofC csm cq As ns cc mk ecs L)[33]?=some (.int .i64 mk):=by
 unfold ofC;constructor
 ·rw [List.getElem?_append_right (by omega),h,List.getElem?_append_right (by omega),hq];rfl
 ·rw [List.getElem?_append_right (by omega),h,List.getElem?_append_right (by omega),hq];rfl
theorem ofC_e (h:csm.length=30) (hq:cq.length=2) (h4:∀ c∈ecs,c.length=4) {k j:Nat}{c:List Value}{v:Value}(hk:ecs[k]?=some c) (hj:c[j]?=some v):(ofC csm cq As ns cc mk ecs L)[34+k*4+j]?=some v:=by
 have hg:=flat_get h4 hk hj;have e:34+k*4+j=30+(2+(2+(k*4+j))):=by omega
 unfold ofC;rw [e,List.getElem?_append_right (by omega),h,Nat.add_sub_cancel_left,List.getElem?_append_right (by omega),hq,Nat.add_sub_cancel_left,List.getElem?_append_right (by simp),List.getElem?_append_left (by have:=lt_of_at hg;simp only [List.length_cons,List.length_nil];omega)];simpa using hg
theorem ofC_b (h:csm.length=30) (hq:cq.length=2) (h4:∀ c∈ecs,c.length=4) (h5:ecs.length=5) {k:Nat}{x:PlanEntryD}(hk:L[k]?=some x):(ofC csm cq As ns cc mk ecs L)[54+k]?=some (.bool (some0 x)):=by
 have hf:ecs.flatten.length=20:=by rw [flat_length h4,h5]
 have e:54+k=30+(2+(2+(20+k))):=by omega
 unfold ofC;rw [e,List.getElem?_append_right (by omega),h,Nat.add_sub_cancel_left,List.getElem?_append_right (by omega),hq,Nat.add_sub_cancel_left,List.getElem?_append_right (by simp)];simp only [List.length_cons,List.length_nil,Nat.zero_add,Nat.add_sub_cancel_left];rw [List.getElem?_append_right (by omega),hf,Nat.add_sub_cancel_left,List.getElem?_map,hk];rfl
theorem ofC_set (h:csm.length=30) (hq:cq.length=2) (h4:∀ c∈ecs,c.length=4) (h5:ecs.length=5) {k:Nat}(hk:k<5) {c:List Value}(hc:c.length=4) {x:PlanEntryD}(hx:some0 x=true) :
  (over (ofC csm cq As ns cc mk ecs L) (34+k*4) c).set (54+k) (.bool true)=ofC csm cq As ns cc mk (ecs.set k c) (L.set k x):=by
 have hf:ecs.flatten.length=20:=by rw [flat_length h4,h5]
 have hf2:(ecs.set k c).flatten.length=20:=by
  rw [flat_length (size:=4),List.length_set,h5];intro d hd;rcases List.mem_or_eq_of_mem_set hd with hd|rfl
  ·exact h4 d hd
  ·exact hc
 have e1:34+k*4=csm.length+(cq.length+(2+k*4)):=by omega
 have e2:54+k=30+(2+(2+(20+k))):=by omega
 unfold ofC
 rw [e1,over_append_left,over_append_left,show 2+k*4=([.slice As ns cc,.int .i64 mk]:List Value).length+k*4 from rfl,over_append_left,over_left _ _ _ _ (by omega),flat_set h4 (by omega) hc,e2,
  List.set_append_right _ _ (by omega),h,Nat.add_sub_cancel_left,List.set_append_right _ _ (by omega),hq,Nat.add_sub_cancel_left,List.set_append_right _ _ (by simp)]
 have e3:2+(20+k) - ([.slice As ns cc,.int .i64 mk]:List Value).length=20+k:=by simp only [List.length_cons,List.length_nil];omega
 rw [e3,List.set_append_right _ _ (by omega),hf2,Nat.add_sub_cancel_left,List.map_set,hx]
end
structure Ofs (csm cq:List Value) (As:Option Addr) (ns cc:Nat) (mk:Int) (go B:Nat) (L:List PlanEntryD) (W:World):Prop where
 len:L.length=5
 pos:∀ x∈L,0<=x.fMask
 ex:∃ ecs:List (List Value),ecs.length=5/\Bk W go 226 (ofC csm cq As ns cc mk ecs L)/\∀ (k:Nat) x,L[k]?=some x->∃ AP nP cP,ecs[k]?=some [.int .i64 x.fMask,.int .i64 x.fOrder,.int .i64 x.fCost,.slice AP nP cP]/\StS (rPlanEntry NB) (fun z=>z=go\/z<B) W [.int .i64 x.fMask,.int .i64 x.fOrder,.int .i64 x.fCost,.slice AP nP cP] x
section
variable {csm cq:List Value} {As:Option Addr} {ns cc:Nat} {mk:Int} {go B:Nat} {L:List PlanEntryD} {W W':World}
theorem Ofs.below (h:Ofs csm cq As ns cc mk go B L W) (hb:Below W.heap.size W W'):Ofs csm cq As ns cc mk go B L W':=by
 obtain⟨h1,h2,ecs,h3,h4,h5⟩:=h;refine⟨h1,h2,ecs,h3,h4.below hb,fun k x hk=>?_⟩;obtain⟨AP,nP,cP,e,hs⟩:=h5 k x hk;exact⟨AP,nP,cP,e,hs.step ⟨hb.size,fun z _ hz=>hb.block z hz⟩⟩
theorem Ofs.lt (h:Ofs csm cq As ns cc mk go B L W):go<W.heap.size:=by
 obtain⟨h1,h2,ecs,h3,h4,h5⟩:=h;exact h4.lt
theorem Ofs.rows (h:Ofs csm cq As ns cc mk go B L W):∃ ecs:List (List Value),ecs.length=5/\(∀ c∈ecs,c.length=4)/\Bk W go 226 (ofC csm cq As ns cc mk ecs L)/\∀ (k:Nat) x,L[k]?=some x->∃ AP nP cP,ecs[k]?=some [.int .i64 x.fMask,.int .i64 x.fOrder,.int .i64 x.fCost,.slice AP nP cP]/\StS (rPlanEntry NB) (fun z=>z=go\/z<B) W [.int .i64 x.fMask,.int .i64 x.fOrder,.int .i64 x.fCost,.slice AP nP cP] x:=by
 obtain⟨h1,h2,ecs,h3,h4,h5⟩:=h;refine⟨ecs,h3,fun c hc=>?_,h4,h5⟩;obtain⟨k,hk,rfl⟩:=List.getElem_of_mem hc;obtain⟨AP,nP,cP,e,_⟩:=h5 k _ (List.getElem?_eq_getElem (by omega));rw [List.getElem?_eq_getElem hk]at e;injection e with e;rw [e];rfl
end
theorem iOffer_c (csm:List Value) (md:ModelD) (csq:List Value) (q:QueryD) (As:Option Addr) (ns cc:Nat) (s:List Int) (mk:Int) (go B:Nat) (L:List PlanEntryD) (Ap:Option Addr) (np cp:Nat) (p:PlanD) (k:Nat) (order:Int) (w:World)
  (hm:(rModel NB).rep w csm md) (hq:(rQuery NB).rep w csq q) (hs:RS NB rInt w As ns cc s) (hO:Ofs csm csq As ns cc mk go B L w)
  (hp:StS (rPlan NB) (fun z=>z=go\/z<B) w [.slice Ap np cp] p) (hk:k<5) (ho:order=(k:Int) - 1) (h1:1<=mk) (hmI:I64 mk) :
  Calls Tryz.prog 201 #[.pointer (some ⟨go,0,none⟩),.agg #[.slice Ap np cp],.int .i64 order] w
   fun e w'=>e=.returned (.tuple #[])/\Ofs csm csq As ns cc mk go B (offerI md q s mk L p k) w'/\Chg [go] w w':=by
 have lenm:=(rModel_ok NB).len hm;have lenq:=(rQuery_ok NB).len hq;obtain⟨AA,nA,cA,rfl,_,_⟩:=rQuery_rep.1 hq;have hL5:=hO.len;have hpos:=hO.pos;have glt:=hO.lt;obtain⟨ecs,e5,e4,kO,hE⟩:=hO.rows;obtain⟨w1,hw1⟩:∃ W,W=w.alloc (.cells #[.slice Ap np cp] 76):=⟨_,rfl⟩;have b1:Below w.heap.size w w1:=by rw [hw1];exact bal
 have kP:Bk w1 w.heap.size 76 [.slice Ap np cp]:=by rw [hw1];exact Bk.new w _ _
 have kO1:=kO.below b1;have hm1:=(rModel_ok NB).keep hm (cells_below b1);have hq1:=(rQuery_ok NB).keep hq (cells_below b1);have hs1:=hs.below rInt_ok b1;have hp1:(rPlan NB).rep w1 [.slice Ap np cp] p:=(rPlan_ok NB).keep hp.rep (cells_below b1)
 have HSS:Hid (∀ w':World,Below w1.heap.size w1 w'->w'.rangeAt go 0 csm/\w'.cell? ⟨go,30,none⟩=some (.int .i64 q.fVariableCount)/\w'.cell? ⟨go,31,none⟩=some (.slice AA nA cA)/\w'.cell? ⟨go,32,none⟩=some (.slice As ns cc)/\w'.cell? ⟨w.heap.size,0,none⟩=some (.slice Ap np cp)):=by
  show ∀ w':World,_->_;intro w' h;have kx:=kO1.below h;exact⟨kx.rng 0 (fun j v hj=>by rw [Nat.zero_add];exact ofC_m lenm hj),kx.bx 30 _ (ofC_q (j:=0) lenm rfl),kx.bx 31 _ (ofC_q (j:=1) lenm rfl),kx.bx 32 _ (ofC_s lenm rfl).1,(kP.below h).bx 0 _ rfl⟩
 have hx0:L[k]?=some (L[k]'(by omega)):=List.getElem?_eq_getElem _;obtain⟨x,hx⟩:∃ x,x=L[k]'(by omega):=⟨_,rfl⟩;rw [<- hx]at hx0;clear hx;have hd0:=(Below.refl w1.heap.size w1).drew;have HW1:=Lib.hid hw1;clear hw1
 go_enter Tryz.func201,Tryz.ntmps201
 go_upto_region 1 with fail
 rw [<- HW1.out];clear HW1;refine hbg HSS.out hd0 (fun hH=>?_);refine tq2 0 hH ?_;refine tq1 2 hH ?_;refine ldm 3 11 (fun w h=>h.1) Tryz.underlying46 (by rw [lenm];exact sizeModelT) hH ?_;simp only [putS];refine tq4 4 hH ?_;simp only [putS];refine tq4 8 hH ?_;simp only [putS];refine tq1 12 hH ?_;simp only [putS];refine rd 13 (some 21) fun K hK=>?_;clear hH;go_simp;refine(iPlanCost_c _ md _ q _ p As ns cc s _ ((rModel_ok NB).keep hm1 (cells_below hd0)) ((rQuery_ok NB).keep hq1 (cells_below hd0)) ((rPlan_ok NB).keep hp1 (cells_below hd0)) (hs1.below rInt_ok hd0)).mono ?_;rintro e w4 ⟨rfl,hb4⟩;have hC1:Below w1.heap.size w1 w4:=hd0.trans (hb4.mono hd0.size)
 go_wp2_with fail
 refine hK.out _ _ (HSS.out _ hC1) (fun hH=>?_);clear hK K
 try simp only [putS]
 refine tq1 14 hH ?_;simp only [putS];refine wpAnyH_done (by kernel_rfl) ?_ _;clear hH;have b4:=b1.trans (hC1.mono b1.size);have kO4:=kO1.below hC1;have kP4:=kP.below hC1;obtain⟨AP,nP,cP,eE,hSx⟩:=hE k x hx0;have hx0:=Lib.hid hx0;have hkI:(k:Int)<5:=by omega
 have hk1:IntKind.i64.wrap (order+1)=(k:Int):=by rw [ho,IntWalk.i64_in _ (by omega)];omega
 have HO:=Lib.hid ho;obtain⟨N,hN⟩:∃ N,N=planCost md q p s:=⟨_,rfl⟩;rw [<- hN];have HN:=Lib.hid hN;have cS:=kO4.bx (54+k) _ (ofC_b lenm rfl e4 e5 hx0.out);have cC:=kO4.bx (34+k*4+2) _ (ofC_e lenm rfl e4 eE (j:=2) rfl);clear hd0 hm1 hq1 hs1 hp1 hN ho kO kO1 kP b1 hC1 hb4;by_cases hst:x.fMask=0\/N<x.fCost
 rotate_left
 ·have d0:some0 x=true:=decide_eq_true (by have:=hpos x (mem_of_at hx0.out);omega)
  have d1:¬ N<x.fCost:=fun h=>hst (.inr h)
  have HR:Hid (offerI md q s mk L p k=L):=by
   show _=_;unfold offerI;rw [hx0.out,<- HN.out];show(if x.fMask=0\/N<x.fCost then _ else L)=L;rw [if_neg hst]
  rw [d0]at cS;clear hst;go_wp2;go_end0;rw [HR.out];exact⟨rfl,hO.below b4,Chg.ofBelow b4 _⟩
 have HR:Hid (offerI md q s mk L p k=L.set k ⟨mk,(k:Int) - 1,N,p⟩):=by
  show _=_;unfold offerI;rw [hx0.out,<- HN.out];show(if x.fMask=0\/N<x.fCost then L.set k ⟨mk,(k:Int) - 1,N,p⟩ else L)=_;rw [if_pos hst]
 cases hd0:some0 x
 focus
  rw [hd0]at cS;clear hst
  go_upto_region 4 with fail
 rotate_left
 focus
  have hlt:N<x.fCost:=by
   rcases hst with h|h
   ·exfalso;unfold some0 at hd0;rw [decide_eq_true_eq]at hd0;omega
   ·exact h
  rw [hd0]at cS;clear hst
  go_upto_region 4 with fail
  clear hlt
 all_goals
  have HS4:Hid (∀ w':World,(w'.cell? ⟨go,33,none⟩=some (.int .i64 mk)/\w'.cell? ⟨w.heap.size,0,none⟩=some (.slice Ap np cp))->(w'.cell? ⟨go,33,none⟩=some (.int .i64 mk)/\w'.cell? ⟨w.heap.size,0,none⟩=some (.slice Ap np cp))):=Lib.hid (fun w' h=>h);have hd4:w4.drew.cell? ⟨go,33,none⟩=some (.int .i64 mk)/\w4.drew.cell? ⟨w.heap.size,0,none⟩=some (.slice Ap np cp):=⟨kO4.bx 33 _ (ofC_s lenm rfl).2,kP4.bx 0 _ rfl⟩;have kS4:=kO4.setCells (34+k*4) [.int .i64 mk,.int .i64 ((k:Int) - 1),.int .i64 N,.slice Ap np cp]
  have hd5:(Go.Proofs.YtnlcfkpcmfljeaaGreat.setCells w4 go (34+k*4) [.int .i64 mk,.int .i64 ((k:Int) - 1),.int .i64 N,.slice Ap np cp]).cell? ⟨go,33,none⟩=some (.int .i64 mk)/\(Go.Proofs.YtnlcfkpcmfljeaaGreat.setCells w4 go (34+k*4) [.int .i64 mk,.int .i64 ((k:Int) - 1),.int .i64 N,.slice Ap np cp]).cell? ⟨w.heap.size,0,none⟩=some (.slice Ap np cp) :=
   ⟨kS4.bx 33 _ ((over_lo _ _ _ _ (by omega)).trans (ofC_s lenm rfl).2),(Bk.otherC kP4 (by omega) _ _).bx 0 _ rfl⟩
  have v0:=kO4.bx (34+k*4) _ (ofC_e lenm rfl e4 eE (j:=0) rfl);have v1:=kO4.bx (34+k*4+1) _ (ofC_e lenm rfl e4 eE (j:=1) rfl);have v2:=kO4.bx (34+k*4+2) _ (ofC_e lenm rfl e4 eE (j:=2) rfl);have v3:=kO4.bx (34+k*4+3) _ (ofC_e lenm rfl e4 eE (j:=3) rfl);have f0:=kO4.frozen (34+k*4);have f1:=kO4.frozen (34+k*4+1);have f2:=kO4.frozen (34+k*4+2);have f3:=kO4.frozen (34+k*4+3);clear cS cC hd0;refine hbg HS4.out hd4 (fun hH=>?_);refine tq4 0 hH ?_;simp only [putS];refine tq4 4 hH ?_;simp only [putS];refine tq4 8 hH ?_;simp only [putS];refine rd 12 (some 54) fun K hK=>?_;clear hH;go_simp;refine hK.out _ _ (HS4.out _ hd4) (fun hH=>?_)
  clear hK K
  try simp only [putS]
  refine rd 13 none fun K hK=>?_;clear hH;go_simp;refine hK.out _ _ (HS4.out _ hd5) (fun hH=>?_);clear hK K
  try simp only [putS]
  refine wpAnyH_done (by kernel_rfl) ?_ _;clear hH;obtain⟨W5,hW5⟩:∃ W,W=((((w4.setCell ⟨go,34+k*4,none⟩ (.int .i64 mk)).setCell ⟨go,34+k*4+1,none⟩ (.int .i64 ((k:Int) - 1))).setCell ⟨go,34+k*4+2,none⟩ (.int .i64 N)).setCell ⟨go,34+k*4+3,none⟩ (.slice Ap np cp)).drew:=⟨_,rfl⟩
  have k5:Bk W5 go 226 (over (ofC csm [.int .i64 q.fVariableCount,.slice AA nA cA] As ns cc mk ecs L) (34+k*4) [.int .i64 mk,.int .i64 ((k:Int) - 1),.int .i64 N,.slice Ap np cp]):=by
   rw [hW5];exact kO4.setCells (34+k*4) [.int .i64 mk,.int .i64 ((k:Int) - 1),.int .i64 N,.slice Ap np cp]
  have m0:go∈[go]:=List.mem_singleton.2 rfl
  have c5:Chg [go] w4 W5:=by
   rw [hW5];exact(((((Chg.refl [go] w4).setCell m0 _ _).setCell m0 _ _).setCell m0 _ _).setCell m0 _ _).trans (Chg.ofBelow ((Below.refl _ _).drew) _)
  rw [<- hW5];clear hW5 v0 v1 v2 v3 f0 f1 f2 f3 HS4 hd4 hd5 kS4
  obtain⟨u,hu⟩:∃ u,W5.cell? ⟨go,54+k,none⟩=some u:=by
   have hl:54+k<(over (ofC csm [.int .i64 q.fVariableCount,.slice AA nA cA] As ns cc mk ecs L) (34+k*4) [.int .i64 mk,.int .i64 ((k:Int) - 1),.int .i64 N,.slice Ap np cp]).length:=by rw [over_len];exact lt_of_at (ofC_b lenm rfl e4 e5 hx0.out)
   exact⟨_,k5.bx (54+k) _ (List.getElem?_eq_getElem hl)⟩
  have fu:=k5.frozen (54+k);have k6:=k5.set (54+k) (.bool true);rw [ofC_set lenm rfl e4 e5 hk rfl (x:=⟨mk,(k:Int) - 1,N,p⟩) (decide_eq_true (by show 0<mk;omega))]at k6;go_wp2;go_end0;rw [HR.out];have hT:Chg [go] w (W5.setCell ⟨go,54+k,none⟩ (.bool true)):=(Chg.ofBelow b4 [go]).trans (c5.trans ((Chg.refl [go] W5).setCell m0 _ _));have oT:OutS (fun z=>z=go\/z<B) w (W5.setCell ⟨go,54+k,none⟩ (.bool true)):=OutS.chg hT (fun z hz=>.inl (List.mem_singleton.1 hz));have hbd:=planCost_bd md q p s;rw [<- HN.out]at hbd;refine⟨rfl,⟨by simp [hL5],fun y hy=>?_,ecs.set k [.int .i64 mk,.int .i64 ((k:Int) - 1),.int .i64 N,.slice Ap np cp],by simp [e5],k6,fun j y hj=>?_⟩,hT⟩
  ·rcases List.mem_or_eq_of_mem_set hy with hy|rfl
   ·exact hpos y hy
   ·show 0<=mk;omega
  ·by_cases e:k=j
   ·subst e
    rw [List.getElem?_set_self (by omega)]at hj;injection hj with hj;subst hj;refine⟨Ap,np,cp,by rw [List.getElem?_set_self (by omega)],fun V hV=>?_⟩;obtain⟨_,_,_,eq,r⟩:=rPlan_rep.1 (hp V (oT.trans hV));injection eq with eq _;injection eq with q1 q2 q3;subst q1 q2 q3;exact rPlanEntry_rep.2 ⟨Ap,np,cp,rfl,hmI,⟨by simp only;omega,by simp only;omega⟩,⟨by simp only;omega,by simp only;omega⟩,r⟩
   ·rw [List.getElem?_set_ne e]at hj
    obtain⟨A',n',c',e',h'⟩:=hE j y hj;exact⟨A',n',c',by rw [List.getElem?_set_ne e];exact e',h'.step oT⟩
theorem some_yes {L:List PlanEntryD}{k:Nat}{x:PlanEntryD}(h:L[k]?=some x) (hs:some0 x=true):(L.take (k+1)).filter some0=(L.take k).filter some0++[x]:=by rw [take_snoc h,List.filter_append];simp [hs]
theorem some_no {L:List PlanEntryD}{k:Nat}{x:PlanEntryD}(h:L[k]?=some x) (hs:some0 x=false):(L.take (k+1)).filter some0=(L.take k).filter some0:=by rw [take_snoc h,List.filter_append];simp [hs]
theorem sizeBools:(Tryz.prog.info? 224).map (·.size)=some 5:=by kernel_rfl
theorem iEntries_c (csm csq:List Value) (As:Option Addr) (ns cc:Nat) (mk:Int) (go B:Nat) (L:List PlanEntryD) (w:World)
  (lenm:csm.length=30) (lenq:csq.length=2) (hO:Ofs csm csq As ns cc mk go B L w) (hB:B<=w.heap.size) :
  Calls Tryz.prog 207 #[.pointer (some ⟨go,0,none⟩)] w
   fun e w'=>∃ A n c,e=.returned (.slice A n c)/\PT (rPlanEntry NB) 107 B A n c (L.filter some0) w'/\Below w.heap.size w w'/\(∀ k∈blk A,w.heap.size<=k)/\n<=5:=by
 have hL5:=hO.len;have glt:=hO.lt;obtain⟨ecs,e5,e4,kO,hE⟩:=hO.rows
 obtain⟨x0,x1,x2,x3,x4,rfl⟩:∃ x0 x1 x2 x3 x4,L=[x0,x1,x2,x3,x4]:=by
  match L,hL5 with
  | [a,b,c,d,e],_=>exact⟨a,b,c,d,e,rfl⟩
 obtain⟨wa,hwa⟩:∃ W,W=w.alloc (.cells #[] 107):=⟨_,rfl⟩;have ba:Below w.heap.size w wa:=by rw [hwa];exact bal
 have hP:PT (rPlanEntry NB) 107 B (some ⟨w.heap.size,0,none⟩) 0 0 [] wa:=by rw [hwa];exact PT.new hB
 have kOa:=kO.below ba;have c0:=kOa.bx 54 _ (ofC_b (k:=0) lenm lenq e4 e5 rfl);have c1:=kOa.bx 55 _ (ofC_b (k:=1) lenm lenq e4 e5 rfl);have c2:=kOa.bx 56 _ (ofC_b (k:=2) lenm lenq e4 e5 rfl);have c3:=kOa.bx 57 _ (ofC_b (k:=3) lenm lenq e4 e5 rfl);have c4:=kOa.bx 58 _ (ofC_b (k:=4) lenm lenq e4 e5 rfl);have HWA:=Lib.hid hwa;clear hwa
 go_enter Tryz.func207,Tryz.ntmps207
 go_upto_region 2 with fail
 rw [<- HWA.out];have G0:∀ z∈blk (some (⟨w.heap.size,0,none⟩:Addr)),w.heap.size<=z:=fun z hz=>by simp [blk]at hz;omega
 clear HWA
 go_wp2_with fail
 go_loopw [3,11] (fun ov iv wv=>∃ (t n2 c2':Nat) (A:Option Addr),t<=5/\iv=.int .i64 (t:Int)/\ov=.slice A n2 c2'/\PT (rPlanEntry NB) 107 B A n2 c2' (([x0,x1,x2,x3,x4].take t).filter some0) wv/\(∀ z∈blk A,w.heap.size<=z)/\Below w.heap.size w wv) (fun _ i _=>5 - (intOf i).toNat)
 case atStart=>exact⟨0,0,0,_,by omega,rfl,rfl,hP,G0,ba⟩
 case round =>
  clear hP G0 ba c0 c1 c2 c3 c4;obtain⟨t,n2,c2',A,ht5,rfl,rfl,P,G,hb⟩:=hrel;by_cases hlt:t<5
  ·obtain⟨y,hy⟩:∃ y,[x0,x1,x2,x3,x4][t]?=some y:=⟨_,List.getElem?_eq_getElem (by simp;omega)⟩
   obtain⟨APy,nPy,cPy,eE,hsy⟩:=hE t y hy;have kU:=kO.below hb;have y0:=kU.bx (34+t*4) _ (ofC_e lenm lenq e4 eE (j:=0) rfl);have y1:=kU.bx (34+t*4+1) _ (ofC_e lenm lenq e4 eE (j:=1) rfl);have y2:=kU.bx (34+t*4+2) _ (ofC_e lenm lenq e4 eE (j:=2) rfl);have y3:=kU.bx (34+t*4+3) _ (ofC_e lenm lenq e4 eE (j:=3) rfl);have hn2:n2<=5:=by have:=P.len;have h2:=List.length_filter_le some0 ([x0,x1,x2,x3,x4].take t);rw [List.length_take]at h2;omega
   have hA1:=(Below.refl wr.heap.size wr).alloc (Nat.le_refl _) (.cells #[.int .i64 y.fMask,.int .i64 y.fOrder,.int .i64 y.fCost,.slice APy nPy cPy] 107);have hBU:B<=wr.heap.size:=Nat.le_trans hB hb.size;have hUA:=hb.trans (hA1.mono hb.size)
   have hS:StS (rPlanEntry NB) (fun z=>z∈blk A\/z<B) (wr.alloc (.cells #[.int .i64 y.fMask,.int .i64 y.fOrder,.int .i64 y.fCost,.slice APy nPy cPy] 107)) [.int .i64 y.fMask,.int .i64 y.fOrder,.int .i64 y.fCost,.slice APy nPy cPy] y :=
    hsy.next hUA.size (fun z hz hn=>⟨fun e=>e.elim (fun e=>by have:=G z e;omega) (fun e=>hn (.inr e)),hUA.block z hz⟩)
   clear hUA kU;have hcn:=cells_new wr 107 [.int .i64 y.fMask,.int .i64 y.fOrder,.int .i64 y.fCost,.slice APy nPy cPy]
   have HI:∀ W:World,(Instr.index 224 (.agg #[.bool (some0 x0),.bool (some0 x1),.bool (some0 x2),.bool (some0 x3),.bool (some0 x4)]) (.int .i64 (t:Int))).run Tryz.prog W=.ok (.bool (some0 y)) W:=by
    clear hS hcn hA1 P hb G hsy y0 y1 y2 y3;rcases (show t=0\/t=1\/t=2\/t=3\/t=4 by omega) with rfl|rfl|rfl|rfl|rfl
    all_goals
     obtain rfl:=Option.some.inj hy;intro W
     kernel_rfl
   have htI:(t:Int)<5:=by omega
   have htJ:(t:Int)<=4:=by omega
   clear eE;cases hs:some0 y
   ·have HF:=Lib.hid (some_no hy hs)
    rw [hs]at HI;clear hs hy;go_wp2;go_roundw
    case rel=>exact⟨t+1,n2,c2',A,by omega,by go_num,rfl,by rw [HF.out];exact P,G,hb⟩
    case measure=>simp [intOf];omega
   ·have HF:=Lib.hid (some_yes hy hs)
    rw [hs]at HI;clear hs hy
    go_wp2_with (at_builtin;go_loud (refine wpList_appK2 rfl _ _ 110 rfl _ 48 eiPlanEntry (rPlanEntry_ok NB) rfl P hA1 hBU ⟨wr.heap.size,0,none⟩ rfl _ _ hS hcn (by unfold NB;omega) (by omega) ?_;intro A' c' w' P' b' g' q'))
    go_roundw
    case rel=>exact⟨t+1,n2+1,c',A',by omega,by go_num,rfl,by rw [HF.out];exact P',fun z hz=>(q' z hz).elim (fun e=>G z e) (fun e=>Nat.le_trans (Nat.le_trans hb.size hA1.size) e),below_app b' hb hA1 g' G⟩
    case measure=>simp [intOf];omega
  ·have ht:t=5:=by omega
   subst ht;have hn2:n2<=5:=by have:=P.len;have h2:=List.length_filter_le some0 ([x0,x1,x2,x3,x4].take 5);rw [List.length_take]at h2;omega
   go_wp2;go_ret;exact⟨A,n2,c2',rfl,P,hb,G,hn2⟩
end Go.Proofs.YtnlcfkpcmfljeaaGreat
namespace Go.Proofs.YtnlcfkpcmfljeaaGreat
open Go.RowKit
attribute [local go_sem ↓] Go.wp_at_zero Go.wp_at_succ
theorem find_no {G:List PlanEntryD}{P:PlanEntryD->Bool}{k:Nat}{x:PlanEntryD}(h:(G.take k).find? P=none) (hx:G[k]?=some x) (hp:P x=false):(G.take (k+1)).find? P=none:=by
 rw [take_snoc hx,List.find?_append,h,Option.none_or,List.find?_cons_of_neg (by rw [hp];exact Bool.false_ne_true)];rfl
theorem find_yes {G:List PlanEntryD}{P:PlanEntryD->Bool}{k:Nat}{x:PlanEntryD}(h:(G.take k).find? P=none) (hx:G[k]?=some x) (hp:P x=true):G.find? P=some x:=by
 have e:G=G.take (k+1)++G.drop (k+1):=(List.take_append_drop _ _).symm;rw [e,take_snoc hx,List.find?_append,List.find?_append,h,Option.none_or,List.find?_cons_of_pos hp];rfl
theorem iInputFor_c (csm:List Value) (md:ModelD) (csq:List Value) (q:QueryD) (As:Option Addr) (ns cc:Nat) (s:List Int) (Al:Option Addr) (nl cl:Nat) (G:List PlanEntryD) (v:Int) (w:World)
  (hm:(rModel NB).rep w csm md) (hq:(rQuery NB).rep w csq q) (hs:RS NB rInt w As ns cc s) (hG:RS NB (rPlanEntry NB) w Al nl cl G) (h0:0<nl) (hv:I64 v) (hp:∀ x∈G,x.fPlan.fSteps.length<=90) :
  Calls Tryz.prog 206 #[.agg csm.toArray,.agg csq.toArray,.slice As ns cc,.slice Al nl cl,.int .i64 v] w
   fun e W=>∃ A n c,e=.returned (.agg #[.slice A n c])/\RS NB (rPlanStep NB) W A n c (inputI md q s G v).fSteps/\Below w.heap.size w W:=by
 have lenm:=(rModel_ok NB).len hm;obtain⟨AA,nA,cA,rfl,_,_⟩:=rQuery_rep.1 hq;obtain⟨w1,hw1⟩:∃ W,W=w.alloc (.cells csm.toArray 46):=⟨_,rfl⟩;obtain⟨w2,hw2⟩:∃ W,W=w1.alloc (.cells #[.int .i64 q.fVariableCount,.slice AA nA cA] 50):=⟨_,rfl⟩;obtain⟨w3,hw3⟩:∃ W,W=w2.alloc (.cells #[.slice none 0 0] 76):=⟨_,rfl⟩;have hs1:w1.heap.size=w.heap.size+1:=by rw [hw1];simp
 have hs2:w2.heap.size=w.heap.size+1+1:=by rw [hw2];simp [hs1]
 have b1:Below w.heap.size w w1:=by rw [hw1];exact bal
 have b2:Below w1.heap.size w1 w2:=by rw [hw2];exact bal
 have b3:Below w2.heap.size w2 w3:=by rw [hw3];exact bal
 have kM:Bk w3 w.heap.size 46 csm:=Bk.below (w:=w2) (Bk.below (w:=w1) (by rw [hw1];exact Bk.new w _ _) b2) b3;have kQ:Bk w3 (w.heap.size+1) 50 [.int .i64 q.fVariableCount,.slice AA nA cA]:=Bk.below (w:=w2) (by rw [hw2,<- hs1];exact Bk.new w1 _ _) b3;have kR:Bk w3 (w.heap.size+1+1) 76 [.slice none 0 0]:=by rw [hw3,<- hs2];exact Bk.new w2 _ _
 have bb:Below w.heap.size w w3:=(b1.trans (b2.mono b1.size)).trans (b3.mono (by omega));have H1:=Lib.hid hw1;have H2:=Lib.hid hw2;have H3:=Lib.hid hw3;have hGn:=hG.bound;clear hw1 hw2 hw3 hs1 hs2 b1 b2 b3
 go_enter Tryz.func206,Tryz.ntmps206
 go_upto_region 1 with fail
 rw [<- H1.out,<- H2.out,<- H3.out];clear H1 H2 H3
 go_wp2_with fail
 refine(iBestOfU_c Al nl cl G w _ bb hG h0).mono ?_;rintro e w4 ⟨y,AY,nY,cY,rfl,hy,rY,j0,j1,j2,hb4⟩;have HB:=Lib.hid hy;have hyl:=hp y (bestL_mem hy);clear hy;have B4:=bb.trans (hb4.mono bb.size);obtain⟨w5,hw5⟩:∃ W,W=w4.alloc (.cells #[.int .i64 y.fMask,.int .i64 y.fOrder,.int .i64 y.fCost,.slice AY nY cY] 107):=⟨_,rfl⟩;have b5:Below w4.heap.size w4 w5:=by rw [hw5];exact bal
 obtain⟨gY,hgY⟩:∃ g,g=w4.heap.size:=⟨_,rfl⟩;have kY:Bk w5 gY 107 [.int .i64 y.fMask,.int .i64 y.fOrder,.int .i64 y.fCost,.slice AY nY cY]:=by rw [hw5,hgY];exact Bk.new w4 _ _
 have b35:=hb4.trans (b5.mono hb4.size);have kM5:=kM.below b35;have kQ5:=kQ.below b35;have kR5:=kR.below b35;have B5:=bb.trans (b35.mono bb.size);have H5:=Lib.hid hw5;have HG5:=Lib.hid hgY;clear hw5 hgY b5 b35 hb4 kM kQ kR bb B4
 go_upto_region 2 with fail
 rw [<- H5.out,<- HG5.out];clear H5 HG5;have y1:=kY.bx 1 _ rfl;have y3:=kY.bx 3 _ rfl;have hIin:Hid (inputI md q s G v=if y.fOrder=v then y.fPlan else match G.find? (fun e=>decide (e.fOrder=v)&&decide (e.fCost<=planCost md q (sortedP y.fPlan v) s)) with|some e=>e.fPlan|none=>sortedP y.fPlan v):=by show _=_;unfold inputI;rw [HB.out]<;>rfl
 by_cases ho:y.fOrder=v
 ·have hod:(y.fOrder==v)=true:=by simp [ho]
  have r0:=kR5.bx 0 _ rfl;have f0:=kR5.frozen 0;have HI:Hid (inputI md q s G v=y.fPlan):=by show _=_;rw [hIin.out,if_pos ho]
  clear ho hIin;go_wp2;have k9:=kR5.set 0 (.slice AY nY cY);have B9:=B5.setCell (p:=⟨w.heap.size+1+1,0,none⟩) (by simp only;omega) (.slice AY nY cY);have q9:=k9.bx 0 _ rfl;refine bodyPost_ret (v:=.agg #[.slice AY nY cY]) (by simp [results,Tryz.results206,go_sem,q9]) rfl ?_;exact⟨AY,nY,cY,rfl,by rw [HI.out];exact rY.below (rPlanStep_ok NB) B9,B9⟩
 have hod:(y.fOrder==v)=false:=by simp [ho]
 obtain⟨N,hN⟩:∃ N,N=planCost md q (sortedP y.fPlan v) s:=⟨_,rfl⟩;have HI:Hid (inputI md q s G v=match G.find? (fun e=>decide (e.fOrder=v)&&decide (e.fCost<=N)) with|some e=>e.fPlan|none=>sortedP y.fPlan v):=by show _=_;rw [hIin.out,if_neg ho,hN]
 have HN:=Lib.hid hN;clear ho hIin hN
 go_wp2_with fail
 refine(iSortPlan_c _ y.fPlan v _ (rPlan_rep.2 ⟨AY,nY,cY,rfl,rY.below (rPlanStep_ok NB) B5⟩) hv (by omega)).mono ?_;rintro e w6 ⟨cs,fp,rfl,oX,fX,hb6⟩;obtain⟨Aj,nj,cj,_,rfl,rfl,oj⟩:=rPlan_own.1 oX;obtain⟨w7,hw7⟩:∃ W,W=w6.alloc (.cells #[.slice Aj nj cj] 76):=⟨_,rfl⟩;have b7:Below w6.heap.size w6 w7:=by rw [hw7];exact bal
 obtain⟨gP,hgP⟩:∃ g,g=w6.heap.size:=⟨_,rfl⟩;have kP:Bk w7 gP 76 [.slice Aj nj cj]:=by rw [hw7,hgP];exact Bk.new w6 _ _
 have b57:=hb6.trans (b7.mono hb6.size);have kM7:=kM5.below b57;have kQ7:=kQ5.below b57;have kR7:=kR5.below b57;have rP:=(oj.rs (rPlanStep_ok NB)).below (rPlanStep_ok NB) b7;have rP:RS NB (rPlanStep NB) w7 Aj nj cj (sortedP y.fPlan v).fSteps:=rP;have oP:=oj.belowS (rPlanStep_ok NB) b7;have gR:=kR5.lt;have fP:∀ z∈fp,z≠w.heap.size+1+1:=fun z hz e=>by have:=fX.ge z hz;omega
 have B7:=B5.trans (b57.mono B5.size);have H7:=Lib.hid hw7;have HG7:=Lib.hid hgP;clear hw7 hgP b7 b57 hb6 kM5 kQ5 kR5 B5 oX oj fX kY y1 y3
 go_upto_region 5 with fail
 rw [<- H7.out,<- HG7.out];clear H7 HG7;have h7:=Below.refl w7.heap.size w7
 go_wp2_with fail
 go_loopw [29] (fun iv wr=>∃ (k:Nat),k<=nl/\iv=.int .i64 (k:Int)/\Hid ((G.take k).find? (fun e=>decide (e.fOrder=v)&&decide (e.fCost<=N))=none)/\Below w7.heap.size w7 wr) (fun iv _=>nl - (intOf iv).toNat)
 case atStart=>exact⟨0,Nat.zero_le _,rfl,Lib.hid (by simp),h7⟩
 case round =>
  clear h7;obtain⟨k,hk,rfl,hF,hb⟩:=hrel;have Bw:=B7.trans (hb.mono B7.size);by_cases hlt:k<nl
  ·obtain⟨be,oe,x,AE,nE,cE,rfl,c0,c1,c2,c3,i0,i1,i2,rE,hx⟩:=hG.ePlanEntry hlt
   replace c0:=cells_below Bw _ _ c0;replace c1:=cells_below Bw _ _ c1;replace c2:=cells_below Bw _ _ c2;replace c3:=cells_below Bw _ _ c3;have hkI:(k:Int)<nl:=by omega
   obtain⟨wn,hwn⟩:∃ W,W=wr.alloc (.cells #[.int .i64 x.fMask,.int .i64 x.fOrder,.int .i64 x.fCost,.slice AE nE cE] 107):=⟨_,rfl⟩;have bn:Below wr.heap.size wr wn:=by rw [hwn];exact bal
   obtain⟨gE,hgE⟩:∃ g,g=wr.heap.size:=⟨_,rfl⟩;have kE:Bk wn gE 107 [.int .i64 x.fMask,.int .i64 x.fOrder,.int .i64 x.fCost,.slice AE nE cE]:=by rw [hwn,hgE];exact Bk.new wr _ _
   have b7n:=hb.trans (bn.mono hb.size);have Bn:=B7.trans (b7n.mono B7.size);have Hn:=Lib.hid hwn;have HGn:=Lib.hid hgE;clear hwn hgE bn hb
   go_upto_region 8 with fail
   rw [<- Hn.out,<- HGn.out];clear Hn HGn c0 c1 c2 c3;by_cases hov:x.fOrder=v
   ·have hvd:(x.fOrder==v)=true:=by simp [hov]
    have kMn:=kM7.below b7n;have kQn:=kQ7.below b7n;have kPn:=kP.below b7n
    have HSS:Hid (∀ w':World,Below wn.heap.size wn w'->w'.rangeAt w.heap.size 0 csm/\w'.cell? ⟨w.heap.size+1,0,none⟩=some (.int .i64 q.fVariableCount)/\w'.cell? ⟨w.heap.size+1,1,none⟩=some (.slice AA nA cA)/\w'.cell? ⟨gP,0,none⟩=some (.slice Aj nj cj)/\w'.cell? ⟨gE,1,none⟩=some (.int .i64 x.fOrder)/\w'.cell? ⟨gE,2,none⟩=some (.int .i64 x.fCost)):=by
     show ∀ w':World,_->_;intro w' h;have kx:=(kQn.below h).bx;have ke:=(kE.below h).bx;exact⟨(kMn.below h).rangeAt,kx 0 _ rfl,kx 1 _ rfl,(kPn.below h).bx 0 _ rfl,ke 1 _ rfl,ke 2 _ rfl⟩
    have hd0:=(Below.refl wn.heap.size wn).drew;have Bd:=Bn.trans (hd0.mono Bn.size);have bPd:=b7n.trans (hd0.mono b7n.size);refine hbg HSS.out hd0 (fun hH=>?_);refine tq4 0 hH ?_;simp only [putS];refine tq2 4 hH ?_;refine tq1 6 hH ?_;refine ldm 7 40 (fun w h=>h.1) Tryz.underlying46 (by rw [lenm];exact sizeModelT) hH ?_;simp only [putS];refine tq2 8 hH ?_;refine tq1 10 hH ?_;simp only [putS];refine rd 11 (some 44) fun K hK=>?_;clear hH;go_simp;refine(iPlanCost_c _ md _ q _ (sortedP y.fPlan v) As ns cc s _ ((rModel_ok NB).keep hm (cells_below Bd)) ((rQuery_ok NB).keep hq (cells_below Bd)) (rPlan_rep.2 ⟨Aj,nj,cj,rfl,rP.below (rPlanStep_ok NB) bPd⟩) (hs.below rInt_ok Bd)).mono ?_
    rintro e w8 ⟨rfl,hb8⟩;rw [<- HN.out];have hC1:Below wn.heap.size wn w8:=hd0.trans (hb8.mono hd0.size)
    go_wp2_with fail
    refine hK.out _ _ (HSS.out _ hC1) (fun hH=>?_);clear hK K
    try simp only [putS]
    refine tq2 12 hH ?_;simp only [putS];refine wpAnyH_done (by kernel_rfl) ?_ _;clear hH;have b7e:=b7n.trans (hC1.mono b7n.size);have B8:=B7.trans (b7e.mono B7.size);have k8:=kE.below hC1;have kR8:=kR7.below b7e;clear HSS hd0 Bd bPd hb8 kMn kQn kPn;by_cases hc:x.fCost<=N
    ·have hcd:decide (x.fCost<=N)=true:=decide_eq_true hc
     have HF:=Lib.hid (find_yes hF.out hx.out (by simp [hov,hc]));have r0:=kR8.bx 0 _ rfl;have f0:=kR8.frozen 0;have e3:=k8.bx 3 _ rfl;clear hov;go_wp2;have k9:=kR8.set 0 (.slice AE nE cE);have B9:=B8.setCell (p:=⟨w.heap.size+1+1,0,none⟩) (by simp only;omega) (.slice AE nE cE);have q9:=k9.bx 0 _ rfl;refine bodyPost_ret (v:=.agg #[.slice AE nE cE]) (by simp [results,Tryz.results206,go_sem,q9]) rfl ?_;exact⟨AE,nE,cE,rfl,by rw [HI.out,HF.out];exact rE.below (rPlanStep_ok NB) B9,B9⟩
    ·have hcd:decide (x.fCost<=N)=false:=decide_eq_false hc
     have HF:=Lib.hid (find_no hF.out hx.out (by simp [hc]));clear hov;go_wp2;go_roundw
     case rel=>exact⟨k+1,by omega,by go_num,HF,b7e⟩
     case measure=>simp [intOf];omega
   ·have hvd:(x.fOrder==v)=false:=by simp [hov]
    have HF:=Lib.hid (find_no hF.out hx.out (by simp [hov]));have e1:=kE.bx 1 _ rfl;clear hov
    go_quiet (fail)
    go_wp2_with fail
    go_roundw
    case rel=>exact⟨k+1,by omega,by go_num,HF,below_drewN b7n _⟩
    case measure=>simp [intOf];omega
  ·have HF:=hF.out
   rw [List.take_of_length_le (by rw [hG.len];omega)]at HF;have HF:=Lib.hid HF;have kR8:=kR7.below hb;have kP8:=kP.below hb;have r0:=kR8.bx 0 _ rfl;have f0:=kR8.frozen 0;have p0:=kP8.bx 0 _ rfl;have hs7:=kP.lt;go_wp2;have k9:=kR8.set 0 (.slice Aj nj cj);have B9:=Bw.setCell (p:=⟨w.heap.size+1+1,0,none⟩) (by simp only;omega) (.slice Aj nj cj);have q9:=k9.bx 0 _ rfl;refine bodyPost_ret (v:=.agg #[.slice Aj nj cj]) (by simp [results,Tryz.results206,go_sem,q9]) rfl ?_;exact⟨Aj,nj,cj,rfl,by rw [HI.out,HF.out];exact((oP.belowS (rPlanStep_ok NB) hb).okeep (rPlanStep_ok NB) (fun z hz=>heap_setCell_other wr ⟨w.heap.size+1+1,0,none⟩ z _ (fP z hz))).rs (rPlanStep_ok NB),B9⟩
end Go.Proofs.YtnlcfkpcmfljeaaGreat
namespace Go.Proofs.YtnlcfkpcmfljeaaGreat
open Go.RowKit
attribute [local go_sem ↓] Go.wp_at_zero Go.wp_at_succ
theorem iMaskOk_c (csx:List Value) (x:QueryD) (m:Int) (w:World) (hx:(rQuery NB).rep w csx x) :
  Calls Tryz.prog 137 #[.agg csx.toArray,.int .i64 m] w fun e w'=>e=.returned (.bool (maskOk x m))/\Below w.heap.size w w':=by
 have rx:=hx;obtain⟨Ax_e,nx_e,cx_e,rfl,hx_p5,hx_e⟩:=rQuery_rep.1 hx;clear hx;obtain⟨hB,bxx⟩:=op1 w [.int .i64 x.fVariableCount,.slice Ax_e nx_e cx_e] 50;have hnA:=hx_e.bound;have HL:=Lib.hid hx_e.len
 go_enter Tryz.func137,Tryz.ntmps137
 go_wp2_with fail
 refine(iIsValidQuery_c _ x _ ((rQuery_ok NB).keep rx (cells_below hB))).mono ?_;rintro e w1 ⟨rfl,hb1⟩;replace hB:=hB.trans (hb1.mono hB.size);replace bxx:=bxx.below hb1;clear hb1;cases hv:validQ x
 ·have HM:Hid (maskOk x m=false):=by show _=_;simp [maskOk,hv]
  clear hv;go_wp2;go_ret;exact⟨ret_bool (a:=false) HM.out.symm,hB⟩
 ·have hp:=validQ_parts hv
  have hn4:nx_e<=4:=by have:=HL.out;omega
  have p1:=pow2_wrap (v:=(nx_e:Int)) (by omega) (by omega);have p2:=pow2_bd (v:=(nx_e:Int)) (by omega) (by omega);rw [Int.toNat_natCast]at p1;have HM:Hid (maskOk x m=inR m 0 (pow2 (nx_e:Int) - 1)):=by show _=_;simp [maskOk,hv,HL.out]
  clear hp hv;have kx_1:=bxx 1 _ rfl;have hn15:(nx_e:Int)<=15:=by omega
  have K:=Lib.hid (fun W=>within_q m 0 (pow2 (nx_e:Int) - 1) W)
  go_wp2_with (go_at_call 89;refine(K.out _).mono ?_;rintro e w' ⟨rfl,hww⟩;replace hww:=hww.symm;subst hww)
  go_ret;exact⟨ret_bool HM.out.symm,hB⟩
theorem iMaskVariables_c (csx:List Value) (x:QueryD) (m:Int) (w:World) (hx:(rQuery NB).rep w csx x) :
  Calls Tryz.prog 240 #[.agg csx.toArray,.int .i64 m] w (RetS 3 rInt (maskVarsL x m) w):=by
 have rx:=hx;obtain⟨Ax_e,nx_e,cx_e,rfl,hx_p5,hx_e⟩:=rQuery_rep.1 hx;clear hx;obtain⟨hB,bxx⟩:=op1 w [.int .i64 x.fVariableCount,.slice Ax_e nx_e cx_e] 50;have kx_0:=bxx 0 _ rfl;have kx_1:=bxx 1 _ rfl
 go_enter Tryz.func240,Tryz.ntmps240
 go_wp2_with fail
 refine(iMaskOk_c _ x m _ ((rQuery_ok NB).keep rx (cells_below hB))).mono ?_;rintro e w1 ⟨rfl,hb1⟩;replace hB:=hB.trans (hb1.mono hB.size);replace bxx:=bxx.below hb1;clear hb1 kx_0 kx_1;cases hv:maskOk x m
 ·have HM:Hid (maskVarsL x m=[]):=by show _=_;simp [maskVarsL,hv]
  clear hv;rename World=>wz;have hM0:=MS.nil (B:=w.heap.size) (M:=NB) (e:=3) (r:=rInt) wz (Nat.zero_le _);go_wp2;go_ret;exact⟨_,_,_,rfl,by rw [HM.out];exact hM0,hB⟩
 ·obtain⟨h1,h2,h3⟩:=maskOk_bd hv
  have HM:Hid (maskVarsL x m=varsOf x m):=by show _=_;unfold maskVarsL;rw [hv,if_pos rfl];exact maskVars_same h1 m
  clear hv;have kx_0:=bxx 0 _ rfl;have kx_1:=bxx 1 _ rfl
  go_wp2_with fail
  refine(iVariables_c _ x m _ ((rQuery_ok NB).keep rx (cells_below hB)) h1 h2 (by omega)).mono ?_;rintro e w9 ⟨A,n,c,rfl,hM,hb⟩;go_wp2;go_ret;exact⟨_,_,_,rfl,by rw [HM.out];exact hM.base hB.size,hB.trans (hb.mono hB.size)⟩
theorem iNeighbors_c (csx:List Value) (x:QueryD) (m:Int) (w:World) (hx:(rQuery NB).rep w csx x) (hv:validQ x=true) (h0:0<=m) (h1:m<16) :
  Calls Tryz.prog 193 #[.agg csx.toArray,.int .i64 m] w fun e w'=>e=.returned (.int .i64 (nearQ x.fAtoms m))/\Below w.heap.size w w':=by
 have rx:=hx;obtain⟨Ax_e,nx_e,cx_e,rfl,hx_p5,hx_e⟩:=rQuery_rep.1 hx;clear hx;obtain⟨hB,bxx⟩:=op1 w [.int .i64 x.fVariableCount,.slice Ax_e nx_e cx_e] 50;have hnA:=hx_e.bound;have HL:=Lib.hid hx_e.len;have HV:=Lib.hid hv;clear hv;have hn4:nx_e<=4:=by have:=HL.out;have:=validQ_parts HV.out;omega
 go_enter Tryz.func193,Tryz.ntmps193
 have kx_0:=bxx 0 _ rfl;have kx_1:=bxx 1 _ rfl
 go_wp2_with fail
 refine(iVariables_c _ x m _ ((rQuery_ok NB).keep rx (cells_below hB)) HV.out h0 (by omega)).mono ?_;rintro e w1 ⟨AV,nV,cV,rfl,mV,hb1⟩;replace hB:=hB.trans (hb1.mono hB.size);replace bxx:=bxx.below hb1;clear hb1 kx_0 kx_1;have rV:=mV.rs rInt_ok;clear mV;have kx_0:=bxx 0 _ rfl;have kx_1:=bxx 1 _ rfl
 go_wp2_with fail
 go_loopw [6,15] (fun s i wr=>∃ (k:Nat),k<=nx_e/\i=.int .i64 k/\s=.int .i64 (nearTo x.fAtoms m k)/\Below w.heap.size w wr/\Bx wr w.heap.size [.int .i64 x.fVariableCount,.slice Ax_e nx_e cx_e]/\RS NB rInt wr AV nV cV (varsOf x m)) (fun _ i _=>nx_e - (intOf i).toNat)
 case atStart=>exact⟨0,Nat.zero_le _,rfl,rfl,hB,bxx,rV⟩
 case round =>
  clear hB bxx rV;obtain⟨k,hk,rfl,rfl,hB,bxx,rV⟩:=hrel;have kx_0:=bxx 0 _ rfl;have kx_1:=bxx 1 _ rfl;by_cases hlt:k<nx_e
  ·have hk15:(k:Int)<=15:=by omega
   have hNB:=nearTo_bd (l:=x.fAtoms) (m:=m) (by rw [HL.out];omega) (n:=k) (by rw [HL.out];omega);have p1:=pow2_wrap (v:=(k:Int)) (by omega) (by omega);have p2:=pow2_bd (v:=(k:Int)) (by omega) (by omega);rw [Int.toNat_natCast]at p1;obtain⟨b,off,a,AA,nA,cA,rfl,hc0,hc1,hsz,hRA,ha⟩:=hx_e.eAtom hlt;replace hc0:=cells_below hB _ _ hc0;replace hc1:=cells_below hB _ _ hc1;have HNS:=Lib.hid (near_same HV.out m ha.out);clear ha;have hBa:=(Below.refl wr.heap.size wr).alloc (Nat.le_refl _) (.cells #[.string a.fName,.slice AA nA cA] 162);have bxa:=Bx.new wr [.string a.fName,.slice AA nA cA] 162;obtain⟨gn,hgn⟩:∃ g,g=wr.heap.size:=⟨_,rfl⟩
   obtain⟨wn,hwn⟩:∃ wn,wn=wr.alloc (.cells #[.string a.fName,.slice AA nA cA] 162):=⟨_,rfl⟩;rw [<- hwn]at hBa bxa;rw [<- hgn]at bxa;have hB2:=hB.trans (hBa.mono hB.size);have bx2:=bxx.below hBa;have rV2:=rV.below rInt_ok hBa;have rA2:=(hRA.below rInt_ok hB).below rInt_ok hBa;have ka_1:=bxa 1 _ rfl;have HG:=Lib.hid hgn;have HW:=Lib.hid hwn;clear hgn hwn hBa bxa hRA rV hB bxx
   go_upto_region 6 with fail
   rw [<- HW.out,<- HG.out];clear hc0 hc1 kx_0 kx_1;cases hb:mbit m k
   ·have hbt:=mbit_test0 h0 (by omega) hb
    go_wp2_with fail
    refine(iBoth_c _ _ _ _ _ _ _ _ _ rA2 rV2).mono ?_;rintro e w4 ⟨A4,n4,c4,rfl,m4,hb4⟩;have hl4:=m4.len;have B4:=hB2.trans (hb4.mono hB2.size);have bx4:=bx2.below hb4;have rV4:=rV2.below rInt_ok hb4;have HNS2:=HNS.out;rw [hl4]at HNS2;cases hz:decide (0<n4)
    ·have HN:Hid (nearTo x.fAtoms m (k+1)=nearTo x.fAtoms m k):=nearTo_no (by unfold nearAt;rw [hb,<- HNS2,hz];rfl)
     have hz0:n4=0:=by simpa using hz
     subst hz0;clear hb hz HNS HNS2 HG HW m4 hl4;go_wp2;go_roundw
     case rel=>exact⟨k+1,by omega,by go_num,by rw [HN.out],B4,bx4,rV4⟩
     case measure=>simp [intOf];omega
    ·have HN:Hid (nearTo x.fAtoms m (k+1)=orI (nearTo x.fAtoms m k) (pow2 (k:Int))):=nearTo_yes (by unfold nearAt;rw [hb,<- HNS2,hz];rfl)
     have hz0:0<n4:=by simpa using hz
     have hz1:(0:Int)<n4:=by omega
     have p3:=orI_bits (a:=nearTo x.fAtoms m k) (b:=pow2 (k:Int)) (by omega) (by omega) (by omega) (by omega);clear hb hz HNS HNS2 HG HW m4 hl4;go_wp2;go_roundw
     case rel=>exact⟨k+1,by omega,by go_num,by rw [HN.out],B4,bx4,rV4⟩
     case measure=>simp [intOf];omega
   ·have hbt:=mbit_test0 h0 (by omega) hb
    have HN:Hid (nearTo x.fAtoms m (k+1)=nearTo x.fAtoms m k):=nearTo_no (by unfold nearAt;rw [hb];rfl);clear hb HNS HG HW;go_wp2;go_roundw
    case rel=>exact⟨k+1,by omega,by go_num,by rw [HN.out],hB2,bx2,rV2⟩
    case measure=>simp [intOf];omega
  ·have hk4:k=nx_e:=by omega
   subst hk4;go_wp2;go_ret;exact⟨ret_int (by unfold nearQ;rw [HL.out]),hB⟩
theorem iConnected_c (csx:List Value) (x:QueryD) (m:Int) (w:World) (hx:(rQuery NB).rep w csx x) (hv:validQ x=true) (h0:1<=m) (h1:m<=fullMask x) :
  Calls Tryz.prog 138 #[.agg csx.toArray,.int .i64 m] w fun e w'=>e=.returned (.bool (joinedQ x.fAtoms m))/\Below w.heap.size w w':=by
 have rx:=hx;obtain⟨Ax_e,nx_e,cx_e,rfl,hx_p5,hx_e⟩:=rQuery_rep.1 hx;clear hx;obtain⟨hB,bxx⟩:=op1 w [.int .i64 x.fVariableCount,.slice Ax_e nx_e cx_e] 50;have hnA:=hx_e.bound;have HL:=Lib.hid hx_e.len;have HV:=Lib.hid hv;clear hv;have h4:x.fAtoms.length<=4:=by have:=validQ_parts HV.out;omega
 have h2:m<((2 ^ x.fAtoms.length:Nat):Int):=by unfold fullMask at h1;rw [if_pos HV.out]at h1;omega
 have h16:m<16:=by have:=fm15 x;omega
 have HLB:=Lib.hid (lowB_bits ⟨m.toNat,by omega⟩);have hlb:bits .and .i64 m (-m)=lowB m:=by have:=HLB.out;rwa [show((m.toNat:Nat):Int)=m by omega]at this
 clear HLB;have hne:(m==0)=false:=by simp;omega
 have hneg:IntKind.i64.wrap (-m)=-m:=IntWalk.i64_in _ (by omega);have HSt:=Lib.hid (bfs_start (l:=x.fAtoms) h0 h16)
 go_enter Tryz.func138,Tryz.ntmps138
 have kx_0:=bxx 0 _ rfl;have kx_1:=bxx 1 _ rfl;go_wp2
 go_loopw [5] (fun s wr=>∃ (k:Nat),s=.int .i64 (bfs x.fAtoms m k)/\k+1<=cntM (bfs x.fAtoms m k)/\Below w.heap.size w wr/\Bx wr w.heap.size [.int .i64 x.fVariableCount,.slice Ax_e nx_e cx_e]) (fun s _=>(m - intOf s).toNat)
 case atStart=>exact⟨0,rfl,HSt.out,hB,bxx⟩
 case round =>
  clear hB bxx kx_0 kx_1 hlb;obtain⟨k,rfl,hk,hB,bxx⟩:=hrel;have kx_0:=bxx 0 _ rfl;have kx_1:=bxx 1 _ rfl;have hR:=Lib.hid (bfs_round h4 h0 h2 hk);have hb1:=bfs_bd (l:=x.fAtoms) h4 (by omega) h16 k;have hb2:=nearTo_bd (l:=x.fAtoms) (m:=bfs x.fAtoms m k) h4 (n:=x.fAtoms.length) (Nat.le_refl _);have hb3:=andI_bd (b:=m) hb2.1 hb2.2;have p1:=andI_bits (a:=nearQ x.fAtoms (bfs x.fAtoms m k)) (b:=m) hb2.1 (Int.lt_trans hb2.2 (by decide)) (by omega) (by omega);have p2:=orI_bits (a:=bfs x.fAtoms m k) (b:=andI (nearQ x.fAtoms (bfs x.fAtoms m k)) m) hb1.1 (by omega) hb3.1 (Int.lt_trans hb3.2 (by decide));have e2:orI (bfs x.fAtoms m k) (andI (nearQ x.fAtoms (bfs x.fAtoms m k)) m)=bfs x.fAtoms m (k+1):=rfl
  rw [e2]at p2;have h01:=hb1.1;have h02:=hb1.2;clear hb1 hb2 hb3 e2
  go_wp2_with fail
  refine(iNeighbors_c _ x (bfs x.fAtoms m k) _ ((rQuery_ok NB).keep rx (cells_below hB)) HV.out h01 h02).mono ?_;rintro e w1 ⟨rfl,hb1⟩;replace hB:=hB.trans (hb1.mono hB.size);replace bxx:=bxx.below hb1;clear hb1 kx_0 kx_1;rcases hR.out with ⟨e1,e2⟩|⟨e1,e2,e3,e4⟩
  ·have d1:(bfs x.fAtoms m (k+1)==bfs x.fAtoms m k)=true:=by simp [e1]
   have HE:=Lib.hid e2;clear e1 e2 hR;go_wp2;go_ret;exact⟨ret_bool (by unfold joinedQ;rw [HE.out];by_cases h:bfs x.fAtoms m k=m<;>simp [h]),hB⟩
  ·have d1:(bfs x.fAtoms m (k+1)==bfs x.fAtoms m k)=false:=by simp [e1]
   have HE:=Lib.hid (And.intro e2 e4);have h3:=Lib.hid e3;clear e1 e2 e3 e4 hR;go_wp2;go_roundw
   case rel=>exact⟨k+1,rfl,h3.out,hB,bxx⟩
   case measure=>have:=HE.out;simp [intOf];omega
theorem iIsConnected_c (csx:List Value) (x:QueryD) (m:Int) (w:World) (hx:(rQuery NB).rep w csx x) (h0:1<=m) :
  Calls Tryz.prog 63 #[.agg csx.toArray,.int .i64 m] w fun e w'=>e=.returned (.bool (isConn x m))/\Below w.heap.size w w':=by
 have rx:=hx;obtain⟨Ax_e,nx_e,cx_e,rfl,hx_p5,hx_e⟩:=rQuery_rep.1 hx;clear hx;obtain⟨hB,bxx⟩:=op1 w [.int .i64 x.fVariableCount,.slice Ax_e nx_e cx_e] 50
 go_enter Tryz.func63,Tryz.ntmps63
 have kx_0:=bxx 0 _ rfl;have kx_1:=bxx 1 _ rfl
 go_wp2_with fail
 refine(iMaskOk_c _ x m _ ((rQuery_ok NB).keep rx (cells_below hB))).mono ?_;rintro e w1 ⟨rfl,hb1⟩;replace hB:=hB.trans (hb1.mono hB.size);replace bxx:=bxx.below hb1;clear hb1 kx_0 kx_1;have kx_0:=bxx 0 _ rfl;have kx_1:=bxx 1 _ rfl;cases hm:maskOk x m
 ·have HI:Hid (isConn x m=false):=by show _=_;unfold isConn;rw [hm];rfl
  clear hm;go_wp2;go_ret;exact⟨ret_bool (a:=false) HI.out.symm,hB⟩
 ·obtain⟨h1,h2,h3⟩:=maskOk_bd hm
  have HV:=Lib.hid h1;clear h1
  have hf:m<=fullMask x:=by
   unfold maskOk at hm;simp only [Bool.and_eq_true]at hm;have:=inR_t.1 hm.2;unfold pow2 at this;rw [Int.toNat_natCast]at this;unfold fullMask;rw [if_pos HV.out];omega
  have HI:Hid (isConn x m=joinedQ x.fAtoms m):=by show _=_;unfold isConn;rw [hm,decide_eq_true (show 0<m by omega)];rfl
  clear hm
  go_wp2_with fail
  refine(iConnected_c _ x m _ ((rQuery_ok NB).keep rx (cells_below hB)) HV.out h0 hf).mono ?_;rintro e w9 ⟨rfl,hb9⟩;replace hB:=hB.trans (hb9.mono hB.size);replace bxx:=bxx.below hb9;clear hb9 kx_0 kx_1;go_wp2;go_ret;exact⟨ret_bool HI.out.symm,hB⟩
theorem iConnectedMasks_c (csx:List Value) (x:QueryD) (w:World) (hx:(rQuery NB).rep w csx x) (hv:validQ x=true) :
  Calls Tryz.prog 199 #[.agg csx.toArray] w (RetS 3 rInt (connMasks x) w):=by
 have rx:=hx;obtain⟨Ax_e,nx_e,cx_e,rfl,hx_p5,hx_e⟩:=rQuery_rep.1 hx;clear hx;obtain⟨hB,bxx⟩:=op1 w [.int .i64 x.fVariableCount,.slice Ax_e nx_e cx_e] 50;have hM:=MS.empty (B:=w.heap.size+1) (M:=NB) (e:=3) (r:=rInt) (w.alloc (.cells #[.int .i64 x.fVariableCount,.slice Ax_e nx_e cx_e] 50)) (by simp);have hb0:=(Below.refl _ (w.alloc (.cells #[.int .i64 x.fVariableCount,.slice Ax_e nx_e cx_e] 50))).alloc (Nat.le_refl _) (.cells #[] 3);simp only [World.size_alloc]at hM;replace hB:=hB.trans (hb0.mono hB.size);replace bxx:=bxx.below hb0;clear hb0;have HV:=Lib.hid hv;clear hv;have hf1:=fm15 x;have hf0:=fm0 x
 obtain⟨f,hf⟩:∃ f:Nat,(f:Int)=fullMask x:=⟨(fullMask x).toNat,by omega⟩;rw [<- hf]at hf1;have HF:=Lib.hid hf;clear hf0 hf
 go_enter Tryz.func199,Tryz.ntmps199
 have kx_0:=bxx 0 _ rfl;have kx_1:=bxx 1 _ rfl
 go_wp2_with fail
 go_loopw [3,4] (fun s i wr=>∃ (k n c:Nat) (A:Option Addr),k<=f/\n<=k/\i=.int .i64 ((k:Int)+1)/\s=.slice A n c/\MS (w.heap.size+1) NB 3 rInt wr A n c (connTo x k)/\Below w.heap.size w wr/\Bx wr w.heap.size [.int .i64 x.fVariableCount,.slice Ax_e nx_e cx_e]) (fun _ i _=>f+1 - (intOf i).toNat)
 case atStart=>exact⟨0,0,0,_,by omega,by omega,rfl,rfl,hM,hB,bxx⟩
 case round =>
  clear hB bxx hM;obtain⟨k,n,c,A,hk,hn,rfl,rfl,hM,hB,bxx⟩:=hrel;have kx_0:=bxx 0 _ rfl;have kx_1:=bxx 1 _ rfl
  go_wp2_with fail
  refine(iFullMask_c _ x _ ((rQuery_ok NB).keep rx (cells_below hB))).mono ?_;rintro e w1 ⟨rfl,hb1⟩;replace hB:=hB.trans (hb1.mono hB.size);replace bxx:=bxx.below hb1;replace hM:=hM.below rInt_ok hb1;clear hb1 kx_0 kx_1;rw [<- HF.out];have kx_0:=bxx 0 _ rfl;have kx_1:=bxx 1 _ rfl;have hz:=Nat.succ_le_of_lt (World.block_lt_of_cell? _ _ (bxx 0 _ rfl));by_cases hlt:k<f
  ·have hl1:(k:Int)+1<=(f:Int):=by omega
   go_wp2_with fail
   refine(iConnected_c _ x ((k:Int)+1) _ ((rQuery_ok NB).keep rx (cells_below hB)) HV.out (by omega) (by rw [<- HF.out];omega)).mono ?_;rintro e w9 ⟨rfl,hb9⟩;replace hB:=hB.trans (hb9.mono hB.size);replace bxx:=bxx.below hb9;replace hM:=hM.below rInt_ok hb9;clear hb9 kx_0 kx_1;have kx_0:=bxx 0 _ rfl;have kx_1:=bxx 1 _ rfl;have hz:=Nat.succ_le_of_lt (World.block_lt_of_cell? _ _ (bxx 0 _ rfl));cases hj:joinedQ x.fAtoms ((k:Int)+1)
   ·have HS:Hid (connTo x (k+1)=connTo x k):=connTo_no hj
    clear hj;go_wp2;go_roundw
    case rel=>exact⟨k+1,n,c,A,by omega,by omega,by go_num,rfl,by rw [HS.out];exact hM,hB,bxx⟩
    case measure=>simp [intOf];omega
   ·have HS:Hid (connTo x (k+1)=connTo x k++[(k:Int)+1]):=connTo_yes hj
    clear hj
    go_wp2_with (at_builtin;refine wpList_app (r:=rInt) rfl _ _ 30 rfl _ 8 eiInt rInt_ok rfl hM (bal) hz ⟨_,0,none⟩ rfl [] [.int .i64 ((k:Int)+1)] ((k:Int)+1) ⟨rfl,rfl,by unfold I64;omega⟩ (Fr.nil _) (cell_one_new _ _ _) (by unfold NB;omega) (Nat.le_refl _) (by omega) ?_;intro A9 k9 w9' hM9 hb9' hg9)
    go_roundw
    case rel=>exact⟨k+1,n+1,k9,A9,by omega,by omega,by go_num,rfl,by rw [HS.out];exact hM9,(hB.alloc hB.size _).trans (hb9'.mono (Nat.le_succ _)),(bxx.below (bal)).lowJ (Nat.lt_succ_self _) hb9'⟩
    case measure=>simp [intOf];omega
  ·have hk4:k=f:=by omega
   subst hk4;have hl1:¬ (k:Int)+1<=(k:Int):=by omega
   go_wp2;go_ret;exact⟨_,_,_,rfl,by unfold connMasks;rw [show(fullMask x).toNat=k by have:=HF.out;omega];exact hM.base (Nat.le_succ _),hB⟩
theorem iJoinSplits_c (csx:List Value) (x:QueryD) (m:Int) (w:World) (hx:(rQuery NB).rep w csx x) (h0:1<=m) :
  Calls Tryz.prog 203 #[.agg csx.toArray,.int .i64 m] w (RetS 3 rInt (splits x m) w):=by
 have rx:=hx;obtain⟨Ax_e,nx_e,cx_e,rfl,hx_p5,hx_e⟩:=rQuery_rep.1 hx;clear hx;obtain⟨hB,bxx⟩:=op1 w [.int .i64 x.fVariableCount,.slice Ax_e nx_e cx_e] 50
 go_enter Tryz.func203,Tryz.ntmps203
 have kx_0:=bxx 0 _ rfl;have kx_1:=bxx 1 _ rfl
 go_wp2_with fail
 refine(iIsConnected_c _ x m _ ((rQuery_ok NB).keep rx (cells_below hB)) h0).mono ?_;rintro e w1 ⟨rfl,hb1⟩;replace hB:=hB.trans (hb1.mono hB.size);replace bxx:=bxx.below hb1;clear hb1 kx_0 kx_1;cases hc:isConn x m
 ·have HI:Hid (splits x m=[]):=by show _=_;unfold splits;rw [hc];rfl
  clear hc;rename World=>wz;have hM0:=MS.nil (B:=w.heap.size) (M:=NB) (e:=3) (r:=rInt) wz (Nat.zero_le _);go_wp2;go_ret;exact⟨_,_,_,rfl,by rw [HI.out];exact hM0,hB⟩
 have HI:Hid (splits x m=splitsTo x.fAtoms m (m.toNat - 1)):=by show _=_;unfold splits;rw [hc];rfl
 unfold isConn at hc;simp only [Bool.and_eq_true,decide_eq_true_eq]at hc;obtain⟨h1,h2,h3⟩:=maskOk_bd hc.1
 have hf:m<=fullMask x:=by
  have hm:=hc.1;unfold maskOk at hm;simp only [Bool.and_eq_true]at hm;have:=inR_t.1 hm.2;unfold pow2 at this;rw [Int.toNat_natCast]at this;unfold fullMask;rw [if_pos h1];omega
 have HV:=Lib.hid h1;clear h1 hc;rename World=>wz;have hM:=MS.empty (B:=w.heap.size+1) (M:=NB) (e:=3) (r:=rInt) wz (Nat.succ_le_of_lt (World.block_lt_of_cell? _ _ (bxx 0 _ rfl)));have hb0:=(Below.refl _ wz).alloc (Nat.le_refl _) (.cells #[] 3);replace hB:=hB.trans (hb0.mono hB.size);replace bxx:=bxx.below hb0;clear hb0
 go_wp2_with fail
 go_loopw [5,6] (fun s i wr=>∃ (k n c:Nat) (A:Option Addr),(k:Int)+1<=m/\n<=k/\i=.int .i64 ((k:Int)+1)/\s=.slice A n c/\MS (w.heap.size+1) NB 3 rInt wr A n c (splitsTo x.fAtoms m k)/\Below w.heap.size w wr/\Bx wr w.heap.size [.int .i64 x.fVariableCount,.slice Ax_e nx_e cx_e]) (fun _ i _=>(m - intOf i).toNat)
 case atStart=>exact⟨0,0,0,_,by omega,by omega,rfl,rfl,hM,hB,bxx⟩
 case round =>
  clear hB bxx hM;obtain⟨k,n,c,A,hk,hn,rfl,rfl,hM,hB,bxx⟩:=hrel;have kx_0:=bxx 0 _ rfl;have kx_1:=bxx 1 _ rfl;have hz:=Nat.succ_le_of_lt (World.block_lt_of_cell? _ _ (bxx 0 _ rfl));by_cases hlt:(k:Int)+1<m
  ·have p1:=andI_bits (a:=(k:Int)+1) (b:=m) (by omega) (by omega) h2 (by omega)
   by_cases ha:andI ((k:Int)+1) m=(k:Int)+1
   ·have hd:(andI ((k:Int)+1) m==(k:Int)+1)=true:=by simpa using ha
    have hAN:bits .andNot .i64 m ((k:Int)+1)=m - ((k:Int)+1):=by
     have:=andNot_bits ⟨m.toNat,by omega⟩ ⟨((k:Int)+1).toNat,by omega⟩;simp only [show((m.toNat:Nat):Int)=m by omega,show((((k:Int)+1).toNat:Nat):Int)=(k:Int)+1 by omega]at this;exact this ha
    go_wp2_with fail
    refine(iConnected_c _ x ((k:Int)+1) _ ((rQuery_ok NB).keep rx (cells_below hB)) HV.out (by omega) (by omega)).mono ?_;rintro e w9 ⟨rfl,hb9⟩;replace hB:=hB.trans (hb9.mono hB.size);replace bxx:=bxx.below hb9;replace hM:=hM.below rInt_ok hb9;clear hb9 kx_0 kx_1;have kx_0:=bxx 0 _ rfl;have kx_1:=bxx 1 _ rfl;have hz:=Nat.succ_le_of_lt (World.block_lt_of_cell? _ _ (bxx 0 _ rfl));cases hj:joinedQ x.fAtoms ((k:Int)+1)
    ·have HS:Hid (splitsTo x.fAtoms m (k+1)=splitsTo x.fAtoms m k):=if_neg (by unfold splitOk;rw [hj,Bool.false_and,Bool.and_false];exact Bool.false_ne_true)
     clear hj;go_wp2;go_roundw
     case rel=>exact⟨k+1,n,c,A,by omega,by omega,by go_num,rfl,by rw [HS.out];exact hM,hB,bxx⟩
     case measure=>simp [intOf];omega
    ·go_wp2_with fail
     refine(iConnected_c _ x (m - ((k:Int)+1)) _ ((rQuery_ok NB).keep rx (cells_below hB)) HV.out (by omega) (by omega)).mono ?_;rintro e w10 ⟨rfl,hb10⟩;replace hB:=hB.trans (hb10.mono hB.size);replace bxx:=bxx.below hb10;replace hM:=hM.below rInt_ok hb10;clear hb10 kx_0 kx_1;have hz:=Nat.succ_le_of_lt (World.block_lt_of_cell? _ _ (bxx 0 _ rfl));cases hj2:joinedQ x.fAtoms (m - ((k:Int)+1))
     ·have HS:Hid (splitsTo x.fAtoms m (k+1)=splitsTo x.fAtoms m k):=if_neg (by unfold splitOk;rw [hj2,Bool.and_false,Bool.and_false];exact Bool.false_ne_true)
      clear hj hj2;go_wp2;go_roundw
      case rel=>exact⟨k+1,n,c,A,by omega,by omega,by go_num,rfl,by rw [HS.out];exact hM,hB,bxx⟩
      case measure=>simp [intOf];omega
     ·have HS:Hid (splitsTo x.fAtoms m (k+1)=splitsTo x.fAtoms m k++[(k:Int)+1]):=if_pos (by unfold splitOk;rw [hj,hj2,decide_eq_true ha];rfl)
      clear hj hj2
      go_wp2_with (at_builtin;refine wpList_app (r:=rInt) rfl _ _ 30 rfl _ 8 eiInt rInt_ok rfl hM (bal) hz ⟨_,0,none⟩ rfl [] [.int .i64 ((k:Int)+1)] ((k:Int)+1) ⟨rfl,rfl,by unfold I64;omega⟩ (Fr.nil _) (cell_one_new _ _ _) (by unfold NB;omega) (Nat.le_refl _) (by omega) ?_;intro A9 k9 w9 hM9 hb9 hg9)
      go_roundw
      case rel=>exact⟨k+1,n+1,k9,A9,by omega,by omega,by go_num,rfl,by rw [HS.out];exact hM9,(hB.alloc hB.size _).trans (hb9.mono (Nat.le_succ _)),(bxx.below (bal)).lowJ (Nat.lt_succ_self _) hb9⟩
      case measure=>simp [intOf];omega
   ·have hd:(andI ((k:Int)+1) m==(k:Int)+1)=false:=by simpa using ha
    have HS:Hid (splitsTo x.fAtoms m (k+1)=splitsTo x.fAtoms m k):=if_neg (by unfold splitOk;rw [decide_eq_false ha,Bool.false_and];exact Bool.false_ne_true);clear ha;go_wp2;go_roundw
    case rel=>exact⟨k+1,n,c,A,by omega,by omega,by go_num,rfl,by rw [HS.out];exact hM,hB,bxx⟩
    case measure=>simp [intOf];omega
  ·have hk4:k=m.toNat - 1:=by omega
   subst hk4;go_wp2;go_ret;exact⟨_,_,_,rfl,by rw [HI.out];exact hM.base (Nat.le_succ _),hB⟩
theorem iSharedVariables_c (csx:List Value) (x:QueryD) (a:Int) (b:Int) (w:World) (hx:(rQuery NB).rep w csx x) :
  Calls Tryz.prog 205 #[.agg csx.toArray,.int .i64 a,.int .i64 b] w (RetS 3 rInt (sharedL x a b) w):=by
 have rx:=hx;obtain⟨Ax_e,nx_e,cx_e,rfl,hx_p5,hx_e⟩:=rQuery_rep.1 hx;clear hx;obtain⟨hB,bxx⟩:=op1 w [.int .i64 x.fVariableCount,.slice Ax_e nx_e cx_e] 50;obtain⟨wa,hwa⟩:∃ wa,wa=w.alloc (.cells #[.int .i64 x.fVariableCount,.slice Ax_e nx_e cx_e] 50):=⟨_,rfl⟩;rw [<- hwa]at hB bxx;have HWA:=Lib.hid hwa;clear hwa
 have HSS:Hid (∀ w':World,Below wa.heap.size wa w'->w'.cell? ⟨w.heap.size,0,none⟩=some (.int .i64 x.fVariableCount)/\w'.cell? ⟨w.heap.size,1,none⟩=some (.slice Ax_e nx_e cx_e)):=by
  show ∀ w':World,_->_;intro w' h;exact⟨(bxx.below h) 0 _ rfl,(bxx.below h) 1 _ rfl⟩
 have hd0:=(Below.refl wa.heap.size wa).drew;have HSB:Hid (sharedL x a b=bothL (maskVarsL x a) (maskVarsL x b)):=sharedL_both a b
 go_enter Tryz.func205,Tryz.ntmps205
 go_upto_region 1 with fail
 rw [<- HWA.out];clear HWA;refine hbg HSS.out hd0 (fun hH=>?_);refine tq2 0 hH ?_;refine tq2 3 hH ?_;simp only [putS];refine rd 2 (some 9) fun K hK=>?_;clear hH;go_simp;refine(iMaskVariables_c _ x a _ ((rQuery_ok NB).keep rx (cells_below (hB.trans (hd0.mono hB.size))))).mono ?_;rintro e w1 ⟨A1,n1,c1,rfl,m1,hb1⟩;have hC1:Below wa.heap.size wa w1:=hd0.trans (hb1.mono hd0.size)
 go_wp2_with fail
 refine hK.out _ _ (HSS.out _ hC1) (fun hH=>?_);clear hK K
 try simp only [putS]
 refine rd 5 (some 12) fun K hK=>?_;clear hH;go_simp;refine(iMaskVariables_c _ x b _ ((rQuery_ok NB).keep rx (cells_below (hB.trans (hC1.mono hB.size))))).mono ?_;rintro e w2 ⟨A2,n2,c2,rfl,m2,hb2⟩;have hC2:Below wa.heap.size wa w2:=hC1.trans (hb2.mono hC1.size)
 go_wp2_with fail
 refine hK.out _ _ (HSS.out _ hC2) (fun hH=>?_);clear hK K
 try simp only [putS]
 refine rd 6 (some 13) fun K hK=>?_;clear hH;go_simp;refine(iBoth_c _ _ _ _ _ _ _ _ _ ((m1.rs rInt_ok).below rInt_ok hb2) (m2.rs rInt_ok)).mono ?_;rintro e w3 ⟨A3,n3,c3,rfl,m3,hb3⟩;have hC3:Below wa.heap.size wa w3:=hC2.trans (hb3.mono hC2.size)
 go_wp2_with fail
 refine hK.out _ _ (HSS.out _ hC3) (fun hH=>?_);clear hK K
 try simp only [putS]
 refine tq1 7 hH ?_;simp only [putS];refine wpAnyH_done (by kernel_rfl) ?_ _;clear hH;go_wp2;go_ret;rw [HSB.out];exact⟨_,_,_,rfl,m3.base (Nat.le_trans hB.size hC2.size),hB.trans (hC3.mono hB.size)⟩
end Go.Proofs.YtnlcfkpcmfljeaaGreat
namespace Go.Proofs.YtnlcfkpcmfljeaaGreat
open Go.RowKit
section
variable {α:Type} {r:Rp α} {e:TypeId} {B g n c:Nat} {A:Option Addr} {l:List α} {W W':World}
theorem MS.rkStep {K K':World->Prop}(h:MS B NB e (rK r K) W (some ⟨g,0,none⟩) n c l) (hk:W'.heap[g]?=W.heap[g]?) (hK:∀ V,K' V->K V):MS B NB e (rK r K') W' (some ⟨g,0,none⟩) n c l:=by
 obtain⟨fp,o,f⟩:=h;obtain⟨h1,h2,css,fps,h3,h4,h5⟩:=o;exact⟨fp,⟨h1,h2,css,fps,ownsRow_blocks h3 (fun k hk'=>by simp [blk]at hk';rw [hk'];exact hk),h4,h5.mono fun f c x _ ho=>⟨ho.1,fun V hV=>ho.2 V (hK V hV)⟩⟩,f⟩
theorem wpList_appsK {P:Program}{ops:Array Oper}{rest:List Oper}{o:Oper}{a:Act}{Q:Exit->Act->World->Prop}(hgd:o.guard=none) (s x:Operand) (t:TypeId)
  (ho:o.op=.call { callee:=.builtin .append,args:=#[s,x],argTypes:=#[t,t] }) (z:Value) (bytes:Nat) (ei:Ei P t e z r.size bytes) (hr:r.Ok)
  (hs:a.eval s=.slice A n c) (h:PT r e B A n c l W) (hB:B<=W.heap.size)
  {A2:Option Addr} {n2 c2 B2:Nat} {e2:TypeId} {l2:List α} (hx:a.eval x=.slice A2 n2 c2) (h2:PT r e2 B2 A2 n2 c2 l2 W) (hA2:∀ k∈blk A,k<B2) (hB2:B<=B2)
  (hn:n+n2<=NB) (hby:(n+n2)*bytes<=140737488355328)
  (hK:∀ A' cap' w',PT r e B A' (n+n2) cap' (l++l2) w'->Below B W w'->W.grownBy w' (A.map (·.block))->(∀ k∈blk A',k∈blk A\/W.heap.size<=k)->wpList P ops Q rest (a.put o.dst (.slice A' (n+n2) cap')) w') :
  wpList P ops Q (o::rest) a W:=by
 have ok:=rK_ok hr (OutS.refl (fun k=>k∈blk A\/k<B) W);have m2:=MS.rk (K':=OutS (fun k=>k∈blk A\/k<B) W) h2 (fun V hV=>hV.mono fun k hk=>.inr (hk.elim (fun e=>hA2 k e) (fun e=>Nat.lt_of_lt_of_le e hB2)));have q2:=MS.rs m2 ok;obtain⟨A',cap',w',hrun,g1,g2,g3,g4⟩:=run_appfR (P:=P) (r:=rK r (OutS (fun k=>k∈blk A\/k<B) W)) o.type t z bytes ei ok (fun h=>⟨rfl,h⟩) h (Below.refl _ _) hB q2 hn (by unfold NB;omega) hby;refine wpList_plain hgd fun K' hK'=>?_;unfold Oper.wp execOp;simp only [ho,resolve,invoke,builtin,Sem.run_bind,Sem.run_pure,Result.andThen_ok,List.map_toArray,List.map_cons,List.map_nil,hs,hx,hrun]
 have hA:∀ k∈blk A',k∈blk A\/W.heap.size<=k:=fun k hk=>by
  rcases g4 with hd|hd
  ·exact .inl (mem_blk.2 (hd▸mem_blk.1 hk))
  ·right;have:=mem_blk.1 hk;rw [hd]at this;injection this with this;omega
 exact hK' _ _ (hK _ _ _ (PT.grown g1 g3 hA) g2 g3 hA)
end
theorem wpList_build4 {P:Program}{ops:Array Oper}{rest:List Oper}{o:Oper}{a:Act}{w:World}{Q:Exit->Act->World->Prop}(hgd:o.guard=none) (t:TypeId) (s0 s1 s2 s3:Operand) (ho:o.op=.build t #[(0,s0),(1,s1),(2,s2),(3,s3)]) {x0 x1 x2 x3 v:Value}
  (hb:(Instr.build t #[(0,x0),(1,x1),(2,x2),(3,x3)]).run P w=.ok v w) (h0:a.eval s0=x0) (h1:a.eval s1=x1) (h2:a.eval s2=x2) (h3:a.eval s3=x3) (K:wpList P ops Q rest (a.put o.dst v) w):wpList P ops Q (o::rest) a w:=by
 refine wpList_plain hgd fun K' hK=>?_;unfold Oper.wp execOp;rw [ho];simp only [List.map_toArray,List.map_cons,List.map_nil,h0,h1,h2,h3,Sem.run_bind,Sem.run_pure,Sem.run_map,hb,Result.andThen_ok];exact hK _ _ K
def Sd (A:Option Addr) (gT:Nat):Nat->Prop:=fun z=>z∈blk A\/z<gT+1
def grps (md:ModelD) (q:QueryD) (s:List Int) (f k:Nat):List (List PlanEntryD):=(List.range (f+1)).map (fun i:Nat=>(tabOf md q s ((connMasks q).take k)).filter (onMask (i:Int)))
theorem grps_at (md:ModelD) (q:QueryD) (s:List Int) {f k i:Nat}(h:i<=f):(grps md q s f k)[i]?=some ((tabOf md q s ((connMasks q).take k)).filter (onMask (i:Int))):=by
 unfold grps;rw [List.getElem?_map,List.getElem?_range (by omega)];rfl
theorem grps_len (md:ModelD) (q:QueryD) (s:List Int) (f k:Nat):(grps md q s f k).length=f+1:=by unfold grps;simp
def entAt (md:ModelD) (q:QueryD) (s:List Int) (k:Nat) (m:Int):List PlanEntryD:=entI md q s (fun x=>(tabOf md q s ((connMasks q).take k)).filter (onMask x)) m
theorem grps_set {md:ModelD}{q:QueryD}{s:List Int}(hs:isSizes q s=true) (hq:validQ q=true) (hu:SortUp md s) {f k mm:Nat}(hm:(connMasks q)[k]?=some (mm:Int)) (hf:mm<=f) :
  (grps md q s f k).set mm (entAt md q s k (mm:Int))=grps md q s f (k+1):=by
 have h2:=(tab_grp (md:=md) hs hq hu hm).2;refine List.ext_getElem? fun i=>?_;by_cases hi:i<=f
 ·rw [grps_at md q s hi,h2]
  by_cases e:mm=i
  ·subst e
   rw [List.getElem?_set_self (by rw [grps_len];omega),if_pos rfl];rfl
  ·rw [List.getElem?_set_ne e,grps_at md q s hi,if_neg (by omega)]
 ·rw [List.getElem?_eq_none (by rw [List.length_set,grps_len];omega),List.getElem?_eq_none (by rw [grps_len];omega)]
structure TbI (w:World) (csm csq:List Value) (md:ModelD) (q:QueryD) (s:List Int) (gT f:Nat) (Am:Option Addr) (nm cm k:Nat) (A:Option Addr) (n c:Nat) (U:World):Prop where
 be:Below w.heap.size w U
 kM:Bk U w.heap.size 46 csm
 kQ:Bk U (w.heap.size+1) 50 csq
 out:PT (rPlanEntry NB) 107 (gT+1) A n c (tabOf md q s ((connMasks q).take k)) U
 tab:MS gT NB 110 (rK (rSlice NB 107 (rPlanEntry NB)) (OutS (Sd A gT) U)) U (some ⟨gT,0,none⟩) (f+1) (f+1) (grps md q s f k)
 ms:∀ V,OutS (Sd A gT) U V->RS NB rInt V Am nm cm (connMasks q)
 gt:w.heap.size+2<=gT
section
variable {w:World} {csm csq:List Value} {md:ModelD} {q:QueryD} {s:List Int} {gT f:Nat} {Am:Option Addr} {nm cm k:Nat} {A:Option Addr} {n c:Nat} {U V:World}
abbrev rGrp:Rp (List PlanEntryD):=rSlice NB 107 (rPlanEntry NB)
theorem rGrp_ok:rGrp.Ok:=rSlice_ok NB _ (rPlanEntry_ok NB)
theorem TbI.row (h:TbI w csm csq md q s gT f Am nm cm k A n c U) {i:Nat}(hi:i<=f):∃ A' n' c',U.cell? ⟨gT,i,none⟩=some (.slice A' n' c')/\RS NB (rPlanEntry NB) U A' n' c' ((tabOf md q s ((connMasks q).take k)).filter (onMask (i:Int))):=by
 have q:=MS.rs h.tab (rK_ok rGrp_ok (OutS.refl (Sd A gT) U));obtain⟨b,off,x,cs,eq,hrep,hc,hx⟩:=q.at_ (k:=i) (by omega);injection eq with eq;injection eq with e1 e2;subst e1 e2;obtain⟨A',n',c',rfl,hr⟩:=hrep U (OutS.refl _ U);rw [grps_at md _ s hi]at hx;injection hx with hx;subst hx;refine⟨A',n',c',?_,hr⟩;have:=hc 0 _ rfl;simpa [rK,rSlice]using this
theorem TbI.lt (h:TbI w csm csq md q s gT f Am nm cm k A n c U):gT+1<=U.heap.size:=by
 obtain⟨A',n',c',h1,_⟩:=h.row (Nat.zero_le f);exact World.block_lt_of_cell? _ _ h1
theorem OutS.bel {S:Nat->Prop}{a b:World}(hb:Below a.heap.size a b):OutS S a b:=⟨hb.size,fun k _ hk=>hb.block k hk⟩
theorem TbI.store (h:TbI w csm csq md q s gT f Am nm cm k A n c U) (hs:isSizes q s=true) (hq:validQ q=true) (hu:SortUp md s) {V6:World}(hb:Below U.heap.size U V6) {mm:Nat}(hm:(connMasks q)[k]?=some (mm:Int)) (hf:mm<=f)
  {A9:Option Addr} {n9 c9:Nat} (hE:PT (rPlanEntry NB) 107 U.heap.size A9 n9 c9 (entAt md q s k (mm:Int)) V6) :
  PT (rPlanEntry NB) 107 (gT+1) A n c (tabOf md q s ((connMasks q).take k)) (V6.setCell ⟨gT,mm,none⟩ (.slice A9 n9 c9)) /\
  PT (rPlanEntry NB) 107 U.heap.size A9 n9 c9 (entAt md q s k (mm:Int)) (V6.setCell ⟨gT,mm,none⟩ (.slice A9 n9 c9)) /\
  MS gT NB 110 (rK rGrp (OutS (Sd A gT) (V6.setCell ⟨gT,mm,none⟩ (.slice A9 n9 c9)))) (V6.setCell ⟨gT,mm,none⟩ (.slice A9 n9 c9)) (some ⟨gT,0,none⟩) (f+1) (f+1) (grps md q s f (k+1)):=by
 have hlt:=h.lt;have hAlt:=h.out.blt;have hAge:=h.out.ge;have hU6:=hb.size;have h9:=hE.ge;have o67:OutS (Sd A gT) V6 (V6.setCell ⟨gT,mm,none⟩ (.slice A9 n9 c9)):=OutS.set V6 ⟨gT,mm,none⟩ _ (.inr (Nat.lt_succ_self _));have n67:∀ z,z≠gT->(V6.setCell ⟨gT,mm,none⟩ (.slice A9 n9 c9)).heap[z]?=V6.heap[z]?:=fun z hz=>heap_setCell_other V6 ⟨gT,mm,none⟩ z _ hz;refine⟨?_,?_,?_⟩
 ·exact(h.out.below (rPlanEntry_ok NB) hb).step (rPlanEntry_ok NB) (fun z hz=>n67 z (by have:=hAge z hz;omega)) o67
 ·refine hE.step (rPlanEntry_ok NB) (fun z hz=>n67 z (by have:=h9 z hz;omega)) (OutS.set V6 ⟨gT,mm,none⟩ _ (.inr (by simp only;omega)))
 ·have m1:=MS.rkStep (K':=OutS (Sd A gT) V6) (W':=U) h.tab rfl (fun V hV=>(OutS.bel hb).trans hV)
  have ok6:=rK_ok rGrp_ok (OutS.refl (Sd A gT) V6);have m2:=MS.setE ok6 m1 hb (by omega) (k:=mm) (by omega) (f:=[]) (cs:=[.slice A9 n9 c9]) (x:=entAt md q s k (mm:Int)) ⟨rfl,fun V hV=>⟨A9,n9,c9,rfl,?_⟩⟩ (Fr.nil _)
  ·rw [grps_set hs hq hu hm hf]at m2
   have e:(setCells V6 gT (mm*(rK rGrp (OutS (Sd A gT) V6)).size) [.slice A9 n9 c9])=V6.setCell ⟨gT,mm,none⟩ (.slice A9 n9 c9):=by
    have:mm*(rK rGrp (OutS (Sd A gT) V6)).size=mm:=Nat.mul_one mm;rw [this];rfl
   rw [e]at m2;exact MS.rkStep m2 rfl (fun V hV=>o67.trans hV)
  ·have hnot:∀ z,z∈blk A9->¬ Sd A gT z:=fun z hz e=>by
    have:=h9 z hz;exact e.elim (fun e=>by have:=hAlt z e;omega) (fun e=>by omega)
   exact(hE.step (W':=V) (rPlanEntry_ok NB) (fun z hz=>hV.2 z (hnot z hz) (hE.blt z hz)) (hV.mono fun z hz=>.inr (hz.elim (fun e=>hAlt z e) (fun e=>by omega)))).rs (rPlanEntry_ok NB)
theorem TbI.next (h:TbI w csm csq md q s gT f Am nm cm k A n c U) (hs:isSizes q s=true) (hq:validQ q=true) (hu:SortUp md s) {V6 V7 V8:World}(hb:Below U.heap.size U V6) {mm:Nat}(hm:(connMasks q)[k]?=some (mm:Int)) {A9:Option Addr}{n9 c9:Nat}(h67:V7=V6.setCell ⟨gT,mm,none⟩ (.slice A9 n9 c9))
  (h7:MS gT NB 110 (rK rGrp (OutS (Sd A gT) V7)) V7 (some ⟨gT,0,none⟩) (f+1) (f+1) (grps md q s f (k+1)))
  {A':Option Addr} {n' c':Nat} (hP:PT (rPlanEntry NB) 107 (gT+1) A' n' c' (tabOf md q s ((connMasks q).take k)++entAt md q s k (mm:Int)) V8) (h78:Below (gT+1) V7 V8) (hg:V7.grownBy V8 (A.map (·.block))) (hA:∀ z∈blk A',z∈blk A\/V7.heap.size<=z) :
  TbI w csm csq md q s gT f Am nm cm (k+1) A' n' c' V8:=by
 have hlt:=h.lt;have hgt:=h.gt;have hU6:=hb.size;have hAge:=h.out.ge;have hz7:V7.heap.size=V6.heap.size:=by rw [h67];simp
 have n67:∀ z,z≠gT->V7.heap[z]?=V6.heap[z]?:=fun z hz=>by rw [h67];exact heap_setCell_other V6 ⟨gT,mm,none⟩ z _ hz
 have hw:=h.be.size;have b6:=h.be.trans (hb.mono h.be.size);have b7:Below w.heap.size w V7:=by rw [h67];exact b6.setCell (p:=⟨gT,mm,none⟩) (by simp only;omega) _
 have b8:Below w.heap.size w V8:=b7.trans (h78.mono (by omega))
 have keep:∀ z,z<U.heap.size->z≠gT->z∉blk A->V8.heap[z]?=U.heap[z]?:=fun z hz h1 h2 =>
  ((hg.block z (by omega) (fun e=>h2 (mem_blk.2 e.symm))).trans (n67 z h1)).trans (hb.block z hz)
 refine⟨b8,?_,?_,?_,?_,fun V hV=>?_,h.gt⟩
 ·exact(keep _ h.kM.lt (by omega) (fun e=>by have:=hAge _ e;omega)).trans h.kM
 ·exact(keep _ h.kQ.lt (by omega) (fun e=>by have:=hAge _ e;omega)).trans h.kQ
 ·rw [(tab_grp (md:=md) hs hq hu hm).1];exact hP
 ·refine MS.rkStep h7 (hg.block gT (by omega) (fun e=>by have:=hAge gT (mem_blk.2 e.symm);omega)) (fun V hV=>?_)
  refine⟨Nat.le_trans hg.size hV.1,fun z h1 h2=>(hV.2 z (fun e=>e.elim (fun e=>(hA z e).elim (fun e=>h1 (.inl e)) (fun e=>by omega)) (fun e=>h1 (.inr e))) (Nat.lt_of_lt_of_le h2 hg.size)).trans (hg.block z h2 (fun e=>h1 (.inl (mem_blk.2 e.symm))))⟩
 ·refine h.ms V ⟨Nat.le_trans (Nat.le_trans hU6 (by omega)) (Nat.le_trans hg.size hV.1),fun z h1 h2=>?_⟩
  have hz:z<V8.heap.size:=Nat.lt_of_lt_of_le h2 (Nat.le_trans hU6 (by rw [<- hz7];exact hg.size));refine(hV.2 z (fun e=>e.elim (fun e=>(hA z e).elim (fun e=>h1 (.inl e)) (fun e=>by omega)) (fun e=>h1 (.inr e))) hz).trans (keep z h2 (fun e=>h1 (.inr (by omega))) (fun e=>h1 (.inl e)))
end
theorem setCell_id {w:World}{g j:Nat}{v:Value}(h:w.cell? ⟨g,j,none⟩=some v):w.setCell ⟨g,j,none⟩ v=w:=by
 have hh:(w.setCell ⟨g,j,none⟩ v).heap=w.heap:=by
  unfold World.setCell;refine Array.ext_getElem? fun i=>?_;rw [Array.getElem?_modify];split
  ·rename_i e
   subst e;unfold World.cell? at h;cases ho:w.heap[g]? with
   | none=>rfl
   | some o =>
    rw [ho]at h;cases o with
    | cells c t fr =>
     simp at h ⊢;refine Array.ext_getElem? fun k=>?_;rw [Array.getElem?_setIfInBounds];split
     ·rename_i e;subst e
      split
      ·rw [h]
      ·rename_i hn
       rw [Array.getElem?_eq_none (by omega)]at h;cases h
     ·rfl
    | _=>simp at h ⊢
  ·rfl
 unfold World.setCell at hh ⊢;simp only at hh;rw [hh]
theorem list_set_same {α:Type}{xs:List α}{j:Nat}{c:α}(h:xs[j]?=some c):xs.set j c=xs:=by
 refine List.ext_getElem? fun i=>?_;by_cases e:j=i
 ·subst e;rw [List.getElem?_set_self (lt_of_at h),h]
 ·rw [List.getElem?_set_ne e]
theorem PT.setPlan {e:TypeId}{B g n c k:Nat}{l:List PlanEntryD}{W:World}{x:PlanEntryD}{A':Option Addr}{n' c':Nat}(h:PT (rPlanEntry NB) e B (some ⟨g,0,none⟩) n c l W) (hB:B<=W.heap.size) (hk:k<n) (hx:l[k]?=some x)
  (hS:StS (rPlanEntry NB) (fun z=>z∈blk (some ⟨g,0,none⟩)\/z<B) W [.int .i64 x.fMask,.int .i64 x.fOrder,.int .i64 x.fCost,.slice A' n' c'] x)
  (h0:W.cell? ⟨g,k*4,none⟩=some (.int .i64 x.fMask)) (h1:W.cell? ⟨g,k*4+1,none⟩=some (.int .i64 x.fOrder)) (h2:W.cell? ⟨g,k*4+2,none⟩=some (.int .i64 x.fCost)) :
  PT (rPlanEntry NB) e B (some ⟨g,0,none⟩) n c l (W.setCell ⟨g,k*4+3,none⟩ (.slice A' n' c')):=by
 have P:=h.set1 (rPlanEntry_ok NB) hk hS hB;rw [list_set_same hx]at P;have e1:setCells W g (k*(rPlanEntry NB).size) [.int .i64 x.fMask,.int .i64 x.fOrder,.int .i64 x.fCost,.slice A' n' c']=(((W.setCell ⟨g,k*4,none⟩ (.int .i64 x.fMask)).setCell ⟨g,k*4+1,none⟩ (.int .i64 x.fOrder)).setCell ⟨g,k*4+2,none⟩ (.int .i64 x.fCost)).setCell ⟨g,k*4+3,none⟩ (.slice A' n' c'):=rfl;rw [e1,setCell_id h0,setCell_id h1,setCell_id h2]at P;exact P
theorem PT.adr {e:TypeId}{B n c:Nat}{A:Option Addr}{l:List PlanEntryD}{W:World}(h:PT (rPlanEntry NB) e B A n c l W) (h0:0<n):∃ g,A=some ⟨g,0,none⟩:=by
 obtain⟨fp,o,f⟩:=h;obtain⟨h1,h2,css,fps,h3,h4,h5⟩:=o;rcases (ownsRow_form h3).2 with ⟨_,h,_⟩|⟨g,h,_⟩
 ·omega
 ·exact⟨g,h⟩
theorem atoms_one:∀ m:Fin 16,m.val≠0->single (m.val:Int)=decide ((listV (m.val:Int) 4).length=1):=by decide +kernel
theorem list30 {α:Type}{l:List α}(h:l.length=30):∃ v0 v1 v2 v3 v4 v5 v6 v7 v8 v9 v10 v11 v12 v13 v14 v15 v16 v17 v18 v19 v20 v21 v22 v23 v24 v25 v26 v27 v28 v29,l=[v0,v1,v2,v3,v4,v5,v6,v7,v8,v9,v10,v11,v12,v13,v14,v15,v16,v17,v18,v19,v20,v21,v22,v23,v24,v25,v26,v27,v28,v29]:=by
 match l,h with
 | [v0,v1,v2,v3,v4,v5,v6,v7,v8,v9,v10,v11,v12,v13,v14,v15,v16,v17,v18,v19,v20,v21,v22,v23,v24,v25,v26,v27,v28,v29],_=>exact⟨v0,v1,v2,v3,v4,v5,v6,v7,v8,v9,v10,v11,v12,v13,v14,v15,v16,v17,v18,v19,v20,v21,v22,v23,v24,v25,v26,v27,v28,v29,rfl⟩
theorem build_of {csm:List Value}(h:csm.length=30) (x y:Value) (As:Option Addr) (ns cc:Nat) (mk:Int) (W:World) :
  (Instr.build 226 #[(0,.agg csm.toArray),(1,.agg #[x,y]),(2,.slice As ns cc),(3,.int .i64 mk)]).run Tryz.prog W=.ok (.agg (ofC csm [x,y] As ns cc mk (List.replicate 5 [.int .i64 0,.int .i64 0,.int .i64 0,.slice none 0 0]) (List.replicate 5 zPlanEntry)).toArray) W:=by
 obtain⟨v0,v1,v2,v3,v4,v5,v6,v7,v8,v9,v10,v11,v12,v13,v14,v15,v16,v17,v18,v19,v20,v21,v22,v23,v24,v25,v26,v27,v28,v29,rfl⟩:=list30 h
 kernel_rfl
theorem Ofs.new {csm csq:List Value}{As:Option Addr}{ns cc:Nat}{mk:Int}(U:World):Ofs csm csq As ns cc mk U.heap.size U.heap.size (List.replicate 5 zPlanEntry) (U.alloc (.cells (ofC csm csq As ns cc mk (List.replicate 5 [.int .i64 0,.int .i64 0,.int .i64 0,.slice none 0 0]) (List.replicate 5 zPlanEntry)).toArray 226)):=by
 refine⟨by simp,fun x hx=>?_,_,by simp,Bk.new U _ _,fun k x hk=>?_⟩
 ·rw [List.eq_of_mem_replicate hx];decide
 ·obtain rfl:=List.eq_of_mem_replicate (mem_of_at hk)
  have hk5:=lt_of_at hk;rw [List.length_replicate]at hk5;exact⟨none,0,0,by rw [List.getElem?_replicate,if_pos hk5];rfl,fun V hV=>(rPlanEntry_ok NB).toRep (zPlanEntry_own V)⟩
theorem chg_be {U Y Z:World}{go:Nat}(hg:U.heap.size<=go) (b:Below U.heap.size U Y) (h:Chg [go] Y Z):Below U.heap.size U Z:=b.trans (h.of1 b.size hg)
theorem andNot_side:∀ a b:Fin 16,a.val+b.val<16->(a.val ||| b.val)=a.val+b.val->bits .andNot .i64 ((a.val+b.val:Nat):Int) (a.val:Int)=(b.val:Int):=by decide +kernel
section
variable {md:ModelD} {q:QueryD} {s:List Int}
theorem mineI_snoc {T:Int->List PlanEntryD}{mk:Int}{sp:List (Int × List Int)}{L:List PlanEntryD}{t:Nat}{x:Int × List Int}(h:sp[t]?=some x):mineI md q s T mk (sp.take (t+1)) L=splitI md q s mk (T x.1) (T (mk - x.1)) x.2 (mineI md q s T mk (sp.take t) L):=by
 unfold mineI;rw [take_snoc h,List.foldl_append];rfl
theorem nestI_snoc {mk:Int}{G:List PlanEntryD}{y:PlanD}{L:List PlanEntryD}{u:Nat}{e:PlanEntryD}(h:G[u]?=some e):nestI md q s mk (G.take (u+1)) y L=offerI md q s mk (nestI md q s mk (G.take u) y L) (joinedP e.fPlan y 5 0) (e.fOrder+1).toNat:=by
 unfold nestI;rw [take_snoc h,List.foldl_append];rfl
theorem mergeI_snoc {mk:Int}{G H:List PlanEntryD}{vs:List Int}{L:List PlanEntryD}{u:Nat}{v:Int}(h:vs[u]?=some v):mergeI md q s mk G H (vs.take (u+1)) L=offerI md q s mk (mergeI md q s mk G H (vs.take u) L) (joinedP (inputI md q s G v) (inputI md q s H v) 4 v) (v+1).toNat:=by
 unfold mergeI;rw [take_snoc h,List.foldl_append];rfl
theorem inputI_len {G:List PlanEntryD}{v:Int}(h:∀ x∈G,x.fPlan.fSteps.length<=13):(inputI md q s G v).fSteps.length<=14:=by
 unfold inputI;split
 ·simp
 ·rename_i y hy
  have:=h y (bestL_mem hy);split
  ·omega
  ·split
   ·rename_i e he
    have:=h e (List.mem_of_find?_eq_some he);omega
   ·show(y.fPlan.fSteps++[_]).length<=14
    rw [List.length_append];simp;omega
theorem tabI_len (hs:isSizes q s=true) (hq:validQ q=true) (hu:SortUp md s) {k:Nat}(hk:k<=(connMasks q).length):∀ x∈tabOf md q s ((connMasks q).take k),x.fPlan.fSteps.length<=13/\-1<=x.fOrder/\x.fOrder<=3:=by
 intro x hx;obtain⟨a,b,c⟩:=(tab_R (md:=md) hs hq hu hk).1.ent x hx;have h1:=cnt_le ⟨x.fMask.toNat,by have:=a.m1;have:=a.m2;omega⟩;rw [show((x.fMask.toNat:Nat):Int)=x.fMask by have:=a.m1;omega]at h1;have:=a.lens;exact⟨by omega,b,c⟩
end
end Go.Proofs.YtnlcfkpcmfljeaaGreat
