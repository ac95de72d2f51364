/-
  Epl
-/
import Derived.Test.YtnlcfkpcmfljeaaGreatTbf
import Derived.Test.YtnlcfkpcmfljeaaGreatBsp
set_option linter.unusedSimpArgs false
set_option linter.unusedVariables false
set_option maxHeartbeats 12800000
set_option maxRecDepth 100000
namespace Go.Proofs.YtnlcfkpcmfljeaaGreat
open Go.RowKit
theorem zEnt_own (w:World):(rPlanEntry NB).own w [] [.int .i64 0,.int .i64 0,.int .i64 0,.slice none 0 0] zPlanEntry :=
 rPlanEntry_own.2 ⟨none,0,0,_,rfl,rfl,I64_zero,I64_zero,I64_zero,⟨rfl,Nat.zero_le _,[],[],World.ownsRow_nil _ 0 _ _,rfl,trivial⟩⟩
theorem sBest_c (A:Option Addr) (n c:Nat) (l:List PlanEntryD) (m:Int) (w:World) (hr:RS NB (rPlanEntry NB) w A n c l) :
  Calls Tryz.prog 54 #[.slice A n c,.int .i64 m] w (RetVB (rPlanEntry NB) ((bestE l m).getD zPlanEntry) (.bool (bestE l m).isSome) w):=by
 have hn:=hr.bound;obtain⟨w1,hw1⟩:∃ W,W=w.alloc (.cells #[.int .i64 0,.int .i64 0,.int .i64 0,.slice none 0 0] 107):=⟨_,rfl⟩;have b1:Below w.heap.size w w1:=by rw [hw1];exact bal
 have kR:Bk w1 w.heap.size 107 [.int .i64 0,.int .i64 0,.int .i64 0,.slice none 0 0]:=by rw [hw1];exact Bk.new w _ _
 have hr1:=hr.below (rPlanEntry_ok NB) b1
 go_enter Tryz.func54,Tryz.ntmps54
 go_upto_region 1 with fail
 rw [<- hw1];clear hw1
 go_wp2_with fail
 refine(sLow_c A n c l m w1 hr1).mono ?_;rintro e w2 ⟨i,rfl,hi,q2⟩;have b2:=b1.trans (q2.belowS.mono b1.size);have kR2:=kR.below q2.belowS;clear q2 kR hr1 b1;cases hb:bestE l m with
 | none =>
  have HB:=Lib.hid hb;rw [hb]at hi;have hi':i=-1:=hi;subst hi';have ⟨r0,f0,r1,f1,r2,f2,r3,f3⟩:=kR2.r4;clear hb hi;go_wp2;have k9:=kR2.put4 (.int .i64 0) (.int .i64 0) (.int .i64 0) (.slice none 0 0);have B9:=bls4 b2 (Nat.le_refl _) (.int .i64 0) (.int .i64 0) (.int .i64 0) (.slice none 0 0);refine bodyPost_ret (v:=.tuple #[.agg #[.int .i64 0,.int .i64 0,.int .i64 0,.slice none 0 0],.bool false]) (results_cs Tryz.results54 rfl rfl k9.rangeAt Tryz.underlying107 rfl sizeEntT) rfl ?_;rw [HB.out];exact⟨_,[],rfl,zEnt_own _,Fr.nil _,B9⟩
 | some x =>
  have HB:=Lib.hid hb;rw [hb]at hi;obtain⟨k,rfl,hk⟩:=hi;have hkl:k<n:=by have:=lt_of_at hk;rw [hr.len]at this;exact this
  have hkL:(k:Int)<n:=by omega
  have hk0:(0:Int)<=(k:Int):=by omega
  obtain⟨bl,ol,x',AX,nX,cX,rfl,c0,c1,c2,c3,j0,j1,j2,rX,hx⟩:=hr.ePlanEntry hkl;obtain rfl:x'=x:=by have:=hx.out;rw [hk]at this;injection this with this;exact this.symm
  clear hb hk hx hr
  have HSS:Hid (∀ w':World,Below w.heap.size w2 w'->(w'.cell? ⟨bl,ol+k*4,none⟩=some (.int .i64 x'.fMask)/\w'.cell? ⟨bl,ol+k*4+1,none⟩=some (.int .i64 x'.fOrder)/\w'.cell? ⟨bl,ol+k*4+2,none⟩=some (.int .i64 x'.fCost)/\w'.cell? ⟨bl,ol+k*4+3,none⟩=some (.slice AX nX cX))):=by
   show ∀ w':World,_->_;intro w' h;have h':=b2.trans h;exact⟨cells_below h' _ _ c0,cells_below h' _ _ c1,cells_below h' _ _ c2,cells_below h' _ _ c3⟩
  have hd0:=(Below.refl w2.heap.size w2).drew;have hA:=hd0.alloc hd0.size (.cells #[] 173);have hA0:=hA.mono b2.size;have rX2:=rX.below (rPlanStep_ok NB) (b2.trans hA0);clear c0 c1 c2 c3
  go_upto_region 4 with fail
  refine hbg HSS.out (hd0.mono b2.size) (fun hH=>?_);refine tq4 0 hH ?_;simp only [putS];refine tq4 4 hH ?_;simp only [putS];refine tq4 8 hH ?_;simp only [putS];refine tq2 12 hH ?_;refine tq1 14 hH ?_;simp only [putS];refine tq4 16 hH ?_;simp only [putS];refine tq2 20 hH ?_;simp only [putS];refine rd 15 (some 28) fun K hK=>?_;clear hH;go_simp;refine hK.out _ _ (HSS.out _ hA0) (fun hH=>?_);clear hK K
  try simp only [putS]
  refine rd 22 (some 35) fun K hK=>?_;clear hH;refine step_appe (r:=rPlanStep NB) (M:=NB) (by rfl) _ _ 74 (by rfl) _ 24 eiPlanStep (rPlanStep_ok NB) (rPlanStep_flt NB) (by rfl) (heap_alloc_new _ _) (by rfl) rX2 rX2.nb (Nat.le_refl _) (by have:=rX2.nb;unfold NB at this;omega) ?_;intro A5 c5 w3 o5 g5 hb3;have hC:=(hA.trans (hb3.mono hA.size)).mono b2.size;refine hK.out _ _ (HSS.out _ hC) (fun hH=>?_);clear hK K
  try simp only [putS]
  refine tq2 23 hH ?_;simp only [putS];have kR3:=kR2.below (hA.trans (hb3.mono hA.size));have hB3:=b2.trans hC;have ⟨r0,f0,r1,f1,r2,f2,r3,f3⟩:=kR3.r4;have hsz:=kR2.lt;have hC9:=bls4 hC (Nat.le_refl _) (.int .i64 x'.fMask) (.int .i64 x'.fOrder) (.int .i64 x'.fCost) (.slice A5 nX c5);refine rd 25 none fun K hK=>?_;clear hH;go_simp;refine hK.out _ _ (HSS.out _ hC9) (fun hH=>?_);clear hK K
  try simp only [putS]
  refine tq1 26 hH ?_;simp only [putS];refine wpAnyH_done (by kernel_rfl) ?_ _;clear hH;have k9:=kR3.put4 (.int .i64 x'.fMask) (.int .i64 x'.fOrder) (.int .i64 x'.fCost) (.slice A5 nX c5);have B9:=bls4 hB3 (Nat.le_refl _) (.int .i64 x'.fMask) (.int .i64 x'.fOrder) (.int .i64 x'.fCost) (.slice A5 nX c5);go_wp2;refine bodyPost_ret (v:=.tuple #[.agg #[.int .i64 x'.fMask,.int .i64 x'.fOrder,.int .i64 x'.fCost,.slice A5 nX c5],.bool true]) (results_cs Tryz.results54 rfl rfl k9.rangeAt Tryz.underlying107 rfl sizeEntT) rfl ?_
  have hge:∀ k∈blk A5,w.heap.size<k:=fun k hk=>by
   have hs:=hd0.size;rcases g5 k hk with h|h
   ·omega
   ·have hs:k=w2.heap.size+1:=h.trans (World.size_alloc _ _)
    omega
  rw [HB.out];refine⟨_,blk A5,rfl,?_,⟨by cases A5<;>simp [blk],fun k hk=>Nat.le_of_lt (hge k hk)⟩,B9⟩;exact(rPlanEntry_ok NB).okeep (w:=w3) (rPlanEntry_own.2 ⟨A5,nX,c5,_,rfl,rfl,j0,j1,j2,o5⟩) (fun z hz=>set4_ne (by have:=hge z hz;omega) _ _ _ _)
attribute [local go_sem ↓] Go.wp_at_zero Go.wp_at_succ
theorem sRefuteModel_c (csx:List Value) (x:ModelD) (w:World) (hx:(rModel NB).rep w csx x) :
  Calls Tryz.prog 118 #[.agg csx.toArray] w (RetK (admitted x) w):=by
 have rx:=hx;obtain⟨Ax_s4,nx_s4,cx_s4,Ax_b5,nx_b5,cx_b5,Ax_p1,nx_p1,cx_p1,Ax_d2,nx_d2,cx_d2,Ax_p3,nx_p3,cx_p3,rfl,hx_n4,hx_o4,hx_r4,hx_p4,hx_q4,hx_s4,hx_w4,hx_x4,hx_a5,hx_y4,hx_z4,hx_b5,hx_k1,hx_l1,hx_o1,hx_m1,hx_n1,hx_p1,hx_y1,hx_z1,hx_c2,hx_a2,hx_b2,hx_d2,hx_k3,hx_l3,hx_o3,hx_m3,hx_n3,hx_p3⟩:=rModel_rep.1 hx;clear hx;obtain⟨hB,bxx⟩:=op1 w [.int .i64 x.fScan.fFixed,.int .i64 x.fScan.fPerLeft,.int .i64 x.fScan.fPerRight,.int .i64 x.fScan.fPerOutput,.int .i64 x.fScan.fPerPair,.slice Ax_s4 nx_s4 cx_s4,.int .i64 x.fSort.fFixed,.int .i64 x.fSort.fPerLeft,.int .i64 x.fSort.fPerRight,.int .i64 x.fSort.fPerOutput,.int .i64 x.fSort.fPerPair,.slice Ax_b5 nx_b5 cx_b5,.int .i64 x.fHash.fFixed,.int .i64 x.fHash.fPerLeft,.int .i64 x.fHash.fPerRight,.int .i64 x.fHash.fPerOutput,.int .i64 x.fHash.fPerPair,.slice Ax_p1 nx_p1 cx_p1,.int .i64 x.fMerge.fFixed,.int .i64 x.fMerge.fPerLeft,.int .i64 x.fMerge.fPerRight,.int .i64 x.fMerge.fPerOutput,.int .i64 x.fMerge.fPerPair,.slice Ax_d2 nx_d2 cx_d2,.int .i64 x.fNested.fFixed,.int .i64 x.fNested.fPerLeft,.int .i64 x.fNested.fPerRight,.int .i64 x.fNested.fPerOutput,.int .i64 x.fNested.fPerPair,.slice Ax_p3 nx_p3 cx_p3] 46
 go_enter Tryz.func118,Tryz.ntmps118
 go_wp2
 go_loopw [5] (fun i wr=>∃ (k:Nat) (z:Int),k<=5/\z=k+1/\i=.int .i64 z/\((modelOps x).take k).all opOk=true/\Below w.heap.size w wr/\Bx wr w.heap.size [.int .i64 x.fScan.fFixed,.int .i64 x.fScan.fPerLeft,.int .i64 x.fScan.fPerRight,.int .i64 x.fScan.fPerOutput,.int .i64 x.fScan.fPerPair,.slice Ax_s4 nx_s4 cx_s4,.int .i64 x.fSort.fFixed,.int .i64 x.fSort.fPerLeft,.int .i64 x.fSort.fPerRight,.int .i64 x.fSort.fPerOutput,.int .i64 x.fSort.fPerPair,.slice Ax_b5 nx_b5 cx_b5,.int .i64 x.fHash.fFixed,.int .i64 x.fHash.fPerLeft,.int .i64 x.fHash.fPerRight,.int .i64 x.fHash.fPerOutput,.int .i64 x.fHash.fPerPair,.slice Ax_p1 nx_p1 cx_p1,.int .i64 x.fMerge.fFixed,.int .i64 x.fMerge.fPerLeft,.int .i64 x.fMerge.fPerRight,.int .i64 x.fMerge.fPerOutput,.int .i64 x.fMerge.fPerPair,.slice Ax_d2 nx_d2 cx_d2,.int .i64 x.fNested.fFixed,.int .i64 x.fNested.fPerLeft,.int .i64 x.fNested.fPerRight,.int .i64 x.fNested.fPerOutput,.int .i64 x.fNested.fPerPair,.slice Ax_p3 nx_p3 cx_p3]) (fun i _=>6 - (intOf i).toNat)
 case atStart=>exact⟨0,1,Nat.zero_le _,rfl,rfl,rfl,hB,bxx⟩
 case round =>
  clear hB bxx;obtain⟨k,z,hk,hz,rfl,hall,hB,bxx⟩:=hrel;have hz0:1<=z:=by omega
  have hz1:z<=6:=by omega
  have HNZ:Hid ((z==0)=false):=Lib.hid (by simp;omega);have HA:=Lib.hid hall;clear hall;have hkz:z<=5↔k<5:=by omega
  by_cases hlt:k<5
  ·have hz5:=hkz.2 hlt
   have HO:Hid ((modelOps x)[k]?=some (opOf x z)):=Lib.hid (by rw [hz];exact opOf_at x hlt);have HZ:=Lib.hid hz;clear hz hkz
   go_wp2_with (refine wpList_load_mid rfl 46 _ rfl w.heap.size 0 rfl [.int .i64 x.fScan.fFixed,.int .i64 x.fScan.fPerLeft,.int .i64 x.fScan.fPerRight,.int .i64 x.fScan.fPerOutput,.int .i64 x.fScan.fPerPair,.slice Ax_s4 nx_s4 cx_s4,.int .i64 x.fSort.fFixed,.int .i64 x.fSort.fPerLeft,.int .i64 x.fSort.fPerRight,.int .i64 x.fSort.fPerOutput,.int .i64 x.fSort.fPerPair,.slice Ax_b5 nx_b5 cx_b5,.int .i64 x.fHash.fFixed,.int .i64 x.fHash.fPerLeft,.int .i64 x.fHash.fPerRight,.int .i64 x.fHash.fPerOutput,.int .i64 x.fHash.fPerPair,.slice Ax_p1 nx_p1 cx_p1,.int .i64 x.fMerge.fFixed,.int .i64 x.fMerge.fPerLeft,.int .i64 x.fMerge.fPerRight,.int .i64 x.fMerge.fPerOutput,.int .i64 x.fMerge.fPerPair,.slice Ax_d2 nx_d2 cx_d2,.int .i64 x.fNested.fFixed,.int .i64 x.fNested.fPerLeft,.int .i64 x.fNested.fPerRight,.int .i64 x.fNested.fPerOutput,.int .i64 x.fNested.fPerPair,.slice Ax_p3 nx_p3 cx_p3] _ bxx.range Tryz.underlying46 rfl sizeModel ?_)
   refine(sModelOp_c _ x z _ ((rModel_ok NB).keep rx (cells_below hB))).mono ?_;rintro e w1 ⟨A1,n1,c1,rfl,ro,hb1⟩;replace hB:=hB.trans (hb1.mono hB.size);replace bxx:=bxx.below hb1;clear hb1;generalize opOf x z=o at ro HO;have bxo:=Bx.new w1 [.int .i64 o.fFixed,.int .i64 o.fPerLeft,.int .i64 o.fPerRight,.int .i64 o.fPerOutput,.int .i64 o.fPerPair,.slice A1 n1 c1] 44;have hBo:=(Below.refl w1.heap.size w1).alloc (Nat.le_refl _) (.cells #[.int .i64 o.fFixed,.int .i64 o.fPerLeft,.int .i64 o.fPerRight,.int .i64 o.fPerOutput,.int .i64 o.fPerPair,.slice A1 n1 c1] 44)
   go_wp2_with fail
   replace hB:=hB.trans (hBo.mono hB.size);replace bxx:=bxx.below hBo;replace ro:=(rOperator_ok NB).keep ro (cells_below hBo);clear hBo;refine(sIsValidOperator_c _ o _ ro).mono ?_;rintro e w2 ⟨rfl,hb2⟩;replace hB:=hB.trans (hb2.mono hB.size);replace bxx:=bxx.below hb2;replace ro:=(rOperator_ok NB).keep ro (cells_below hb2);replace bxo:=bxo.below hb2;clear hb2;cases hv:validOp o
   ·go_wp2
    go_ret3;exact⟨_,_,_,rfl,by rw [admitted_no HO.out (opOk_invalid hv)];exact HNZ.out,(hB.alloc hB.size _).alloc (by simp;have:=hB.size;omega) _⟩
   have HV:=Lib.hid hv;clear hv;have ko_0:=bxo 0 _ rfl;have ko_1:=bxo 1 _ rfl;have ko_2:=bxo 2 _ rfl;have ko_3:=bxo 3 _ rfl;have ko_4:=bxo 4 _ rfl;have ko_5:=bxo 5 _ rfl
   go_wp2_with fail
   refine(sFindDecrease_c _ o _ ro).mono ?_;rintro e w3 ⟨v1,v2,rfl,hb3⟩;replace hB:=hB.trans (hb3.mono hB.size);replace bxx:=bxx.below hb3;replace ro:=(rOperator_ok NB).keep ro (cells_below hb3);replace bxo:=bxo.below hb3;clear hb3 ko_0 ko_1 ko_2 ko_3 ko_4 ko_5;rw [HV.out,Bool.true_and];cases hd:hasDec o
   rotate_left
   ·go_wp2
    go_ret3;exact⟨_,_,_,rfl,by rw [admitted_no HO.out (opOk_dec hd)];exact HNZ.out,hB⟩
   have HD:=Lib.hid hd;clear hd;have ko_0:=bxo 0 _ rfl;have ko_1:=bxo 1 _ rfl;have ko_2:=bxo 2 _ rfl;have ko_3:=bxo 3 _ rfl;have ko_4:=bxo 4 _ rfl;have ko_5:=bxo 5 _ rfl
   go_wp2_with fail
   refine(sCheap_c _ o _ ro HV.out).mono ?_;rintro e w4 ⟨A7,n7,c7,rfl,hn7,hb4⟩;replace hB:=hB.trans (hb4.mono hB.size);replace bxx:=bxx.below hb4;replace ro:=(rOperator_ok NB).keep ro (cells_below hb4);replace bxo:=bxo.below hb4;clear hb4 ko_0 ko_1 ko_2 ko_3 ko_4 ko_5;cases hch:hasCheap o
   ·rw [hch]at hn7
    have h7:¬ (0:Int)<(n7:Int):=by simp at hn7;omega
    have h7':n7=0:=by omega
    subst h7';clear hn7 h7;go_wp2;go_roundw
    case rel=>exact⟨k+1,z+1,by omega,by rw [HZ.out];omega,rfl,all_snoc' HA.out HO.out (opOk_yes HV.out HD.out hch),hB,bxx⟩
    case measure=>simp [intOf];omega
   ·rw [hch]at hn7
    have h7:(0:Int)<(n7:Int):=by simp at hn7;omega
    have h7':0<n7:=by omega
    clear hn7;go_wp2;go_ret3;exact⟨_,_,_,rfl,by rw [admitted_no HO.out (opOk_cheap hch)];exact HNZ.out,hB.alloc hB.size _⟩
  ·have hz5:¬ z<=5:=by omega
   have HF:Hid (admitted x=true):=by show(modelOps x).all opOk=true;have:=HA.out;rwa [List.take_of_length_le (by simp [modelOps];omega)]at this
   clear hz hkz;go_wp2;go_ret3;exact⟨_,_,_,rfl,by rw [HF.out];rfl,(hB.alloc hB.size _).alloc (by simp;have:=hB.size;omega) _⟩
theorem sIsAdmitted_c (csx:List Value) (x:ModelD) (w:World) (hx:(rModel NB).rep w csx x) :
  Calls Tryz.prog 48 #[.agg csx.toArray] w fun e w'=>e=.returned (.bool (admitted x))/\Below w.heap.size w w':=by
 have rx:=hx;obtain⟨Ax_s4,nx_s4,cx_s4,Ax_b5,nx_b5,cx_b5,Ax_p1,nx_p1,cx_p1,Ax_d2,nx_d2,cx_d2,Ax_p3,nx_p3,cx_p3,rfl,hx_n4,hx_o4,hx_r4,hx_p4,hx_q4,hx_s4,hx_w4,hx_x4,hx_a5,hx_y4,hx_z4,hx_b5,hx_k1,hx_l1,hx_o1,hx_m1,hx_n1,hx_p1,hx_y1,hx_z1,hx_c2,hx_a2,hx_b2,hx_d2,hx_k3,hx_l3,hx_o3,hx_m3,hx_n3,hx_p3⟩:=rModel_rep.1 hx;clear hx;obtain⟨hB,bxx⟩:=op1 w [.int .i64 x.fScan.fFixed,.int .i64 x.fScan.fPerLeft,.int .i64 x.fScan.fPerRight,.int .i64 x.fScan.fPerOutput,.int .i64 x.fScan.fPerPair,.slice Ax_s4 nx_s4 cx_s4,.int .i64 x.fSort.fFixed,.int .i64 x.fSort.fPerLeft,.int .i64 x.fSort.fPerRight,.int .i64 x.fSort.fPerOutput,.int .i64 x.fSort.fPerPair,.slice Ax_b5 nx_b5 cx_b5,.int .i64 x.fHash.fFixed,.int .i64 x.fHash.fPerLeft,.int .i64 x.fHash.fPerRight,.int .i64 x.fHash.fPerOutput,.int .i64 x.fHash.fPerPair,.slice Ax_p1 nx_p1 cx_p1,.int .i64 x.fMerge.fFixed,.int .i64 x.fMerge.fPerLeft,.int .i64 x.fMerge.fPerRight,.int .i64 x.fMerge.fPerOutput,.int .i64 x.fMerge.fPerPair,.slice Ax_d2 nx_d2 cx_d2,.int .i64 x.fNested.fFixed,.int .i64 x.fNested.fPerLeft,.int .i64 x.fNested.fPerRight,.int .i64 x.fNested.fPerOutput,.int .i64 x.fNested.fPerPair,.slice Ax_p3 nx_p3 cx_p3] 46
 go_enter Tryz.func48,Tryz.ntmps48
 go_wp2_with (refine wpList_load_mid rfl 46 _ rfl w.heap.size 0 rfl [.int .i64 x.fScan.fFixed,.int .i64 x.fScan.fPerLeft,.int .i64 x.fScan.fPerRight,.int .i64 x.fScan.fPerOutput,.int .i64 x.fScan.fPerPair,.slice Ax_s4 nx_s4 cx_s4,.int .i64 x.fSort.fFixed,.int .i64 x.fSort.fPerLeft,.int .i64 x.fSort.fPerRight,.int .i64 x.fSort.fPerOutput,.int .i64 x.fSort.fPerPair,.slice Ax_b5 nx_b5 cx_b5,.int .i64 x.fHash.fFixed,.int .i64 x.fHash.fPerLeft,.int .i64 x.fHash.fPerRight,.int .i64 x.fHash.fPerOutput,.int .i64 x.fHash.fPerPair,.slice Ax_p1 nx_p1 cx_p1,.int .i64 x.fMerge.fFixed,.int .i64 x.fMerge.fPerLeft,.int .i64 x.fMerge.fPerRight,.int .i64 x.fMerge.fPerOutput,.int .i64 x.fMerge.fPerPair,.slice Ax_d2 nx_d2 cx_d2,.int .i64 x.fNested.fFixed,.int .i64 x.fNested.fPerLeft,.int .i64 x.fNested.fPerRight,.int .i64 x.fNested.fPerOutput,.int .i64 x.fNested.fPerPair,.slice Ax_p3 nx_p3 cx_p3] _ bxx.range Tryz.underlying46 rfl sizeModel ?_)
 refine(sRefuteModel_c _ x _ ((rModel_ok NB).keep rx (cells_below hB))).mono ?_;rintro e w1 ⟨k,v1,v2,rfl,hk,hb1⟩;replace hB:=hB.trans (hb1.mono hB.size);replace bxx:=bxx.below hb1;clear hb1;have HK:=Lib.hid hk;clear hk;go_wp2;go_ret;exact⟨ret_bool HK.out,hB⟩
end Go.Proofs.YtnlcfkpcmfljeaaGreat
