/-
  Epl
-/
import Derived.Test.YtnlcfkpcmfljeaaGreatSbw
set_option linter.unusedSimpArgs false
set_option linter.unusedVariables false
set_option maxHeartbeats 12800000
set_option maxRecDepth 100000
namespace Go.Proofs.YtnlcfkpcmfljeaaGreat
open Go.RowKit
theorem plan_eq (x y:PlanD):(x=y)↔x.fSteps=y.fSteps:=by cases x;cases y;simp
theorem RS.plan {M:Nat}{w:World}{A:Option Addr}{n cap:Nat}{l:List PlanD}(h:RS M (rPlan NB) w A n cap l) {k:Nat}(hk:k<n) :
  ∃ b off x Ar nr cr,A=some ⟨b,off,none⟩/\w.cell? ⟨b,off+k,none⟩=some (.slice Ar nr cr)/\RS NB (rPlanStep NB) w Ar nr cr x.fSteps/\Hid (l[k]?=some x):=by
 obtain⟨b,off,x,cs,e,hrep,hc,hx⟩:=h.at_ hk;obtain⟨A1,n1,c1,rfl,h1⟩:=rPlan_rep.1 hrep;exact⟨b,off,x,A1,n1,c1,e,by simpa [rPlan_size]using hc 0 _ rfl,h1,hx⟩
theorem iEqualPlans_c (csx:List Value) (x:PlanD) (csy:List Value) (y:PlanD) (w:World) (hx:(rPlan NB).rep w csx x) (hy:(rPlan NB).rep w csy y) :
  Calls Tryz.prog 70 #[.agg csx.toArray,.agg csy.toArray] w fun e w'=>e=.returned (.bool (decide (x=y)))/\Below w.heap.size w w':=by
 have rx:=hx;obtain⟨Ax_d5,nx_d5,cx_d5,rfl,hx_d5⟩:=rPlan_rep.1 hx;clear hx;have ry:=hy;obtain⟨Ay_d5,ny_d5,cy_d5,rfl,hy_d5⟩:=rPlan_rep.1 hy;clear hy;obtain⟨hB,bxx,bxy⟩:=op2 w [.slice Ax_d5 nx_d5 cx_d5] 76 [.slice Ay_d5 ny_d5 cy_d5] 76
 go_enter Tryz.func70,Tryz.ntmps70
 go_wp2_with fail
 refine(equalPlanStep_c _ _ _ _ _ _ _ _ _ (hx_d5.below (rPlanStep_ok NB) hB) (hy_d5.below (rPlanStep_ok NB) hB)).mono ?_;rintro e w1 ⟨rfl,hq1⟩;have hb1:=hq1.belowS;clear hq1;replace hB:=hB.trans (hb1.mono hB.size);replace bxx:=bxx.below hb1;replace bxy:=bxy.below hb1;clear hb1;go_wp2;go_ret;exact⟨ret_bool (by rw [decide_eq_decide,plan_eq]),hB⟩
theorem sEqualPlans_c (csx:List Value) (x:PlanD) (csy:List Value) (y:PlanD) (w:World) (hx:(rPlan NB).rep w csx x) (hy:(rPlan NB).rep w csy y) :
  Calls Tryz.prog 132 #[.agg csx.toArray,.agg csy.toArray] w fun e w'=>e=.returned (.bool (decide (x=y)))/\Below w.heap.size w w':=by
 have rx:=hx;obtain⟨Ax_d5,nx_d5,cx_d5,rfl,hx_d5⟩:=rPlan_rep.1 hx;clear hx;have ry:=hy;obtain⟨Ay_d5,ny_d5,cy_d5,rfl,hy_d5⟩:=rPlan_rep.1 hy;clear hy;obtain⟨hB,bxx,bxy⟩:=op2 w [.slice Ax_d5 nx_d5 cx_d5] 76 [.slice Ay_d5 ny_d5 cy_d5] 76;have hn1:=hx_d5.bound;have hn2:=hy_d5.bound;by_cases hne:nx_d5=ny_d5
 rotate_left
 ·have hbb:((nx_d5:Int) != (ny_d5:Int))=true:=by simp;omega
  go_enter Tryz.func132,Tryz.ntmps132
  go_wp2;go_ret;exact⟨ret_bool (a:=false) (by symm;rw [decide_eq_false_iff_not,plan_eq];exact fun hh=>hne (by rw [<- hx_d5.len,<- hy_d5.len,hh])),hB⟩
 subst hne;have hbb:((nx_d5:Int) != (nx_d5:Int))=false:=by simp
 go_enter Tryz.func132,Tryz.ntmps132
 go_wp2
 go_loopw [5] (fun i wr=>∃ k:Nat,k<=nx_d5/\i=.int .i64 k/\x.fSteps.take k=y.fSteps.take k/\Below w.heap.size w wr/\Bx wr w.heap.size [.slice Ax_d5 nx_d5 cx_d5]/\Bx wr (w.heap.size+1) [.slice Ay_d5 nx_d5 cy_d5]) (fun i _=>nx_d5 - (intOf i).toNat)
 case atStart=>exact⟨0,Nat.zero_le _,rfl,rfl,hB,bxx,bxy⟩
 case round =>
  clear hB bxx bxy;obtain⟨k,hk,rfl,heq,hB,bxx,bxy⟩:=hrel;have HE:=Lib.hid heq;clear heq;have kx_0:=bxx 0 _ rfl;have ky_0:=bxy 0 _ rfl;by_cases hlt:k<nx_d5
  ·obtain⟨b,off,r,rfl,p0,p1,p2,_,_,_,hxk⟩:=(hx_d5.below (rPlanStep_ok NB) hB).ePlanStep hlt
   obtain⟨b',off',r',rfl,p0',p1',p2',_,_,_,hxk'⟩:=(hy_d5.below (rPlanStep_ok NB) hB).ePlanStep hlt;have hop:=fun W=>neqPlanStep r r' W;have g1:=guardPlanStep;by_cases hx:r=r'
   ·have hb:decide (r=r')=true:=by simp [hx]
    have HX:=Lib.hid hx;clear hx;go_wp2
    go_quiet (fail)
    go_wp2;go_roundw
    case rel=>exact⟨k+1,by omega,by go_num,take_eq_snoc HE.out hxk.out (HX.out▸hxk'.out),below_drewN hB _,bxx,bxy⟩
    case measure=>simp [intOf];omega
   ·have hb:decide (r=r')=false:=by simp [hx]
    go_wp2
    go_quiet (fail)
    go_wp2;go_ret;exact⟨ret_bool (a:=false) (by symm;rw [decide_eq_false_iff_not,plan_eq];exact fun hh=>ne_of_at hxk.out hxk'.out hx hh),below_drewN hB _⟩
  ·go_wp2
   go_ret;have e6:x.fSteps=y.fSteps:=by rw [<- take_all hx_d5.len hlt,<- take_all hy_d5.len hlt];exact HE.out
   exact⟨ret_bool (a:=true) (by symm;rw [decide_eq_true_iff,plan_eq];exact e6),hB⟩
theorem zEnt_own (w:World):(rPlanEntry NB).own w [] [.int .i64 0,.int .i64 0,.int .i64 0,.slice none 0 0] zPlanEntry :=
 rPlanEntry_own.2 ⟨none,0,0,_,rfl,rfl,I64_zero,I64_zero,I64_zero,⟨rfl,Nat.zero_le _,[],[],World.ownsRow_nil _ 0 _ _,rfl,trivial⟩⟩
theorem sBest_c (A:Option Addr) (n c:Nat) (l:List PlanEntryD) (m:Int) (w:World) (hr:RS NB (rPlanEntry NB) w A n c l) :
  Calls Tryz.prog 54 #[.slice A n c,.int .i64 m] w (RetVB (rPlanEntry NB) ((bestE l m).getD zPlanEntry) (.bool (bestE l m).isSome) w):=by
 have hn:=hr.bound;obtain⟨w1,hw1⟩:∃ W,W=w.alloc (.cells #[.int .i64 0,.int .i64 0,.int .i64 0,.slice none 0 0] 107):=⟨_,rfl⟩;have b1:Below w.heap.size w w1:=by rw [hw1];exact bal
 have kR:Bk w1 w.heap.size 107 [.int .i64 0,.int .i64 0,.int .i64 0,.slice none 0 0]:=by rw [hw1];exact Bk.new w _ _
 have hr1:=hr.below (rPlanEntry_ok NB) b1
 go_enter Tryz.func54,Tryz.ntmps54
 go_upto_region 1 with fail
 rw [<- hw1];clear hw1
 go_wp2_with fail
 refine(sLow_c A n c l m w1 hr1).mono ?_;rintro e w2 ⟨i,rfl,hi,q2⟩;have b2:=b1.trans (q2.belowS.mono b1.size);have kR2:=kR.below q2.belowS;clear q2 kR hr1 b1;cases hb:bestE l m with
 | none =>
  have HB:=Lib.hid hb;rw [hb]at hi;have hi':i=-1:=hi;subst hi';have ⟨r0,f0,r1,f1,r2,f2,r3,f3⟩:=kR2.r4;clear hb hi;go_wp2;have k9:=kR2.put4 (.int .i64 0) (.int .i64 0) (.int .i64 0) (.slice none 0 0);have B9:=bls4 b2 (Nat.le_refl _) (.int .i64 0) (.int .i64 0) (.int .i64 0) (.slice none 0 0);refine bodyPost_ret (v:=.tuple #[.agg #[.int .i64 0,.int .i64 0,.int .i64 0,.slice none 0 0],.bool false]) (results_cs Tryz.results54 rfl rfl k9.rangeAt Tryz.underlying107 rfl sizeEntT) rfl ?_;rw [HB.out];exact⟨_,[],rfl,zEnt_own _,Fr.nil _,B9⟩
 | some x =>
  have HB:=Lib.hid hb;rw [hb]at hi;obtain⟨k,rfl,hk⟩:=hi;have hkl:k<n:=by have:=lt_of_at hk;rw [hr.len]at this;exact this
  have hkL:(k:Int)<n:=by omega
  have hk0:(0:Int)<=(k:Int):=by omega
  obtain⟨bl,ol,x',AX,nX,cX,rfl,c0,c1,c2,c3,j0,j1,j2,rX,hx⟩:=hr.ePlanEntry hkl;obtain rfl:x'=x:=by have:=hx.out;rw [hk]at this;injection this with this;exact this.symm
  clear hb hk hx hr
  have HSS:Hid (∀ w':World,Below w.heap.size w2 w'->(w'.cell? ⟨bl,ol+k*4,none⟩=some (.int .i64 x'.fMask)/\w'.cell? ⟨bl,ol+k*4+1,none⟩=some (.int .i64 x'.fOrder)/\w'.cell? ⟨bl,ol+k*4+2,none⟩=some (.int .i64 x'.fCost)/\w'.cell? ⟨bl,ol+k*4+3,none⟩=some (.slice AX nX cX))):=by
   show ∀ w':World,_->_;intro w' h;have h':=b2.trans h;exact⟨cells_below h' _ _ c0,cells_below h' _ _ c1,cells_below h' _ _ c2,cells_below h' _ _ c3⟩
  have hd0:=(Below.refl w2.heap.size w2).drew;have hA:=hd0.alloc hd0.size (.cells #[] 173);have hA0:=hA.mono b2.size;have rX2:=rX.below (rPlanStep_ok NB) (b2.trans hA0);clear c0 c1 c2 c3
  go_upto_region 4 with fail
  refine hbg HSS.out (hd0.mono b2.size) (fun hH=>?_);refine tq4 0 hH ?_;simp only [putS];refine tq4 4 hH ?_;simp only [putS];refine tq4 8 hH ?_;simp only [putS];refine tq2 12 hH ?_;refine tq1 14 hH ?_;simp only [putS];refine tq4 16 hH ?_;simp only [putS];refine tq2 20 hH ?_;simp only [putS];refine rd 15 (some 28) fun K hK=>?_;clear hH;go_simp;refine hK.out _ _ (HSS.out _ hA0) (fun hH=>?_);clear hK K
  try simp only [putS]
  refine rd 22 (some 35) fun K hK=>?_;clear hH;refine step_appe (r:=rPlanStep NB) (M:=NB) (by rfl) _ _ 74 (by rfl) _ 24 eiPlanStep (rPlanStep_ok NB) (rPlanStep_flt NB) (by rfl) (heap_alloc_new _ _) (by rfl) rX2 rX2.nb (Nat.le_refl _) (by have:=rX2.nb;unfold NB at this;omega) ?_;intro A5 c5 w3 o5 g5 hb3;have hC:=(hA.trans (hb3.mono hA.size)).mono b2.size;refine hK.out _ _ (HSS.out _ hC) (fun hH=>?_);clear hK K
  try simp only [putS]
  refine tq2 23 hH ?_;simp only [putS];have kR3:=kR2.below (hA.trans (hb3.mono hA.size));have hB3:=b2.trans hC;have ⟨r0,f0,r1,f1,r2,f2,r3,f3⟩:=kR3.r4;have hsz:=kR2.lt;have hC9:=bls4 hC (Nat.le_refl _) (.int .i64 x'.fMask) (.int .i64 x'.fOrder) (.int .i64 x'.fCost) (.slice A5 nX c5);refine rd 25 none fun K hK=>?_;clear hH;go_simp;refine hK.out _ _ (HSS.out _ hC9) (fun hH=>?_);clear hK K
  try simp only [putS]
  refine tq1 26 hH ?_;simp only [putS];refine wpAnyH_done (by kernel_rfl) ?_ _;clear hH;have k9:=kR3.put4 (.int .i64 x'.fMask) (.int .i64 x'.fOrder) (.int .i64 x'.fCost) (.slice A5 nX c5);have B9:=bls4 hB3 (Nat.le_refl _) (.int .i64 x'.fMask) (.int .i64 x'.fOrder) (.int .i64 x'.fCost) (.slice A5 nX c5);go_wp2;refine bodyPost_ret (v:=.tuple #[.agg #[.int .i64 x'.fMask,.int .i64 x'.fOrder,.int .i64 x'.fCost,.slice A5 nX c5],.bool true]) (results_cs Tryz.results54 rfl rfl k9.rangeAt Tryz.underlying107 rfl sizeEntT) rfl ?_
  have hge:∀ k∈blk A5,w.heap.size<k:=fun k hk=>by
   have hs:=hd0.size;rcases g5 k hk with h|h
   ·omega
   ·have hs:k=w2.heap.size+1:=h.trans (World.size_alloc _ _)
    omega
  rw [HB.out];refine⟨_,blk A5,rfl,?_,⟨by cases A5<;>simp [blk],fun k hk=>Nat.le_of_lt (hge k hk)⟩,B9⟩;exact(rPlanEntry_ok NB).okeep (w:=w3) (rPlanEntry_own.2 ⟨A5,nX,c5,_,rfl,rfl,j0,j1,j2,o5⟩) (fun z hz=>set4_ne (by have:=hge z hz;omega) _ _ _ _)
theorem sKnown_c (A:Option Addr) (n c:Nat) (l:List PlanD) (Ap:Option Addr) (np cp:Nat) (p:PlanD) (w:World) (hr:RS NB (rPlan NB) w A n c l) (hp:(rPlan NB).rep w [.slice Ap np cp] p) :
  Calls Tryz.prog 57 #[.slice A n c,.agg #[.slice Ap np cp]] w fun e w'=>e=.returned (.int .i64 (knownP p l 0))/\Below w.heap.size w w':=by
 have hn:=hr.bound;obtain⟨w1,hw1⟩:∃ W,W=w.alloc (.cells #[.slice Ap np cp] 76):=⟨_,rfl⟩;have b1:Below w.heap.size w w1:=by rw [hw1];exact bal
 have kP:Bk w1 w.heap.size 76 [.slice Ap np cp]:=by rw [hw1];exact Bk.new w _ _
 go_enter Tryz.func57,Tryz.ntmps57
 go_upto_region 1 with fail
 rw [<- hw1];clear hw1
 go_wp2_with fail
 go_loopw [5] (fun i wr=>∃ k:Nat,k<=n/\i=.int .i64 k/\Hid (knownP p l 0=knownP p (l.drop k) k)/\Below w.heap.size w wr/\Bk wr w.heap.size 76 [.slice Ap np cp]) (fun i _=>n - (intOf i).toNat)
 case atStart=>exact⟨0,Nat.zero_le _,rfl,rfl,b1,kP⟩
 case round =>
  clear b1 kP;obtain⟨k,hk,rfl,hf,hB,kP⟩:=hrel;by_cases hlt:k<n
  ·obtain⟨b,off,x,AX,nX,cX,rfl,hc,rX,hx⟩:=hr.plan hlt
   have hkI:(k:Int)<n:=by omega
   have c0:=cells_below hB _ _ hc;have hrep:(rPlan NB).rep w [.slice AX nX cX] x:=rPlan_rep.2 ⟨AX,nX,cX,rfl,rX⟩;have p0:=kP.bx 0 _ rfl;have hd:=(Below.refl wr.heap.size wr).drew;have hB1:=hB.trans (hd.mono hB.size);have hrep':=(rPlan_ok NB).keep hrep (cells_below hB1);have hp':=(rPlan_ok NB).keep hp (cells_below hB1);clear hc hrep
   go_wp2_with fail
   go_still_tail 5,(by kernel_rfl)
   go_wp2_with fail
   refine(sEqualPlans_c _ x _ p wr.drew hrep' hp').mono ?_;rintro e w3 ⟨rfl,hb3⟩;have hB3:=hB1.trans (hb3.mono hB1.size);have kP3:=(kP.below hd).below hb3;by_cases hxp:x=p
   ·have hbb:decide (x=p)=true:=decide_eq_true hxp
    have HF:Hid (knownP p l 0=(k:Int)):=by show _=_;rw [hf.out,knownP_yes hx.out hxp]
    clear hxp;go_wp2;go_ret;exact⟨by rw [HF.out];rfl,hB3⟩
   ·have hbb:decide (x=p)=false:=decide_eq_false hxp
    have HF:Hid (knownP p l 0=knownP p (l.drop (k+1)) (k+1)):=by show _=_;rw [hf.out,knownP_no hx.out hxp]
    clear hxp;go_wp2;go_roundw
    case rel=>exact⟨k+1,by omega,by go_num,HF,hB3,kP3⟩
    case measure=>simp [intOf];omega
  ·have hkI:¬ (k:Int)<n:=by omega
   have HF:Hid (knownP p l 0=-1):=by
    show _=_;rw [hf.out,List.drop_eq_nil_of_le (by have:=hr.len;omega)];rfl
   go_wp2;go_ret;exact⟨by rw [HF.out];rfl,hB⟩
attribute [local go_sem ↓] Go.wp_at_zero Go.wp_at_succ
theorem sRefuteModel_c (csx:List Value) (x:ModelD) (w:World) (hx:(rModel NB).rep w csx x) :
  Calls Tryz.prog 118 #[.agg csx.toArray] w (RetK (admitted x) w):=by
 have rx:=hx;obtain⟨Ax_s4,nx_s4,cx_s4,Ax_b5,nx_b5,cx_b5,Ax_p1,nx_p1,cx_p1,Ax_d2,nx_d2,cx_d2,Ax_p3,nx_p3,cx_p3,rfl,hx_n4,hx_o4,hx_r4,hx_p4,hx_q4,hx_s4,hx_w4,hx_x4,hx_a5,hx_y4,hx_z4,hx_b5,hx_k1,hx_l1,hx_o1,hx_m1,hx_n1,hx_p1,hx_y1,hx_z1,hx_c2,hx_a2,hx_b2,hx_d2,hx_k3,hx_l3,hx_o3,hx_m3,hx_n3,hx_p3⟩:=rModel_rep.1 hx;clear hx;obtain⟨hB,bxx⟩:=op1 w [.int .i64 x.fScan.fFixed,.int .i64 x.fScan.fPerLeft,.int .i64 x.fScan.fPerRight,.int .i64 x.fScan.fPerOutput,.int .i64 x.fScan.fPerPair,.slice Ax_s4 nx_s4 cx_s4,.int .i64 x.fSort.fFixed,.int .i64 x.fSort.fPerLeft,.int .i64 x.fSort.fPerRight,.int .i64 x.fSort.fPerOutput,.int .i64 x.fSort.fPerPair,.slice Ax_b5 nx_b5 cx_b5,.int .i64 x.fHash.fFixed,.int .i64 x.fHash.fPerLeft,.int .i64 x.fHash.fPerRight,.int .i64 x.fHash.fPerOutput,.int .i64 x.fHash.fPerPair,.slice Ax_p1 nx_p1 cx_p1,.int .i64 x.fMerge.fFixed,.int .i64 x.fMerge.fPerLeft,.int .i64 x.fMerge.fPerRight,.int .i64 x.fMerge.fPerOutput,.int .i64 x.fMerge.fPerPair,.slice Ax_d2 nx_d2 cx_d2,.int .i64 x.fNested.fFixed,.int .i64 x.fNested.fPerLeft,.int .i64 x.fNested.fPerRight,.int .i64 x.fNested.fPerOutput,.int .i64 x.fNested.fPerPair,.slice Ax_p3 nx_p3 cx_p3] 46
 go_enter Tryz.func118,Tryz.ntmps118
 go_wp2
 go_loopw [5] (fun i wr=>∃ (k:Nat) (z:Int),k<=5/\z=k+1/\i=.int .i64 z/\((modelOps x).take k).all opOk=true/\Below w.heap.size w wr/\Bx wr w.heap.size [.int .i64 x.fScan.fFixed,.int .i64 x.fScan.fPerLeft,.int .i64 x.fScan.fPerRight,.int .i64 x.fScan.fPerOutput,.int .i64 x.fScan.fPerPair,.slice Ax_s4 nx_s4 cx_s4,.int .i64 x.fSort.fFixed,.int .i64 x.fSort.fPerLeft,.int .i64 x.fSort.fPerRight,.int .i64 x.fSort.fPerOutput,.int .i64 x.fSort.fPerPair,.slice Ax_b5 nx_b5 cx_b5,.int .i64 x.fHash.fFixed,.int .i64 x.fHash.fPerLeft,.int .i64 x.fHash.fPerRight,.int .i64 x.fHash.fPerOutput,.int .i64 x.fHash.fPerPair,.slice Ax_p1 nx_p1 cx_p1,.int .i64 x.fMerge.fFixed,.int .i64 x.fMerge.fPerLeft,.int .i64 x.fMerge.fPerRight,.int .i64 x.fMerge.fPerOutput,.int .i64 x.fMerge.fPerPair,.slice Ax_d2 nx_d2 cx_d2,.int .i64 x.fNested.fFixed,.int .i64 x.fNested.fPerLeft,.int .i64 x.fNested.fPerRight,.int .i64 x.fNested.fPerOutput,.int .i64 x.fNested.fPerPair,.slice Ax_p3 nx_p3 cx_p3]) (fun i _=>6 - (intOf i).toNat)
 case atStart=>exact⟨0,1,Nat.zero_le _,rfl,rfl,rfl,hB,bxx⟩
 case round =>
  clear hB bxx;obtain⟨k,z,hk,hz,rfl,hall,hB,bxx⟩:=hrel;have hz0:1<=z:=by omega
  have hz1:z<=6:=by omega
  have HNZ:Hid ((z==0)=false):=Lib.hid (by simp;omega);have HA:=Lib.hid hall;clear hall;have hkz:z<=5↔k<5:=by omega
  by_cases hlt:k<5
  ·have hz5:=hkz.2 hlt
   have HO:Hid ((modelOps x)[k]?=some (opOf x z)):=Lib.hid (by rw [hz];exact opOf_at x hlt);have HZ:=Lib.hid hz;clear hz hkz
   go_wp2_with (refine wpList_load_mid rfl 46 _ rfl w.heap.size 0 rfl [.int .i64 x.fScan.fFixed,.int .i64 x.fScan.fPerLeft,.int .i64 x.fScan.fPerRight,.int .i64 x.fScan.fPerOutput,.int .i64 x.fScan.fPerPair,.slice Ax_s4 nx_s4 cx_s4,.int .i64 x.fSort.fFixed,.int .i64 x.fSort.fPerLeft,.int .i64 x.fSort.fPerRight,.int .i64 x.fSort.fPerOutput,.int .i64 x.fSort.fPerPair,.slice Ax_b5 nx_b5 cx_b5,.int .i64 x.fHash.fFixed,.int .i64 x.fHash.fPerLeft,.int .i64 x.fHash.fPerRight,.int .i64 x.fHash.fPerOutput,.int .i64 x.fHash.fPerPair,.slice Ax_p1 nx_p1 cx_p1,.int .i64 x.fMerge.fFixed,.int .i64 x.fMerge.fPerLeft,.int .i64 x.fMerge.fPerRight,.int .i64 x.fMerge.fPerOutput,.int .i64 x.fMerge.fPerPair,.slice Ax_d2 nx_d2 cx_d2,.int .i64 x.fNested.fFixed,.int .i64 x.fNested.fPerLeft,.int .i64 x.fNested.fPerRight,.int .i64 x.fNested.fPerOutput,.int .i64 x.fNested.fPerPair,.slice Ax_p3 nx_p3 cx_p3] _ bxx.range Tryz.underlying46 rfl sizeModel ?_)
   refine(sModelOp_c _ x z _ ((rModel_ok NB).keep rx (cells_below hB))).mono ?_;rintro e w1 ⟨A1,n1,c1,rfl,ro,hb1⟩;replace hB:=hB.trans (hb1.mono hB.size);replace bxx:=bxx.below hb1;clear hb1;generalize opOf x z=o at ro HO;have bxo:=Bx.new w1 [.int .i64 o.fFixed,.int .i64 o.fPerLeft,.int .i64 o.fPerRight,.int .i64 o.fPerOutput,.int .i64 o.fPerPair,.slice A1 n1 c1] 44;have hBo:=(Below.refl w1.heap.size w1).alloc (Nat.le_refl _) (.cells #[.int .i64 o.fFixed,.int .i64 o.fPerLeft,.int .i64 o.fPerRight,.int .i64 o.fPerOutput,.int .i64 o.fPerPair,.slice A1 n1 c1] 44)
   go_wp2_with fail
   replace hB:=hB.trans (hBo.mono hB.size);replace bxx:=bxx.below hBo;replace ro:=(rOperator_ok NB).keep ro (cells_below hBo);clear hBo;refine(sIsValidOperator_c _ o _ ro).mono ?_;rintro e w2 ⟨rfl,hb2⟩;replace hB:=hB.trans (hb2.mono hB.size);replace bxx:=bxx.below hb2;replace ro:=(rOperator_ok NB).keep ro (cells_below hb2);replace bxo:=bxo.below hb2;clear hb2;cases hv:validOp o
   ·go_wp2
    go_ret3;exact⟨_,_,_,rfl,by rw [admitted_no HO.out (opOk_invalid hv)];exact HNZ.out,(hB.alloc hB.size _).alloc (by simp;have:=hB.size;omega) _⟩
   have HV:=Lib.hid hv;clear hv;have ko_0:=bxo 0 _ rfl;have ko_1:=bxo 1 _ rfl;have ko_2:=bxo 2 _ rfl;have ko_3:=bxo 3 _ rfl;have ko_4:=bxo 4 _ rfl;have ko_5:=bxo 5 _ rfl
   go_wp2_with fail
   refine(sFindDecrease_c _ o _ ro).mono ?_;rintro e w3 ⟨v1,v2,rfl,hb3⟩;replace hB:=hB.trans (hb3.mono hB.size);replace bxx:=bxx.below hb3;replace ro:=(rOperator_ok NB).keep ro (cells_below hb3);replace bxo:=bxo.below hb3;clear hb3 ko_0 ko_1 ko_2 ko_3 ko_4 ko_5;rw [HV.out,Bool.true_and];cases hd:hasDec o
   rotate_left
   ·go_wp2
    go_ret3;exact⟨_,_,_,rfl,by rw [admitted_no HO.out (opOk_dec hd)];exact HNZ.out,hB⟩
   have HD:=Lib.hid hd;clear hd;have ko_0:=bxo 0 _ rfl;have ko_1:=bxo 1 _ rfl;have ko_2:=bxo 2 _ rfl;have ko_3:=bxo 3 _ rfl;have ko_4:=bxo 4 _ rfl;have ko_5:=bxo 5 _ rfl
   go_wp2_with fail
   refine(sCheap_c _ o _ ro HV.out).mono ?_;rintro e w4 ⟨A7,n7,c7,rfl,hn7,hb4⟩;replace hB:=hB.trans (hb4.mono hB.size);replace bxx:=bxx.below hb4;replace ro:=(rOperator_ok NB).keep ro (cells_below hb4);replace bxo:=bxo.below hb4;clear hb4 ko_0 ko_1 ko_2 ko_3 ko_4 ko_5;cases hch:hasCheap o
   ·rw [hch]at hn7
    have h7:¬ (0:Int)<(n7:Int):=by simp at hn7;omega
    have h7':n7=0:=by omega
    subst h7';clear hn7 h7;go_wp2;go_roundw
    case rel=>exact⟨k+1,z+1,by omega,by rw [HZ.out];omega,rfl,all_snoc' HA.out HO.out (opOk_yes HV.out HD.out hch),hB,bxx⟩
    case measure=>simp [intOf];omega
   ·rw [hch]at hn7
    have h7:(0:Int)<(n7:Int):=by simp at hn7;omega
    have h7':0<n7:=by omega
    clear hn7;go_wp2;go_ret3;exact⟨_,_,_,rfl,by rw [admitted_no HO.out (opOk_cheap hch)];exact HNZ.out,hB.alloc hB.size _⟩
  ·have hz5:¬ z<=5:=by omega
   have HF:Hid (admitted x=true):=by show(modelOps x).all opOk=true;have:=HA.out;rwa [List.take_of_length_le (by simp [modelOps];omega)]at this
   clear hz hkz;go_wp2;go_ret3;exact⟨_,_,_,rfl,by rw [HF.out];rfl,(hB.alloc hB.size _).alloc (by simp;have:=hB.size;omega) _⟩
theorem sIsAdmitted_c (csx:List Value) (x:ModelD) (w:World) (hx:(rModel NB).rep w csx x) :
  Calls Tryz.prog 48 #[.agg csx.toArray] w fun e w'=>e=.returned (.bool (admitted x))/\Below w.heap.size w w':=by
 have rx:=hx;obtain⟨Ax_s4,nx_s4,cx_s4,Ax_b5,nx_b5,cx_b5,Ax_p1,nx_p1,cx_p1,Ax_d2,nx_d2,cx_d2,Ax_p3,nx_p3,cx_p3,rfl,hx_n4,hx_o4,hx_r4,hx_p4,hx_q4,hx_s4,hx_w4,hx_x4,hx_a5,hx_y4,hx_z4,hx_b5,hx_k1,hx_l1,hx_o1,hx_m1,hx_n1,hx_p1,hx_y1,hx_z1,hx_c2,hx_a2,hx_b2,hx_d2,hx_k3,hx_l3,hx_o3,hx_m3,hx_n3,hx_p3⟩:=rModel_rep.1 hx;clear hx;obtain⟨hB,bxx⟩:=op1 w [.int .i64 x.fScan.fFixed,.int .i64 x.fScan.fPerLeft,.int .i64 x.fScan.fPerRight,.int .i64 x.fScan.fPerOutput,.int .i64 x.fScan.fPerPair,.slice Ax_s4 nx_s4 cx_s4,.int .i64 x.fSort.fFixed,.int .i64 x.fSort.fPerLeft,.int .i64 x.fSort.fPerRight,.int .i64 x.fSort.fPerOutput,.int .i64 x.fSort.fPerPair,.slice Ax_b5 nx_b5 cx_b5,.int .i64 x.fHash.fFixed,.int .i64 x.fHash.fPerLeft,.int .i64 x.fHash.fPerRight,.int .i64 x.fHash.fPerOutput,.int .i64 x.fHash.fPerPair,.slice Ax_p1 nx_p1 cx_p1,.int .i64 x.fMerge.fFixed,.int .i64 x.fMerge.fPerLeft,.int .i64 x.fMerge.fPerRight,.int .i64 x.fMerge.fPerOutput,.int .i64 x.fMerge.fPerPair,.slice Ax_d2 nx_d2 cx_d2,.int .i64 x.fNested.fFixed,.int .i64 x.fNested.fPerLeft,.int .i64 x.fNested.fPerRight,.int .i64 x.fNested.fPerOutput,.int .i64 x.fNested.fPerPair,.slice Ax_p3 nx_p3 cx_p3] 46
 go_enter Tryz.func48,Tryz.ntmps48
 go_wp2_with (refine wpList_load_mid rfl 46 _ rfl w.heap.size 0 rfl [.int .i64 x.fScan.fFixed,.int .i64 x.fScan.fPerLeft,.int .i64 x.fScan.fPerRight,.int .i64 x.fScan.fPerOutput,.int .i64 x.fScan.fPerPair,.slice Ax_s4 nx_s4 cx_s4,.int .i64 x.fSort.fFixed,.int .i64 x.fSort.fPerLeft,.int .i64 x.fSort.fPerRight,.int .i64 x.fSort.fPerOutput,.int .i64 x.fSort.fPerPair,.slice Ax_b5 nx_b5 cx_b5,.int .i64 x.fHash.fFixed,.int .i64 x.fHash.fPerLeft,.int .i64 x.fHash.fPerRight,.int .i64 x.fHash.fPerOutput,.int .i64 x.fHash.fPerPair,.slice Ax_p1 nx_p1 cx_p1,.int .i64 x.fMerge.fFixed,.int .i64 x.fMerge.fPerLeft,.int .i64 x.fMerge.fPerRight,.int .i64 x.fMerge.fPerOutput,.int .i64 x.fMerge.fPerPair,.slice Ax_d2 nx_d2 cx_d2,.int .i64 x.fNested.fFixed,.int .i64 x.fNested.fPerLeft,.int .i64 x.fNested.fPerRight,.int .i64 x.fNested.fPerOutput,.int .i64 x.fNested.fPerPair,.slice Ax_p3 nx_p3 cx_p3] _ bxx.range Tryz.underlying46 rfl sizeModel ?_)
 refine(sRefuteModel_c _ x _ ((rModel_ok NB).keep rx (cells_below hB))).mono ?_;rintro e w1 ⟨k,v1,v2,rfl,hk,hb1⟩;replace hB:=hB.trans (hb1.mono hB.size);replace bxx:=bxx.below hb1;clear hb1;have HK:=Lib.hid hk;clear hk;go_wp2;go_ret;exact⟨ret_bool HK.out,hB⟩
end Go.Proofs.YtnlcfkpcmfljeaaGreat
namespace Go.Proofs.YtnlcfkpcmfljeaaGreat
open Go.RowKit
attribute [local go_sem ↓] Go.wp_at_zero Go.wp_at_succ
theorem sBuildSpace_c (csm:List Value) (m:ModelD) (csq:List Value) (q:QueryD) (csb:List Value) (b:BoxD) (w:World) (hm:(rModel NB).rep w csm m) (hq:(rQuery NB).rep w csq q) (hb:(rBox NB).rep w csb b) :
  Calls Tryz.prog 10 #[.agg csm.toArray,.agg csq.toArray,.agg csb.toArray] w (RetVB (rSpace NB) (buildE m q b).1 (.bool (buildE m q b).2) w):=by
 have rm:=hm;have lenm:=(rModel_ok NB).len hm;clear hm;have rq:=hq;obtain⟨Aq_e,nq_e,cq_e,rfl,hq_p5,hq_e⟩:=rQuery_rep.1 hq;clear hq;have rb:=hb;obtain⟨AbLow,nbLow,cbLow,AbHigh,nbHigh,cbHigh,rfl,hbLow,hbHigh⟩:=rBox_rep.1 hb;clear hb;obtain⟨hB,bxm,bxq,bxb⟩:=op3 w csm 46 [.int .i64 q.fVariableCount,.slice Aq_e nq_e cq_e] 50 [.slice AbLow nbLow cbLow,.slice AbHigh nbHigh cbHigh] 36;have lenm':csm.length=30:=lenm;clear lenm;obtain⟨wA,hwA⟩:∃ W,W=((w.alloc (.cells csm.toArray 46)).alloc (.cells #[.int .i64 q.fVariableCount,.slice Aq_e nq_e cq_e] 50)).alloc (.cells #[.slice AbLow nbLow cbLow,.slice AbHigh nbHigh cbHigh] 36):=⟨_,rfl⟩
 rw [<- hwA]at hB bxm bxq bxb;have hsA:wA.heap.size=w.heap.size+1+1+1:=by rw [hwA];simp
 obtain⟨wB,hwB⟩:∃ W,W=wA.alloc (.cells #[.slice none 0 0,.slice none 0 0,.slice none 0 0,.slice none 0 0,.slice none 0 0] 39):=⟨_,rfl⟩;have hb_wB:Below wA.heap.size wA wB:=by rw [hwB];exact(Below.refl wA.heap.size wA).alloc (Nat.le_refl _) _
 replace hB:=hB.trans (hb_wB.mono hB.size);replace bxm:=bxm.below hb_wB;replace bxq:=bxq.below hb_wB;replace bxb:=bxb.below hb_wB;clear hb_wB;have kR:Bk wB wA.heap.size 39 [.slice none 0 0,.slice none 0 0,.slice none 0 0,.slice none 0 0,.slice none 0 0]:=by rw [hwB];exact Bk.new wA _ _
 rw [hsA]at kR;have HLb:=Lib.hid hbLow.len;have hnbl:=hbLow.bound
 go_enter Tryz.func10,Tryz.ntmps10
 go_upto_region 1 with fail
 rw [<- hwA,<- hwB];clear hwA hwB hsA;have kb_0:=bxb 0 _ rfl;have kb_1:=bxb 1 _ rfl
 go_wp2_with fail
 refine(sBoxVolume_c _ b _ ((rBox_ok NB).keep rb (cells_below hB))).mono ?_;rintro e w1 ⟨rfl,hb1⟩;replace hB:=hB.trans (hb1.mono hB.size);replace bxm:=bxm.below hb1;replace bxq:=bxq.below hb1;replace bxb:=bxb.below hb1;replace kR:=kR.below hb1;clear hb1 kb_0 kb_1;obtain⟨v1,hv1⟩:∃ v,admitted m=v:=⟨_,rfl⟩;obtain⟨F,hF⟩:∃ v,fullMask q=v:=⟨_,rfl⟩;obtain⟨v2,hv2⟩:∃ v,isConn q F=v:=⟨_,rfl⟩;obtain⟨V,hV⟩:∃ v,boxVol b=v:=⟨_,rfl⟩;obtain⟨v3,hv3⟩:∃ v,inR V 1 400=v:=⟨_,rfl⟩;have hF15:-1<=F/\F<=15:=by rw [<- hF];exact⟨by unfold fullMask;split<;>(have:=Nat.one_le_two_pow (n:=q.fAtoms.length);omega),fm15 q⟩
 have hwr:IntKind.i64.wrap (F+1)=F+1:=IntWalk.i64_in _ (by omega);obtain⟨v4,hv4⟩:∃ v,((nbLow:Int) != F+1)=v:=⟨_,rfl⟩
 have HCB:Hid (canBuild m q b=(v1&&(v2&&(v3&&!v4)))):=by
  show _=_;unfold canBuild;rw [hv1,hF,hv2,hV,hv3,HLb.out,<- hv4];congr 3;by_cases h:(nbLow:Int)=F+1
  ·simp [h]
  ·simp [h]
 have HF:=Lib.hid hF;have HV:=Lib.hid hV;have HV4:=Lib.hid hv4;rw [hV]
 have KA:Hid (∀ W,Below w1.heap.size w1 W->Calls Tryz.prog 48 #[.agg csm.toArray] W fun e w'=>e=.returned (.bool v1)/\Below W.heap.size W w'):=by
  show ∀ W,_->_;intro W hW;rw [<- hv1];exact sIsAdmitted_c csm m W ((rModel_ok NB).keep rm (cells_below (hB.trans (hW.mono hB.size))))
 have KF:Hid (∀ W,Below w1.heap.size w1 W->Calls Tryz.prog 50 #[.agg #[.int .i64 q.fVariableCount,.slice Aq_e nq_e cq_e]] W fun e w'=>e=.returned (.int .i64 F)/\Below W.heap.size W w'):=by
  show ∀ W,_->_;intro W hW;rw [<- hF];exact sFullMask_c _ q W ((rQuery_ok NB).keep rq (cells_below (hB.trans (hW.mono hB.size))))
 have KC:Hid (∀ W,Below w1.heap.size w1 W->Calls Tryz.prog 49 #[.agg #[.int .i64 q.fVariableCount,.slice Aq_e nq_e cq_e],.int .i64 F] W fun e w'=>e=.returned (.bool v2)/\Below W.heap.size W w'):=by
  show ∀ W,_->_;intro W hW;rw [<- hv2];exact sIsConnected_c _ q F W ((rQuery_ok NB).keep rq (cells_below (hB.trans (hW.mono hB.size))))
 have K3:=Lib.hid (fun W=>l1In_v hv3 W)
 have HSS:Hid (∀ w',Below w1.heap.size w1 w'->(w'.rangeAt w.heap.size 0 csm/\w'.cell? ⟨w.heap.size+1,0,none⟩=some (.int .i64 q.fVariableCount)/\w'.cell? ⟨w.heap.size+1,1,none⟩=some (.slice Aq_e nq_e cq_e)/\w'.cell? ⟨w.heap.size+1+1,0,none⟩=some (.slice AbLow nbLow cbLow)/\w'.cell? ⟨w.heap.size+1+1,1,none⟩=some (.slice AbHigh nbHigh cbHigh))):=by
  show ∀ w',_->_;intro w' hb;exact⟨(bxm.below hb).range,(bxq.below hb) 0 _ rfl,(bxq.below hb) 1 _ rfl,(bxb.below hb) 0 _ rfl,(bxb.below hb) 1 _ rfl⟩
 clear hF hV hv1 hv2 hv3
 go_upto_region 2 with fail
 cases v1
 ·refine hbg HSS.out (Below.refl _ _).drew (fun hH=>?_)
  refine ldm 0 20 (fun w h=>h.1) Tryz.underlying46 (by rw [lenm'];exact sizeModelT) hH ?_;simp only [putS];refine rd 1 (some 21) fun K hK=>?_;clear hH;go_simp;refine(KA.out _ (Below.refl _ _).drew).mono ?_;rintro e w2 ⟨rfl,hb2⟩;have hC1:Below w1.heap.size w1 w2:=(Below.refl w1.heap.size w1).drew.trans (hb2.mono (by simp))
  go_wp2_with fail
  refine hK.out _ _ (HSS.out _ hC1) (fun hH=>?_);clear hK K
  try simp only [putS]
  refine tq2 2 hH ?_;simp only [putS];refine tr4 4 hH ?_;simp only [putS];refine tr1 8 hH ?_;refine tq2 9 hH ?_;simp only [putS];refine tr2 11 hH ?_;refine tr1 13 hH ?_;simp only [putS];refine tq2 14 hH ?_;simp only [putS];refine tr4 16 hH ?_;simp only [putS];refine tr2 20 hH ?_;refine tr1 22 hH ?_;refine tq1 23 hH ?_;simp only [putS];refine wpAnyH_done (by kernel_rfl) ?_ _;clear hH;have HN:Hid (buildE m q b=(zSpace,false)):=by show _=_;unfold buildE;rw [HCB.out];rfl
  have kR2:=kR.below hC1;have hB2:=hB.trans (hC1.mono hB.size);have ⟨z0,y0,z1,y1,z2,y2,z3,y3,z4,y4⟩:=kR2.r5;go_wp2;have k9:=kR2.set5 (.slice none 0 0) (.slice none 0 0) (.slice none 0 0) (.slice none 0 0) (.slice none 0 0);refine bodyPost_ret (v:=.tuple #[.agg #[.slice none 0 0,.slice none 0 0,.slice none 0 0,.slice none 0 0,.slice none 0 0],.bool false]) (results_cs Tryz.results10 rfl rfl k9.rangeAt Tryz.underlying39 rfl sizeSpaceT) rfl ?_;rw [HN.out];exact⟨_,[],rfl,zSpace_own _,Fr.nil _,bls5 hB2 (by omega) _ _ _ _ _⟩
 cases v2
 ·refine hbg HSS.out (Below.refl _ _).drew (fun hH=>?_)
  refine ldm 0 20 (fun w h=>h.1) Tryz.underlying46 (by rw [lenm'];exact sizeModelT) hH ?_;simp only [putS];refine rd 1 (some 21) fun K hK=>?_;clear hH;go_simp;refine(KA.out _ (Below.refl _ _).drew).mono ?_;rintro e w2 ⟨rfl,hb2⟩;have hC1:Below w1.heap.size w1 w2:=(Below.refl w1.heap.size w1).drew.trans (hb2.mono (by simp))
  go_wp2_with fail
  refine hK.out _ _ (HSS.out _ hC1) (fun hH=>?_);clear hK K
  try simp only [putS]
  refine tq4 2 hH ?_;simp only [putS];refine rd 6 (some 26) fun K hK=>?_;clear hH;go_simp;refine(KF.out _ hC1).mono ?_;rintro e w3 ⟨rfl,hb3⟩;have hC2:Below w1.heap.size w1 w3:=hC1.trans (hb3.mono hC1.size)
  go_wp2_with fail
  refine hK.out _ _ (HSS.out _ hC2) (fun hH=>?_);clear hK K
  try simp only [putS]
  refine rd 7 (some 27) fun K hK=>?_;clear hH;go_simp;refine(KC.out _ hC2).mono ?_;rintro e w4 ⟨rfl,hb4⟩;have hC3:Below w1.heap.size w1 w4:=hC2.trans (hb4.mono hC2.size)
  go_wp2_with fail
  refine hK.out _ _ (HSS.out _ hC3) (fun hH=>?_);clear hK K
  try simp only [putS]
  refine tq2 8 hH ?_;refine tq1 10 hH ?_;simp only [putS];refine tr2 11 hH ?_;refine tr1 13 hH ?_;simp only [putS];refine tq2 14 hH ?_;simp only [putS];refine tr4 16 hH ?_;simp only [putS];refine tr2 20 hH ?_;refine tr1 22 hH ?_;refine tq1 23 hH ?_;simp only [putS];refine wpAnyH_done (by kernel_rfl) ?_ _;clear hH;have HN:Hid (buildE m q b=(zSpace,false)):=by show _=_;unfold buildE;rw [HCB.out];rfl
  have kR2:=kR.below hC3;have hB2:=hB.trans (hC3.mono hB.size);have ⟨z0,y0,z1,y1,z2,y2,z3,y3,z4,y4⟩:=kR2.r5;go_wp2;have k9:=kR2.set5 (.slice none 0 0) (.slice none 0 0) (.slice none 0 0) (.slice none 0 0) (.slice none 0 0);refine bodyPost_ret (v:=.tuple #[.agg #[.slice none 0 0,.slice none 0 0,.slice none 0 0,.slice none 0 0,.slice none 0 0],.bool false]) (results_cs Tryz.results10 rfl rfl k9.rangeAt Tryz.underlying39 rfl sizeSpaceT) rfl ?_;rw [HN.out];exact⟨_,[],rfl,zSpace_own _,Fr.nil _,bls5 hB2 (by omega) _ _ _ _ _⟩
 cases v3
 ·refine hbg HSS.out (Below.refl _ _).drew (fun hH=>?_)
  refine ldm 0 20 (fun w h=>h.1) Tryz.underlying46 (by rw [lenm'];exact sizeModelT) hH ?_;simp only [putS];refine rd 1 (some 21) fun K hK=>?_;clear hH;go_simp;refine(KA.out _ (Below.refl _ _).drew).mono ?_;rintro e w2 ⟨rfl,hb2⟩;have hC1:Below w1.heap.size w1 w2:=(Below.refl w1.heap.size w1).drew.trans (hb2.mono (by simp))
  go_wp2_with fail
  refine hK.out _ _ (HSS.out _ hC1) (fun hH=>?_);clear hK K
  try simp only [putS]
  refine tq4 2 hH ?_;simp only [putS];refine rd 6 (some 26) fun K hK=>?_;clear hH;go_simp;refine(KF.out _ hC1).mono ?_;rintro e w3 ⟨rfl,hb3⟩;have hC2:Below w1.heap.size w1 w3:=hC1.trans (hb3.mono hC1.size)
  go_wp2_with fail
  refine hK.out _ _ (HSS.out _ hC2) (fun hH=>?_);clear hK K
  try simp only [putS]
  refine rd 7 (some 27) fun K hK=>?_;clear hH;go_simp;refine(KC.out _ hC2).mono ?_;rintro e w4 ⟨rfl,hb4⟩;have hC3:Below w1.heap.size w1 w4:=hC2.trans (hb4.mono hC2.size)
  go_wp2_with fail
  refine hK.out _ _ (HSS.out _ hC3) (fun hH=>?_);clear hK K
  try simp only [putS]
  refine tq4 8 hH ?_;simp only [putS];refine rd 12 (some 32) fun K hK=>?_;clear hH;go_simp;refine(K3.out _).mono ?_;rintro e w5 ⟨rfl,rfl⟩
  go_wp2_with fail
  refine hK.out _ _ (HSS.out _ hC3) (fun hH=>?_);clear hK K
  try simp only [putS]
  refine tq2 13 hH ?_;refine tq1 15 hH ?_;simp only [putS];refine tr4 16 hH ?_;simp only [putS];refine tr2 20 hH ?_;refine tr1 22 hH ?_;refine tq1 23 hH ?_;simp only [putS];refine wpAnyH_done (by kernel_rfl) ?_ _;clear hH;have HN:Hid (buildE m q b=(zSpace,false)):=by show _=_;unfold buildE;rw [HCB.out];rfl
  have kR2:=kR.below hC3;have hB2:=hB.trans (hC3.mono hB.size);have ⟨z0,y0,z1,y1,z2,y2,z3,y3,z4,y4⟩:=kR2.r5;go_wp2;have k9:=kR2.set5 (.slice none 0 0) (.slice none 0 0) (.slice none 0 0) (.slice none 0 0) (.slice none 0 0);refine bodyPost_ret (v:=.tuple #[.agg #[.slice none 0 0,.slice none 0 0,.slice none 0 0,.slice none 0 0,.slice none 0 0],.bool false]) (results_cs Tryz.results10 rfl rfl k9.rangeAt Tryz.underlying39 rfl sizeSpaceT) rfl ?_;rw [HN.out];exact⟨_,[],rfl,zSpace_own _,Fr.nil _,bls5 hB2 (by omega) _ _ _ _ _⟩
 refine hbg HSS.out (Below.refl _ _).drew (fun hH=>?_);refine ldm 0 20 (fun w h=>h.1) Tryz.underlying46 (by rw [lenm'];exact sizeModelT) hH ?_;simp only [putS];refine rd 1 (some 21) fun K hK=>?_;clear hH;go_simp;refine(KA.out _ (Below.refl _ _).drew).mono ?_;rintro e w2 ⟨rfl,hb2⟩;have hC1:Below w1.heap.size w1 w2:=(Below.refl w1.heap.size w1).drew.trans (hb2.mono (by simp))
 go_wp2_with fail
 refine hK.out _ _ (HSS.out _ hC1) (fun hH=>?_);clear hK K
 try simp only [putS]
 refine tq4 2 hH ?_;simp only [putS];refine rd 6 (some 26) fun K hK=>?_;clear hH;go_simp;refine(KF.out _ hC1).mono ?_;rintro e w3 ⟨rfl,hb3⟩;have hC2:Below w1.heap.size w1 w3:=hC1.trans (hb3.mono hC1.size)
 go_wp2_with fail
 refine hK.out _ _ (HSS.out _ hC2) (fun hH=>?_);clear hK K
 try simp only [putS]
 refine rd 7 (some 27) fun K hK=>?_;clear hH;go_simp;refine(KC.out _ hC2).mono ?_;rintro e w4 ⟨rfl,hb4⟩;have hC3:Below w1.heap.size w1 w4:=hC2.trans (hb4.mono hC2.size)
 go_wp2_with fail
 refine hK.out _ _ (HSS.out _ hC3) (fun hH=>?_);clear hK K
 try simp only [putS]
 refine tq4 8 hH ?_;simp only [putS];refine rd 12 (some 32) fun K hK=>?_;clear hH;go_simp;refine(K3.out _).mono ?_;rintro e w5 ⟨rfl,rfl⟩
 go_wp2_with fail
 refine hK.out _ _ (HSS.out _ hC3) (fun hH=>?_);clear hK K
 try simp only [putS]
 refine tq4 13 hH ?_;simp only [putS];refine tq2 17 hH ?_;refine tq1 19 hH ?_;simp only [putS];refine rd 20 (some 40) fun K hK=>?_;clear hH;go_simp;refine(KF.out _ hC3).mono ?_;rintro e w6 ⟨rfl,hb6⟩;have hC4:Below w1.heap.size w1 w6:=hC3.trans (hb6.mono hC3.size)
 go_wp2_with fail
 refine hK.out _ _ (HSS.out _ hC4) (fun hH=>?_);clear hK K
 try simp only [putS]
 refine tq2 21 hH ?_;refine tq1 23 hH ?_;simp only [putS];refine wpAnyH_done (by kernel_rfl) ?_ _;clear hH;clear hv4;cases v4
 rotate_left
 ·have HN:Hid (buildE m q b=(zSpace,false)):=by show _=_;unfold buildE;rw [HCB.out];rfl
  have kR2:=kR.below hC4;have hB2:=hB.trans (hC4.mono hB.size);have ⟨z0,y0,z1,y1,z2,y2,z3,y3,z4,y4⟩:=kR2.r5;go_wp2;have k9:=kR2.set5 (.slice none 0 0) (.slice none 0 0) (.slice none 0 0) (.slice none 0 0) (.slice none 0 0);refine bodyPost_ret (v:=.tuple #[.agg #[.slice none 0 0,.slice none 0 0,.slice none 0 0,.slice none 0 0,.slice none 0 0],.bool false]) (results_cs Tryz.results10 rfl rfl k9.rangeAt Tryz.underlying39 rfl sizeSpaceT) rfl ?_;rw [HN.out];exact⟨_,[],rfl,zSpace_own _,Fr.nil _,bls5 hB2 (by omega) _ _ _ _ _⟩
 have hcb:canBuild m q b=true:=by rw [HCB.out];rfl
 have HN:Hid (buildE m q b=(buildOf m q b V.toNat,true)):=by show _=_;unfold buildE;rw [hcb,HV.out];rfl
 obtain⟨_,hq,hvb,hvv,hV1,hV2,hll⟩:=canBuild_parts hcb;rw [HV.out]at hvv hV1 hV2;rw [HF.out]at hll;have HVV:=Lib.hid hvv;have HQ:=Lib.hid hq;have HVB:=Lib.hid hvb;have HLL:=Lib.hid hll;clear hcb hq hvb hvv hll HCB HV4 HSS KA KF KC K3;replace hB:=hB.trans (hC4.mono hB.size);replace bxm:=bxm.below hC4;replace bxq:=bxq.below hC4;replace bxb:=bxb.below hC4;replace kR:=kR.below hC4;clear hC4;have kb_0:=bxb 0 _ rfl;have kb_1:=bxb 1 _ rfl;rename World=>wC;have hBC:=hB;have bmC:=bxm;have bqC:=bxq;have bbC:=bxb;have kRC:=kR;have hE:=Below.refl wC.heap.size wC
 go_wp2_with fail
 refine(sCopyBox_c _ b _ ((rBox_ok NB).keep rb (cells_below hB))).mono ?_;rintro e w2 ⟨csB,fB,rfl,oB,fF,hb2⟩;replace hB:=hB.trans (hb2.mono hB.size);replace bxm:=bxm.below hb2;replace bxq:=bxq.below hb2;replace bxb:=bxb.below hb2;replace kR:=kR.below hb2;replace hE:=hE.trans (hb2.mono hE.size);clear hb2 kb_0 kb_1;obtain⟨AL,nL,cL,AH,nH,cH,f1,f2,rfl,hfp,o1,o2⟩:=rBox_own.1 oB;clear o1 o2 hfp f1 f2;rename World=>wN;obtain⟨gS,hgS⟩:∃ g,g=wN.heap.size:=⟨_,rfl⟩;obtain⟨wS,hwS⟩:∃ W,W=wN.alloc (.cells #[.slice AL nL cL,.slice AH nH cH,.slice none 0 0,.slice none 0 0,.slice none 0 0] 39):=⟨_,rfl⟩;have hbS:Below wN.heap.size wN wS:=by rw [hwS];exact bal
 have kS:Bk wS gS 39 [.slice AL nL cL,.slice AH nH cH,.slice none 0 0,.slice none 0 0,.slice none 0 0]:=by rw [hwS,hgS];exact Bk.new wN _ _
 have hfl:∀ k∈fB,k<gS:=fun k hk=>by rw [hgS];exact(rBox_ok NB).lt oB k hk
 have hfB:Fr wC.heap.size fB:=fF;have hgC:wC.heap.size<=gS:=by rw [hgS];exact hE.size
 have hg4:w.heap.size+1+1+1<gS:=by rw [hgS];exact kR.lt
 go_upto_region 5 with fail
 rw [<- hwS,<- hgS];clear hwS fF hgS;replace oB:=(rBox_ok NB).ownB oB hbS;replace hB:=hB.trans (hbS.mono hB.size);replace bxm:=bxm.below hbS;replace bxq:=bxq.below hbS;replace bxb:=bxb.below hbS;replace kR:=kR.below hbS;replace hE:=hE.trans (hbS.mono hE.size);clear hbS;have hgz:=kS.lt;have kq_0:=bxq 0 _ rfl;have kq_1:=bxq 1 _ rfl
 go_wp2_with fail
 refine(sShapes_c _ q _ ((rQuery_ok NB).keep rq (cells_below hB)) HQ.out).mono ?_;rintro e w3 ⟨Ash,nsh,csh,rfl,hsh,hb3⟩;replace hB:=hB.trans (hb3.mono hB.size);replace bxm:=bxm.below hb3;replace bxq:=bxq.below hb3;replace bxb:=bxb.below hb3;replace kR:=kR.below hb3;replace hE:=hE.trans (hb3.mono hE.size);replace kS:=kS.below hb3;replace oB:=(rBox_ok NB).ownB oB hb3;clear hb3 kq_0 kq_1;have kq_0:=bxq 0 _ rfl;have kq_1:=bxq 1 _ rfl
 go_wp2_with fail
 refine(sFullMask_c _ q _ ((rQuery_ok NB).keep rq (cells_below hB))).mono ?_;rintro e w4 ⟨rfl,hb4⟩;replace hB:=hB.trans (hb4.mono hB.size);replace bxm:=bxm.below hb4;replace bxq:=bxq.below hb4;replace bxb:=bxb.below hb4;replace kR:=kR.below hb4;replace hE:=hE.trans (hb4.mono hE.size);replace kS:=kS.below hb4;replace oB:=(rBox_ok NB).ownB oB hb4;replace hsh:=hsh.below rShape_ok hb4;clear hb4 kq_0 kq_1;rw [HF.out];rename World=>wZ
 have HSH:Hid (∀ V,OutS (fun z=>z=gS) wZ V->RS NB rShape V Ash nsh csh (shapesOf q)):=by
  show ∀ V,_->_;intro V hV;exact(hsh.step rShape_ok (fun k hk=>hV.2 k (fun e=>by have:=hsh.ge k hk;omega) (hsh.blt k hk)) (hV.mono (fun k e=>.inr (by omega)))).rs rShape_ok
 have S0:Sb wC wZ gS (buildOf m q b 0) AL nL cL AH nH cH none 0 0 none 0 0 none 0 0 wZ :=
  ⟨kS,⟨fB,oB,hfB,hfl⟩,MS.nil _ (Nat.zero_le _),MS.nil _ (Nat.zero_le _),MS.nil _ (Nat.zero_le _),(by intro k hk;cases hk),hE,⟨hgC,kS.lt⟩,OutS.refl _ _⟩
 clear oB hsh kS hfB hfl hgz hE kR bxm bxq bxb hB
 go_wp2_with fail
 go_loopw [12] (fun iv wv=>∃ (k nC cC nK cK nP cP:Nat) (AC AK AP:Option Addr),(k:Int)<=V/\iv=.int .i64 (k:Int)/\Sb wC wZ gS (buildOf m q b k) AL nL cL AH nH cH AC nC cC AK nK cK AP nP cP wv) (fun i _=>V.toNat - (intOf i).toNat)
 case atStart=>exact⟨0,0,0,0,0,0,0,none,none,none,by omega,rfl,S0⟩
 case round =>
  clear S0;obtain⟨k,nC,cC,nK,cK,nP,cP,AC,AK,AP,hk,rfl,H⟩:=hrel;have bxm:=bmC.below H.be;have bxq:=bqC.below H.be;have bxb:=bbC.below H.be;have hB:=hBC.trans (H.be.mono hBC.size);by_cases hlt:(k:Int)<V
  ·have hvk:(k:Int)<volume b:=by rw [<- HVV.out];exact hlt
   have hkI:I64 (k:Int):=by unfold I64;omega
   have hll2:=locSizes_len HVB.out (i:=k) hvk;have hl1:fullMask q<(locSizes (boxLoc b (k:Int)).1).length:=by rw [HF.out,hll2];have:=HLL.out;omega
   have hl2:(locSizes (boxLoc b (k:Int)).1).length<=16:=by rw [hll2];have:=HLL.out;omega
   obtain⟨hl5,hl6,hl7,hl8⟩:=buildOf_len m q b k;obtain⟨L,hL⟩:∃ L,(boxLoc b (k:Int)).1=L:=⟨_,rfl⟩;obtain⟨E,hE⟩:∃ E,bestX m q (locSizes L)=E:=⟨_,rfl⟩;have HST:Hid (buildOf m q b (k+1)=addS (buildOf m q b k) E):=by show _=_;rw [<- hE,<- hL];rfl
   have HE:Hid ((bestE (tableE m q (locSizes L)) F).getD zPlanEntry=E):=by show _=_;rw [<- hE];unfold bestX;rw [HF.out]
   rw [hL]at hl1 hl2;have HL:=Lib.hid hL;obtain⟨S,hS⟩:∃ S,buildOf m q b k=S:=⟨_,rfl⟩;rw [hS]at H HST hl5 hl6 hl7;have HL5:=Lib.hid hl5;have HL6:=Lib.hid hl6;clear hE hL hll2 hvk hS hl5 hl6 hl8;have kb_0:=bxb 0 _ rfl;have kb_1:=bxb 1 _ rfl
   go_wp2_with fail
   refine(sBoxLocation_c _ b (k:Int) _ ((rBox_ok NB).keep rb (cells_below hB)) hkI).mono ?_;rintro e w5 ⟨Al,nl,cl,rfl,mL,hb5⟩;replace hB:=hB.trans (hb5.mono hB.size);replace bxm:=bxm.below hb5;replace bxq:=bxq.below hb5;replace bxb:=bxb.below hb5;replace H:=H.below hb5;clear hb5 kb_0 kb_1;rw [HL.out]at mL;rename World=>wU;have hRl:=mL.rs rInt_ok;have hshU:=HSH.out wU H.os;clear mL
   have HSS:Hid (∀ w',Below wU.heap.size wU w'->(w'.rangeAt w.heap.size 0 csm/\w'.cell? ⟨w.heap.size+1,0,none⟩=some (.int .i64 q.fVariableCount)/\w'.cell? ⟨w.heap.size+1,1,none⟩=some (.slice Aq_e nq_e cq_e))):=by
    show ∀ w',_->_;intro w' hb;exact⟨(bxm.below hb).range,(bxq.below hb) 0 _ rfl,(bxq.below hb) 1 _ rfl⟩
   have hd0:=(Below.refl wU.heap.size wU).drew
   go_upto_region 11 with fail
   refine hbg HSS.out (Below.refl _ _).drew (fun hH=>?_);refine ldm 0 64 (fun w h=>h.1) Tryz.underlying46 (by rw [lenm'];exact sizeModelT) hH ?_;refine tq2 1 hH ?_;refine tq1 3 hH ?_;simp only [putS];refine tq1 6 hH ?_;simp only [putS];refine rd2 4 (some 68) 11 (some 15) (fun K hK=>?_) fun K hK=>?_
   all_goals clear hH
   focus
    go_simp;refine(sLocationSizes_c Al nl cl L _ (hRl.below rInt_ok hd0)).mono ?_;rintro e U4 ⟨AS,nS,cS,rfl,mS,hb4⟩;have B4:Below wU.heap.size wU U4:=hd0.trans (hb4.mono hd0.size);have rS:=mS.rs rInt_ok;clear mS
    go_wp2_with fail
    refine hK.out _ _ (HSS.out _ B4) (fun hH=>?_);clear hK K
    try simp only [putS]
    refine rd2 5 (some 69) 11 (some 15) (fun K hK=>?_) fun K hK=>?_
    all_goals clear hH
    focus
     go_simp;refine(sTable_c csm m q Aq_e nq_e cq_e Ash nsh csh AS nS cS (locSizes L) _ ((rModel_ok NB).keep rm (cells_below (hB.trans (B4.mono hB.size)))) (hq_e.below (rAtom_ok NB) (hB.trans (B4.mono hB.size))) (hshU.below rShape_ok B4) rS HQ.out hl1 hl2).mono ?_;rintro e U5 ⟨AT,nT,cT,rfl,PT5,hb5⟩;have B5:Below wU.heap.size wU U5:=B4.trans (hb5.mono B4.size);have rT:=PT5.rs (rPlanEntry_ok NB);clear PT5
     go_wp2_with fail
     refine hK.out _ _ (HSS.out _ B5) (fun hH=>?_);clear hK K
     try simp only [putS]
     refine rd2 7 (some 71) 11 (some 15) (fun K hK=>?_) fun K hK=>?_
     all_goals clear hH
     focus
      go_simp;refine(sBest_c AT nT cT (tableE m q (locSizes L)) F _ rT).mono ?_;rintro e U7 ⟨csX,fS,rfl,oX,fX,hb7⟩;rw [HE.out]at oX;obtain⟨AX,nX,cX,fS,rfl,rfl,i0,i1,i2,oS⟩:=rPlanEntry_own.1 oX;have B7:Below wU.heap.size wU U7:=B5.trans (hb7.mono B5.size)
      go_wp2_with fail
      refine hK.out _ _ (HSS.out _ B7) (fun hH=>?_);clear hK K
      try simp only [putS]
      refine tq2 8 hH ?_;refine tq1 10 hH ?_;simp only [putS];have hCa:=B7.alloc B7.size (.cells #[.int .i64 0,.int .i64 0,.int .i64 0,.slice none 0 0] 107);refine rd 11 (some 15) fun K hK=>?_;clear hH;go_simp;refine hK.out _ _ (HSS.out _ hCa) (fun hH=>?_);clear hK K
      try simp only [putS]
      obtain⟨gx,hg0⟩:∃ g,g=U7.heap.size:=⟨_,rfl⟩;obtain⟨Ua,hUa⟩:∃ W,W=U7.alloc (.cells #[.int .i64 0,.int .i64 0,.int .i64 0,.slice none 0 0] 107):=⟨_,rfl⟩;have kx:Bk Ua gx 107 [.int .i64 0,.int .i64 0,.int .i64 0,.slice none 0 0]:=by rw [hUa,hg0];exact Bk.new U7 _ _
      have B6:Below wU.heap.size wU Ua:=by rw [hUa];exact hCa
      have ba:Below U7.heap.size U7 Ua:=by rw [hUa];exact bal
      have hgl:wU.heap.size<=gx:=by rw [hg0];exact B7.size
      rw [<- hUa]at hH ⊢;rw [<- hg0];have BZ:=B6;have hgx:wU.heap.size<=gx/\gx∉fS:=⟨hgl,fun e=>by have:=oS.lt (rPlanStep_ok NB) gx e;omega⟩;replace oS:=oS.belowS (rPlanStep_ok NB) ba;have fS9:Fr wU.heap.size fS:=fX.mono B5.size;clear hUa hg0 hCa B6 ba hgl B4 B5 B7 hb4 hb5 hb7 rS rT fX oX;have ⟨r0,z0,r1,z1,r2,z2,r3,z3⟩:=kx.r4;have hC9:=bls4 BZ hgx.1 (.int .i64 E.fMask) (.int .i64 E.fOrder) (.int .i64 E.fCost) (.slice AX nX cX);refine rd 12 none fun K hK=>?_;clear hH;go_simp;refine hK.out _ _ (HSS.out _ hC9) (fun hH=>?_);clear hK K
      try simp only [putS]
      refine tq1 13 hH ?_;simp only [putS];refine wpAnyH_done (by kernel_rfl) ?_ _;clear hH;obtain⟨W9,hW9⟩:∃ W,W=(((Ua.setCell ⟨gx,0,none⟩ (.int .i64 E.fMask)).setCell ⟨gx,1,none⟩ (.int .i64 E.fOrder)).setCell ⟨gx,2,none⟩ (.int .i64 E.fCost)).setCell ⟨gx,3,none⟩ (.slice AX nX cX):=⟨_,rfl⟩;have k9:Bk W9 gx 107 [.int .i64 E.fMask,.int .i64 E.fOrder,.int .i64 E.fCost,.slice AX nX cX]:=by rw [hW9];exact kx.put4 _ _ _ _
      have B9:Below wU.heap.size wU W9:=by rw [hW9];exact hC9
      have o9:OS NB 173 (rPlanStep NB) W9 fS AX nX cX E.fPlan.fSteps:=by rw [hW9];exact oS.okeep (rPlanStep_ok NB) (fun z hz=>set4_ne (fun e=>hgx.2 (by rw [<- e];exact hz)) _ _ _ _)
      rw [<- hW9];have hgx9:=hgx.1;clear hW9 kx hC9 oS r0 z0 r1 z1 r2 z2 r3 z3 BZ HSS hd0 hgx
     rotate_left
     focus
      have hCa:=B5.alloc B5.size (.cells #[.int .i64 0,.int .i64 0,.int .i64 0,.slice none 0 0] 107);go_simp;refine hK.out _ _ (HSS.out _ hCa) (fun hH=>?_);clear hK K
      try simp only [putS]
      obtain⟨gx,hg0⟩:∃ g,g=U5.heap.size:=⟨_,rfl⟩;obtain⟨Ua,hUa⟩:∃ W,W=U5.alloc (.cells #[.int .i64 0,.int .i64 0,.int .i64 0,.slice none 0 0] 107):=⟨_,rfl⟩;have kx:Bk Ua gx 107 [.int .i64 0,.int .i64 0,.int .i64 0,.slice none 0 0]:=by rw [hUa,hg0];exact Bk.new U5 _ _
      have B6:Below wU.heap.size wU Ua:=by rw [hUa];exact hCa
      have ba:Below U5.heap.size U5 Ua:=by rw [hUa];exact bal
      have hgl:wU.heap.size<=gx:=by rw [hg0];exact B5.size
      rw [<- hUa]at hH ⊢;rw [<- hg0];clear hUa hg0 hCa;replace rT:=rT.below (rPlanEntry_ok NB) ba;clear ba;have hxl:=kx.lt;refine rd 7 (some 71) fun K hK=>?_;clear hH;go_simp;refine(sBest_c AT nT cT (tableE m q (locSizes L)) F _ rT).mono ?_;rintro e U7 ⟨csX,fS,rfl,oX,fX,hb7⟩;rw [HE.out]at oX;obtain⟨AX,nX,cX,fS,rfl,rfl,i0,i1,i2,oS⟩:=rPlanEntry_own.1 oX;have B7:Below wU.heap.size wU U7:=B6.trans (hb7.mono B6.size)
      go_wp2_with fail
      refine hK.out _ _ (HSS.out _ B7) (fun hH=>?_);clear hK K
      try simp only [putS]
      refine tq2 8 hH ?_;refine tq1 10 hH ?_;simp only [putS];replace kx:=kx.below hb7;have BZ:=B7;have hgx:wU.heap.size<=gx/\gx∉fS:=⟨hgl,fun e=>by have:=fX.ge gx e;omega⟩;have fS9:Fr wU.heap.size fS:=fX.mono B6.size;clear hgl hxl B6 B7 hb7 fX oX rT rS hb5;have ⟨r0,z0,r1,z1,r2,z2,r3,z3⟩:=kx.r4;have hC9:=bls4 BZ hgx.1 (.int .i64 E.fMask) (.int .i64 E.fOrder) (.int .i64 E.fCost) (.slice AX nX cX);refine rd 12 none fun K hK=>?_;clear hH;go_simp;refine hK.out _ _ (HSS.out _ hC9) (fun hH=>?_);clear hK K
      try simp only [putS]
      refine tq1 13 hH ?_;simp only [putS];refine wpAnyH_done (by kernel_rfl) ?_ _;clear hH;obtain⟨W9,hW9⟩:∃ W,W=(((U7.setCell ⟨gx,0,none⟩ (.int .i64 E.fMask)).setCell ⟨gx,1,none⟩ (.int .i64 E.fOrder)).setCell ⟨gx,2,none⟩ (.int .i64 E.fCost)).setCell ⟨gx,3,none⟩ (.slice AX nX cX):=⟨_,rfl⟩;have k9:Bk W9 gx 107 [.int .i64 E.fMask,.int .i64 E.fOrder,.int .i64 E.fCost,.slice AX nX cX]:=by rw [hW9];exact kx.put4 _ _ _ _
      have B9:Below wU.heap.size wU W9:=by rw [hW9];exact hC9
      have o9:OS NB 173 (rPlanStep NB) W9 fS AX nX cX E.fPlan.fSteps:=by rw [hW9];exact oS.okeep (rPlanStep_ok NB) (fun z hz=>set4_ne (fun e=>hgx.2 (by rw [<- e];exact hz)) _ _ _ _)
      rw [<- hW9];have hgx9:=hgx.1;clear hW9 kx hC9 oS r0 z0 r1 z1 r2 z2 r3 z3 BZ HSS hd0 hgx
    rotate_left 2
    focus
     have hCa:=B4.alloc B4.size (.cells #[.int .i64 0,.int .i64 0,.int .i64 0,.slice none 0 0] 107);go_simp;refine hK.out _ _ (HSS.out _ hCa) (fun hH=>?_);clear hK K
     try simp only [putS]
     obtain⟨gx,hg0⟩:∃ g,g=U4.heap.size:=⟨_,rfl⟩;obtain⟨Ua,hUa⟩:∃ W,W=U4.alloc (.cells #[.int .i64 0,.int .i64 0,.int .i64 0,.slice none 0 0] 107):=⟨_,rfl⟩;have kx:Bk Ua gx 107 [.int .i64 0,.int .i64 0,.int .i64 0,.slice none 0 0]:=by rw [hUa,hg0];exact Bk.new U4 _ _
     have B6:Below wU.heap.size wU Ua:=by rw [hUa];exact hCa
     have ba:Below U4.heap.size U4 Ua:=by rw [hUa];exact bal
     have hgl:wU.heap.size<=gx:=by rw [hg0];exact B4.size
     rw [<- hUa]at hH ⊢;rw [<- hg0];clear hUa hg0 hCa;replace rS:=rS.below rInt_ok ba;clear ba;refine rd 5 (some 69) fun K hK=>?_;clear hH;go_simp;refine(sTable_c csm m q Aq_e nq_e cq_e Ash nsh csh AS nS cS (locSizes L) _ ((rModel_ok NB).keep rm (cells_below (hB.trans (B6.mono hB.size)))) (hq_e.below (rAtom_ok NB) (hB.trans (B6.mono hB.size))) (hshU.below rShape_ok B6) rS HQ.out hl1 hl2).mono ?_;rintro e U5 ⟨AT,nT,cT,rfl,PT5,hb5⟩;have B5:Below wU.heap.size wU U5:=B6.trans (hb5.mono B6.size);have rT:=PT5.rs (rPlanEntry_ok NB);clear PT5
     go_wp2_with fail
     refine hK.out _ _ (HSS.out _ B5) (fun hH=>?_);clear hK K
     try simp only [putS]
     replace kx:=kx.below hb5;have hxl:=kx.lt;refine rd 7 (some 71) fun K hK=>?_;clear hH;go_simp;refine(sBest_c AT nT cT (tableE m q (locSizes L)) F _ rT).mono ?_;rintro e U7 ⟨csX,fS,rfl,oX,fX,hb7⟩;rw [HE.out]at oX;obtain⟨AX,nX,cX,fS,rfl,rfl,i0,i1,i2,oS⟩:=rPlanEntry_own.1 oX;have B7:Below wU.heap.size wU U7:=B5.trans (hb7.mono B5.size)
     go_wp2_with fail
     refine hK.out _ _ (HSS.out _ B7) (fun hH=>?_);clear hK K
     try simp only [putS]
     refine tq2 8 hH ?_;refine tq1 10 hH ?_;simp only [putS];replace kx:=kx.below hb7;have BZ:=B7;have hgx:wU.heap.size<=gx/\gx∉fS:=⟨hgl,fun e=>by have:=fX.ge gx e;omega⟩;have fS9:Fr wU.heap.size fS:=fX.mono B5.size;clear hgl hxl B6 B7 hb7 fX oX rT rS hb5;have ⟨r0,z0,r1,z1,r2,z2,r3,z3⟩:=kx.r4;have hC9:=bls4 BZ hgx.1 (.int .i64 E.fMask) (.int .i64 E.fOrder) (.int .i64 E.fCost) (.slice AX nX cX);refine rd 12 none fun K hK=>?_;clear hH;go_simp;refine hK.out _ _ (HSS.out _ hC9) (fun hH=>?_);clear hK K
     try simp only [putS]
     refine tq1 13 hH ?_;simp only [putS];refine wpAnyH_done (by kernel_rfl) ?_ _;clear hH;obtain⟨W9,hW9⟩:∃ W,W=(((U7.setCell ⟨gx,0,none⟩ (.int .i64 E.fMask)).setCell ⟨gx,1,none⟩ (.int .i64 E.fOrder)).setCell ⟨gx,2,none⟩ (.int .i64 E.fCost)).setCell ⟨gx,3,none⟩ (.slice AX nX cX):=⟨_,rfl⟩;have k9:Bk W9 gx 107 [.int .i64 E.fMask,.int .i64 E.fOrder,.int .i64 E.fCost,.slice AX nX cX]:=by rw [hW9];exact kx.put4 _ _ _ _
     have B9:Below wU.heap.size wU W9:=by rw [hW9];exact hC9
     have o9:OS NB 173 (rPlanStep NB) W9 fS AX nX cX E.fPlan.fSteps:=by rw [hW9];exact oS.okeep (rPlanStep_ok NB) (fun z hz=>set4_ne (fun e=>hgx.2 (by rw [<- e];exact hz)) _ _ _ _)
     rw [<- hW9];have hgx9:=hgx.1;clear hW9 kx hC9 oS r0 z0 r1 z1 r2 z2 r3 z3 BZ HSS hd0 hgx
   rotate_left 3
   focus
    have hCa:=hd0.alloc hd0.size (.cells #[.int .i64 0,.int .i64 0,.int .i64 0,.slice none 0 0] 107);go_simp;refine hK.out _ _ (HSS.out _ hCa) (fun hH=>?_);clear hK K
    try simp only [putS]
    obtain⟨gx,hg0⟩:∃ g,g=wU.heap.size:=⟨_,rfl⟩;obtain⟨Ua,hUa⟩:∃ W,W=(wU.alloc (.cells #[.int .i64 0,.int .i64 0,.int .i64 0,.slice none 0 0] 107)).drew:=⟨_,rfl⟩;have kx:Bk Ua gx 107 [.int .i64 0,.int .i64 0,.int .i64 0,.slice none 0 0]:=by rw [hUa,hg0];exact Bk.new wU _ _
    have B6:Below wU.heap.size wU Ua:=by rw [hUa];exact hCa
    have hgl:wU.heap.size<=gx:=by rw [hg0];exact Nat.le_refl _
    rw [<- hUa]at hH ⊢;rw [<- hg0];clear hUa hg0 hCa;refine rd 4 (some 68) fun K hK=>?_;clear hH;go_simp;refine(sLocationSizes_c Al nl cl L _ (hRl.below rInt_ok B6)).mono ?_;rintro e U4 ⟨AS,nS,cS,rfl,mS,hb4⟩;have B4:Below wU.heap.size wU U4:=B6.trans (hb4.mono B6.size);have rS:=mS.rs rInt_ok;clear mS
    go_wp2_with fail
    refine hK.out _ _ (HSS.out _ B4) (fun hH=>?_);clear hK K
    try simp only [putS]
    replace kx:=kx.below hb4;refine rd 5 (some 69) fun K hK=>?_;clear hH;go_simp;refine(sTable_c csm m q Aq_e nq_e cq_e Ash nsh csh AS nS cS (locSizes L) _ ((rModel_ok NB).keep rm (cells_below (hB.trans (B4.mono hB.size)))) (hq_e.below (rAtom_ok NB) (hB.trans (B4.mono hB.size))) (hshU.below rShape_ok B4) rS HQ.out hl1 hl2).mono ?_;rintro e U5 ⟨AT,nT,cT,rfl,PT5,hb5⟩;have B5:Below wU.heap.size wU U5:=B4.trans (hb5.mono B4.size);have rT:=PT5.rs (rPlanEntry_ok NB);clear PT5
    go_wp2_with fail
    refine hK.out _ _ (HSS.out _ B5) (fun hH=>?_);clear hK K
    try simp only [putS]
    replace kx:=kx.below hb5;have hxl:=kx.lt;refine rd 7 (some 71) fun K hK=>?_;clear hH;go_simp;refine(sBest_c AT nT cT (tableE m q (locSizes L)) F _ rT).mono ?_;rintro e U7 ⟨csX,fS,rfl,oX,fX,hb7⟩;rw [HE.out]at oX;obtain⟨AX,nX,cX,fS,rfl,rfl,i0,i1,i2,oS⟩:=rPlanEntry_own.1 oX;have B7:Below wU.heap.size wU U7:=B5.trans (hb7.mono B5.size)
    go_wp2_with fail
    refine hK.out _ _ (HSS.out _ B7) (fun hH=>?_);clear hK K
    try simp only [putS]
    refine tq2 8 hH ?_;refine tq1 10 hH ?_;simp only [putS];replace kx:=kx.below hb7;have BZ:=B7;have hgx:wU.heap.size<=gx/\gx∉fS:=⟨hgl,fun e=>by have:=fX.ge gx e;omega⟩;have fS9:Fr wU.heap.size fS:=fX.mono B5.size;clear hgl hxl B6 B7 hb7 fX oX rT rS hb5;have ⟨r0,z0,r1,z1,r2,z2,r3,z3⟩:=kx.r4;have hC9:=bls4 BZ hgx.1 (.int .i64 E.fMask) (.int .i64 E.fOrder) (.int .i64 E.fCost) (.slice AX nX cX);refine rd 12 none fun K hK=>?_;clear hH;go_simp;refine hK.out _ _ (HSS.out _ hC9) (fun hH=>?_);clear hK K
    try simp only [putS]
    refine tq1 13 hH ?_;simp only [putS];refine wpAnyH_done (by kernel_rfl) ?_ _;clear hH;obtain⟨W9,hW9⟩:∃ W,W=(((U7.setCell ⟨gx,0,none⟩ (.int .i64 E.fMask)).setCell ⟨gx,1,none⟩ (.int .i64 E.fOrder)).setCell ⟨gx,2,none⟩ (.int .i64 E.fCost)).setCell ⟨gx,3,none⟩ (.slice AX nX cX):=⟨_,rfl⟩;have k9:Bk W9 gx 107 [.int .i64 E.fMask,.int .i64 E.fOrder,.int .i64 E.fCost,.slice AX nX cX]:=by rw [hW9];exact kx.put4 _ _ _ _
    have B9:Below wU.heap.size wU W9:=by rw [hW9];exact hC9
    have o9:OS NB 173 (rPlanStep NB) W9 fS AX nX cX E.fPlan.fSteps:=by rw [hW9];exact oS.okeep (rPlanStep_ok NB) (fun z hz=>set4_ne (fun e=>hgx.2 (by rw [<- e];exact hz)) _ _ _ _)
    rw [<- hW9];have hgx9:=hgx.1;clear hW9 kx hC9 oS r0 z0 r1 z1 r2 z2 r3 z3 BZ HSS hd0 hgx
   all_goals
    have H9:=H.below B9;have p4:=H9.kS.bx 4 _ rfl;have x3:=k9.bx 3 _ rfl;have hlP:=H.mP.len;have hlC:=H.mC.len;have hlK:=H.mK.len;rw [HL5.out]at hlC;rw [HL6.out]at hlK;have HLP:=Lib.hid hlP;rw [hlP]at hl7;have hgz:=H.gs.2
    have HPU:Hid (∀ z∈blk AP,z<wU.heap.size):=by
     show ∀ z∈blk AP,_;obtain⟨fp,op,ff⟩:=H.mP;exact fun z hz=>op.lt (rPlan_ok NB) z (op.blkIn z hz)
    clear hlP
    go_wp2_with fail
    refine(sKnown_c AP nP cP _ AX nX cX E.fPlan W9 (H9.mP.rs (rPlan_ok NB)) (rPlan_rep.2 ⟨AX,nX,cX,rfl,o9.rs (rPlanStep_ok NB)⟩)).mono ?_;rintro e W10 ⟨rfl,hb10⟩;obtain⟨kn,hkn⟩:∃ v,knownP E.fPlan S.fPlans 0=v:=⟨_,rfl⟩;rw [hkn];have hkb:=knownP_bd E.fPlan S.fPlans 0;rw [hkn,HLP.out]at hkb;have HKN:=Lib.hid hkn;have hkI2:I64 kn:=by unfold I64;rcases hkb with h|⟨j,h,_,h2⟩<;>omega
    have H10:=H9.below hb10;have k10:=k9.below hb10;have o10:=o9.belowS (rPlanStep_ok NB) hb10;have B10:=B9.trans (hb10.mono B9.size);clear hkn hkb H9 k9 o9 B9 hb10 p4 x3;by_cases hneg:kn<0
    focus
     have hal:=(Below.refl W10.heap.size W10).alloc (Nat.le_refl _) (.cells #[.slice AX nX cX] 76);have hA:=B10.alloc B10.size (.cells #[.slice AX nX cX] 76);have p4:=H10.kS.bx 4 _ rfl;have x3:=k10.bx 3 _ rfl;have oP:(rPlan NB).own (W10.alloc (.cells #[.slice AX nX cX] 76)) fS [.slice AX nX cX] E.fPlan:=rPlan_own.2 ⟨AX,nX,cX,_,rfl,rfl,o10.belowS (rPlanStep_ok NB) hal⟩;have kS5:=H10.kS.below hal;have hbz:nP+1<=NB:=by unfold NB;omega
     have hbb:(nP+1)*24<=140737488355328:=by omega
     go_upto_region 16 with (at_builtin;refine wpList_appB rfl _ _ 37 rfl _ 24 eiPlan (rPlan_ok NB) rfl H.mP hA H.os.1 ⟨W10.heap.size,0,none⟩ rfl fS [.slice AX nX cX] E.fPlan oP fS9 (cells_new _ _ _) hbz (Nat.le_refl _) hbb ?_;intro A5 c5 w5 hM5 hb5 hg5 hd5;have kS6:=(show Bk w5 gS _ _ from (hb5.block gS hgz).trans kS5);have p6:=kS6.bx 4 _ rfl;have f6:=kS6.frozen 4)
     obtain⟨W11,hW11⟩:∃ W,W=w5.setCell ⟨gS,4,none⟩ (.slice A5 (nP+1) c5):=⟨_,rfl⟩;have H11:=H.appP hA hM5 hb5 hg5
     have k11:Bk W11 gx 107 [.int .i64 E.fMask,.int .i64 E.fOrder,.int .i64 E.fCost,.slice AX nX cX]:=by
      rw [hW11];exact(heap_setCell_other _ ⟨gS,4,none⟩ gx _ (fun e=>by have e:gx=gS:=e;have:=H.os.1;omega)).trans ((k10.below hal).grw hg5 (fun e=>by have:=HPU.out gx e;omega))
     have HAD:Hid (addS S E=⟨S.fBox,S.fCosts++[E.fCost],S.fChoices++[(nP:Int)],S.fPlans++[E.fPlan]⟩):=by show _=_;unfold addS;rw [HKN.out,if_pos hneg,HLP.out]
     obtain⟨kv,hkv⟩:∃ v,(nP:Int)=v:=⟨_,rfl⟩;have hkI3:I64 kv:=by unfold I64;omega
     rw [hkv]at HAD;rw [<- hW11]at H11 ⊢;rw [hkv];clear hW11 hkv hneg hal hA p4 x3 oP kS5 kS6 p6 f6 hM5 hb5 hg5 hd5 H10 k10 o10 B10 hkI2 HKN fS9
    rotate_left
    focus
     have H11:=H10;have k11:=k10;have HAD:Hid (addS S E=⟨S.fBox,S.fCosts++[E.fCost],S.fChoices++[kn],S.fPlans⟩):=by show _=_;unfold addS;rw [HKN.out,if_neg hneg]
     have hkI3:=hkI2;obtain⟨W11,hW11⟩:∃ W,W=W10:=⟨_,rfl⟩;obtain⟨kv,hkv⟩:∃ v,v=kn:=⟨_,rfl⟩
     go_upto_region 16 with fail
     rw [<- hW11]at H11 k11 ⊢;rw [<- hkv]at HAD hkI3 ⊢;clear hW11 hkv hneg H10 k10 o10 B10 hkI2 HKN fS9
    all_goals
     have hgz:=H.gs.2;have c2:=H11.kS.bx 2 _ rfl;have x2:=k11.bx 2 _ rfl;have hA2:=(Below.refl W11.heap.size W11).alloc (Nat.le_refl _) (.cells #[.int .i64 E.fCost] 3);have kS12:=H11.kS.below hA2;have hbz:nC+1<=NB:=by unfold NB;omega
     have hbb:(nC+1)*8<=140737488355328:=by omega
     have hbz3:nK+1<=NB:=by unfold NB;omega
     have hbb3:(nK+1)*8<=140737488355328:=by omega
     go_upto_region 17 with (at_builtin;refine wpList_appB rfl _ _ 30 rfl _ 8 eiInt rInt_ok rfl H11.mC hA2 H11.os.1 ⟨W11.heap.size,0,none⟩ rfl [] [.int .i64 E.fCost] E.fCost ⟨rfl,rfl,i2⟩ (Fr.nil _) (cell_one_new _ _ _) hbz (Nat.le_refl _) hbb ?_;intro A6 c6 w6 hM6 hb6 hg6 hd6;have kS6:=(show Bk w6 gS _ _ from (hb6.block gS hgz).trans kS12);have p6:=kS6.bx 2 _ rfl;have f6:=kS6.frozen 2)
     obtain⟨W12,hW12⟩:∃ W,W=w6.setCell ⟨gS,2,none⟩ (.slice A6 (nC+1) c6):=⟨_,rfl⟩;have H12:=H11.appC hA2 hM6 hb6 hg6 hd6;rw [<- hW12]at H12 ⊢;clear hW12 hA2 kS12 kS6 p6 f6 hM6 hb6 hg6 hd6 c2 x2 H11 k11;have c3:=H12.kS.bx 3 _ rfl;have hA3:=(Below.refl W12.heap.size W12).alloc (Nat.le_refl _) (.cells #[.int .i64 kv] 3);have kS13:=H12.kS.below hA3
     go_wp2_with (at_builtin;refine wpList_appB rfl _ _ 30 rfl _ 8 eiInt rInt_ok rfl H12.mK hA3 H12.os.1 ⟨W12.heap.size,0,none⟩ rfl [] [.int .i64 kv] kv ⟨rfl,rfl,hkI3⟩ (Fr.nil _) (cell_one_new _ _ _) hbz3 (Nat.le_refl _) hbb3 ?_;intro A7 c7 w7 hM7 hb7 hg7 hd7;have kS7:=(show Bk w7 gS _ _ from (hb7.block gS hgz).trans kS13);have p7:=kS7.bx 3 _ rfl;have f7:=kS7.frozen 3)
     have H13:=H12.appK hA3 hM7 hb7 hg7 hd7;go_roundw
     case rel=>exact⟨k+1,_,_,_,_,_,_,_,_,_,by omega,by go_num,by rw [HST.out,HAD.out];exact H13⟩
     case measure=>simp [intOf];omega
  ·have hkV:k=V.toNat:=by omega
   have HKV:=Lib.hid hkV;have kRw:=kRC.below H.be;have ⟨z0,y0,z1,y1,z2,y2,z3,y3,z4,y4⟩:=kRw.r5;have s0:=H.kS.bx 0 _ rfl;have s1:=H.kS.bx 1 _ rfl;have s2:=H.kS.bx 2 _ rfl;have s3:=H.kS.bx 3 _ rfl;have s4:=H.kS.bx 4 _ rfl;clear hkV;go_wp2;have k9:=kRw.set5 (.slice AL nL cL) (.slice AH nH cH) (.slice AC nC cC) (.slice AK nK cK) (.slice AP nP cP);refine bodyPost_ret (v:=.tuple #[.agg #[.slice AL nL cL,.slice AH nH cH,.slice AC nC cC,.slice AK nK cK,.slice AP nP cP],.bool true]) (results_cs Tryz.results10 rfl rfl k9.rangeAt Tryz.underlying39 rfl sizeSpaceT) rfl ?_;obtain⟨fp,oF,fF,hgn⟩:=H.own;have hRC:=kRC.lt
   rw [HKV.out]at oF;rw [HN.out];exact⟨_,fp,rfl,(rSpace_ok NB).okeep oF (fun z hz=>set5_ne (by have:=fF.ge z hz;omega) _ _ _ _ _),fF.mono hBC.size,bls5 hB (by omega) _ _ _ _ _⟩
end Go.Proofs.YtnlcfkpcmfljeaaGreat
