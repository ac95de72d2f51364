/-
  FnSpace
-/
import Derived.Test.YtnlcfkpcmfljeaaGreatRows
import Derived.Test.YtnlcfkpcmfljeaaGreatOdr
import Derived.Test.YtnlcfkpcmfljeaaGreatIbe
import Derived.Test.YtnlcfkpcmfljeaaGreatSoc
import Derived.Test.YtnlcfkpcmfljeaaGreatMono
import Derived.Test.YtnlcfkpcmfljeaaGreatOpen
import Derived.WalkKit
import Derived.ProofKit
import Derived.OpenShut
import Derived.ChangeOld
import Derived.Below
import Derived.Deep.RegionHeld3
set_option linter.unusedSimpArgs false
set_option linter.unusedVariables false
set_option maxHeartbeats 12800000
set_option maxRecDepth 100000
namespace Go.Proofs.YtnlcfkpcmfljeaaGreat.fnSpace
open Go.ChangeShapes Go.WideShapes Go.ChangeAt Go.RowKit
theorem own:ownKnob Tryz.prog.godebug=none:=by kernel_rfl
theorem laidOut:laidOutB Tryz.prog=true:=by kernel_rfl
theorem opens_byte {P:Program}{t:TypeId}(ht:P.underlying t=some (.int .u8)):Opens P t rByte:=by
 intro H enc w base spare held fuel cs x h;obtain⟨n,rfl,_,hw⟩:=DataW.trod_int ht h;exact⟨n,rfl,bounds_u8 hw⟩
theorem big_c (A:Option Addr) (n cap:Nat) (w:World):Calls Tryz.prog 24 #[.slice A n cap] w fun e w'=>e=.returned (.bool (decide (1048576<n)))/\w=w':=by
 by_cases h:(1048576:Int)<n
 ·go_enter Tryz.func24,Tryz.ntmps24
  go_wp2;go_ret;exact⟨ret_bool (by simp;omega),rfl⟩
 ·go_enter Tryz.func24,Tryz.ntmps24
  go_wp2;go_ret;exact⟨ret_bool (by simp;omega),rfl⟩
theorem at_c (A:Option Addr) (n cap:Nat) (l:List Int) (w:World) (hr:RS NB rByte w A n cap l) (hn:n<=1048576) :
  Calls Tryz.prog 32 #[.slice A n cap,.int .i64 0] w fun e w'=>∃ x:Int,e=.returned (.int .i64 x)/\0<=x/\x<256/\w'=w:=by
 by_cases h:0<n
 ·obtain⟨b,off,y,rfl,hc,hy0,hy1⟩:=hr.atb h
  have hi:(0:Int)<n:=by omega
  rw [Nat.add_zero]at hc
  go_enter Tryz.func32,Tryz.ntmps32
  go_wp2;go_ret;exact⟨_,rfl,by omega,by omega,rfl⟩
 ·have hi:¬ (0:Int)<n:=by omega
  have hn0:n=0:=by omega
  subst hn0
  go_enter Tryz.func32,Tryz.ntmps32
  go_wp2;go_ret;exact⟨_,rfl,by decide,by decide,rfl⟩
theorem wpList_load_midQ {P:Program}{ops:Array Oper}{rest:List Oper}{op:Oper}{a:Act}{w:World}{Q:Exit->Act->World->Prop}(ty:TypeId) (x:Operand) (ho:op.op=.load ty x)
  (b o:Nat) (hx:a.eval x=.pointer (some ⟨b,o,none⟩)) (cs:List Value) (d:TypeDesc) (hc:w.rangeAt b o cs)
  (hu:P.underlying ty=some d) (hd:d.isRow=true) (hi:(P.info? ty).map (·.size)=some cs.length)
  (hw:Region.wanted op (yielded ops a.tmps)=true) (h:wpList P ops Q rest (a.put op.dst (.agg cs.toArray)) w):wpList P ops Q (op::rest) a w :=
 wpList_step fun K hK=>by rw [if_pos hw];exact wp_load_mid ty x ho b o hx cs d hc hu hd hi (hK _ _ h)
theorem walk (A:Option Addr) (n cap:Nat) (l:List Int) (w:World) (r0:RS maxLen rByte w A n cap l) :
  Calls Tryz.prog 4 #[.slice A n cap] w fun e w'=>e=.returned (.bool true)/\Below w.heap.size w w':=by
 by_cases hsz:n<=1048576
 rotate_left
 ·have hd:decide (1048576<n)=true:=by simp;omega
  go_enter Tryz.func4,Tryz.ntmps4
  go_wp2_with (go_at_call 24;refine(big_c _ _ _ _).mono ?_;rintro e w' ⟨rfl,rfl⟩)
  go_ret;exact⟨rfl,Below.refl _ _⟩
 have hd:decide (1048576<n)=false:=by simp;omega
 have hr:=smallB r0 hsz;clear r0
 go_enter Tryz.func4,Tryz.ntmps4
 go_wp2_with (go_at_call 24;refine(big_c _ _ _ _).mono ?_;rintro e w' ⟨rfl,rfl⟩)
 clear hd;refine(drawBuild_c _ _ _ _ _ hr).mono ?_;rintro e w5 ⟨m,cm,q,Aq,nq,cq,b,AL,nL,cL,AH,nH,cH,rfl,rM,rQ,rB,hB⟩;have lenm:=(rModel_ok NB).len rM;have ON:=one_rep (rModel_ok NB) rM;have hcz:cm.toArray.size=30:=List.size_toArray.trans lenm;obtain⟨gM,hgM⟩:∃ z,z=w5.heap.size:=⟨_,rfl⟩;obtain⟨w6,hw6⟩:∃ W,W=w5.alloc (.cells z30.toArray 46):=⟨_,rfl⟩;obtain⟨w7,hw7⟩:∃ W,W=w6.alloc (.cells #[.int .i64 0,.slice none 0 0] 50):=⟨_,rfl⟩;obtain⟨w8,hw8⟩:∃ W,W=w7.alloc (.cells #[.slice none 0 0,.slice none 0 0] 36):=⟨_,rfl⟩;have hs6:w6.heap.size=gM+1:=by rw [hw6,hgM];simp
 have hs7:w7.heap.size=gM+1+1:=by rw [hw7];simp [hs6]
 have b6:Below w5.heap.size w5 w6:=by rw [hw6];exact bal
 have b7:Below w6.heap.size w6 w7:=by rw [hw7];exact bal
 have b8:Below w7.heap.size w7 w8:=by rw [hw8];exact bal
 have kM0:Bk w8 gM 46 z30:=Bk.below (w:=w7) (Bk.below (w:=w6) (by rw [hw6,hgM];exact Bk.new w5 _ _) b7) b8;have kQ0:Bk w8 (gM+1) 50 [.int .i64 0,.slice none 0 0]:=Bk.below (w:=w7) (by rw [hw7,<- hs6];exact Bk.new w6 _ _) b8;have kB0:Bk w8 (gM+1+1) 36 [.slice none 0 0,.slice none 0 0]:=by rw [hw8,<- hs7];exact Bk.new w7 _ _
 have b58:Below w5.heap.size w5 w8:=(b6.trans (b7.mono (by omega))).trans (b8.mono (by omega));have TH:w8.there gM 0 cm.toArray.size:=by rw [hcz];exact kM0.there
 obtain⟨W9,hW9⟩:∃ W,W=setCells w8 gM 0 cm:=⟨_,rfl⟩;obtain⟨W10,hW10⟩:∃ W,W=(W9.setCell ⟨gM+1,0,none⟩ (.int .i64 q.fVariableCount)).setCell ⟨gM+1,1,none⟩ (.slice Aq nq cq):=⟨_,rfl⟩;obtain⟨W11,hW11⟩:∃ W,W=(W10.setCell ⟨gM+1+1,0,none⟩ (.slice AL nL cL)).setCell ⟨gM+1+1,1,none⟩ (.slice AH nH cH):=⟨_,rfl⟩;have b9:Below gM w5 W9:=by rw [hW9];exact Below.setCells (hgM▸b58) (Nat.le_refl _) _ _
 have b10:Below gM w5 W10:=by rw [hW10];exact bls2 b9 (by omega) _ _
 have b11:Below gM w5 W11:=by rw [hW11];exact bls2 b10 (by omega) _ _
 have kM9:Bk W9 gM 46 cm:=by rw [hW9];exact kM0.fill (by rw [lenm];rfl)
 have kQ9:Bk W9 (gM+1) 50 [.int .i64 0,.slice none 0 0]:=by rw [hW9];exact kQ0.otherC (by omega) 0 cm
 have kB9:Bk W9 (gM+1+1) 36 [.slice none 0 0,.slice none 0 0]:=by rw [hW9];exact kB0.otherC (by omega) 0 cm
 have n10:∀ z,z≠gM+1->W10.heap[z]?=W9.heap[z]?:=fun z hz=>by rw [hW10];exact(heap_setCell_other _ ⟨gM+1,1,none⟩ z _ (fun e=>hz e)).trans (heap_setCell_other _ ⟨gM+1,0,none⟩ z _ (fun e=>hz e))
 have kQ10:Bk W10 (gM+1) 50 [.int .i64 q.fVariableCount,.slice Aq nq cq]:=by rw [hW10];exact(kQ9.set 0 _).set 1 _
 have kB10:Bk W10 (gM+1+1) 36 [.slice none 0 0,.slice none 0 0]:=(n10 _ (by omega)).trans kB9;have n11:∀ z,z≠gM+1+1->W11.heap[z]?=W10.heap[z]?:=fun z hz=>by rw [hW11];exact(heap_setCell_other _ ⟨gM+1+1,1,none⟩ z _ (fun e=>hz e)).trans (heap_setCell_other _ ⟨gM+1+1,0,none⟩ z _ (fun e=>hz e))
 have kM:Bk W11 gM 46 cm:=(n11 _ (by omega)).trans ((n10 _ (by omega)).trans kM9);have kQ:Bk W11 (gM+1) 50 [.int .i64 q.fVariableCount,.slice Aq nq cq]:=(n11 _ (by omega)).trans kQ10;have kB:Bk W11 (gM+1+1) 36 [.slice AL nL cL,.slice AH nH cH]:=by rw [hW11];exact(kB10.set 0 _).set 1 _
 have b5b:Below w5.heap.size w5 W11:=hgM▸b11;have HM:=(rModel_ok NB).keep rM (cells_below b5b);have HQ:=(rQuery_ok NB).keep rQ (cells_below b5b);have HX:=(rBox_ok NB).keep rB (cells_below b5b);have hr11:=(hr.below rByte_ok hB).below rByte_ok b5b;have B11:=hB.trans (b5b.mono hB.size);have ⟨q0,g0,q1,g1⟩:=kQ9.r2;have ⟨p0,f0,p1,f1⟩:=kB10.r2;have p0':(W9.setCell ⟨gM+1,0,none⟩ (.int .i64 q.fVariableCount)).setCell ⟨gM+1,1,none⟩ (.slice Aq nq cq)=W10:=hW10.symm;have HWK:Hid (w8.setCells gM 0 cm.toArray.toList=W9):=by show _=_;rw [setCells_kit,hW9]
 have HGM:=Lib.hid hgM;have HW:Hid (w6=w5.alloc (.cells z30.toArray 46)/\w7=w6.alloc (.cells #[.int .i64 0,.slice none 0 0] 50)/\w8=w7.alloc (.cells #[.slice none 0 0,.slice none 0 0] 36)):=⟨hw6,hw7,hw8⟩;have HW10:=Lib.hid hW10;have HW11:=Lib.hid hW11;have s0:=kB9.bx 0 _ rfl;have s0f:=kB9.frozen 0;have s1:=kB9.bx 1 _ rfl;have s1f:=kB9.frozen 1;clear hgM hs6 hs7 hw6 hw7 hw8 hW9 hW10 hW11 b6 b7 b8 b58 b9 b10 b11 b5b kM0 kQ0 kB0 kM9 kQ9 kB9 kQ10 kB10 n10 n11 rM rQ rB hr hB p0 f0 p1 f1 p0'
 go_upto_region 4 with (refine wpList_store_mid rfl 46 _ _ rfl gM 0 cm.toArray (by rw [HGM.out];rfl) rfl (by rw [<- HW.out.1,<- HW.out.2.1,<- HW.out.2.2];exact TH) (by rw [hcz];exact sizeMoD) ON ?_;rw [<- HW.out.1,<- HW.out.2.1,<- HW.out.2.2,HWK.out,<- HGM.out])
 rw [<- HW10.out,<- HW11.out];clear HW10 HW11 HWK HGM HW TH ON hcz q0 g0 q1 g1 s0 s0f s1 s1f
 have HK:Hid (∀ W,Below W11.heap.size W11 W->(rModel NB).rep W cm m/\(rQuery NB).rep W [.int .i64 q.fVariableCount,.slice Aq nq cq] q/\(rBox NB).rep W [.slice AL nL cL,.slice AH nH cH] b/\RS NB rByte W A n cap l/\Below w.heap.size w W):=by
  show ∀ W,_->_;exact fun W hW=>⟨(rModel_ok NB).keep HM (cells_below hW),(rQuery_ok NB).keep HQ (cells_below hW),(rBox_ok NB).keep HX (cells_below hW),hr11.below rByte_ok hW,B11.trans (hW.mono B11.size)⟩
 have HSS:Hid (∀ w':World,Below W11.heap.size W11 w'->w'.rangeAt gM 0 cm/\w'.cell? ⟨gM+1,0,none⟩=some (.int .i64 q.fVariableCount)/\w'.cell? ⟨gM+1,1,none⟩=some (.slice Aq nq cq)/\w'.cell? ⟨gM+1+1,0,none⟩=some (.slice AL nL cL)/\w'.cell? ⟨gM+1+1,1,none⟩=some (.slice AH nH cH)):=by
  show ∀ w':World,_->_;exact fun w' h=>⟨(kM.below h).rangeAt,(kQ.below h).bx 0 _ rfl,(kQ.below h).bx 1 _ rfl,(kB.below h).bx 0 _ rfl,(kB.below h).bx 1 _ rfl⟩
 have r11:=Below.refl W11.heap.size W11;clear HM HQ HX hr11 B11 kM kQ kB;obtain⟨S0,hS0⟩:∃ s,(buildE m q b).1=s:=⟨_,rfl⟩;obtain⟨bb,hbb⟩:∃ v,(buildE m q b).2=v:=⟨_,rfl⟩;have HS0:=Lib.hid hS0;have HBB:=Lib.hid hbb;clear hS0 hbb;have ⟨FM,F0,F1,F2,F3⟩:=HSS.out _ r11;have hk0:=HK.out _ r11
 go_wp2_with (refine wpList_load_mid rfl 46 _ rfl gM 0 rfl cm _ FM Tryz.underlying46 rfl (by rw [lenm];exact sizeMoD) ?_)
 refine(iBuildSpace_c cm m _ q _ b W11 hk0.1 hk0.2.1 hk0.2.2.1).mono ?_;rintro e w12 ⟨csI,fI,rfl,oI,fI2,hb12⟩;rw [HS0.out]at oI;rw [HBB.out];have rI:=(rSpace_ok NB).toRep oI;obtain⟨A1,n1,c1,A2,n2,c2,A3,n3,c3,A4,n4,c4,A5,n5,c5,rfl,_⟩:=rSpace_rep.1 rI;clear oI fI2 hk0 FM F0 F1 F2 F3;obtain⟨gI,hgI⟩:∃ z,z=w12.heap.size:=⟨_,rfl⟩;obtain⟨w13,hw13⟩:∃ W,W=w12.alloc (.cells #[.slice A1 n1 c1,.slice A2 n2 c2,.slice A3 n3 c3,.slice A4 n4 c4,.slice A5 n5 c5] 39):=⟨_,rfl⟩;have b13:Below w12.heap.size w12 w13:=by rw [hw13];exact bal
 have kI:Bk w13 gI 39 [.slice A1 n1 c1,.slice A2 n2 c2,.slice A3 n3 c3,.slice A4 n4 c4,.slice A5 n5 c5]:=by rw [hw13,hgI];exact Bk.new w12 _ _
 have hE13:=hb12.trans (b13.mono hb12.size);have rI13:=(rSpace_ok NB).keep rI (cells_below b13)
 go_upto_region 5 with fail
 rw [<- hw13,<- hgI];clear hw13 hgI b13 hb12 rI;have ⟨FM,F0,F1,F2,F3⟩:=HSS.out _ hE13;have hk0:=HK.out _ hE13
 go_wp2_with (refine wpList_load_mid rfl 46 _ rfl gM 0 rfl cm _ FM Tryz.underlying46 rfl (by rw [lenm];exact sizeMoD) ?_)
 refine(sBuildSpace_c cm m _ q _ b w13 hk0.1 hk0.2.1 hk0.2.2.1).mono ?_;rintro e w14 ⟨csS,fS,rfl,oS,fS2,hb14⟩;rw [HS0.out]at oS;rw [HBB.out];have rS:=(rSpace_ok NB).toRep oS;obtain⟨B1,p1,d1,B2,p2,d2,B3,p3,d3,B4,p4,d4,B5,p5,d5,rfl,_⟩:=rSpace_rep.1 rS;clear oS fS2 hk0 FM F0 F1 F2 F3;obtain⟨gS,hgS⟩:∃ z,z=w14.heap.size:=⟨_,rfl⟩;obtain⟨w15,hw15⟩:∃ W,W=w14.alloc (.cells #[.slice B1 p1 d1,.slice B2 p2 d2,.slice B3 p3 d3,.slice B4 p4 d4,.slice B5 p5 d5] 39):=⟨_,rfl⟩;have b15:Below w14.heap.size w14 w15:=by rw [hw15];exact bal
 have kS:Bk w15 gS 39 [.slice B1 p1 d1,.slice B2 p2 d2,.slice B3 p3 d3,.slice B4 p4 d4,.slice B5 p5 d5]:=by rw [hw15,hgS];exact Bk.new w14 _ _
 have h1315:=hb14.trans (b15.mono hb14.size);have hE15:=hE13.trans (h1315.mono hE13.size);have kI15:=kI.below h1315;have rI15:=(rSpace_ok NB).keep rI13 (cells_below h1315);have rS15:=(rSpace_ok NB).keep rS (cells_below b15)
 go_upto_region 6 with fail
 rw [<- hw15,<- hgS];clear hw15 hgS b15 hb14 rS rI13 kI h1315 hE13
 have HZ:Hid (∀ W,Below w15.heap.size w15 W->(W.cell? ⟨gI,0,none⟩=some (.slice A1 n1 c1)/\W.cell? ⟨gI,1,none⟩=some (.slice A2 n2 c2)/\W.cell? ⟨gI,2,none⟩=some (.slice A3 n3 c3)/\W.cell? ⟨gI,3,none⟩=some (.slice A4 n4 c4)/\W.cell? ⟨gI,4,none⟩=some (.slice A5 n5 c5))/\(rSpace NB).rep W [.slice A1 n1 c1,.slice A2 n2 c2,.slice A3 n3 c3,.slice A4 n4 c4,.slice A5 n5 c5] S0/\(W.cell? ⟨gS,2,none⟩=some (.slice B3 p3 d3)/\W.cell? ⟨gS,3,none⟩=some (.slice B4 p4 d4))/\(rSpace NB).rep W [.slice B1 p1 d1,.slice B2 p2 d2,.slice B3 p3 d3,.slice B4 p4 d4,.slice B5 p5 d5] S0/\Below W11.heap.size W11 W):=by
  show ∀ W,_->_;intro W h;have k1:=kI15.below h;have k2:=kS.below h;exact⟨⟨k1.bx 0 _ rfl,k1.bx 1 _ rfl,k1.bx 2 _ rfl,k1.bx 3 _ rfl,k1.bx 4 _ rfl⟩,(rSpace_ok NB).keep rI15 (cells_below h),⟨k2.bx 2 _ rfl,k2.bx 3 _ rfl⟩,(rSpace_ok NB).keep rS15 (cells_below h),hE15.trans (h.mono hE15.size)⟩
 obtain⟨_,_,_,_,_,_,_,_,_,_,_,_,_,_,_,eI,rL3,_,rC3,rK3,rP3⟩:=rSpace_rep.1 rI15;simp only [List.cons.injEq,Value.slice.injEq,and_true]at eI;obtain⟨⟨rfl,rfl,rfl⟩,⟨rfl,rfl,rfl⟩,⟨rfl,rfl,rfl⟩,⟨rfl,rfl,rfl⟩,⟨rfl,rfl,rfl⟩⟩:=eI;obtain⟨_,_,_,_,_,_,_,_,_,_,_,_,_,_,_,eS,_,_,rC4,rK4,_⟩:=rSpace_rep.1 rS15;simp only [List.cons.injEq,Value.slice.injEq,and_true]at eS;obtain⟨⟨rfl,rfl,rfl⟩,⟨rfl,rfl,rfl⟩,⟨rfl,rfl,rfl⟩,⟨rfl,rfl,rfl⟩,⟨rfl,rfl,rfl⟩⟩:=eS;have r15:=Below.refl w15.heap.size w15;clear rL3 kI15 kS rI15 rS15 hE15;have HCL:=Lib.hid rC3.len;have HPL:=Lib.hid rP3.len;cases bb
 ·have hcb:canBuild m q b=false:=by
   cases h:canBuild m q b with
   | false=>rfl
   | true=>have:=HBB.out;unfold buildE at this;rw [h]at this;cases this
  have hn:n3=0:=by
   have h1:=HCL.out;have h2:=HS0.out;unfold buildE at h2;rw [hcb]at h2;have h3:S0=zSpace:=h2.symm;rw [h3]at h1;exact h1.symm
  clear hcb;subst hn;have hqq:(!(false==false))=false:=rfl;have ⟨⟨z0,z1,z2,z3,z4⟩,_⟩:=HZ.out _ r15;have hk9:=HK.out _ (HZ.out _ r15).2.2.2.2;go_wp2;go_ret;exact⟨rfl,hk9.2.2.2.2⟩
 have hcb:canBuild m q b=true:=by
  cases h:canBuild m q b with
  | true=>rfl
  | false=>have:=HBB.out;unfold buildE at this;rw [h]at this;cases this
 have hS0:buildOf m q b (boxVol b).toNat=S0:=by
  have h:=HS0.out;unfold buildE at h;rw [hcb]at h;exact h
 have hlaw:=space_law hcb;simp only [hS0]at hlaw;obtain⟨hV,hMo,hCR,hCn,hV1,hAT⟩:=hlaw;have hvp:=validSpace_parts hV;have hbx:S0.fBox=b:=by rw [<- hS0];exact(buildOf_len m q b _).2.2.2
 have hV4:boxVol b<=400:=(canBuild_parts hcb).2.2.2.2.2.1;obtain⟨V,hVe⟩:∃ v,boxVol b=v:=⟨_,rfl⟩;rw [hVe]at hCn hV1 hAT hV4;have HVE:=Lib.hid hVe;have HV:=Lib.hid hV;have HMO:=Lib.hid hMo;have HAT:=Lib.hid hAT;obtain⟨lo,hlo⟩:∃ v,optC m q b.fLow=v:=⟨_,rfl⟩;obtain⟨hi,hhi⟩:∃ v,optC m q b.fHigh=v:=⟨_,rfl⟩;have HCR:Hid (costRange S0=(lo,hi)):=by show _=_;rw [hCR,hlo,hhi]
 have HLO:=Lib.hid hlo;have HHI:=Lib.hid hhi;have HSH:=Lib.hid (share_all hV);have HS2:=Lib.hid (share_zero hV);have HKL:=Lib.hid rK3.len;have hn400:n3<=400:=by have:=HCL.out;omega
 have hK400:S0.fChoices.length<=400:=by have:=hvp.2.2.1;have:=hvp.2.2.2.2.1;omega
 have hnPb:=rP3.bound;clear hcb hS0 hV hMo hCR hAT hvp hbx hVe hlo hhi;have hqq:(!(true==true))=false:=rfl;have ⟨⟨z0,z1,z2,z3,z4⟩,_,⟨y2,y3⟩,_⟩:=HZ.out _ r15
 go_wp2_with fail
 refine(sameInts_c _ _ _ _ _ _ S0.fCosts S0.fCosts w15 rC3 rC4).mono ?_;rintro e w16 ⟨rfl,q16⟩;rw [decide_eq_true (rfl:S0.fCosts=S0.fCosts)];have h16:=Qt.belowS q16;have rK3':=rK3.below rInt_ok h16;have rK4':=rK4.below rInt_ok h16;clear z0 z1 z2 z3 z4 y2 y3 rC3 rC4 rK3 rK4 q16;have ⟨⟨z0,z1,z2,z3,z4⟩,_,⟨y2,y3⟩,_⟩:=HZ.out _ h16
 go_wp2_with fail
 refine(sameInts_c _ _ _ _ _ _ S0.fChoices S0.fChoices w16 rK3' rK4').mono ?_;rintro e w17 ⟨rfl,q17⟩;rw [decide_eq_true (rfl:S0.fChoices=S0.fChoices)];have h17:=h16.trans ((Qt.belowS q17).mono h16.size);clear z0 z1 z2 z3 z4 y2 y3 rK3' rK4' q17 h16;have ⟨⟨z0,z1,z2,z3,z4⟩,rI17,_⟩:=HZ.out _ h17
 go_wp2_with fail
 refine(iIsValidSpace_c _ S0 w17 rI17).mono ?_;rintro e w18 ⟨rfl,hb18⟩;rw [HV.out];have h18:=h17.trans (hb18.mono h17.size);clear z0 z1 z2 z3 z4 rI17 hb18 h17;have ⟨⟨z0,z1,z2,z3,z4⟩,rI18,_⟩:=HZ.out _ h18
 go_wp2_with fail
 refine(iIsMonotoneSpace_c _ S0 w18 rI18).mono ?_;rintro e w19 ⟨rfl,hb19⟩;rw [HMO.out];have h19:=h18.trans (hb19.mono h18.size);clear z0 z1 z2 z3 z4 rI18 hb19 h18;have ⟨⟨z0,z1,z2,z3,z4⟩,rI19,_⟩:=HZ.out _ h19
 go_wp2_with fail
 refine(iCostRange_c _ S0 w19 rI19).mono ?_;rintro e w20 ⟨rfl,hb20⟩;rw [HCR.out];have h20:=h19.trans (hb20.mono h19.size);clear z0 z1 z2 z3 z4 rI19 hb20 h19
 go_wp2_with fail
 go_loopw [12,13] (fun sv kv wr=>∃ k:Nat,k<=n5/\kv=.int .i64 (k:Int)/\sv=.int .i64 ((S0.fChoices.countP (fun c=>decide (c<(k:Int))):Nat):Int)/\Below w15.heap.size w15 wr) (fun _ kv _=>n5 - (intOf kv).toNat)
 case atStart=>exact⟨0,Nat.zero_le _,rfl,by rw [HS2.out];rfl,h20⟩
 case round =>
  clear h20;obtain⟨k,hk,rfl,rfl,h20⟩:=hrel;have ⟨⟨z0,z1,z2,z3,z4⟩,rI20,_,_,hE20⟩:=HZ.out _ h20;by_cases hlt:k<n5
  ·have hltI:(k:Int)<n5:=by omega
   obtain⟨X,hX⟩:∃ v:Nat,S0.fChoices.countP (fun c=>decide (c<(k:Int)))=v:=⟨_,rfl⟩;obtain⟨Y,hY⟩:∃ v:Nat,S0.fChoices.countP (fun c=>c==(k:Int))=v:=⟨_,rfl⟩;have hXb:X<=400:=by rw [<- hX];exact Nat.le_trans (List.countP_le_length) hK400
   have hYb:Y<=400:=by rw [<- hY];exact Nat.le_trans (List.countP_le_length) hK400
   have HST:Hid (S0.fChoices.countP (fun c=>decide (c<((k+1:Nat):Int)))=X+Y):=by
    show _=_;have:=share_step S0.fChoices k;rw [hX,hY]at this;rw [<- this];congr 1
   have HPS:Hid (countIn S0 S0.fChoices (fun c=>c==(k:Int))=Y):=by show _=_;unfold countIn;rw [if_pos HV.out,hY]
   rw [hX];clear hX hY;have wn:IntKind.i64.wrap ((X:Int)+Y)=(X:Int)+Y:=IntWalk.i64_in _ (by omega)
   go_wp2_with fail
   refine(iPlanShare_c _ S0 (k:Int) _ rI20).mono ?_;rintro e w21 ⟨rfl,hb21⟩;rw [HPS.out];have h21:=h20.trans (hb21.mono h20.size);clear z0 z1 z2 z3 z4;go_wp2;go_roundw
   case rel=>exact⟨k+1,by omega,by go_num,by rw [HST.out];go_num,h21⟩
   case measure=>simp [intOf];omega
  have hke:k=n5:=by omega
  subst hke;have HXE:Hid (S0.fChoices.countP (fun c=>decide (c<(k:Int)))=n3):=by show _=_;have:=HSH.out;rw [HPL.out]at this;rw [this];exact HCL.out
  rw [HXE.out];have hltI:¬ (k:Int)<k:=by omega
  have hd0:=(Below.refl wr.heap.size wr).drew;have hE20d:=hE20.trans (hd0.mono hE20.size);have hkd:=HK.out _ hE20d
  have HSB:Hid (∀ w':World,Below wr.heap.size wr w'->w'.cell? ⟨gM+1+1,0,none⟩=some (.slice AL nL cL)/\w'.cell? ⟨gM+1+1,1,none⟩=some (.slice AH nH cH)):=by
   show ∀ w':World,_->_;intro w' h;obtain⟨_,_,_,a,c⟩:=HSS.out _ (hE20.trans (h.mono hE20.size));exact⟨a,c⟩
  go_wp2_with fail
  refine hbg HSB.out hd0 (fun hH=>?_);refine tq2 0 hH ?_;refine tq1 3 hH ?_;simp only [putS];refine rd 2 (some 94) fun K hK=>?_;clear hH;go_simp;refine(at_c _ _ _ _ _ hkd.2.2.2.1 hsz).mono ?_;rintro e w22 ⟨x,rfl,hx0,hx1,rfl⟩
  go_wp2_with fail
  refine hK.out _ _ (HSB.out _ hd0) (fun hH=>?_);clear hK K
  try simp only [putS]
  refine rd 4 (some 96) fun K hK=>?_;clear hH;go_simp;refine(sBoxVolume_c _ b _ hkd.2.2.1).mono ?_;rintro e w23 ⟨rfl,hb23⟩;rw [HVE.out];have hD1:Below wr.heap.size wr w23:=hd0.trans (hb23.mono hd0.size)
  go_wp2_with fail
  refine hK.out _ _ (HSB.out _ hD1) (fun hH=>?_);clear hK K
  try simp only [putS]
  have hVne:¬ V=0:=by omega
  refine tq1 5 hH ?_;simp only [putS]
  have hib:0<=x.tmod V/\x.tmod V<V:=by
   have:x.tmod V=x % V:=Int.tmod_eq_emod_of_nonneg hx0;rw [this];exact⟨Int.emod_nonneg _ hVne,Int.emod_lt_of_pos _ (by omega)⟩
  obtain⟨i,hi0⟩:∃ i,i=x.tmod V:=⟨_,rfl⟩;rw [<- hi0]at hib ⊢;have hiI:I64 i:=by unfold I64;omega
  obtain⟨lc,P,hloc,hsp,hsc,hpc⟩:=HAT.out i hib.1 hib.2;have HSP:=Lib.hid hsp;have HSC:=Lib.hid hsc;have HPC:=Lib.hid hpc;have HLC:=Lib.hid hloc;clear hloc hsp hsc hpc hi0 hib hx0 hx1;have hkB:=(HK.out _ (hE20.trans (hD1.mono hE20.size))).2.2.1;refine rd 6 (some 98) fun K hK=>?_;clear hH;go_simp;refine(sBoxLocation_c _ b i _ hkB hiI).mono ?_;rintro e w24 ⟨Al,nl,cl,rfl,mL,hb24⟩;rw [HLC.out]at mL;have hD2:Below wr.heap.size wr w24:=hD1.trans (hb24.mono hD1.size)
  go_wp2_with fail
  refine hK.out _ _ (HSB.out _ hD2) (fun hH=>?_);clear hK K
  try simp only [putS]
  refine tq4 7 hH ?_;simp only [putS];refine tq1 11 hH ?_;simp only [putS];refine wpAnyH_done (by kernel_rfl) ?_ _;clear hH;have rLc:=mL.rs rInt_ok;have h24:=h20.trans (hD2.mono h20.size);obtain⟨oc,hoc⟩:∃ v,optC m q lc=v:=⟨_,rfl⟩;have HOC:=Lib.hid hoc;clear hoc mL hD1 hD2 hd0 HSB hkd hE20d hkB hb23 hb24 z0 z1 z2 z3 z4 rI20 hE20 h20;have ⟨⟨z0,z1,z2,z3,z4⟩,rI24,_⟩:=HZ.out _ h24
  go_wp2_with fail
  refine(iSpacePlan_c _ S0 _ _ _ lc _ rI24 rLc).mono ?_;rintro e w25 ⟨csP,fP,rfl,oP,fP2,hb25⟩;rw [HSP.out]at oP ⊢;obtain⟨AP,nP,cP,fP3,rfl,_,oP2⟩:=rPlan_own.1 oP;have rPl:=(rPlan_ok NB).toRep oP;have h25:=h24.trans (hb25.mono h24.size);have rL25:=rLc.below rInt_ok hb25;clear z0 z1 z2 z3 z4 rI24 oP oP2 fP2 rLc hb25 h24;obtain⟨gP,hgP⟩:∃ z,z=w25.heap.size:=⟨_,rfl⟩;obtain⟨w26,hw26⟩:∃ W,W=w25.alloc (.cells #[.slice AP nP cP] 76):=⟨_,rfl⟩;have b26:Below w25.heap.size w25 w26:=by rw [hw26];exact bal
  have kP:Bk w26 gP 76 [.slice AP nP cP]:=by rw [hw26,hgP];exact Bk.new w25 _ _
  have h26:=h25.trans (b26.mono h25.size);have rL26:=rL25.below rInt_ok b26;have rP26:=(rPlan_ok NB).keep rPl (cells_below b26)
  go_upto_region 20 with fail
  rw [<- hw26,<- hgP];clear hw26 hgP b26 rPl rL25 h25
  have HP:Hid (∀ W,Below w26.heap.size w26 W->W.cell? ⟨gP,0,none⟩=some (.slice AP nP cP)/\(rPlan NB).rep W [.slice AP nP cP] P/\RS NB rInt W Al nl cl lc/\Below w15.heap.size w15 W):=by
   show ∀ W,_->_;exact fun W h=>⟨(kP.below h).bx 0 _ rfl,(rPlan_ok NB).keep rP26 (cells_below h),rL26.below rInt_ok h,h26.trans (h.mono h26.size)⟩
  have r26:=Below.refl w26.heap.size w26;clear kP rP26;have ⟨⟨z0,z1,z2,z3,z4⟩,rI26,_⟩:=HZ.out _ h26
  go_wp2_with fail
  refine(iSpaceCost_c _ S0 _ _ _ lc _ rI26 rL26).mono ?_;rintro e w27 ⟨rfl,hb27⟩;rw [HSC.out,HOC.out];clear z0 z1 z2 z3 z4 rI26 rL26 h26;have ⟨y0,yP,yL,h27⟩:=HP.out _ hb27;have ⟨⟨z0,z1,z2,z3,z4⟩,_,_,_,hE27⟩:=HZ.out _ h27;have ⟨FM,F0,F1,F2,F3⟩:=HSS.out _ hE27;have hk7:=HK.out _ hE27
  go_wp2_with (first|(refine wpList_load_mid rfl 46 _ rfl gM 0 rfl cm _ FM Tryz.underlying46 rfl (by rw [lenm];exact sizeMoD) ?_)|(refine wpList_load_midQ 46 _ rfl gM 0 rfl cm _ FM Tryz.underlying46 rfl (by rw [lenm];exact sizeMoD) (by simp [Region.wanted,yielded]) ?_))
  refine(sOptimalCostAt_c cm m _ q _ _ _ lc _ hk7.1 hk7.2.1 yL).mono ?_;rintro e w28 ⟨rfl,hb28⟩;rw [HOC.out];have i28:=hb27.trans (hb28.mono hb27.size);clear z0 z1 z2 z3 z4 FM F0 F1 F2 F3 hk7 y0 yP yL hb28 h27 hE27;have ⟨y0,yP,yL,h28⟩:=HP.out _ i28;have hE28:=(HZ.out _ h28).2.2.2.2;have ⟨FM,F0,F1,F2,F3⟩:=HSS.out _ hE28;have hk7:=HK.out _ hE28
  go_wp2_with (first|(refine wpList_load_mid rfl 46 _ rfl gM 0 rfl cm _ FM Tryz.underlying46 rfl (by rw [lenm];exact sizeMoD) ?_)|(refine wpList_load_midQ 46 _ rfl gM 0 rfl cm _ FM Tryz.underlying46 rfl (by rw [lenm];exact sizeMoD) (by simp [Region.wanted,yielded]) ?_))
  refine(sPlanCostAt_c cm m _ q _ P _ _ _ lc _ hk7.1 hk7.2.1 yP yL).mono ?_;rintro e w29 ⟨rfl,hb29⟩;rw [HPC.out,HOC.out];have i29:=i28.trans (hb29.mono i28.size);clear FM F0 F1 F2 F3 hk7 y0 yP yL hb29 h28 hE28 i28;have hE29:=(HZ.out _ (HP.out _ i29).2.2.2).2.2.2.2;have ⟨FM,F0,F1,F2,F3⟩:=HSS.out _ hE29;have hk7:=HK.out _ hE29;obtain⟨_,_,_,_,_,_,eB,rLo,rHi⟩:=rBox_rep.1 hk7.2.2.1;simp only [List.cons.injEq,Value.slice.injEq,and_true]at eB;obtain⟨⟨rfl,rfl,rfl⟩,rfl,rfl,rfl⟩:=eB
  go_wp2_with (first|(refine wpList_load_mid rfl 46 _ rfl gM 0 rfl cm _ FM Tryz.underlying46 rfl (by rw [lenm];exact sizeMoD) ?_)|(refine wpList_load_midQ 46 _ rfl gM 0 rfl cm _ FM Tryz.underlying46 rfl (by rw [lenm];exact sizeMoD) (by simp [Region.wanted,yielded]) ?_))
  refine(sOptimalCostAt_c cm m _ q _ _ _ b.fLow _ hk7.1 hk7.2.1 rLo).mono ?_;rintro e w30 ⟨rfl,hb30⟩;rw [HLO.out];have hE30:=hE29.trans (hb30.mono hE29.size);have rHi30:=rHi.below rInt_ok hb30;clear FM F0 F1 F2 F3 hk7 rLo rHi hb30 hE29 i29;have ⟨FM,F0,F1,F2,F3⟩:=HSS.out _ hE30;have hk7:=HK.out _ hE30
  go_wp2_with (first|(refine wpList_load_mid rfl 46 _ rfl gM 0 rfl cm _ FM Tryz.underlying46 rfl (by rw [lenm];exact sizeMoD) ?_)|(refine wpList_load_midQ 46 _ rfl gM 0 rfl cm _ FM Tryz.underlying46 rfl (by rw [lenm];exact sizeMoD) (by simp [Region.wanted,yielded]) ?_))
  refine(sOptimalCostAt_c cm m _ q _ _ _ b.fHigh _ hk7.1 hk7.2.1 rHi30).mono ?_;rintro e w31 ⟨rfl,hb31⟩;rw [HHI.out];have hE31:=hE30.trans (hb31.mono hE30.size);have hk8:=HK.out _ hE31;clear FM F0 F1 F2 F3 hk7 rHi30 hb31 hE30;go_wp2;go_ret;exact⟨by simp,hk8.2.2.2.2⟩
theorem lifted (os:Os) (started:os.Started) (H:Type) (enc:TypeId × Value->H) :
  ReturnsInHanded {} Tryz.checked os 4 .any (Rows.fnSpaceSpec.pre6 enc Tryz.prog Tryz.f4 Rows.fnSpaceRow.domain false) (Rows.fnSpaceSpec.post enc Tryz.prog Tryz.f4 false true false false):=by
 refine returnsInHanded_of_change (C:=Tryz.checked) own started (by kernel_rfl) Tryz.func4
  (ChangeSpec.witness6 (enc:=enc) (C:=Tryz.checked) false ⟨#[],#[.slice none 0 0],[]⟩ 8 (by kernel_rfl) (by kernel_rfl) (by kernel_rfl) (by kernel_rfl)) ?_
 intro W base args ds gs before hval0 hW hcnd _;have hval:∀ (j:Nat) t v,Tryz.f4.params[j]?=some t->args[j]?=some v->Value.okWide Tryz.prog W .any base t v:=hval0;have hW':=hW;obtain⟨p,q,hA0,hV,rfl,hfz,hnd⟩:=hW;have hA:DataW.TrodAll enc Tryz.prog W 0 (fun _=>true) true Tryz.f4.params.toList args.toList ds p:=hA0;rw [Tryz.params4]at hA hval;obtain⟨v0,vs0,d0,ds0,p0,q0,hargs,rfl,rfl,h0,r0⟩:=trodAll_cons hA;obtain⟨rfl,rfl,rfl⟩:=trodAll_nil r0;obtain rfl:args=#[v0]:=by cases args;simp_all
 obtain⟨rfl,rfl⟩:=trodVars_none hV;obtain⟨A0,n0,c0,rfl⟩:=okWide_slice Tryz.underlying62 (hval 0 62 v0 rfl rfl);have k0:=h0;have lt0:∀ x∈p0,x.block<W.heap.size:=by obtain⟨m,hm⟩:=k0;exact DataW.trod_lt m _ _ _ hm
 obtain⟨l0,g0⟩:∃ l,RS maxLen rByte W A0 n0 c0 l:=by
  obtain⟨fuel,hf⟩:=h0;obtain⟨l,A,n,c,e,hr⟩:=(opens_slice rByte_ok Tryz.underlying62 (by kernel_rfl) (opens_byte Tryz.underlying5)) hf;simp [Value.cells]at e;obtain⟨rfl,rfl,rfl⟩:=e;exact⟨l,hr⟩
 clear hA0 hval0;refine(walk A0 n0 c0 l0 W g0).mono fun e W' ⟨he,bel⟩=>?_;subst he;exact⟨_,rfl,_,_,_,[],_,[],hW',trodAll_mk1 (shut_bool Tryz.underlying4 _),(trodAll_cons_mk (Below.trod laidOut (by kernel_rfl) (of_decide_eq_true (by kernel_rfl)) k0 bel lt0) trodAll_mk0),rfl,bel.frame _,fun h=>by cases h⟩
theorem over:Rows.fnSpaceRow.holds Tryz.pinned (OpenSpec.ofChange Rows.fnSpaceSpec) :=
 OpenClaim.holds_of_wide 4 Tryz.f4 rfl rfl rfl rfl rfl rfl rfl ⟨rfl,rfl,rfl,rfl,rfl⟩ rfl rfl rfl rfl rfl (by kernel_rfl) Tryz.func4 (by kernel_rfl)
  (of_decide_eq_true (by kernel_rfl)) (by unfold Func.isWrapper;first|(rw [if_pos (by decide +kernel)];kernel_rfl)|(rw [if_neg (by decide +kernel)];exact⟨rfl,rfl⟩))
  (fun os started H enc _=>lifted os started H enc)
theorem proved : Rows.FnSpaceSaid := over
#print axioms proved
end Go.Proofs.YtnlcfkpcmfljeaaGreat.fnSpace
