/-
  Qs
-/
import Derived.Test.YtnlcfkpcmfljeaaGreatQi
import Derived.Deep.RegionHeld3
set_option linter.unusedSimpArgs false
set_option linter.unusedVariables false
set_option maxHeartbeats 1600000
set_option maxRecDepth 100000
namespace Go.Proofs.YtnlcfkpcmfljeaaGreat
open Go.RowKit
theorem sL23In_c (b v:Int) (w:World) (h0:0<=b) (h1:b<16) :
  Calls Tryz.prog 248 #[.int .i64 b,.int .i64 v] w fun e w'=>e=.returned (.bool (inBits b v))/\w'=w:=by
 cases c:inR v 0 3
 ·have K:=Lib.hid (fun W=>l1In_v c W)
  have HI:Hid (inBits b v=false):=by show inBits b v=false;simp [inBits,c]
  clear c
  go_enter Tryz.func248,Tryz.ntmps248
  go_wp2_with (go_at_call 51;refine(K.out _).mono ?_;rintro e w' ⟨rfl,hww⟩;replace hww:=hww.symm;subst hww)
  go_ret;exact⟨ret_bool (a:=false) HI.out.symm,rfl⟩
 ·have K:=Lib.hid (fun W=>l1In_v c W)
  have hv0:=(inR_t.1 c).1;have hv3:=(inR_t.1 c).2;have HI:Hid (inBits b v=mbit b v.toNat):=by show inBits b v=_;simp [inBits,c]
  clear c;cases hb:mbit b v.toNat
  all_goals
   have hbt:=mbit_test (i:=v.toNat) h0 (by omega) hb;have HB:=Lib.hid hb;clear hb
   go_enter Tryz.func248,Tryz.ntmps248
   go_wp2_with (go_at_call 51;refine(K.out _).mono ?_;rintro e w' ⟨rfl,hww⟩;replace hww:=hww.symm;subst hww)
   go_ret;exact⟨ret_bool (by rw [HI.out,HB.out]),rfl⟩
theorem sL23In_v {b v:Int}{r:Bool}(h:inBits b v=r) (h0:0<=b) (h1:b<16) (w:World) :
  Calls Tryz.prog 248 #[.int .i64 b,.int .i64 v] w fun e w'=>e=.returned (.bool r)/\w'=w:=h▸sL23In_c b v w h0 h1
def stepTail (q:QueryD) (x:PlanStepD) (y z:StepInfoD) (j i:Int):Option (StepInfoD × Nat) :=
 if x.fKind=4 then
  if hasV q.fAtoms y.fMask x.fOrder&&hasV q.fAtoms z.fMask x.fOrder&&decide (y.fOrder=x.fOrder)&&decide (z.fOrder=x.fOrder) then some (⟨orI y.fMask z.fMask,x.fOrder,j,i⟩,2) else none
 else if inR x.fKind 3 5 then
  if x.fOrder=0 then some (⟨orI y.fMask z.fMask,if x.fKind=5 then y.fOrder else -1,j,i⟩,2) else none
 else none
theorem stepTail_of {q:QueryD}{x:PlanStepD}{l:List StepInfoD}{st:List Int}{y z:StepInfoD}{j i:Int}(k1:¬ x.fKind=1) (k2:¬ x.fKind=2) (a0:x.fAtom=0) (h2:2<=st.length) (hy:infoAt l (topAt st 2)=y) (hz:infoAt l (topAt st 1)=z) (hj:topAt st 2=j) (hi:topAt st 1=i) :
  stepInfo q x l st=if joinOk q y z then stepTail q x y z j i else none:=by
 unfold stepInfo stepTail;rw [if_neg k1,if_neg (fun h=>h a0),if_neg k2,decide_eq_true h2,hy,hz,hj,hi];cases hk:inR x.fKind 3 5
 ·have h:=inR_f.1 hk
  rw [if_neg (show ¬ x.fKind=4 by omega),if_neg (show ¬ x.fKind=4 by omega)];cases joinOk q y z<;>rfl
 ·cases joinOk q y z<;>rfl
def stepVal:Option (StepInfoD × Nat)->Value
 | some (y,k)=>.tuple #[.agg #[.int .i64 y.fMask,.int .i64 y.fOrder,.int .i64 y.fLeft,.int .i64 y.fRight],.int .i64 k]
 | none=>.tuple #[.agg #[.int .i64 0,.int .i64 0,.int .i64 0,.int .i64 0],.int .i64 (-1)]
structure TopRead (w:World) (l:List StepInfoD) (st:List Int) (As Al:Option Addr) (ni t k n:Nat) (j:Nat) (y:StepInfoD) (bS oS bI oI:Nat):Prop where
 eS:As=some ⟨bS,oS,none⟩
 eI:Al=some ⟨bI,oI,none⟩
 cS:w.cell? ⟨bS,oS+t,none⟩=some (.int .i64 j)
 hj:j<ni
 c0:w.cell? ⟨bI,oI+j*4,none⟩=some (.int .i64 y.fMask)
 c1:w.cell? ⟨bI,oI+j*4+1,none⟩=some (.int .i64 y.fOrder)
 c2:w.cell? ⟨bI,oI+j*4+2,none⟩=some (.int .i64 y.fLeft)
 c3:w.cell? ⟨bI,oI+j*4+3,none⟩=some (.int .i64 y.fRight)
 tj:topAt st k=(j:Int)
 yj:infoAt l (topAt st k)=y
 m0:1<=y.fMask
 m1:y.fMask<((2 ^ n:Nat):Int)
 io:I64 y.fOrder
theorem topRead {w:World}{l:List StepInfoD}{st:List Int}{As Al:Option Addr}{ns cs ni ci n:Nat}(hR:Run n l st) (hst:RS NB rInt w As ns cs st) (hl:RS NB (rStepInfo NB) w Al ni ci l) {t k:Nat}(ht:t+k=ns) (hk:1<=k) :
  ∃ (j:Nat) (y:StepInfoD) (bS oS bI oI:Nat),TopRead w l st As Al ni t k n j y bS oS bI oI:=by
 have hls:=hst.len;have hli:=hl.len;obtain⟨j,e1,e2,e3⟩:=hR.top (k:=k) hk (by omega);obtain⟨bS,oS,x,e4,c,_,hx⟩:=hst.ati (k:=t) (by omega);have hx:=hx.out
 have e5:x=(j:Int):=by
  unfold topAt at e1;rw [show st.length - k=t by omega,hx]at e1;exact e1
 subst e5;obtain⟨bI,oI,y,e6,d0,d1,d2,d3,i0,i1,i2,i3,hy⟩:=hl.eStepInfo (k:=j) (by omega);have hy:=hy.out;rw [e3]at hy;injection hy with hy;have hm:=hR.mask _ (mem_of_at e3);exact⟨j,y,bS,oS,bI,oI,e4,e6,c,by omega,d0,d1,d2,d3,e1,hy,hy▸hm.1,hy▸hm.2,i1⟩
theorem TopRead.below {w w':World}{l:List StepInfoD}{st:List Int}{As Al:Option Addr}{ni t k n j:Nat}{y:StepInfoD}{bS oS bI oI:Nat}(h:TopRead w l st As Al ni t k n j y bS oS bI oI) (hb:Below w.heap.size w w'):TopRead w' l st As Al ni t k n j y bS oS bI oI :=
 ⟨h.eS,h.eI,cells_below hb _ _ h.cS,h.hj,cells_below hb _ _ h.c0,cells_below hb _ _ h.c1,cells_below hb _ _ h.c2,cells_below hb _ _ h.c3,h.tj,h.yj,h.m0,h.m1,h.io⟩
theorem Bk.setNe {w:World}{g k j:Nat}{t:TypeId}{cs:List Value}{v:Value}(h:Bk w g t cs) (hne:g≠k):Bk (w.setCell ⟨k,j,none⟩ v) g t cs:=(heap_setCell_other w ⟨k,j,none⟩ g v hne).trans h
theorem pow_le16 {n:Nat}(h:n<=4):(2:Nat) ^ n<=16:=by
 have:(2:Nat) ^ n<=2 ^ 4:=Nat.pow_le_pow_right (by omega) h;omega
theorem sL23Scan_c (csq:List Value) (q:QueryD) (csx:List Value) (x:PlanStepD) (Al:Option Addr) (nl cl:Nat) (l:List StepInfoD) (Ast:Option Addr) (nst cst:Nat) (st:List Int) (w:World) (hq:(rQuery NB).rep w csq q) (hx:(rPlanStep NB).rep w csx x) (hl:RS NB (rStepInfo NB) w Al nl cl l) (hst:RS NB rInt w Ast nst cst st) (hv:validQ q=true) (hR:Run q.fAtoms.length l st) (hn14:l.length<=14) (k1:x.fKind=1) :
  Calls Tryz.prog 244 #[.agg csq.toArray,.agg csx.toArray,.slice Al nl cl,.slice Ast nst cst] w (fun e w'=>e=.returned (stepVal (stepInfo q x l st))/\Below w.heap.size w w'):=by
 have rq:=hq;obtain⟨Aq_e,nq_e,cq_e,rfl,hq_p5,hq_e⟩:=rQuery_rep.1 hq;clear hq;have rx:=hx;obtain⟨rfl,hxKind,hx_d,hx_s3⟩:=rPlanStep_rep.1 hx;clear hx;obtain⟨hB,bxq,bxx⟩:=op2 w [.int .i64 q.fVariableCount,.slice Aq_e nq_e cq_e] 50 [.int .i64 x.fKind,.int .i64 x.fAtom,.int .i64 x.fOrder] 173;have K1:=Lib.hid k1;clear k1;have hnA:=hq_e.bound;have HL:=Lib.hid hq_e.len;have HV:=Lib.hid hv;clear hv;have hn4:nq_e<=4:=by have:=HL.out;have:=validQ_parts HV.out;omega
 have hnst:nst<=14:=by have:=hst.len;have:=hR.len;omega
 have hnl:nl<=14:=by have:=hl.len;omega
 have HN16:Hid (((2 ^ q.fAtoms.length:Nat):Int)<=16):=by
  show _<=_;have:=pow_le16 (n:=q.fAtoms.length) (by rw [HL.out];exact hn4);omega
 have HR:=Lib.hid hR;clear hR;clear hn14;obtain⟨wa,hwa⟩:∃ wa,wa=(w.alloc (.cells #[.int .i64 q.fVariableCount,.slice Aq_e nq_e cq_e] 50)).alloc (.cells #[.int .i64 x.fKind,.int .i64 x.fAtom,.int .i64 x.fOrder] 173):=⟨_,rfl⟩;rw [<- hwa]at hB bxq bxx;have hsa:wa.heap.size=w.heap.size+1+1:=by rw [hwa];simp
 have hBA:=(Below.refl wa.heap.size wa).alloc (Nat.le_refl _) (.cells #[.int .i64 0,.int .i64 0,.int .i64 0,.int .i64 0] 243);have bkR:=Bk.new wa [.int .i64 0,.int .i64 0,.int .i64 0,.int .i64 0] 243;replace hB:=hB.trans (hBA.mono hB.size);replace bxq:=bxq.below hBA;replace bxx:=bxx.below hBA;clear hBA;rw [hsa]at bkR;obtain⟨wb,hwb⟩:∃ wb,wb=wa.alloc (.cells #[.int .i64 0,.int .i64 0,.int .i64 0,.int .i64 0] 243):=⟨_,rfl⟩;rw [<- hwb]at hB bxq bxx bkR;clear hsa
 go_enter Tryz.func244,Tryz.ntmps244
 go_upto_region 1 with fail
 rw [<- hwa,<- hwb];clear hwa hwb;have kq_0:=bxq 0 _ rfl;have kq_1:=bxq 1 _ rfl;have kx_0:=bxx 0 _ rfl;have kx_1:=bxx 1 _ rfl;have kx_2:=bxx 2 _ rfl;have HRS:=Lib.hid hst;clear hst;have HRL:=Lib.hid hl;clear hl;have kb1:(x.fKind==1)=true:=by simp [K1.out]
 cases c1:inR x.fAtom 0 ((nq_e:Int) - 1)
 ·have C1:=Lib.hid (fun W=>l1In_v c1 W)
  have HS:Hid (stepInfo q x l st=none):=by show _=_;unfold stepInfo;rw [if_pos K1.out,HL.out,c1];rfl
  clear c1
  go_upto_region 5 with (go_at_call 51;refine(C1.out _).mono ?_;rintro e w' ⟨rfl,hww⟩;replace hww:=hww.symm;subst hww)
  have r0:=bkR.bx 0 _ rfl;have f0:=bkR.frozen 0;have r1:=bkR.bx 1 _ rfl;have f1:=bkR.frozen 1;have r2:=bkR.bx 2 _ rfl;have f2:=bkR.frozen 2;have r3:=bkR.bx 3 _ rfl;have f3:=bkR.frozen 3;go_wp2;have bk3:=((((bkR.set 0 (.int .i64 0)).set 1 (.int .i64 0)).set 2 (.int .i64 0)).set 3 (.int .i64 0));have q0:=bk3.bx 0 _ rfl;have q1:=bk3.bx 1 _ rfl;have q2:=bk3.bx 2 _ rfl;have q3:=bk3.bx 3 _ rfl;refine bodyPost_ret (v:=.tuple #[.agg #[.int .i64 0,.int .i64 0,.int .i64 0,.int .i64 0],.int .i64 (-1)]) (by simp [results,Tryz.results244,go_sem,q0,q1,q2,q3]) rfl ?_;exact⟨by rw [HS.out];rfl,((((hB.setCell (p:=⟨w.heap.size+1+1,0,none⟩) (Nat.le_trans (Nat.le_succ _) (Nat.le_succ _)) (.int .i64 0)).setCell (p:=⟨w.heap.size+1+1,1,none⟩) (Nat.le_trans (Nat.le_succ _) (Nat.le_succ _)) (.int .i64 0)).setCell (p:=⟨w.heap.size+1+1,2,none⟩) (Nat.le_trans (Nat.le_succ _) (Nat.le_succ _)) (.int .i64 0)).setCell (p:=⟨w.heap.size+1+1,3,none⟩) (Nat.le_trans (Nat.le_succ _) (Nat.le_succ _)) (.int .i64 0))⟩
 have C1:=Lib.hid (fun W=>l1In_v c1 W);have ha0:=(inR_t.1 c1).1;have ha1:=(inR_t.1 c1).2;have D1:=Lib.hid c1;clear c1;by_cases o1:x.fOrder=0
 rotate_left
 ·have ob1:(x.fOrder != 0)=true:=by simp [o1]
  have HS:Hid (stepInfo q x l st=none):=by show _=_;unfold stepInfo;rw [if_pos K1.out,HL.out,D1.out,decide_eq_false o1];rfl
  clear o1
  go_upto_region 5 with (go_at_call 51;refine(C1.out _).mono ?_;rintro e w' ⟨rfl,hww⟩;replace hww:=hww.symm;subst hww)
  have r0:=bkR.bx 0 _ rfl;have f0:=bkR.frozen 0;have r1:=bkR.bx 1 _ rfl;have f1:=bkR.frozen 1;have r2:=bkR.bx 2 _ rfl;have f2:=bkR.frozen 2;have r3:=bkR.bx 3 _ rfl;have f3:=bkR.frozen 3;go_wp2;have bk3:=((((bkR.set 0 (.int .i64 0)).set 1 (.int .i64 0)).set 2 (.int .i64 0)).set 3 (.int .i64 0));have q0:=bk3.bx 0 _ rfl;have q1:=bk3.bx 1 _ rfl;have q2:=bk3.bx 2 _ rfl;have q3:=bk3.bx 3 _ rfl;refine bodyPost_ret (v:=.tuple #[.agg #[.int .i64 0,.int .i64 0,.int .i64 0,.int .i64 0],.int .i64 (-1)]) (by simp [results,Tryz.results244,go_sem,q0,q1,q2,q3]) rfl ?_;exact⟨by rw [HS.out];rfl,((((hB.setCell (p:=⟨w.heap.size+1+1,0,none⟩) (Nat.le_trans (Nat.le_succ _) (Nat.le_succ _)) (.int .i64 0)).setCell (p:=⟨w.heap.size+1+1,1,none⟩) (Nat.le_trans (Nat.le_succ _) (Nat.le_succ _)) (.int .i64 0)).setCell (p:=⟨w.heap.size+1+1,2,none⟩) (Nat.le_trans (Nat.le_succ _) (Nat.le_succ _)) (.int .i64 0)).setCell (p:=⟨w.heap.size+1+1,3,none⟩) (Nat.le_trans (Nat.le_succ _) (Nat.le_succ _)) (.int .i64 0))⟩
 have ob1:(x.fOrder != 0)=false:=by simp [o1]
 have HS:Hid (stepInfo q x l st=some (⟨pow2 x.fAtom,firstVar q x.fAtom,-1,-1⟩,0)):=by show _=_;unfold stepInfo;rw [if_pos K1.out,HL.out,D1.out,decide_eq_true o1];rfl
 clear o1;obtain⟨ai,hai⟩:∃ ai:Nat,x.fAtom=(ai:Int):=⟨x.fAtom.toNat,by omega⟩;have hain:ai<nq_e:=by omega
 obtain⟨b,off,a,AV,nV,cV,rfl,hc0,hc1,hsz,hRV,ha⟩:=hq_e.eAtom hain;have hbl1:=World.block_lt_of_cell? w _ hc1;replace hc1:=cells_below hB _ _ hc1;clear hc0
 have hnV:0<nV:=by
  have h1:=validQ_parts HV.out;have h2:=(atomOk_parts (h1.2.2.2.2.1 a (mem_of_at ha.out))).2.1;have:=hRV.len;omega
 obtain⟨b2,off2,v,rfl,hcv,hI,hvv⟩:=hRV.ati hnV;rw [Nat.add_zero]at hcv;have hbl2:=World.block_lt_of_cell? w _ hcv;replace hcv:=cells_below hB _ _ hcv
 have HFV:Hid (firstVar q x.fAtom=v):=by
  show firstVar q x.fAtom=v;unfold firstVar;rw [hai,Int.toNat_natCast,ha.out];simp [hvv.out]
 have p1:=pow2_wrap (v:=x.fAtom) (by omega) (by omega);have ka:=kx_1;rw [hai]at ka;have HAI:=Lib.hid hai;clear hai;rw [HAI.out,Int.toNat_natCast]at p1
 have S6:∀ w',Below (w.heap.size+1+1) wb w'->(w'.cell? ⟨w.heap.size+1,1,none⟩=some (.int .i64 ai)/\w'.cell? ⟨w.heap.size,1,none⟩=some (.slice (some ⟨b,off,none⟩) nq_e cq_e)/\w'.cell? ⟨b,off+ai*2+1,none⟩=some (.slice (some ⟨b2,off2,none⟩) nV cV)/\w'.cell? ⟨b2,off2,none⟩=some (.int .i64 v)):=fun w' hb =>
  ⟨(hb.cell (p:=⟨w.heap.size+1,1,none⟩) (by simp)).trans ka,(hb.cell (p:=⟨w.heap.size,1,none⟩) (by simp;omega)).trans kq_1,(hb.cell (p:=⟨b,off+ai*2+1,none⟩) (by simp at hbl1 ⊢;omega)).trans hc1,(hb.cell (p:=⟨b2,off2,none⟩) (by simp at hbl2 ⊢;omega)).trans hcv⟩
 have HSS:=Lib.hid S6;clear S6
 go_upto_region 6 with (go_at_call 51;refine(C1.out _).mono ?_;rintro e w' ⟨rfl,hww⟩;replace hww:=hww.symm;subst hww)
 refine hbg HSS.out (Below.refl _ _).drew (fun hH=>?_);refine tq2 0 hH ?_;simp only [putS];refine tq2 2 hH ?_;simp only [putS];refine tq2 4 hH ?_;simp only [putS];refine tq2 6 hH ?_;simp only [putS];refine tq2 8 hH ?_;simp only [putS];refine tq2 10 hH ?_;simp only [putS];refine tq1 12 hH ?_;simp only [putS];have r0:=bkR.bx 0 _ rfl;have f0:=bkR.frozen 0;have r1:=bkR.bx 1 _ rfl;have f1:=bkR.frozen 1;have r2:=bkR.bx 2 _ rfl;have f2:=bkR.frozen 2;have r3:=bkR.bx 3 _ rfl;have f3:=bkR.frozen 3;refine rd 13 none fun K hK=>?_;clear hH;go_simp;refine hK.out _ _ (HSS.out _ (((((Below.refl (w.heap.size+1+1) wb).setCell (p:=⟨w.heap.size+1+1,0,none⟩) (Nat.le_refl _) (.int .i64 (pow2 ai))).setCell (p:=⟨w.heap.size+1+1,1,none⟩) (Nat.le_refl _) (.int .i64 v)).setCell (p:=⟨w.heap.size+1+1,2,none⟩) (Nat.le_refl _) (.int .i64 (-1))).setCell (p:=⟨w.heap.size+1+1,3,none⟩) (Nat.le_refl _) (.int .i64 (-1))).drew) (fun hH=>?_)
 clear hK K
 try simp only [putS]
 refine tq1 14 hH ?_;simp only [putS];refine wpAnyH_done (by kernel_rfl) ?_ _;clear hH;go_wp2;have bk3:=((((bkR.set 0 (.int .i64 (pow2 ai))).set 1 (.int .i64 v)).set 2 (.int .i64 (-1))).set 3 (.int .i64 (-1)));have q0:=bk3.bx 0 _ rfl;have q1:=bk3.bx 1 _ rfl;have q2:=bk3.bx 2 _ rfl;have q3:=bk3.bx 3 _ rfl;refine bodyPost_ret (v:=.tuple #[.agg #[.int .i64 (pow2 ai),.int .i64 v,.int .i64 (-1),.int .i64 (-1)],.int .i64 0]) (by simp [results,Tryz.results244,go_sem,q0,q1,q2,q3]) rfl ?_;exact⟨by rw [HS.out,HFV.out,HAI.out];rfl,((((hB.setCell (p:=⟨w.heap.size+1+1,0,none⟩) (Nat.le_trans (Nat.le_succ _) (Nat.le_succ _)) (.int .i64 (pow2 ai))).setCell (p:=⟨w.heap.size+1+1,1,none⟩) (Nat.le_trans (Nat.le_succ _) (Nat.le_succ _)) (.int .i64 v)).setCell (p:=⟨w.heap.size+1+1,2,none⟩) (Nat.le_trans (Nat.le_succ _) (Nat.le_succ _)) (.int .i64 (-1))).setCell (p:=⟨w.heap.size+1+1,3,none⟩) (Nat.le_trans (Nat.le_succ _) (Nat.le_succ _)) (.int .i64 (-1))).drew⟩
theorem sL23Sort_c (csq:List Value) (q:QueryD) (csx:List Value) (x:PlanStepD) (Al:Option Addr) (nl cl:Nat) (l:List StepInfoD) (Ast:Option Addr) (nst cst:Nat) (st:List Int) (w:World) (hq:(rQuery NB).rep w csq q) (hx:(rPlanStep NB).rep w csx x) (hl:RS NB (rStepInfo NB) w Al nl cl l) (hst:RS NB rInt w Ast nst cst st) (hv:validQ q=true) (hR:Run q.fAtoms.length l st) (hn14:l.length<=14) (k1:¬ x.fKind=1) (k2:x.fKind=2) :
  Calls Tryz.prog 244 #[.agg csq.toArray,.agg csx.toArray,.slice Al nl cl,.slice Ast nst cst] w (fun e w'=>e=.returned (stepVal (stepInfo q x l st))/\Below w.heap.size w w'):=by
 have rq:=hq;obtain⟨Aq_e,nq_e,cq_e,rfl,hq_p5,hq_e⟩:=rQuery_rep.1 hq;clear hq;have rx:=hx;obtain⟨rfl,hxKind,hx_d,hx_s3⟩:=rPlanStep_rep.1 hx;clear hx;obtain⟨hB,bxq,bxx⟩:=op2 w [.int .i64 q.fVariableCount,.slice Aq_e nq_e cq_e] 50 [.int .i64 x.fKind,.int .i64 x.fAtom,.int .i64 x.fOrder] 173;have K1:=Lib.hid k1;clear k1;have K2:=Lib.hid k2;clear k2;have hnA:=hq_e.bound;have HL:=Lib.hid hq_e.len;have HV:=Lib.hid hv;clear hv;have hn4:nq_e<=4:=by have:=HL.out;have:=validQ_parts HV.out;omega
 have hnst:nst<=14:=by have:=hst.len;have:=hR.len;omega
 have hnl:nl<=14:=by have:=hl.len;omega
 have HN16:Hid (((2 ^ q.fAtoms.length:Nat):Int)<=16):=by
  show _<=_;have:=pow_le16 (n:=q.fAtoms.length) (by rw [HL.out];exact hn4);omega
 have HR:=Lib.hid hR;clear hR;clear hn14;obtain⟨wa,hwa⟩:∃ wa,wa=(w.alloc (.cells #[.int .i64 q.fVariableCount,.slice Aq_e nq_e cq_e] 50)).alloc (.cells #[.int .i64 x.fKind,.int .i64 x.fAtom,.int .i64 x.fOrder] 173):=⟨_,rfl⟩;rw [<- hwa]at hB bxq bxx;have hsa:wa.heap.size=w.heap.size+1+1:=by rw [hwa];simp
 have hBA:=(Below.refl wa.heap.size wa).alloc (Nat.le_refl _) (.cells #[.int .i64 0,.int .i64 0,.int .i64 0,.int .i64 0] 243);have bkR:=Bk.new wa [.int .i64 0,.int .i64 0,.int .i64 0,.int .i64 0] 243;replace hB:=hB.trans (hBA.mono hB.size);replace bxq:=bxq.below hBA;replace bxx:=bxx.below hBA;clear hBA;rw [hsa]at bkR;obtain⟨wb,hwb⟩:∃ wb,wb=wa.alloc (.cells #[.int .i64 0,.int .i64 0,.int .i64 0,.int .i64 0] 243):=⟨_,rfl⟩;rw [<- hwb]at hB bxq bxx bkR;clear hsa
 go_enter Tryz.func244,Tryz.ntmps244
 go_upto_region 1 with fail
 rw [<- hwa,<- hwb];clear hwa hwb;have kq_0:=bxq 0 _ rfl;have kq_1:=bxq 1 _ rfl;have kx_0:=bxx 0 _ rfl;have kx_1:=bxx 1 _ rfl;have kx_2:=bxx 2 _ rfl;have HRS:=Lib.hid hst;clear hst;have HRL:=Lib.hid hl;clear hl;have kb1:(x.fKind==1)=false:=by simp [K1.out]
 have kb2:(x.fKind==2)=true:=by simp [K2.out]
 by_cases a0:x.fAtom=0
 rotate_left
 ·have ab:(x.fAtom != 0)=true:=by simp [a0]
  have HS:Hid (stepInfo q x l st=none):=by show _=_;unfold stepInfo;rw [if_neg K1.out,if_pos a0]
  have HSS:=Lib.hid (fun w' (hb:Below (w.heap.size+1+1) wb w')=>(⟨(hb.cell (p:=⟨w.heap.size+1,1,none⟩) (by simp)).trans kx_1,trivial⟩:w'.cell? ⟨w.heap.size+1,1,none⟩=some (.int .i64 x.fAtom)/\True));clear a0;go_wp2;refine hbg HSS.out (Below.refl _ _).drew (fun hH=>?_);refine tq2 0 hH ?_;simp only [putS];refine tq2 2 hH ?_;simp only [putS];refine tr2 4 hH ?_;simp only [putS];refine tq2 6 hH ?_;simp only [putS];refine tr2 8 hH ?_;simp only [putS];refine tr2 10 hH ?_;simp only [putS];refine tr2 12 hH ?_;simp only [putS];refine tr2 14 hH ?_;simp only [putS];refine tr2 16 hH ?_;simp only [putS];refine tr2 18 hH ?_;simp only [putS]
  refine tq2 20 hH ?_;simp only [putS];refine tr2 22 hH ?_;simp only [putS];refine tr2 24 hH ?_;simp only [putS];refine tr2 26 hH ?_;simp only [putS];refine tr2 28 hH ?_;simp only [putS];refine tr2 30 hH ?_;simp only [putS];refine tr2 32 hH ?_;simp only [putS];refine tr2 34 hH ?_;simp only [putS];refine tr1 36 hH ?_;refine tq1 37 hH ?_;simp only [putS];refine wpAnyH_done (by kernel_rfl) ?_ _;clear hH;obtain⟨r0,f0,r1,f1,r2,f2,r3,f3⟩:=bkR.r4;go_wp2;have q:=bkR.s4;refine bodyPost_ret (v:=_) (by simp [results,Tryz.results244,go_sem,q];rfl) rfl ?_;exact⟨by rw [HS.out];rfl,(bls4 hB (le2 _) _ _ _ _).drew⟩
 have ab:(x.fAtom != 0)=false:=by simp [a0]
 have A0:=Lib.hid a0;clear a0;by_cases hn1:nst<1
 ·have d1:decide ((nst:Int)<1)=true:=decide_eq_true (by omega)
  have HS:Hid (stepInfo q x l st=none):=by show _=_;unfold stepInfo;rw [if_neg K1.out,if_neg (fun h=>h A0.out),if_pos K2.out,decide_eq_false (by rw [HRS.out.len];omega)];rfl
  have HSS:=Lib.hid (fun w' (hb:Below (w.heap.size+1+1) wb w')=>(⟨(hb.cell (p:=⟨w.heap.size+1,1,none⟩) (by simp)).trans kx_1,trivial⟩:w'.cell? ⟨w.heap.size+1,1,none⟩=some (.int .i64 x.fAtom)/\True));go_wp2;refine hbg HSS.out (Below.refl _ _).drew (fun hH=>?_);refine tq2 0 hH ?_;simp only [putS];refine tq2 2 hH ?_;simp only [putS];refine tq2 4 hH ?_;simp only [putS];refine tq2 6 hH ?_;simp only [putS];refine tr2 8 hH ?_;simp only [putS];refine tr2 10 hH ?_;simp only [putS];refine tr2 12 hH ?_;simp only [putS];refine tr2 14 hH ?_;simp only [putS];refine tr2 16 hH ?_;simp only [putS];refine tr2 18 hH ?_;simp only [putS]
  refine tq2 20 hH ?_;simp only [putS];refine tr2 22 hH ?_;simp only [putS];refine tr2 24 hH ?_;simp only [putS];refine tr2 26 hH ?_;simp only [putS];refine tr2 28 hH ?_;simp only [putS];refine tr2 30 hH ?_;simp only [putS];refine tr2 32 hH ?_;simp only [putS];refine tr2 34 hH ?_;simp only [putS];refine tr1 36 hH ?_;refine tq1 37 hH ?_;simp only [putS];refine wpAnyH_done (by kernel_rfl) ?_ _;clear hH;obtain⟨r0,f0,r1,f1,r2,f2,r3,f3⟩:=bkR.r4;go_wp2;have q:=bkR.s4;refine bodyPost_ret (v:=_) (by simp [results,Tryz.results244,go_sem,q];rfl) rfl ?_;exact⟨by rw [HS.out];rfl,(bls4 hB (le2 _) _ _ _ _).drew⟩
 have d1:decide ((nst:Int)<1)=false:=decide_eq_false (by omega);obtain⟨t,ht⟩:∃ t,t+1=nst:=⟨nst - 1,by omega⟩;obtain⟨j,y,bS,oS,bI,oI,tr⟩:=topRead HR.out HRS.out HRL.out (t:=t) (k:=1) ht (by omega);have hj:=tr.hj;have m0:=tr.m0;have m16:y.fMask<65536:=by have:=tr.m1;have:=HN16.out;omega
 have mj:IntKind.i64.wrap ((nst:Int) - 1)=(t:Int):=by rw [IntWalk.i64_in _ (by omega)];omega
 have htn:t<nst:=by omega
 have hn1':1<=st.length:=by rw [HRS.out.len];omega
 have eS:=tr.eS;have eI:=tr.eI;subst eS;subst eI;have HN1:=Lib.hid hn1';clear hn1' ht
 have HSS:Hid (∀ w',Below (w.heap.size+1+1) wb w'->(w'.cell? ⟨w.heap.size+1,1,none⟩=some (.int .i64 x.fAtom)/\w'.cell? ⟨w.heap.size+1,2,none⟩=some (.int .i64 x.fOrder)/\w'.cell? ⟨w.heap.size,0,none⟩=some (.int .i64 q.fVariableCount)/\w'.cell? ⟨w.heap.size,1,none⟩=some (.slice Aq_e nq_e cq_e)/\w'.cell? ⟨bS,oS+t,none⟩=some (.int .i64 j)/\w'.cell? ⟨bI,oI+j*4,none⟩=some (.int .i64 y.fMask)/\w'.cell? ⟨bI,oI+j*4+1,none⟩=some (.int .i64 y.fOrder))):=by
  show ∀ w',_->_;intro w' hb;have hz:=tr.below (hB.trans (hb.mono (by omega)));exact⟨(hb.cell (p:=⟨w.heap.size+1,1,none⟩) (by simp)).trans kx_1,(hb.cell (p:=⟨w.heap.size+1,2,none⟩) (by simp)).trans kx_2,(hb.cell (p:=⟨w.heap.size,0,none⟩) (by simp;omega)).trans kq_0,(hb.cell (p:=⟨w.heap.size,1,none⟩) (by simp;omega)).trans kq_1,hz.cS,hz.c0,hz.c1⟩
 by_cases o1:y.fOrder=x.fOrder
 ·have ob1:(y.fOrder==x.fOrder)=true:=by simp [o1]
  have HS:Hid (stepInfo q x l st=none):=by show _=_;unfold stepInfo;rw [if_neg K1.out,if_neg (fun h=>h A0.out),if_pos K2.out,tr.yj,decide_eq_false (show ¬ ¬ y.fOrder=x.fOrder from fun h=>h o1),Bool.and_false];rfl
  clear o1;go_wp2;refine hbg HSS.out (Below.refl _ _).drew (fun hH=>?_);refine tq2 0 hH ?_;simp only [putS];refine tq2 2 hH ?_;simp only [putS];refine tq2 4 hH ?_;simp only [putS];refine tq2 6 hH ?_;simp only [putS];refine tq2 8 hH ?_;simp only [putS];refine tq2 10 hH ?_;simp only [putS];refine tq2 12 hH ?_;simp only [putS];refine tq2 14 hH ?_;simp only [putS];refine tq2 16 hH ?_;simp only [putS];refine tq2 18 hH ?_;simp only [putS];refine tq2 20 hH ?_;simp only [putS];refine tr2 22 hH ?_;simp only [putS];refine tr2 24 hH ?_;simp only [putS];refine tr2 26 hH ?_;simp only [putS];refine tr2 28 hH ?_;simp only [putS]
  refine tr2 30 hH ?_;simp only [putS];refine tr2 32 hH ?_;simp only [putS];refine tr2 34 hH ?_;simp only [putS];refine tr1 36 hH ?_;refine tq1 37 hH ?_;simp only [putS];refine wpAnyH_done (by kernel_rfl) ?_ _;clear hH;clear mj;obtain⟨r0,f0,r1,f1,r2,f2,r3,f3⟩:=bkR.r4;go_wp2;have q:=bkR.s4;refine bodyPost_ret (v:=_) (by simp [results,Tryz.results244,go_sem,q];rfl) rfl ?_;exact⟨by rw [HS.out];rfl,(bls4 hB (le2 _) _ _ _ _).drew⟩
 have ob1:(y.fOrder==x.fOrder)=false:=by simp [o1]
 have O1:=Lib.hid o1;clear o1;have HBQ:=Lib.hid (bitsQ_bd HV.out y.fMask);have bq0:=HBQ.out.1;have bq1:=HBQ.out.2;have RQ:=((rQuery_ok NB).keep rq (cells_below hB.drew));have hrl:w.heap.size+1+1<=wb.drew.heap.size:=Nat.le_of_lt bkR.lt;cases hh:hasV q.fAtoms y.fMask x.fOrder
 ·have HS:Hid (stepInfo q x l st=none):=by show _=_;unfold stepInfo;rw [if_neg K1.out,if_neg (fun h=>h A0.out),if_pos K2.out,tr.yj,hh,Bool.and_false,Bool.false_and];rfl
  have KI:=Lib.hid (inBits_hasV HV.out y.fMask x.fOrder▸hh);clear hh;go_wp2;refine hbg HSS.out (Below.refl _ _).drew (fun hH=>?_);refine tq2 0 hH ?_;simp only [putS];refine tq2 2 hH ?_;simp only [putS];refine tq2 4 hH ?_;simp only [putS];refine tq2 6 hH ?_;simp only [putS];refine tq2 8 hH ?_;simp only [putS];refine tq2 10 hH ?_;simp only [putS];refine tq2 12 hH ?_;simp only [putS];refine tq2 14 hH ?_;simp only [putS];refine tq2 16 hH ?_;simp only [putS];refine tq2 18 hH ?_;simp only [putS];refine tq2 20 hH ?_;simp only [putS];refine tq2 22 hH ?_;simp only [putS];refine tq2 24 hH ?_;simp only [putS]
  refine tq2 26 hH ?_;simp only [putS];refine tq2 28 hH ?_;simp only [putS];refine tq2 30 hH ?_;simp only [putS];refine tq2 33 hH ?_;simp only [putS];refine rd 32 (some 82) fun K hK=>?_;clear hH;go_simp;refine(sL7Bits_c _ q y.fMask _ RQ HV.out (by omega) m16).mono ?_;rintro e wc ⟨rfl,hbc⟩;have hC:Below (w.heap.size+1+1) wb wc:=(Below.refl _ wb).drew.trans (hbc.mono hrl)
  go_wp2_with fail
  refine hK.out _ _ (HSS.out _ hC) (fun hH=>?_);clear hK K
  try simp only [putS]
  refine rd 35 (some 85) fun K hK=>?_;clear hH;go_simp;refine(sL23In_v KI.out bq0 bq1 _).mono ?_;rintro e w' ⟨rfl,hww⟩;replace hww:=hww.symm;subst hww
  go_wp2_with fail
  refine hK.out _ _ (HSS.out _ hC) (fun hH=>?_);clear hK K
  try simp only [putS]
  refine tq2 36 hH ?_;simp only [putS];refine wpAnyH_done (by kernel_rfl) ?_ _;clear hH;have bkW:=Bk.below (w:=wb.drew) bkR hbc;have hBW:Below w.heap.size w wc:=hB.drew.trans (hbc.mono hB.size);clear mj;have r0:=bkW.bx 0 _ rfl;have f0:=bkW.frozen 0;have r1:=bkW.bx 1 _ rfl;have f1:=bkW.frozen 1;have r2:=bkW.bx 2 _ rfl;have f2:=bkW.frozen 2;have r3:=bkW.bx 3 _ rfl;have f3:=bkW.frozen 3;clear kx_0 kx_1 kx_2 kq_0 kq_1;go_wp2;have q:=bkW.s4;refine bodyPost_ret (v:=_) (by simp [results,Tryz.results244,go_sem,q];rfl) rfl ?_;exact⟨by rw [HS.out];rfl,(bls4 hBW (le2 _) _ _ _ _)⟩
 ·have HS:Hid (stepInfo q x l st=some (⟨y.fMask,x.fOrder,(j:Int),-1⟩,1)):=by
   show _=_;unfold stepInfo;rw [if_neg K1.out,if_neg (fun h=>h A0.out),if_pos K2.out,tr.yj,hh,tr.tj,decide_eq_true (show ¬ y.fOrder=x.fOrder from O1.out),decide_eq_true HN1.out];rfl
  have KI:=Lib.hid (inBits_hasV HV.out y.fMask x.fOrder▸hh);clear hh;go_wp2;refine hbg HSS.out (Below.refl _ _).drew (fun hH=>?_);refine tq2 0 hH ?_;simp only [putS];refine tq2 2 hH ?_;simp only [putS];refine tq2 4 hH ?_;simp only [putS];refine tq2 6 hH ?_;simp only [putS];refine tq2 8 hH ?_;simp only [putS];refine tq2 10 hH ?_;simp only [putS];refine tq2 12 hH ?_;simp only [putS];refine tq2 14 hH ?_;simp only [putS];refine tq2 16 hH ?_;simp only [putS];refine tq2 18 hH ?_;simp only [putS];refine tq2 20 hH ?_;simp only [putS];refine tq2 22 hH ?_;simp only [putS];refine tq2 24 hH ?_;simp only [putS]
  refine tq2 26 hH ?_;simp only [putS];refine tq2 28 hH ?_;simp only [putS];refine tq2 30 hH ?_;simp only [putS];refine tq2 33 hH ?_;simp only [putS];refine rd 32 (some 82) fun K hK=>?_;clear hH;go_simp;refine(sL7Bits_c _ q y.fMask _ RQ HV.out (by omega) m16).mono ?_;rintro e wc ⟨rfl,hbc⟩;have hC:Below (w.heap.size+1+1) wb wc:=(Below.refl _ wb).drew.trans (hbc.mono hrl)
  go_wp2_with fail
  refine hK.out _ _ (HSS.out _ hC) (fun hH=>?_);clear hK K
  try simp only [putS]
  refine rd 35 (some 85) fun K hK=>?_;clear hH;go_simp;refine(sL23In_v KI.out bq0 bq1 _).mono ?_;rintro e w' ⟨rfl,hww⟩;replace hww:=hww.symm;subst hww
  go_wp2_with fail
  refine hK.out _ _ (HSS.out _ hC) (fun hH=>?_);clear hK K
  try simp only [putS]
  refine tq2 36 hH ?_;simp only [putS];refine wpAnyH_done (by kernel_rfl) ?_ _;clear hH;have bkW:=Bk.below (w:=wb.drew) bkR hbc;have hBW:Below w.heap.size w wc:=hB.drew.trans (hbc.mono hB.size);have r0:=bkW.bx 0 _ rfl;have f0:=bkW.frozen 0;have r1:=bkW.bx 1 _ rfl;have f1:=bkW.frozen 1;have r2:=bkW.bx 2 _ rfl;have f2:=bkW.frozen 2;have r3:=bkW.bx 3 _ rfl;have f3:=bkW.frozen 3;clear kx_0 kx_1 kx_2 kq_0 kq_1;go_wp2;refine hbg HSS.out hC.drew (fun hH=>?_);refine tq2 0 hH ?_;simp only [putS];refine tq2 2 hH ?_;simp only [putS];refine tq2 4 hH ?_;simp only [putS];refine tq2 6 hH ?_;simp only [putS];refine tq2 8 hH ?_;simp only [putS]
  refine tq2 10 hH ?_;simp only [putS];refine tq2 12 hH ?_;simp only [putS];refine tq2 14 hH ?_;simp only [putS];refine tq1 16 hH ?_;simp only [putS];refine rd 17 none fun K hK=>?_;clear hH;go_simp;refine hK.out _ _ (HSS.out _ ((((hC.setCell (p:=⟨w.heap.size+1+1,0,none⟩) (Nat.le_refl _) (.int .i64 y.fMask)).setCell (p:=⟨w.heap.size+1+1,1,none⟩) (Nat.le_refl _) (.int .i64 x.fOrder)).setCell (p:=⟨w.heap.size+1+1,2,none⟩) (Nat.le_refl _) (.int .i64 j)).setCell (p:=⟨w.heap.size+1+1,3,none⟩) (Nat.le_refl _) (.int .i64 (-1))).drew) (fun hH=>?_);clear hK K
  try simp only [putS]
  refine tq1 18 hH ?_;simp only [putS];refine wpAnyH_done (by kernel_rfl) ?_ _;clear hH;go_wp2;have q:=bkW.s4;refine bodyPost_ret (v:=_) (by simp [results,Tryz.results244,go_sem,q];rfl) rfl ?_;exact⟨by rw [HS.out];rfl,(bls4 hBW (le2 _) _ _ _ _).drew⟩
theorem sL23Rest_c (csq:List Value) (q:QueryD) (csx:List Value) (x:PlanStepD) (Al:Option Addr) (nl cl:Nat) (l:List StepInfoD) (Ast:Option Addr) (nst cst:Nat) (st:List Int) (w:World) (hq:(rQuery NB).rep w csq q) (hx:(rPlanStep NB).rep w csx x) (hl:RS NB (rStepInfo NB) w Al nl cl l) (hst:RS NB rInt w Ast nst cst st) (hv:validQ q=true) (hR:Run q.fAtoms.length l st) (hn14:l.length<=14) (k1:¬ x.fKind=1) (k2:¬ x.fKind=2) :
  Calls Tryz.prog 244 #[.agg csq.toArray,.agg csx.toArray,.slice Al nl cl,.slice Ast nst cst] w (fun e w'=>e=.returned (stepVal (stepInfo q x l st))/\Below w.heap.size w w'):=by
 have rq:=hq;obtain⟨Aq_e,nq_e,cq_e,rfl,hq_p5,hq_e⟩:=rQuery_rep.1 hq;clear hq;have rx:=hx;obtain⟨rfl,hxKind,hx_d,hx_s3⟩:=rPlanStep_rep.1 hx;clear hx;obtain⟨hB,bxq,bxx⟩:=op2 w [.int .i64 q.fVariableCount,.slice Aq_e nq_e cq_e] 50 [.int .i64 x.fKind,.int .i64 x.fAtom,.int .i64 x.fOrder] 173;have K1:=Lib.hid k1;clear k1;have K2:=Lib.hid k2;clear k2;have hnA:=hq_e.bound;have HL:=Lib.hid hq_e.len;have HV:=Lib.hid hv;clear hv;have hn4:nq_e<=4:=by have:=HL.out;have:=validQ_parts HV.out;omega
 have hnst:nst<=14:=by have:=hst.len;have:=hR.len;omega
 have hnl:nl<=14:=by have:=hl.len;omega
 have HN16:Hid (((2 ^ q.fAtoms.length:Nat):Int)<=16):=by
  show _<=_;have:=pow_le16 (n:=q.fAtoms.length) (by rw [HL.out];exact hn4);omega
 have HR:=Lib.hid hR;clear hR;clear hn14;obtain⟨wa,hwa⟩:∃ wa,wa=(w.alloc (.cells #[.int .i64 q.fVariableCount,.slice Aq_e nq_e cq_e] 50)).alloc (.cells #[.int .i64 x.fKind,.int .i64 x.fAtom,.int .i64 x.fOrder] 173):=⟨_,rfl⟩;rw [<- hwa]at hB bxq bxx;have hsa:wa.heap.size=w.heap.size+1+1:=by rw [hwa];simp
 have hBA:=(Below.refl wa.heap.size wa).alloc (Nat.le_refl _) (.cells #[.int .i64 0,.int .i64 0,.int .i64 0,.int .i64 0] 243);have bkR:=Bk.new wa [.int .i64 0,.int .i64 0,.int .i64 0,.int .i64 0] 243;replace hB:=hB.trans (hBA.mono hB.size);replace bxq:=bxq.below hBA;replace bxx:=bxx.below hBA;clear hBA;rw [hsa]at bkR;obtain⟨wb,hwb⟩:∃ wb,wb=wa.alloc (.cells #[.int .i64 0,.int .i64 0,.int .i64 0,.int .i64 0] 243):=⟨_,rfl⟩;rw [<- hwb]at hB bxq bxx bkR;clear hsa
 go_enter Tryz.func244,Tryz.ntmps244
 go_upto_region 1 with fail
 rw [<- hwa,<- hwb];clear hwa hwb;have kq_0:=bxq 0 _ rfl;have kq_1:=bxq 1 _ rfl;have kx_0:=bxx 0 _ rfl;have kx_1:=bxx 1 _ rfl;have kx_2:=bxx 2 _ rfl;have HRS:=Lib.hid hst;clear hst;have HRL:=Lib.hid hl;clear hl;have kb1:(x.fKind==1)=false:=by simp [K1.out]
 have kb2:(x.fKind==2)=false:=by simp [K2.out]
 cases kk:inR x.fKind 3 5
 ·have h:=inR_f.1 kk
  have HS:Hid (stepInfo q x l st=none):=by
   show _=_;unfold stepInfo;rw [if_neg K1.out];by_cases a0:x.fAtom=0
   ·rw [if_neg (fun h=>h a0),if_neg K2.out,kk];rfl
   ·rw [if_pos a0]
  have kb3:(x.fKind==3)=false:=by simp;omega
  have kb4:(x.fKind==4)=false:=by simp;omega
  have kb5:(x.fKind==5)=false:=by simp;omega
  clear kk h;obtain⟨r0,f0,r1,f1,r2,f2,r3,f3⟩:=bkR.r4;go_wp2;have q:=bkR.s4;refine bodyPost_ret (v:=_) (by simp [results,Tryz.results244,go_sem,q];rfl) rfl ?_;exact⟨by rw [HS.out];rfl,(bls4 hB (le2 _) _ _ _ _)⟩
 have h:=inR_t.1 kk;obtain k|k|k:x.fKind=3\/x.fKind=4\/x.fKind=5:=by omega
 all_goals
  first|have kb3:(x.fKind==3)=true:=(by rw [k];rfl)|have kb3:(x.fKind==3)=false:=(by rw [k];rfl)
  first|have kb4:(x.fKind==4)=true:=(by rw [k];rfl)|have kb4:(x.fKind==4)=false:=(by rw [k];rfl)
  first|have kb5:(x.fKind==5)=true:=(by rw [k];rfl)|have kb5:(x.fKind==5)=false:=(by rw [k];rfl)
  first|have kn4:(x.fKind != 4)=true:=(by rw [k];rfl)|have kn4:(x.fKind != 4)=false:=(by rw [k];rfl)
  have KK:=Lib.hid k;clear k h kk;by_cases a0:x.fAtom=0
  rotate_left
  ·have ab:(x.fAtom != 0)=true:=by simp [a0]
   have HS:Hid (stepInfo q x l st=none):=by show _=_;unfold stepInfo;rw [if_neg K1.out,if_pos a0]
   clear a0;obtain⟨r0,f0,r1,f1,r2,f2,r3,f3⟩:=bkR.r4;go_wp2;have q:=bkR.s4;refine bodyPost_ret (v:=_) (by simp [results,Tryz.results244,go_sem,q];rfl) rfl ?_;exact⟨by rw [HS.out];rfl,(bls4 hB (le2 _) _ _ _ _)⟩
  have ab:(x.fAtom != 0)=false:=by simp [a0]
  have A0:=Lib.hid a0;clear a0;by_cases hn1:nst<2
  ·have d1:decide ((nst:Int)<2)=true:=decide_eq_true (by omega)
   have HS:Hid (stepInfo q x l st=none):=by show _=_;unfold stepInfo;rw [if_neg K1.out,if_neg (fun h=>h A0.out),if_neg K2.out,decide_eq_false (show ¬ 2<=st.length by rw [HRS.out.len];omega),Bool.and_false,Bool.false_and];rfl
   obtain⟨r0,f0,r1,f1,r2,f2,r3,f3⟩:=bkR.r4;go_wp2;have q:=bkR.s4;refine bodyPost_ret (v:=_) (by simp [results,Tryz.results244,go_sem,q];rfl) rfl ?_;exact⟨by rw [HS.out];rfl,(bls4 hB (le2 _) _ _ _ _)⟩
  have d1:decide ((nst:Int)<2)=false:=decide_eq_false (by omega);obtain⟨t,ht⟩:∃ t,t+2=nst:=⟨nst - 2,by omega⟩;obtain⟨u,hu⟩:∃ u,u+1=nst:=⟨nst - 1,by omega⟩;obtain⟨j,y,bS,oS,bI,oI,tr⟩:=topRead HR.out HRS.out HRL.out (t:=t) (k:=2) ht (by omega);obtain⟨i,z,bS',oS',bI',oI',tz⟩:=topRead HR.out HRS.out HRL.out (t:=u) (k:=1) hu (by omega);have eq1:=tr.eS.symm.trans tz.eS;have eq2:=tr.eI.symm.trans tz.eI;injection eq1 with eq1;injection eq1 with eq1 eq3;subst eq1;subst eq3;injection eq2 with eq2;injection eq2 with eq2 eq4;subst eq2;subst eq4;have hj:=tr.hj;have hi:=tz.hj;have m0:=tr.m0;have m16:y.fMask<16:=by have:=tr.m1;have:=HN16.out;omega
  have n0:=tz.m0;have n16:z.fMask<16:=by have:=tz.m1;have:=HN16.out;omega
  have mj:IntKind.i64.wrap ((nst:Int) - 2)=(t:Int):=by rw [IntWalk.i64_in _ (by omega)];omega
  have mi:IntKind.i64.wrap ((nst:Int) - 1)=(u:Int):=by rw [IntWalk.i64_in _ (by omega)];omega
  have htn:t<nst:=by omega
  have hun:u<nst:=by omega
  have eS:=tr.eS;have eI:=tr.eI;subst eS;subst eI;have HTU:Hid (t+2=nst/\u+1=nst):=⟨ht,hu⟩;clear ht hu;have HJ:=Lib.hid (stepTail_of (q:=q) K1.out K2.out A0.out (by rw [HRS.out.len];omega) tr.yj tz.yj tr.tj tz.tj);have trb:=tr.below hB;have tzb:=tz.below hB;have cs1:=trb.cS;have cy0:=trb.c0;have cy1:=trb.c1;have cy2:=trb.c2;have cy3:=trb.c3;have cs2:=tzb.cS;have cz0:=tzb.c0;have cz1:=tzb.c1;have cz2:=tzb.c2;have cz3:=tzb.c3;have hrl:w.heap.size+1+1<wb.heap.size:=bkR.lt
  go_upto_region 17 with fail
  obtain⟨wc,hwc⟩:∃ W,W=wb.alloc (.cells #[.int .i64 y.fMask,.int .i64 y.fOrder,.int .i64 y.fLeft,.int .i64 y.fRight] 243):=⟨_,rfl⟩;have bkY:Bk wc wb.heap.size 243 [.int .i64 y.fMask,.int .i64 y.fOrder,.int .i64 y.fLeft,.int .i64 y.fRight]:=by rw [hwc];exact Bk.new wb _ _
  have hbc:Below wb.heap.size wb wc:=by rw [hwc];exact bal
  rw [<- hwc];clear hwc cs1 cy0 cy1 cy2 cy3 cs2 cz0 cz1 cz2 cz3;have tzc:=tzb.below hbc;have cs2:=tzc.cS;have cz0:=tzc.c0;have cz1:=tzc.c1;have cz2:=tzc.c2;have cz3:=tzc.c3
  go_upto_region 18 with fail
  obtain⟨wd,hwd⟩:∃ W,W=wc.alloc (.cells #[.int .i64 z.fMask,.int .i64 z.fOrder,.int .i64 z.fLeft,.int .i64 z.fRight] 243):=⟨_,rfl⟩;have bkZ:Bk wd wc.heap.size 243 [.int .i64 z.fMask,.int .i64 z.fOrder,.int .i64 z.fLeft,.int .i64 z.fRight]:=by rw [hwd];exact Bk.new wc _ _
  have hcd:Below wc.heap.size wc wd:=by rw [hwd];exact bal
  rw [<- hwd];clear hwd cs2 cz0 cz1 cz2 cz3;have hbd:Below wb.heap.size wb wd:=hbc.trans (hcd.mono hbc.size);replace bkY:=bkY.below hcd;have hBd:=hB.trans (hbd.mono hB.size);have RQ:=((rQuery_ok NB).keep rq (cells_below hBd.drew));have hlow:w.heap.size<=wd.drew.heap.size:=hBd.size;clear kx_0 kx_1 kx_2 kq_0 kq_1;have bxqd:=bxq.below hbd;have bxxd:=bxx.below hbd;have bkRd:=bkR.below hbd;have tyd:=trb.below hbd;have tzd:=tzc.below hcd
  have HYW:Hid (wb.heap.size<wd.heap.size/\wc.heap.size<wd.heap.size/\w.heap.size+1+1<wb.heap.size):=by
   show _/\_/\_;exact⟨bkY.lt,bkZ.lt,hrl⟩
  have HSS:Hid (∀ w',Below wd.heap.size wd w'->(w'.cell? ⟨w.heap.size,0,none⟩=some (.int .i64 q.fVariableCount)/\w'.cell? ⟨w.heap.size,1,none⟩=some (.slice Aq_e nq_e cq_e)/\w'.cell? ⟨wb.heap.size,0,none⟩=some (.int .i64 y.fMask)/\w'.cell? ⟨wc.heap.size,0,none⟩=some (.int .i64 z.fMask))):=by
   show ∀ w',_->_;intro w' hb;exact⟨(bxqd.below hb) 0 _ rfl,(bxqd.below hb) 1 _ rfl,(bkY.below hb).bx 0 _ rfl,(bkZ.below hb).bx 0 _ rfl⟩
  have BY:=Lib.hid (bitsQ_bd HV.out y.fMask);have BZ:=Lib.hid (bitsQ_bd HV.out z.fMask)
  have RV:Hid (∀ W,Below w.heap.size w W->(rQuery NB).rep W [.int .i64 q.fVariableCount,.slice Aq_e nq_e cq_e] q):=by
   show ∀ W,_->_;intro W hW;exact((rQuery_ok NB).keep rq (cells_below hW))
  have HBd:=Lib.hid hBd;clear RQ mj mi hbc hbd hcd tzc trb tzb bxq bxx bkR hB;go_wp2;refine hbg HSS.out (Below.refl _ _).drew (fun hH=>?_);refine tq2 0 hH ?_;simp only [putS];refine tq1 2 hH ?_;simp only [putS];refine tq2 4 hH ?_;simp only [putS];refine tq1 6 hH ?_;simp only [putS];refine rd 3 (some 137) fun K hK=>?_;clear hH;go_simp;refine(sL7Bits_c _ q y.fMask _ (RV.out _ HBd.out.drew) HV.out (by omega) (by omega)).mono ?_;rintro e we ⟨rfl,hbe⟩;have hC1:Below wd.heap.size wd we:=(Below.refl _ wd).drew.trans hbe
  go_wp2_with fail
  refine hK.out _ _ (HSS.out _ hC1) (fun hH=>?_);clear hK K
  try simp only [putS]
  refine rd 7 (some 141) fun K hK=>?_;clear hH;go_simp;refine(sL7Bits_c _ q z.fMask _ (RV.out _ (HBd.out.trans (hC1.mono HBd.out.size))) HV.out (by omega) (by omega)).mono ?_;rintro e wf ⟨rfl,hbf⟩;have hC:Below wd.heap.size wd wf:=hC1.trans (hbf.mono hC1.size)
  go_wp2_with fail
  refine hK.out _ _ (HSS.out _ hC) (fun hH=>?_);clear hK K
  try simp only [putS]
  have pB:=andI_bits (a:=bitsQ q.fAtoms y.fMask) (b:=bitsQ q.fAtoms z.fMask) BY.out.1 (by have:=BY.out;omega) BZ.out.1 (by have:=BZ.out;omega);refine tq2 8 hH ?_;simp only [putS];refine wpAnyH_done (by kernel_rfl) ?_ _;clear hH;clear hbe hbf hC1;obtain⟨V,hV⟩:∃ V,V=andI (bitsQ q.fAtoms y.fMask) (bitsQ q.fAtoms z.fMask):=⟨_,rfl⟩;rw [<- hV];clear pB
  have hV0:0<=V/\V<16:=by
   rw [hV];have h1:=Nat.and_lt_two_pow (x:=(bitsQ q.fAtoms y.fMask).toNat) (y:=(bitsQ q.fAtoms z.fMask).toNat) (n:=4) (by have:=BZ.out;omega)
   unfold andI;omega
  have hV1:=hV0.2;replace hV0:=hV0.1;have HVV:=Lib.hid hV;clear hV;have cy0:=(bkY.below hC).bx 0 _ rfl;have cy1:=(bkY.below hC).bx 1 _ rfl;have cz0:=(bkZ.below hC).bx 0 _ rfl;have cz1:=(bkZ.below hC).bx 1 _ rfl;have kx_0:=(bxxd.below hC) 0 _ rfl;have kx_2:=(bxxd.below hC) 2 _ rfl;have bkW:=bkRd.below hC;have hBW:=HBd.out.trans (hC.mono HBd.out.size);have pA:=andI_bits (a:=y.fMask) (b:=z.fMask) (by omega) (by omega) (by omega) (by omega);by_cases z1:andI y.fMask z.fMask=0
  rotate_left
  ·have zb:(andI y.fMask z.fMask != 0)=true:=by simp [z1]
   have HS:Hid (stepInfo q x l st=none):=by show _=_;rw [HJ.out,if_neg];unfold joinOk;rw [decide_eq_false z1];simp
   clear z1;obtain⟨r0,f0,r1,f1,r2,f2,r3,f3⟩:=bkW.r4;go_wp2;have q:=bkW.s4;refine bodyPost_ret (v:=_) (by simp [results,Tryz.results244,go_sem,q];rfl) rfl ?_;exact⟨by rw [HS.out];rfl,(bls4 hBW (le2 _) _ _ _ _)⟩
  have zb:(andI y.fMask z.fMask != 0)=false:=by simp [z1]
  have Z1:=Lib.hid z1;clear z1;by_cases v1:V=0
  ·have vb:(V==0)=true:=by simp [v1]
   have HS:Hid (stepInfo q x l st=none):=by show _=_;rw [HJ.out,if_neg];unfold joinOk;rw [<- HVV.out,decide_eq_false (show ¬ ¬ V=0 from fun h=>h v1)];simp
   clear v1;obtain⟨r0,f0,r1,f1,r2,f2,r3,f3⟩:=bkW.r4;go_wp2;have q:=bkW.s4;refine bodyPost_ret (v:=_) (by simp [results,Tryz.results244,go_sem,q];rfl) rfl ?_;exact⟨by rw [HS.out];rfl,(bls4 hBW (le2 _) _ _ _ _)⟩
  have vb:(V==0)=false:=by simp [v1]
  have HOK:Hid (joinOk q y z=true):=by show _=_;unfold joinOk;rw [<- HVV.out,decide_eq_true Z1.out,decide_eq_true v1];rfl
  clear v1;by_cases o1:x.fKind=4\/x.fOrder=0
  rotate_left
  ·try exact absurd (Or.inl KK.out) o1
   all_goals
    have ob:(x.fOrder != 0)=true:=by simp;omega
    have HS:Hid (stepInfo q x l st=none):=by
     show _=_;rw [HJ.out,if_pos HOK.out];unfold stepTail;rw [if_neg (fun h=>o1 (.inl h))];split
     ·exact if_neg (fun h=>o1 (.inr h))
     ·rfl
    clear o1;obtain⟨r0,f0,r1,f1,r2,f2,r3,f3⟩:=bkW.r4;go_wp2;have q:=bkW.s4;refine bodyPost_ret (v:=_) (by simp [results,Tryz.results244,go_sem,q];rfl) rfl ?_;exact⟨by rw [HS.out];rfl,(bls4 hBW (le2 _) _ _ _ _)⟩
  try have ob:(x.fOrder != 0)=false:=by have:=KK.out;simp;omega
  have O1:=Lib.hid o1;clear o1;go_wp2;clear pA zb vb;have mj:IntKind.i64.wrap ((nst:Int) - 2)=(t:Int):=by rw [IntWalk.i64_in _ (by omega)];have:=HTU.out;omega
  have mi:IntKind.i64.wrap ((nst:Int) - 1)=(u:Int):=by rw [IntWalk.i64_in _ (by omega)];have:=HTU.out;omega
  have pO:=orI_bits (a:=y.fMask) (b:=z.fMask) (by omega) (by omega) (by omega) (by omega)
  have HS2:Hid (∀ w',Below wf.heap.size wf w'->(w'.cell? ⟨wb.heap.size,0,none⟩=some (.int .i64 y.fMask)/\w'.cell? ⟨wc.heap.size,0,none⟩=some (.int .i64 z.fMask)/\w'.cell? ⟨bS,oS+t,none⟩=some (.int .i64 j)/\w'.cell? ⟨bS,oS+u,none⟩=some (.int .i64 i))):=by
   show ∀ w',_->_;intro w' hb;exact⟨cells_below hb _ _ cy0,cells_below hb _ _ cz0,((tyd.below hC).below hb).cS,((tzd.below hC).below hb).cS⟩
  refine hbg HS2.out (Below.refl _ _).drew (fun hH=>?_);refine tq2 0 hH ?_;simp only [putS];refine tq2 2 hH ?_;simp only [putS];refine tq2 4 hH ?_;simp only [putS];refine tq2 6 hH ?_;simp only [putS];refine tq2 8 hH ?_;simp only [putS];refine tq2 10 hH ?_;simp only [putS];refine tq2 12 hH ?_;simp only [putS];refine tq2 14 hH ?_;simp only [putS];refine rd 16 (some 14) fun K hK=>?_;clear hH;go_simp;refine hK.out _ _ (HS2.out _ ((Below.refl wf.heap.size wf).alloc (Nat.le_refl _) _).drew) (fun hH=>?_);clear hK K
  try simp only [putS]
  refine rd 17 none fun K hK=>?_;clear hH;go_simp;refine hK.out _ _ (HS2.out _ ((Below.refl wf.heap.size wf).alloc (Nat.le_refl _) _).drew) (fun hH=>?_);clear hK K
  try simp only [putS]
  refine wpAnyH_done (by kernel_rfl) ?_ _;clear hH;obtain⟨wg,hwg⟩:∃ W,W=(wf.alloc (.cells #[.int .i64 (orI y.fMask z.fMask),.int .i64 (-1),.int .i64 j,.int .i64 i] 243)).drew:=⟨_,rfl⟩;have bkN:Bk wg wf.heap.size 243 [.int .i64 (orI y.fMask z.fMask),.int .i64 (-1),.int .i64 j,.int .i64 i]:=by rw [hwg];exact Bk.new wf _ _
  have hgd:Below wf.heap.size wf wg:=by rw [hwg];exact(bal).drew
  rw [<- hwg];clear hwg mj mi pO cy0 cy1 cz0 cz1 kx_0 kx_2;have kx_0:=((bxxd.below hC).below hgd) 0 _ rfl;have kx_2:=((bxxd.below hC).below hgd) 2 _ rfl;have cy1:=((bkY.below hC).below hgd).bx 1 _ rfl;have cz1:=((bkZ.below hC).below hgd).bx 1 _ rfl;have bkV:=bkW.below hgd;have hBV:=hBW.trans (hgd.mono hBW.size);have HRN:Hid (w.heap.size+1+1≠wf.heap.size/\w.heap.size<=wf.heap.size):=by show _/\_;have:=bkW.lt;omega
 ·have HS:Hid (stepInfo q x l st=some (⟨orI y.fMask z.fMask,-1,(j:Int),(i:Int)⟩,2)):=by
   have o:x.fOrder=0:=by have:=O1.out;have:=KK.out;omega
   show _=_;rw [HJ.out,if_pos HOK.out];unfold stepTail;rw [KK.out,o];simp [inR]
  obtain⟨r0,f0,r1,f1,r2,f2,r3,f3⟩:=bkV.r4;obtain⟨n0,n1,n2,n3⟩:=bkN.bx.b4;go_wp2;have q:=bkV.s4;refine bodyPost_ret (v:=_) (by simp [results,Tryz.results244,go_sem,q];rfl) rfl ?_;exact⟨by rw [HS.out];rfl,(bls4 hBV (le2 _) _ _ _ _)⟩
 ·replace HJ:Hid (stepInfo q x l st=if hasV q.fAtoms y.fMask x.fOrder&&hasV q.fAtoms z.fMask x.fOrder&&decide (y.fOrder=x.fOrder)&&decide (z.fOrder=x.fOrder) then some (⟨orI y.fMask z.fMask,x.fOrder,(j:Int),(i:Int)⟩,2) else none):=by show _=_;rw [HJ.out,if_pos HOK.out];unfold stepTail;rw [if_pos KK.out]
  have HIB:=Lib.hid (inBits_and HV.out y.fMask z.fMask x.fOrder);cases hh:(hasV q.fAtoms y.fMask x.fOrder&&hasV q.fAtoms z.fMask x.fOrder)
  ·have KI:Hid (inBits V x.fOrder=false):=by show _=_;rw [HVV.out,HIB.out,hh]
   have HS:Hid (stepInfo q x l st=none):=by show _=_;rw [HJ.out,hh,Bool.false_and,Bool.false_and];rfl
   clear hh;obtain⟨r0,f0,r1,f1,r2,f2,r3,f3⟩:=bkV.r4
   go_wp2_with (go_at_call 248;refine(sL23In_v KI.out hV0 hV1 _).mono ?_;rintro e w' ⟨rfl,hww⟩;replace hww:=hww.symm;subst hww)
   have q:=bkV.s4;refine bodyPost_ret (v:=_) (by simp [results,Tryz.results244,go_sem,q];rfl) rfl ?_;exact⟨by rw [HS.out];rfl,(bls4 hBV (le2 _) _ _ _ _)⟩
  have KI:Hid (inBits V x.fOrder=true):=by show _=_;rw [HVV.out,HIB.out,hh]
  by_cases o1:y.fOrder=x.fOrder
  rotate_left
  ·have ob:(y.fOrder != x.fOrder)=true:=by simp [o1]
   have HS:Hid (stepInfo q x l st=none):=by show _=_;rw [HJ.out,hh,decide_eq_false o1,Bool.and_false,Bool.false_and];rfl
   clear hh o1;obtain⟨r0,f0,r1,f1,r2,f2,r3,f3⟩:=bkV.r4
   go_wp2_with (go_at_call 248;refine(sL23In_v KI.out hV0 hV1 _).mono ?_;rintro e w' ⟨rfl,hww⟩;replace hww:=hww.symm;subst hww)
   have q:=bkV.s4;refine bodyPost_ret (v:=_) (by simp [results,Tryz.results244,go_sem,q];rfl) rfl ?_;exact⟨by rw [HS.out];rfl,(bls4 hBV (le2 _) _ _ _ _)⟩
  have ob:(y.fOrder != x.fOrder)=false:=by simp [o1]
  by_cases o2:z.fOrder=x.fOrder
  rotate_left
  ·have oc:(z.fOrder != x.fOrder)=true:=by simp [o2]
   have HS:Hid (stepInfo q x l st=none):=by show _=_;rw [HJ.out,hh,decide_eq_false o2,Bool.and_false];rfl
   clear hh o1 o2;obtain⟨r0,f0,r1,f1,r2,f2,r3,f3⟩:=bkV.r4
   go_wp2_with (go_at_call 248;refine(sL23In_v KI.out hV0 hV1 _).mono ?_;rintro e w' ⟨rfl,hww⟩;replace hww:=hww.symm;subst hww)
   have q:=bkV.s4;refine bodyPost_ret (v:=_) (by simp [results,Tryz.results244,go_sem,q];rfl) rfl ?_;exact⟨by rw [HS.out];rfl,(bls4 hBV (le2 _) _ _ _ _)⟩
  have oc:(z.fOrder != x.fOrder)=false:=by simp [o2]
  have HS:Hid (stepInfo q x l st=some (⟨orI y.fMask z.fMask,x.fOrder,(j:Int),(i:Int)⟩,2)):=by show _=_;rw [HJ.out,hh,decide_eq_true o1,decide_eq_true o2];rfl
  clear hh o1 o2;obtain⟨n0,n1,n2,n3⟩:=bkN.bx.b4;have g1:=bkN.frozen 1
  go_upto_region 28 with (go_at_call 248;refine(sL23In_v KI.out hV0 hV1 _).mono ?_;rintro e w' ⟨rfl,hww⟩;replace hww:=hww.symm;subst hww)
  have bkM:=bkN.set 1 (.int .i64 x.fOrder);have bkU:=bkV.setNe (k:=wf.heap.size) (j:=1) (v:=.int .i64 x.fOrder) HRN.out.1;have hBU:=hBV.setCell (p:=⟨wf.heap.size,1,none⟩) HRN.out.2 (.int .i64 x.fOrder);obtain⟨wh,hwh⟩:∃ W,W=wg.setCell ⟨wf.heap.size,1,none⟩ (.int .i64 x.fOrder):=⟨_,rfl⟩;rw [<- hwh]at bkM bkU hBU ⊢;clear hwh n0 n1 n2 n3 g1;obtain⟨r0,f0,r1,f1,r2,f2,r3,f3⟩:=bkU.r4;obtain⟨n0,n1,n2,n3⟩:=bkM.bx.b4;go_wp2;have q:=bkU.s4;refine bodyPost_ret (v:=_) (by simp [results,Tryz.results244,go_sem,q];rfl) rfl ?_;exact⟨by rw [HS.out];rfl,(bls4 hBU (le2 _) _ _ _ _)⟩
 ·have HS:Hid (stepInfo q x l st=some (⟨orI y.fMask z.fMask,y.fOrder,(j:Int),(i:Int)⟩,2)):=by
   have o:x.fOrder=0:=by have:=O1.out;have:=KK.out;omega
   show _=_;rw [HJ.out,if_pos HOK.out];unfold stepTail;rw [KK.out,o];simp [inR]
  obtain⟨n0,n1,n2,n3⟩:=bkN.bx.b4;have g1:=bkN.frozen 1
  go_upto_region 24 with fail
  have bkM:=bkN.set 1 (.int .i64 y.fOrder);have bkU:=bkV.setNe (k:=wf.heap.size) (j:=1) (v:=.int .i64 y.fOrder) HRN.out.1;have hBU:=hBV.setCell (p:=⟨wf.heap.size,1,none⟩) HRN.out.2 (.int .i64 y.fOrder);obtain⟨wh,hwh⟩:∃ W,W=wg.setCell ⟨wf.heap.size,1,none⟩ (.int .i64 y.fOrder):=⟨_,rfl⟩;rw [<- hwh]at bkM bkU hBU ⊢;have kx_0':wh.cell? ⟨w.heap.size+1,0,none⟩=some (.int .i64 x.fKind):=by rw [hwh];exact(Bx.setNe (((bxxd.below hC).below hgd)) (by have:=HRN.out;have:=bkW.lt;omega)) 0 _ rfl
  clear hwh kx_0 n0 n1 n2 n3 g1;obtain⟨r0,f0,r1,f1,r2,f2,r3,f3⟩:=bkU.r4;obtain⟨n0,n1,n2,n3⟩:=bkM.bx.b4;go_wp2;have q:=bkU.s4;refine bodyPost_ret (v:=_) (by simp [results,Tryz.results244,go_sem,q];rfl) rfl ?_;exact⟨by rw [HS.out];rfl,(bls4 hBU (le2 _) _ _ _ _)⟩
theorem sL23Step_c (csq:List Value) (q:QueryD) (csx:List Value) (x:PlanStepD) (Al:Option Addr) (nl cl:Nat) (l:List StepInfoD) (Ast:Option Addr) (nst cst:Nat) (st:List Int) (w:World) (hq:(rQuery NB).rep w csq q) (hx:(rPlanStep NB).rep w csx x) (hl:RS NB (rStepInfo NB) w Al nl cl l) (hst:RS NB rInt w Ast nst cst st) (hv:validQ q=true) (hR:Run q.fAtoms.length l st) (hn14:l.length<=14) :
  Calls Tryz.prog 244 #[.agg csq.toArray,.agg csx.toArray,.slice Al nl cl,.slice Ast nst cst] w fun e w'=>e=.returned (stepVal (stepInfo q x l st))/\Below w.heap.size w w':=by
 by_cases k1:x.fKind=1
 ·exact sL23Scan_c _ q _ x _ _ _ l _ _ _ st w hq hx hl hst hv hR hn14 k1
 by_cases k2:x.fKind=2
 ·exact sL23Sort_c _ q _ x _ _ _ l _ _ _ st w hq hx hl hst hv hR hn14 k1 k2
 ·exact sL23Rest_c _ q _ x _ _ _ l _ _ _ st w hq hx hl hst hv hR hn14 k1 k2
end Go.Proofs.YtnlcfkpcmfljeaaGreat
