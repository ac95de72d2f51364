/-
  Vbp
-/
import Derived.Test.YtnlcfkpcmfljeaaGreatPm
set_option linter.unusedSimpArgs false
set_option linter.unusedVariables false
set_option maxHeartbeats 1600000
set_option maxRecDepth 100000
namespace Go.Proofs.YtnlcfkpcmfljeaaGreat
open Go.RowKit
theorem fullMask_bd (q:QueryD):0<=fullMask q/\fullMask q<=15:=by
 unfold fullMask;split
 ·rename_i h
  have:=pow_le16 (validQ_parts h).2.2.2.1;have:1<=(2:Nat) ^ q.fAtoms.length:=Nat.one_le_two_pow;omega
 ·omega
theorem fullMask_pos {q:QueryD}:(fullMask q=0)↔validQ q=false:=by
 unfold fullMask;cases h:validQ q
 ·simp
 ·simp only [if_true]
  have h1:=(validQ_parts h).2.2.1;have:(2:Nat) ^ 1<=2 ^ q.fAtoms.length:=Nat.pow_le_pow_right (by omega) h1;simp only [Bool.true_eq_false,iff_false];omega
def bqHead (q:QueryD) (b:BouquetD):Bool:=inR b.fVersion 1 999&&inR b.fRatio 2 8&&inR b.fSlack 0 100&&inR (boxVol b.fBox) 1 400&&decide ((b.fBox.fLow.length:Int)=fullMask q+1)
def budOk (r:Int) (l:List Int) (k:Nat):Bool:=match l[k]? with
 | some x=>inR x 1 500000000000&&(decide (k=0)||match l[k - 1]? with
  | some y=>decide (x=r*y)
  | none=>true)
 | none=>true
def conOk (n:Int) (l:List Int):Bool:=decide (0<l.length)&&(List.range l.length).all (varOk n l)
def planFull (q:QueryD) (p:PlanD):Bool:=decide (planMask q p=fullMask q)
def validBouquet (q:QueryD) (b:BouquetD):Bool:=validQ q&&bqHead q b&&b.fPlans.all (planFull q)&&(List.range b.fBudgets.length).all (budOk b.fRatio b.fBudgets)&&b.fContours.all (conOk (b.fPlans.length:Int))&&decide (0<b.fBudgets.length)&&decide (b.fContours.length=b.fBudgets.length)
theorem vb_q {q:QueryD}{b:BouquetD}(h:validQ q=false):validBouquet q b=false:=by simp [validBouquet,h]
theorem vb_head {q:QueryD}{b:BouquetD}(h:bqHead q b=false):validBouquet q b=false:=by simp [validBouquet,h]
theorem vb_plan {q:QueryD}{b:BouquetD}{k:Nat}{p:PlanD}(h:b.fPlans[k]?=some p) (hp:planFull q p=false):validBouquet q b=false:=by
 have:b.fPlans.all (planFull q)=false:=by rw [List.all_eq_false];exact⟨p,mem_of_at h,by simp [hp]⟩
 simp [validBouquet,this]
theorem vb_bud {q:QueryD}{b:BouquetD}{k:Nat}(hk:k<b.fBudgets.length) (h:budOk b.fRatio b.fBudgets k=false):validBouquet q b=false:=by
 have:(List.range b.fBudgets.length).all (budOk b.fRatio b.fBudgets)=false:=by rw [List.all_eq_false];exact⟨k,List.mem_range.2 hk,by simp [h]⟩
 simp [validBouquet,this]
theorem vb_con {q:QueryD}{b:BouquetD}{k:Nat}{l:List Int}(h:b.fContours[k]?=some l) (hl:conOk (b.fPlans.length:Int) l=false):validBouquet q b=false:=by
 have:b.fContours.all (conOk (b.fPlans.length:Int))=false:=by rw [List.all_eq_false];exact⟨l,mem_of_at h,by simp [hl]⟩
 simp [validBouquet,this]
theorem vb_len {q:QueryD}{b:BouquetD}(h:b.fBudgets.length=0\/¬ b.fContours.length=b.fBudgets.length):validBouquet q b=false:=by
 unfold validBouquet;rcases h with h|h
 ·rw [h];simp
 ·rw [decide_eq_false h];simp
theorem vb_end {q:QueryD}{b:BouquetD}(h1:validQ q=true) (h2:bqHead q b=true) (h3:b.fPlans.all (planFull q)=true) (h4:(List.range b.fBudgets.length).all (budOk b.fRatio b.fBudgets)=true) (h5:b.fContours.all (conOk (b.fPlans.length:Int))=true):validBouquet q b=(decide (0<b.fBudgets.length)&&decide (b.fContours.length=b.fBudgets.length)):=by
 unfold validBouquet;rw [h1,h2,h3,h4,h5];simp only [Bool.true_and]
theorem budOk_out {r:Int}{l:List Int}{k:Nat}{x:Int}(h:l[k]?=some x) (hx:inR x 1 500000000000=false):budOk r l k=false:=by simp [budOk,h,hx]
theorem budOk_first {r:Int}{l:List Int}{x:Int}(h:l[0]?=some x) (hx:inR x 1 500000000000=true):budOk r l 0=true:=by simp [budOk,h,hx]
theorem budOk_next {r:Int}{l:List Int}{k j:Nat}{x y:Int}(h:l[k]?=some x) (hj:j+1=k) (hy:l[j]?=some y) (hx:inR x 1 500000000000=true):budOk r l k=decide (x=r*y):=by
 have e:k - 1=j:=by omega
 have:¬ k=0:=by omega
 simp [budOk,h,hx,e,hy,this]
theorem budOk_at {r:Int}{l:List Int}{k j:Nat}{y:Int}(h:(List.range k).all (budOk r l)=true) (hj:j<k) (hy:l[j]?=some y):1<=y/\y<=500000000000:=by
 rw [List.all_eq_true]at h;have:=h j (List.mem_range.2 hj);simp only [budOk,hy,Bool.and_eq_true]at this;exact inR_t.1 this.1
theorem bqHead_parts {q:QueryD}{b:BouquetD}(h:bqHead q b=true):(2<=b.fRatio/\b.fRatio<=8)/\(0<=b.fSlack/\b.fSlack<=100)/\validBox b.fBox=true/\(b.fBox.fLow.length:Int)=fullMask q+1:=by
 unfold bqHead at h;simp only [Bool.and_eq_true,decide_eq_true_eq]at h;obtain⟨⟨⟨⟨h1,h2⟩,h3⟩,h4⟩,h5⟩:=h;refine⟨inR_t.1 h2,inR_t.1 h3,?_,h5⟩;cases hv:validBox b.fBox
 ·simp [boxVol,hv,inR]at h4
 ·rfl
theorem boxVol_bd (x:BoxD):0<=boxVol x/\boxVol x<=401:=by
 unfold boxVol;cases hv:validBox x
 ·simp
 ·simp only [if_true]
  have:=(prod_bd (widths_mem hv)).1;unfold volume;omega
theorem RS.planP {M:Nat}{w:World}{A:Option Addr}{n cap:Nat}{l:List PlanD}(h:RS M (rPlan NB) w A n cap l) {k:Nat}(hk:k<n) :
  ∃ b off x Ar nr cr,A=some ⟨b,off,none⟩/\w.cell? ⟨b,off+k,none⟩=some (.slice Ar nr cr)/\RS NB (rPlanStep NB) w Ar nr cr x.fSteps/\Hid (l[k]?=some x):=by
 obtain⟨b,off,x,cs,e,hrep,hc,hx⟩:=h.at_ hk;obtain⟨A1,n1,c1,rfl,h1⟩:=rPlan_rep.1 hrep;exact⟨b,off,x,A1,n1,c1,e,by simpa [rPlan_size]using hc 0 _ rfl,h1,hx⟩
theorem vb_ref {q:QueryD}{b:BouquetD}(h2:bqHead q b=true) (hl:0<b.fBudgets.length) (hc:b.fContours.length=b.fBudgets.length) (h3:b.fPlans.all (fun p=>planFull q p&&decide (¬ fullMask q=0))=true) (h4:(List.range b.fBudgets.length).all (budOk b.fRatio b.fBudgets)=true) (h5:b.fContours.all (conOk (b.fPlans.length:Int))=true):validBouquet q b=true:=by
 rw [List.all_eq_true]at h3 h5
 have hp:0<b.fPlans.length:=by
  have hx:b.fContours[0]?=some (b.fContours[0]'(by omega)):=List.getElem?_eq_getElem (by omega);have:=h5 _ (mem_of_at hx);unfold conOk at this;simp only [Bool.and_eq_true,decide_eq_true_eq,List.all_eq_true,List.mem_range]at this;have hv:=this.2 0 this.1;have hy:(b.fContours[0]'(by omega))[0]?=some ((b.fContours[0]'(by omega))[0]'this.1):=List.getElem?_eq_getElem this.1;simp only [varOk,hy,Bool.and_eq_true]at hv;have:=inR_t.1 hv.1;omega
 have h1:validQ q=true:=by
  have hx:b.fPlans[0]?=some (b.fPlans[0]'hp):=List.getElem?_eq_getElem hp;have:=h3 _ (mem_of_at hx);simp only [Bool.and_eq_true,decide_eq_true_eq]at this;cases hv:validQ q
  ·exact absurd (fullMask_pos.2 hv) this.2
  ·rfl
 rw [vb_end h1 h2 (by rw [List.all_eq_true];intro p hp;have:=h3 p hp;simp only [Bool.and_eq_true]at this;exact this.1) h4 (by rw [List.all_eq_true];exact h5),decide_eq_true hl,decide_eq_true hc];rfl
theorem vb_full {q:QueryD}{b:BouquetD}(h:fullMask q=0):validBouquet q b=false:=vb_q (fullMask_pos.1 h)
theorem conOk_no {n:Int}{l:List Int}(h:l.length=0):conOk n l=false:=by simp [conOk,h]
theorem conOk_bad {n:Int}{l:List Int}{k:Nat}(hk:k<l.length) (h:varOk n l k=false):conOk n l=false:=by
 have:(List.range l.length).all (varOk n l)=false:=by rw [List.all_eq_false];exact⟨k,List.mem_range.2 hk,by simp [h]⟩
 simp [conOk,this]
theorem conOk_end {n:Int}{l:List Int}(h:(List.range l.length).all (varOk n l)=true):conOk n l=decide (0<l.length):=by simp only [conOk,h,Bool.and_true]
theorem iDiff_c (A:Option Addr) (n cap:Nat) (l:List Int) (m:Nat) (w:World) (hr:RS NB rInt w A n cap l) (hm:m<=4294967296) :
  Calls Tryz.prog 225 #[.slice A n cap,.int .i64 m] w fun e w'=>e=.returned (.bool (conOk m l))/\w'=w:=by
 have hn:=hr.bound;have HL:=Lib.hid hr.len
 go_enter Tryz.func225,Tryz.ntmps225
 go_wp2
 go_loop [9] (fun i=>∃ k:Nat,k<=n/\i=.int .i64 k/\(List.range k).all (varOk (m:Int) l)=true) (fun i=>n - (intOf i).toNat)
 case atStart=>exact⟨0,Nat.zero_le _,rfl,rfl⟩
 case round =>
  obtain⟨k,hk,rfl,hall⟩:=hrel;have HA:=Lib.hid hall;clear hall;by_cases hlt:k<n
  ·obtain⟨b,off,y,rfl,hc,hI,hy⟩:=hr.ati hlt
   have Hy:=Lib.hid hy.out;clear hy;have hkL:k<l.length:=by rw [HL.out];exact hlt
   have hkc:k<=cap:=Nat.le_trans (Nat.le_of_lt hlt) hr.nc;have hTk:=hr.take (Nat.le_of_lt hlt);have m1:IntKind.i64.wrap ((m:Int) - 1)=(m:Int) - 1:=IntWalk.i64_in _ (by omega);cases c1:inR y 0 ((m:Int) - 1)
   ·have K1:=Lib.hid (fun W=>within_v c1 W)
    have HN:=Lib.hid (conOk_bad hkL (varOk_out Hy.out c1));clear c1
    go_wp2_with (go_at_call 89;refine(K1.out _).mono ?_;rintro e w' ⟨rfl,hww⟩;replace hww:=hww.symm;subst hww)
    go_ret;exact⟨ret_bool (a:=false) HN.out.symm,rfl⟩
   have K1:=Lib.hid (fun W=>within_v c1 W);cases c2:hasI (l.take k) y
   rotate_left
   ·have HN:=Lib.hid (conOk_bad hkL (varOk_has Hy.out (vc:=(m:Int)) c2))
    have K2:=Lib.hid c2;clear c1 c2
    go_wp2_with (first|(go_at_call 89;refine(K1.out _).mono ?_;rintro e w' ⟨rfl,hww⟩;replace hww:=hww.symm;subst hww)|(go_at_call 195;refine(slicesContains_v K2.out hTk).mono ?_;rintro e w' ⟨rfl,hww⟩;replace hww:=hww.symm;subst hww))
    go_ret;exact⟨ret_bool (a:=false) HN.out.symm,rfl⟩
   have HV:=Lib.hid (varOk_yes Hy.out c1 c2);have K2:=Lib.hid c2;clear c1 c2
   go_wp2_with (first|(go_at_call 89;refine(K1.out _).mono ?_;rintro e w' ⟨rfl,hww⟩;replace hww:=hww.symm;subst hww)|(go_at_call 195;refine(slicesContains_v K2.out hTk).mono ?_;rintro e w' ⟨rfl,hww⟩;replace hww:=hww.symm;subst hww))
   clear m1;go_round
   case rel=>exact⟨k+1,by omega,by go_num,rngAll_snoc HA.out HV.out⟩
   case measure=>simp [intOf];omega
  ·have HE:=Lib.hid (conOk_end (n:=(m:Int)) (l:=l) (by rw [HL.out,show n=k by omega];exact HA.out))
   go_wp2;go_ret;exact⟨ret_bool (by rw [HE.out,HL.out]),rfl⟩
theorem iIsValidQuery_v {csx:List Value}{x:QueryD}{v:Bool}{w:World}(h:validQ x=v) (hx:(rQuery NB).rep w csx x):Calls Tryz.prog 139 #[.agg csx.toArray] w fun e w'=>e=.returned (.bool v)/\Below w.heap.size w w':=h▸iIsValidQuery_c csx x w hx
theorem mul_bd {a b:Int}(h1:2<=a) (h2:a<=8) (h3:1<=b) (h4:b<=500000000000):2<=a*b/\a*b<=4000000000000:=by
 have q1:=Int.mul_le_mul_of_nonneg_right h1 (show 0<=b by omega);have q2:=Int.mul_le_mul_of_nonneg_right h2 (show 0<=b by omega);omega
theorem iIsValidBouquet_c (csq:List Value) (q:QueryD) (csb:List Value) (b:BouquetD) (w:World) (hq:(rQuery NB).rep w csq q) (hb:(rBouquet NB).rep w csb b) :
  Calls Tryz.prog 172 #[.agg csq.toArray,.agg csb.toArray] w fun e w'=>e=.returned (.bool (validBouquet q b))/\Below w.heap.size w w':=by
 have rq:=hq;obtain⟨Aq_e,nq_e,cq_e,rfl,hq_p5,hq_e⟩:=rQuery_rep.1 hq;clear hq;have rb:=hb;obtain⟨Ab_i,nb_i,cb_i,Ab_h,nb_h,cb_h,Ab_k,nb_k,cb_k,Ab_a4,nb_a4,cb_a4,Ab_w,nb_w,cb_w,rfl,hb_r5,hb_f4,hb_v4,hb_i,hb_h,hb_k,hb_a4,hb_w⟩:=rBouquet_rep.1 hb;clear hb;obtain⟨hB,bxq,bxb⟩:=op2 w [.int .i64 q.fVariableCount,.slice Aq_e nq_e cq_e] 50 [.int .i64 b.fVersion,.int .i64 b.fRatio,.int .i64 b.fSlack,.slice Ab_i nb_i cb_i,.slice Ab_h nb_h cb_h,.slice Ab_k nb_k cb_k,.slice Ab_a4 nb_a4 cb_a4,.slice Ab_w nb_w cb_w] 90;have hnP:=hb_a4.bound;have hnB:=hb_k.bound;have hnC:=hb_w.bound;have HLP:=Lib.hid hb_a4.len;have HLB:=Lib.hid hb_k.len
 have HLC:=Lib.hid hb_w.len;have HLL:=Lib.hid hb_i.len;have hnL:=hb_i.bound;have hfm:=fullMask_bd q;have hf0:=hfm.1;have hf1:=hfm.2;clear hfm;have hbv:=boxVol_bd b.fBox;have hbv0:=hbv.1;have hbv1:=hbv.2;clear hbv
 go_enter Tryz.func172,Tryz.ntmps172
 go_upto_region 1 with fail
 obtain⟨wb,hwb⟩:∃ W,W=(w.alloc (.cells #[.int .i64 q.fVariableCount,.slice Aq_e nq_e cq_e] 50)).alloc (.cells #[.int .i64 b.fVersion,.int .i64 b.fRatio,.int .i64 b.fSlack,.slice Ab_i nb_i cb_i,.slice Ab_h nb_h cb_h,.slice Ab_k nb_k cb_k,.slice Ab_a4 nb_a4 cb_a4,.slice Ab_w nb_w cb_w] 90):=⟨_,rfl⟩;rw [<- hwb]at hB bxq bxb ⊢;clear hwb
 have HS1:Hid (∀ w',Below wb.heap.size wb w'->(w'.cell? ⟨w.heap.size,0,none⟩=some (.int .i64 q.fVariableCount)/\w'.cell? ⟨w.heap.size,1,none⟩=some (.slice Aq_e nq_e cq_e)/\w'.cell? ⟨w.heap.size+1,0,none⟩=some (.int .i64 b.fVersion)/\w'.cell? ⟨w.heap.size+1,1,none⟩=some (.int .i64 b.fRatio)/\w'.cell? ⟨w.heap.size+1,2,none⟩=some (.int .i64 b.fSlack)/\w'.cell? ⟨w.heap.size+1,3,none⟩=some (.slice Ab_i nb_i cb_i)/\w'.cell? ⟨w.heap.size+1,4,none⟩=some (.slice Ab_h nb_h cb_h))):=by
  show ∀ w',_->_;intro w' hc;exact⟨(bxq.below hc) 0 _ rfl,(bxq.below hc) 1 _ rfl,(bxb.below hc) 0 _ rfl,(bxb.below hc) 1 _ rfl,(bxb.below hc) 2 _ rfl,(bxb.below hc) 3 _ rfl,(bxb.below hc) 4 _ rfl⟩
 have RQ:Hid (∀ W,Below w.heap.size w W->(rQuery NB).rep W [.int .i64 q.fVariableCount,.slice Aq_e nq_e cq_e] q):=by
  show ∀ W,_->_;intro W hW;exact((rQuery_ok NB).keep rq (cells_below hW))
 have RB:Hid (∀ W,Below w.heap.size w W->(rBox NB).rep W [.slice Ab_i nb_i cb_i,.slice Ab_h nb_h cb_h] b.fBox):=by
  show ∀ W,_->_;intro W hW;exact(rBox_rep.2 ⟨Ab_i,nb_i,cb_i,Ab_h,nb_h,cb_h,rfl,hb_i.below rInt_ok hW,hb_h.below rInt_ok hW⟩)
 have HB0:=Lib.hid hB;cases hh0:validQ q
 ·have E1:=Lib.hid hh0
  have HN:=Lib.hid (show validBouquet q b=false from vb_q E1.out);clear hh0;go_wp2;refine hbg HS1.out (Below.refl _ _).drew (fun hH=>?_);refine tq1 0 hH ?_;simp only [putS];refine rd 1 (some 12) fun K hK=>?_;clear hH;go_simp;refine(iIsValidQuery_v E1.out (RQ.out _ (HB0.out.trans (Below.mono (Below.refl wb.heap.size wb).drew HB0.out.size)))).mono ?_;rintro e w1 ⟨rfl,hb1⟩;have hC1:Below wb.heap.size wb w1:=Below.trans (Below.refl wb.heap.size wb).drew hb1
  go_wp2_with fail
  refine hK.out _ _ (HS1.out _ hC1) (fun hH=>?_);clear hK K
  try simp only [putS]
  refine tq2 2 hH ?_;simp only [putS];refine tr4 4 hH ?_;simp only [putS];refine tq2 8 hH ?_;simp only [putS];refine tr4 10 hH ?_;simp only [putS];refine tq2 14 hH ?_;simp only [putS];refine tr4 16 hH ?_;simp only [putS];refine tq2 20 hH ?_;simp only [putS];refine tr4 22 hH ?_;simp only [putS];refine tr1 26 hH ?_;refine tq2 27 hH ?_;simp only [putS];refine tr4 29 hH ?_;simp only [putS];refine tr4 33 hH ?_;simp only [putS];refine tq1 37 hH ?_;simp only [putS];refine wpAnyH_done (by kernel_rfl) ?_ _;clear hH;go_wp2;go_ret;exact⟨ret_bool (a:=false) HN.out.symm,HB0.out.trans (Below.mono hC1 HB0.out.size)⟩
 have E1:=Lib.hid hh0;clear hh0;cases hh1:inR b.fVersion 1 999
 ·have C2:=Lib.hid hh1
  have K2:=Lib.hid (fun W=>within_v hh1 W);have HN:=Lib.hid (show validBouquet q b=false from vb_head (by simp [bqHead,C2.out]));clear hh1;go_wp2;refine hbg HS1.out (Below.refl _ _).drew (fun hH=>?_);refine tq1 0 hH ?_;simp only [putS];refine rd 1 (some 12) fun K hK=>?_;clear hH;go_simp;refine(iIsValidQuery_v E1.out (RQ.out _ (HB0.out.trans (Below.mono (Below.refl wb.heap.size wb).drew HB0.out.size)))).mono ?_;rintro e w1 ⟨rfl,hb1⟩;have hC1:Below wb.heap.size wb w1:=Below.trans (Below.refl wb.heap.size wb).drew hb1
  go_wp2_with fail
  refine hK.out _ _ (HS1.out _ hC1) (fun hH=>?_);clear hK K
  try simp only [putS]
  refine tq4 2 hH ?_;simp only [putS];refine rd 6 (some 17) fun K hK=>?_;clear hH;go_simp;refine(K2.out _).mono ?_;rintro e w' ⟨rfl,hww⟩;replace hww:=hww.symm;subst hww
  go_wp2_with fail
  refine hK.out _ _ (HS1.out _ hC1) (fun hH=>?_);clear hK K
  try simp only [putS]
  refine tq2 7 hH ?_;refine tq1 9 hH ?_;simp only [putS];refine tr4 10 hH ?_;simp only [putS];refine tq2 14 hH ?_;simp only [putS];refine tr4 16 hH ?_;simp only [putS];refine tq2 20 hH ?_;simp only [putS];refine tr4 22 hH ?_;simp only [putS];refine tr1 26 hH ?_;refine tq2 27 hH ?_;simp only [putS];refine tr4 29 hH ?_;simp only [putS];refine tr4 33 hH ?_;simp only [putS];refine tq1 37 hH ?_;simp only [putS];refine wpAnyH_done (by kernel_rfl) ?_ _;clear hH;go_wp2;go_ret;exact⟨ret_bool (a:=false) HN.out.symm,HB0.out.trans (Below.mono hC1 HB0.out.size)⟩
 have C2:=Lib.hid hh1;have K2:=Lib.hid (fun W=>within_v hh1 W);clear hh1;cases hh2:inR b.fRatio 2 8
 ·have C3:=Lib.hid hh2
  have K3:=Lib.hid (fun W=>within_v hh2 W);have HN:=Lib.hid (show validBouquet q b=false from vb_head (by simp [bqHead,C3.out]));clear hh2;go_wp2;refine hbg HS1.out (Below.refl _ _).drew (fun hH=>?_);refine tq1 0 hH ?_;simp only [putS];refine rd 1 (some 12) fun K hK=>?_;clear hH;go_simp;refine(iIsValidQuery_v E1.out (RQ.out _ (HB0.out.trans (Below.mono (Below.refl wb.heap.size wb).drew HB0.out.size)))).mono ?_;rintro e w1 ⟨rfl,hb1⟩;have hC1:Below wb.heap.size wb w1:=Below.trans (Below.refl wb.heap.size wb).drew hb1
  go_wp2_with fail
  refine hK.out _ _ (HS1.out _ hC1) (fun hH=>?_);clear hK K
  try simp only [putS]
  refine tq4 2 hH ?_;simp only [putS];refine rd 6 (some 17) fun K hK=>?_;clear hH;go_simp;refine(K2.out _).mono ?_;rintro e w' ⟨rfl,hww⟩;replace hww:=hww.symm;subst hww
  go_wp2_with fail
  refine hK.out _ _ (HS1.out _ hC1) (fun hH=>?_);clear hK K
  try simp only [putS]
  refine tq4 7 hH ?_;simp only [putS];refine tq1 11 hH ?_;simp only [putS];refine rd 12 (some 23) fun K hK=>?_;clear hH;go_simp;refine(K3.out _).mono ?_;rintro e w' ⟨rfl,hww⟩;replace hww:=hww.symm;subst hww
  go_wp2_with fail
  refine hK.out _ _ (HS1.out _ hC1) (fun hH=>?_);clear hK K
  try simp only [putS]
  refine tq2 13 hH ?_;refine tq1 15 hH ?_;simp only [putS];refine tr4 16 hH ?_;simp only [putS];refine tq2 20 hH ?_;simp only [putS];refine tr4 22 hH ?_;simp only [putS];refine tr1 26 hH ?_;refine tq2 27 hH ?_;simp only [putS];refine tr4 29 hH ?_;simp only [putS];refine tr4 33 hH ?_;simp only [putS];refine tq1 37 hH ?_;simp only [putS];refine wpAnyH_done (by kernel_rfl) ?_ _;clear hH;go_wp2;go_ret;exact⟨ret_bool (a:=false) HN.out.symm,HB0.out.trans (Below.mono hC1 HB0.out.size)⟩
 have C3:=Lib.hid hh2;have K3:=Lib.hid (fun W=>within_v hh2 W);clear hh2;cases hh3:inR b.fSlack 0 100
 ·have C4:=Lib.hid hh3
  have K4:=Lib.hid (fun W=>within_v hh3 W);have HN:=Lib.hid (show validBouquet q b=false from vb_head (by simp [bqHead,C4.out]));clear hh3;go_wp2;refine hbg HS1.out (Below.refl _ _).drew (fun hH=>?_);refine tq1 0 hH ?_;simp only [putS];refine rd 1 (some 12) fun K hK=>?_;clear hH;go_simp;refine(iIsValidQuery_v E1.out (RQ.out _ (HB0.out.trans (Below.mono (Below.refl wb.heap.size wb).drew HB0.out.size)))).mono ?_;rintro e w1 ⟨rfl,hb1⟩;have hC1:Below wb.heap.size wb w1:=Below.trans (Below.refl wb.heap.size wb).drew hb1
  go_wp2_with fail
  refine hK.out _ _ (HS1.out _ hC1) (fun hH=>?_);clear hK K
  try simp only [putS]
  refine tq4 2 hH ?_;simp only [putS];refine rd 6 (some 17) fun K hK=>?_;clear hH;go_simp;refine(K2.out _).mono ?_;rintro e w' ⟨rfl,hww⟩;replace hww:=hww.symm;subst hww
  go_wp2_with fail
  refine hK.out _ _ (HS1.out _ hC1) (fun hH=>?_);clear hK K
  try simp only [putS]
  refine tq4 7 hH ?_;simp only [putS];refine tq1 11 hH ?_;simp only [putS];refine rd 12 (some 23) fun K hK=>?_;clear hH;go_simp;refine(K3.out _).mono ?_;rintro e w' ⟨rfl,hww⟩;replace hww:=hww.symm;subst hww
  go_wp2_with fail
  refine hK.out _ _ (HS1.out _ hC1) (fun hH=>?_);clear hK K
  try simp only [putS]
  refine tq4 13 hH ?_;simp only [putS];refine tq1 17 hH ?_;simp only [putS];refine rd 18 (some 29) fun K hK=>?_;clear hH;go_simp;refine(K4.out _).mono ?_;rintro e w' ⟨rfl,hww⟩;replace hww:=hww.symm;subst hww
  go_wp2_with fail
  refine hK.out _ _ (HS1.out _ hC1) (fun hH=>?_);clear hK K
  try simp only [putS]
  refine tq2 19 hH ?_;refine tq1 21 hH ?_;simp only [putS];refine tr4 22 hH ?_;simp only [putS];refine tr1 26 hH ?_;refine tq2 27 hH ?_;simp only [putS];refine tr4 29 hH ?_;simp only [putS];refine tr4 33 hH ?_;simp only [putS];refine tq1 37 hH ?_;simp only [putS];refine wpAnyH_done (by kernel_rfl) ?_ _;clear hH;go_wp2;go_ret;exact⟨ret_bool (a:=false) HN.out.symm,HB0.out.trans (Below.mono hC1 HB0.out.size)⟩
 have C4:=Lib.hid hh3;have K4:=Lib.hid (fun W=>within_v hh3 W);clear hh3;cases hh4:inR (boxVol b.fBox) 1 400
 ·have C5:=Lib.hid hh4
  have K5:=Lib.hid (fun W=>within_v hh4 W);have HN:=Lib.hid (show validBouquet q b=false from vb_head (by simp [bqHead,C5.out]));clear hh4;go_wp2;refine hbg HS1.out (Below.refl _ _).drew (fun hH=>?_);refine tq1 0 hH ?_;simp only [putS];refine rd 1 (some 12) fun K hK=>?_;clear hH;go_simp;refine(iIsValidQuery_v E1.out (RQ.out _ (HB0.out.trans (Below.mono (Below.refl wb.heap.size wb).drew HB0.out.size)))).mono ?_;rintro e w1 ⟨rfl,hb1⟩;have hC1:Below wb.heap.size wb w1:=Below.trans (Below.refl wb.heap.size wb).drew hb1
  go_wp2_with fail
  refine hK.out _ _ (HS1.out _ hC1) (fun hH=>?_);clear hK K
  try simp only [putS]
  refine tq4 2 hH ?_;simp only [putS];refine rd 6 (some 17) fun K hK=>?_;clear hH;go_simp;refine(K2.out _).mono ?_;rintro e w' ⟨rfl,hww⟩;replace hww:=hww.symm;subst hww
  go_wp2_with fail
  refine hK.out _ _ (HS1.out _ hC1) (fun hH=>?_);clear hK K
  try simp only [putS]
  refine tq4 7 hH ?_;simp only [putS];refine tq1 11 hH ?_;simp only [putS];refine rd 12 (some 23) fun K hK=>?_;clear hH;go_simp;refine(K3.out _).mono ?_;rintro e w' ⟨rfl,hww⟩;replace hww:=hww.symm;subst hww
  go_wp2_with fail
  refine hK.out _ _ (HS1.out _ hC1) (fun hH=>?_);clear hK K
  try simp only [putS]
  refine tq4 13 hH ?_;simp only [putS];refine tq1 17 hH ?_;simp only [putS];refine rd 18 (some 29) fun K hK=>?_;clear hH;go_simp;refine(K4.out _).mono ?_;rintro e w' ⟨rfl,hww⟩;replace hww:=hww.symm;subst hww
  go_wp2_with fail
  refine hK.out _ _ (HS1.out _ hC1) (fun hH=>?_);clear hK K
  try simp only [putS]
  refine tq4 19 hH ?_;simp only [putS];refine tq1 23 hH ?_;simp only [putS];refine rd 24 (some 35) fun K hK=>?_;clear hH;go_simp;refine(iBoxVolume_c _ b.fBox _ (RB.out _ (HB0.out.trans (Below.mono hC1 HB0.out.size)))).mono ?_;rintro e w2 ⟨rfl,hb2⟩;have hC2:Below wb.heap.size wb w2:=Below.trans hC1 (hb2.mono (Below.size hC1))
  go_wp2_with fail
  refine hK.out _ _ (HS1.out _ hC2) (fun hH=>?_);clear hK K
  try simp only [putS]
  refine rd 25 (some 36) fun K hK=>?_;clear hH;go_simp;refine(K5.out _).mono ?_;rintro e w' ⟨rfl,hww⟩;replace hww:=hww.symm;subst hww
  go_wp2_with fail
  refine hK.out _ _ (HS1.out _ hC2) (fun hH=>?_);clear hK K
  try simp only [putS]
  refine tq2 26 hH ?_;refine tq1 28 hH ?_;simp only [putS];refine tr4 29 hH ?_;simp only [putS];refine tr4 33 hH ?_;simp only [putS];refine tq1 37 hH ?_;simp only [putS];refine wpAnyH_done (by kernel_rfl) ?_ _;clear hH;go_wp2;go_ret;exact⟨ret_bool (a:=false) HN.out.symm,HB0.out.trans (Below.mono hC2 HB0.out.size)⟩
 have C5:=Lib.hid hh4;have K5:=Lib.hid (fun W=>within_v hh4 W);clear hh4;have m1:IntKind.i64.wrap (fullMask q+1)=fullMask q+1:=IntWalk.i64_in _ (by omega);by_cases hl:(nb_i:Int)=fullMask q+1
 rotate_left
 ·have lb:((nb_i:Int) != fullMask q+1)=true:=by simp [hl]
  have HN:=Lib.hid (show validBouquet q b=false from vb_head (by unfold bqHead;rw [HLL.out,decide_eq_false hl,Bool.and_false]));clear hl;go_wp2;refine hbg HS1.out (Below.refl _ _).drew (fun hH=>?_);refine tq1 0 hH ?_;simp only [putS];refine rd 1 (some 12) fun K hK=>?_;clear hH;go_simp;refine(iIsValidQuery_v E1.out (RQ.out _ (HB0.out.trans (Below.mono (Below.refl wb.heap.size wb).drew HB0.out.size)))).mono ?_;rintro e w1 ⟨rfl,hb1⟩;have hC1:Below wb.heap.size wb w1:=Below.trans (Below.refl wb.heap.size wb).drew hb1
  go_wp2_with fail
  refine hK.out _ _ (HS1.out _ hC1) (fun hH=>?_);clear hK K
  try simp only [putS]
  refine tq4 2 hH ?_;simp only [putS];refine rd 6 (some 17) fun K hK=>?_;clear hH;go_simp;refine(K2.out _).mono ?_;rintro e w' ⟨rfl,hww⟩;replace hww:=hww.symm;subst hww
  go_wp2_with fail
  refine hK.out _ _ (HS1.out _ hC1) (fun hH=>?_);clear hK K
  try simp only [putS]
  refine tq4 7 hH ?_;simp only [putS];refine tq1 11 hH ?_;simp only [putS];refine rd 12 (some 23) fun K hK=>?_;clear hH;go_simp;refine(K3.out _).mono ?_;rintro e w' ⟨rfl,hww⟩;replace hww:=hww.symm;subst hww
  go_wp2_with fail
  refine hK.out _ _ (HS1.out _ hC1) (fun hH=>?_);clear hK K
  try simp only [putS]
  refine tq4 13 hH ?_;simp only [putS];refine tq1 17 hH ?_;simp only [putS];refine rd 18 (some 29) fun K hK=>?_;clear hH;go_simp;refine(K4.out _).mono ?_;rintro e w' ⟨rfl,hww⟩;replace hww:=hww.symm;subst hww
  go_wp2_with fail
  refine hK.out _ _ (HS1.out _ hC1) (fun hH=>?_);clear hK K
  try simp only [putS]
  refine tq4 19 hH ?_;simp only [putS];refine tq1 23 hH ?_;simp only [putS];refine rd 24 (some 35) fun K hK=>?_;clear hH;go_simp;refine(iBoxVolume_c _ b.fBox _ (RB.out _ (HB0.out.trans (Below.mono hC1 HB0.out.size)))).mono ?_;rintro e w2 ⟨rfl,hb2⟩;have hC2:Below wb.heap.size wb w2:=Below.trans hC1 (hb2.mono (Below.size hC1))
  go_wp2_with fail
  refine hK.out _ _ (HS1.out _ hC2) (fun hH=>?_);clear hK K
  try simp only [putS]
  refine rd 25 (some 36) fun K hK=>?_;clear hH;go_simp;refine(K5.out _).mono ?_;rintro e w' ⟨rfl,hww⟩;replace hww:=hww.symm;subst hww
  go_wp2_with fail
  refine hK.out _ _ (HS1.out _ hC2) (fun hH=>?_);clear hK K
  try simp only [putS]
  refine tq4 26 hH ?_;simp only [putS];refine tq4 30 hH ?_;simp only [putS];refine rd 34 (some 45) fun K hK=>?_;clear hH;go_simp;refine(iFullMask_c _ q _ (RQ.out _ (HB0.out.trans (Below.mono hC2 HB0.out.size)))).mono ?_;rintro e w3 ⟨rfl,hb3⟩;have hC3:Below wb.heap.size wb w3:=Below.trans hC2 (hb3.mono (Below.size hC2))
  go_wp2_with fail
  refine hK.out _ _ (HS1.out _ hC3) (fun hH=>?_);clear hK K
  try simp only [putS]
  refine tq2 35 hH ?_;refine tq1 37 hH ?_;simp only [putS];refine wpAnyH_done (by kernel_rfl) ?_ _;clear hH;go_wp2;go_ret;exact⟨ret_bool (a:=false) HN.out.symm,HB0.out.trans (Below.mono hC3 HB0.out.size)⟩
 have lb:((nb_i:Int) != fullMask q+1)=false:=by simp [hl]
 have HHD:=Lib.hid (show bqHead q b=true by unfold bqHead;rw [HLL.out,decide_eq_true hl,C2.out,C3.out,C4.out,C5.out];rfl);clear hl;go_wp2;refine hbg HS1.out (Below.refl _ _).drew (fun hH=>?_);refine tq1 0 hH ?_;simp only [putS];refine rd 1 (some 12) fun K hK=>?_;clear hH;go_simp;refine(iIsValidQuery_v E1.out (RQ.out _ (HB0.out.trans (Below.mono (Below.refl wb.heap.size wb).drew HB0.out.size)))).mono ?_;rintro e w1 ⟨rfl,hb1⟩;have hC1:Below wb.heap.size wb w1:=Below.trans (Below.refl wb.heap.size wb).drew hb1
 go_wp2_with fail
 refine hK.out _ _ (HS1.out _ hC1) (fun hH=>?_);clear hK K
 try simp only [putS]
 refine tq4 2 hH ?_;simp only [putS];refine rd 6 (some 17) fun K hK=>?_;clear hH;go_simp;refine(K2.out _).mono ?_;rintro e w' ⟨rfl,hww⟩;replace hww:=hww.symm;subst hww
 go_wp2_with fail
 refine hK.out _ _ (HS1.out _ hC1) (fun hH=>?_);clear hK K
 try simp only [putS]
 refine tq4 7 hH ?_;simp only [putS];refine tq1 11 hH ?_;simp only [putS];refine rd 12 (some 23) fun K hK=>?_;clear hH;go_simp;refine(K3.out _).mono ?_;rintro e w' ⟨rfl,hww⟩;replace hww:=hww.symm;subst hww
 go_wp2_with fail
 refine hK.out _ _ (HS1.out _ hC1) (fun hH=>?_);clear hK K
 try simp only [putS]
 refine tq4 13 hH ?_;simp only [putS];refine tq1 17 hH ?_;simp only [putS];refine rd 18 (some 29) fun K hK=>?_;clear hH;go_simp;refine(K4.out _).mono ?_;rintro e w' ⟨rfl,hww⟩;replace hww:=hww.symm;subst hww
 go_wp2_with fail
 refine hK.out _ _ (HS1.out _ hC1) (fun hH=>?_);clear hK K
 try simp only [putS]
 refine tq4 19 hH ?_;simp only [putS];refine tq1 23 hH ?_;simp only [putS];refine rd 24 (some 35) fun K hK=>?_;clear hH;go_simp;refine(iBoxVolume_c _ b.fBox _ (RB.out _ (HB0.out.trans (Below.mono hC1 HB0.out.size)))).mono ?_;rintro e w2 ⟨rfl,hb2⟩;have hC2:Below wb.heap.size wb w2:=Below.trans hC1 (hb2.mono (Below.size hC1))
 go_wp2_with fail
 refine hK.out _ _ (HS1.out _ hC2) (fun hH=>?_);clear hK K
 try simp only [putS]
 refine rd 25 (some 36) fun K hK=>?_;clear hH;go_simp;refine(K5.out _).mono ?_;rintro e w' ⟨rfl,hww⟩;replace hww:=hww.symm;subst hww
 go_wp2_with fail
 refine hK.out _ _ (HS1.out _ hC2) (fun hH=>?_);clear hK K
 try simp only [putS]
 refine tq4 26 hH ?_;simp only [putS];refine tq4 30 hH ?_;simp only [putS];refine rd 34 (some 45) fun K hK=>?_;clear hH;go_simp;refine(iFullMask_c _ q _ (RQ.out _ (HB0.out.trans (Below.mono hC2 HB0.out.size)))).mono ?_;rintro e w3 ⟨rfl,hb3⟩;have hC3:Below wb.heap.size wb w3:=Below.trans hC2 (hb3.mono (Below.size hC2))
 go_wp2_with fail
 refine hK.out _ _ (HS1.out _ hC3) (fun hH=>?_);clear hK K
 try simp only [putS]
 refine tq2 35 hH ?_;refine tq1 37 hH ?_;simp only [putS];refine wpAnyH_done (by kernel_rfl) ?_ _;clear hH;clear hb1 hb2 hb3 hC1 hC2 m1 lb HS1;have hB1:=HB0.out.trans (hC3.mono HB0.out.size);replace bxq:=bxq.below hC3;replace bxb:=bxb.below hC3;clear hC3 hB;have hr2:=(bqHead_parts HHD.out).1.1;have hr8:=(bqHead_parts HHD.out).1.2;have kb_6:=bxb 6 _ rfl;go_wp2;clear kb_6
 go_loopw [52] (fun i wr=>∃ k:Nat,k<=nb_a4/\i=.int .i64 k/\(b.fPlans.take k).all (planFull q)=true/\Below w3.heap.size w3 wr) (fun i _=>nb_a4 - (intOf i).toNat)
 case atStart=>exact⟨0,Nat.zero_le _,rfl,rfl,Below.refl _ _⟩
 case round =>
  obtain⟨k,hk,rfl,hall,hE⟩:=hrel;have HA:=Lib.hid hall;clear hall;have hB2:=hB1.trans (hE.mono hB1.size);by_cases hlt:k<nb_a4
  ·obtain⟨bp,op,p,Ar,nr,cr,rfl,hc0,hRp,hp⟩:=hb_a4.planP hlt
   have HP:=Lib.hid hp.out;clear hp;replace hc0:=cells_below hB2 _ _ hc0
   go_upto_region 6 with fail
   have bxp:=Bx.new wr [.slice Ar nr cr] 76;have hAp:=(Below.refl wr.heap.size wr).alloc (Nat.le_refl _) (.cells #[.slice Ar nr cr] 76);obtain⟨wp,hwp⟩:∃ W,W=wr.alloc (.cells #[.slice Ar nr cr] 76):=⟨_,rfl⟩;rw [<- hwp]at hAp ⊢;replace bxp:Bx wp wr.heap.size [.slice Ar nr cr]:=by rw [hwp];exact bxp
   clear hwp hc0;have hEp:=hE.trans (hAp.mono hE.size);have hBp:=hB2.trans (hAp.mono hB2.size)
   have HS1:Hid (∀ w',Below wp.heap.size wp w'->(w'.cell? ⟨w.heap.size,0,none⟩=some (.int .i64 q.fVariableCount)/\w'.cell? ⟨w.heap.size,1,none⟩=some (.slice Aq_e nq_e cq_e)/\w'.cell? ⟨wr.heap.size,0,none⟩=some (.slice Ar nr cr))):=by
    show ∀ w',_->_;intro w' hc;exact⟨((bxq.below hEp).below hc) 0 _ rfl,((bxq.below hEp).below hc) 1 _ rfl,(bxp.below hc) 0 _ rfl⟩
   have RP:Hid (∀ W,Below w.heap.size w W->(rPlan NB).rep W [.slice Ar nr cr] p):=by
    show ∀ W,_->_;intro W hW;exact rPlan_rep.2 ⟨Ar,nr,cr,rfl,hRp.below (rPlanStep_ok NB) hW⟩
   have HBp:=Lib.hid hBp;cases hpf:planFull q p
   ·have pb:(planMask q p != fullMask q)=true:=by unfold planFull at hpf;simpa using hpf
    have HN:=Lib.hid (vb_plan HP.out hpf);clear hpf;go_wp2;refine hbg HS1.out (Below.refl _ _).drew (fun hH=>?_);refine tq2 0 hH ?_;refine tq1 3 hH ?_;simp only [putS];refine rd 2 (some 58) fun K hK=>?_;clear hH;go_simp;refine(iPlanMask_c _ q _ p _ (RQ.out _ HBp.out.drew) (RP.out _ HBp.out.drew)).mono ?_;rintro e v1 ⟨rfl,hd1⟩;have hD1:Below wp.heap.size wp v1:=(Below.refl wp.heap.size wp).drew.trans hd1
    go_wp2_with fail
    refine hK.out _ _ (HS1.out _ hD1) (fun hH=>?_);clear hK K
    try simp only [putS]
    refine rd 4 (some 60) fun K hK=>?_;clear hH;go_simp;refine(iFullMask_c _ q _ (RQ.out _ (HBp.out.trans (hD1.mono HBp.out.size)))).mono ?_;rintro e v2 ⟨rfl,hd2⟩;have hD2:Below wp.heap.size wp v2:=hD1.trans (hd2.mono hD1.size)
    go_wp2_with fail
    refine hK.out _ _ (HS1.out _ hD2) (fun hH=>?_);clear hK K
    try simp only [putS]
    refine tq1 5 hH ?_;simp only [putS];refine wpAnyH_done (by kernel_rfl) ?_ _;clear hH;clear HS1 hd1 hd2 hD1;go_wp2;go_ret;exact⟨ret_bool (a:=false) HN.out.symm,HBp.out.trans (hD2.mono HBp.out.size)⟩
   ·have pb:(planMask q p != fullMask q)=false:=by unfold planFull at hpf;simpa using hpf
    have HN:=Lib.hid (all_snoc' HA.out HP.out hpf);clear hpf;go_wp2;refine hbg HS1.out (Below.refl _ _).drew (fun hH=>?_);refine tq2 0 hH ?_;refine tq1 3 hH ?_;simp only [putS];refine rd 2 (some 58) fun K hK=>?_;clear hH;go_simp;refine(iPlanMask_c _ q _ p _ (RQ.out _ HBp.out.drew) (RP.out _ HBp.out.drew)).mono ?_;rintro e v1 ⟨rfl,hd1⟩;have hD1:Below wp.heap.size wp v1:=(Below.refl wp.heap.size wp).drew.trans hd1
    go_wp2_with fail
    refine hK.out _ _ (HS1.out _ hD1) (fun hH=>?_);clear hK K
    try simp only [putS]
    refine rd 4 (some 60) fun K hK=>?_;clear hH;go_simp;refine(iFullMask_c _ q _ (RQ.out _ (HBp.out.trans (hD1.mono HBp.out.size)))).mono ?_;rintro e v2 ⟨rfl,hd2⟩;have hD2:Below wp.heap.size wp v2:=hD1.trans (hd2.mono hD1.size)
    go_wp2_with fail
    refine hK.out _ _ (HS1.out _ hD2) (fun hH=>?_);clear hK K
    try simp only [putS]
    refine tq1 5 hH ?_;simp only [putS];refine wpAnyH_done (by kernel_rfl) ?_ _;clear hH;clear HS1 hd1 hd2 hD1;go_wp2;go_roundw
    case rel=>exact⟨k+1,by omega,by go_num,HN.out,hEp.trans (hD2.mono hEp.size)⟩
    case measure=>simp [intOf];omega
  ·have HPA:Hid (b.fPlans.all (planFull q)=true):=by show _=_;have:=HA.out;rwa [take_all hb_a4.len hlt]at this
   obtain⟨w4,hw4⟩:∃ W:World,W=wr:=⟨_,rfl⟩;rw [<- hw4]at hE hB2 ⊢;clear hw4;have bxb4:=bxb.below hE;have kb_5:=bxb4 5 _ rfl;go_wp2;clear kb_5
   go_loopw [66] (fun i wr=>∃ k:Nat,k<=nb_k/\i=.int .i64 k/\(List.range k).all (budOk b.fRatio b.fBudgets)=true/\Below w4.heap.size w4 wr) (fun i _=>nb_k - (intOf i).toNat)
   case atStart=>exact⟨0,Nat.zero_le _,rfl,rfl,Below.refl _ _⟩
   case round =>
    clear hE;obtain⟨k,hk,rfl,hall,hE⟩:=hrel;have HA:=Lib.hid hall;clear hall;have hB3:=hB2.trans (hE.mono hB2.size);have kb_1:=(bxb4.below hE) 1 _ rfl;have kb_5:=(bxb4.below hE) 5 _ rfl;by_cases hlt:k<nb_k
    ·obtain⟨bB,oB,x,rfl,hcx,hI,hx⟩:=(hb_k.below rInt_ok hB3).ati hlt
     have Hx:=Lib.hid hx.out;clear hx;have hkL:Hid (k<b.fBudgets.length):=by show _<_;rw [HLB.out];exact hlt
     cases c1:inR x 1 500000000000
     ·have K1:=Lib.hid (fun W=>within_v c1 W)
      have HN:=Lib.hid (vb_bud (q:=q) hkL.out (budOk_out (r:=b.fRatio) Hx.out c1));clear c1;go_wp2
      go_quiet ((go_at_call 89;exact Calls.quiet_of_same (K1.out _)))
      go_wp2;go_ret;exact⟨ret_bool (a:=false) HN.out.symm,below_drewN hB3 _⟩
     have K1:=Lib.hid (fun W=>within_v c1 W);have C1:=Lib.hid c1;clear c1;by_cases hk0:0<k
     ·have dq:decide ((0:Int)<(k:Int))=true:=by simp;omega
      have dq':decide (0<k)=true:=by simp;omega
      obtain⟨j,hj⟩:∃ j,j+1=k:=⟨k - 1,by omega⟩;obtain⟨bB',oB',y,e2,hcy,hIy,hy⟩:=(hb_k.below rInt_ok hB3).ati (k:=j) (by omega);injection e2 with e2;injection e2 with e2 e3;subst e2;subst e3;have Hy:=Lib.hid hy.out;clear hy;have hyb:=budOk_at HA.out (j:=j) (by omega) Hy.out;have hmul:=mul_bd hr2 hr8 hyb.1 hyb.2;have HBN:=Lib.hid (budOk_next (r:=b.fRatio) Hx.out hj Hy.out C1.out);have mj:IntKind.i64.wrap ((k:Int) - 1)=(j:Int):=by rw [IntWalk.i64_in _ (by omega)];omega
      have hjn:j<nb_k:=by omega
      have mm:IntKind.i64.wrap (b.fRatio*y)=b.fRatio*y:=IntWalk.i64_in _ (by omega);clear hmul hj;by_cases he:x=b.fRatio*y
      ·have eb:(x != b.fRatio*y)=false:=by simp [he]
       have HN:=Lib.hid (rngAll_snoc HA.out (HBN.out.trans (decide_eq_true he)));clear he;go_wp2
       go_quiet ((go_at_call 89;exact Calls.quiet_of_same (K1.out _)))
       clear mj mm;go_wp2;go_roundw
       case rel=>exact⟨k+1,by omega,by go_num,HN.out,below_drewN hE _⟩
       case measure=>simp [intOf];omega
      ·have eb:(x != b.fRatio*y)=true:=by simp [he]
       have HN:=Lib.hid (vb_bud (q:=q) hkL.out (HBN.out.trans (decide_eq_false he)));clear he;go_wp2
       go_quiet ((go_at_call 89;exact Calls.quiet_of_same (K1.out _)))
       clear mj mm;go_wp2;go_ret;exact⟨ret_bool (a:=false) HN.out.symm,below_drewN hB3 _⟩
     ·have dq:decide ((0:Int)<(k:Int))=false:=by simp;omega
      have dq':decide (0<k)=false:=by simp;omega
      have HN:Hid ((List.range (k+1)).all (budOk b.fRatio b.fBudgets)=true):=by
       obtain rfl:k=0:=by omega
       exact rngAll_snoc HA.out (budOk_first Hx.out C1.out)
      go_wp2
      go_quiet ((go_at_call 89;exact Calls.quiet_of_same (K1.out _)))
      go_wp2;go_roundw
      case rel=>exact⟨k+1,by omega,by go_num,HN.out,below_drewN hE _⟩
      case measure=>simp [intOf];omega
    ·have HBA:Hid ((List.range b.fBudgets.length).all (budOk b.fRatio b.fBudgets)=true):=by show _=_;rw [HLB.out,show nb_k=k by omega];exact HA.out
     obtain⟨w5,hw5⟩:∃ W:World,W=wr:=⟨_,rfl⟩;rw [<- hw5]at hE hB3 ⊢;clear hw5 kb_1 kb_5;have bxb5:=bxb4.below hE;have kb_4:=bxb5 4 _ rfl;have kb_5:=bxb5 5 _ rfl;have kb_6:=bxb5 6 _ rfl;have kb_7:=bxb5 7 _ rfl;go_wp2
     go_loop [95] (fun i=>∃ k:Nat,k<=nb_w/\i=.int .i64 k/\(b.fContours.take k).all (conOk (b.fPlans.length:Int))=true) (fun i=>nb_w - (intOf i).toNat)
     case atStart=>exact⟨0,Nat.zero_le _,rfl,rfl⟩
     case round =>
      obtain⟨k,hk,rfl,hall⟩:=hrel;have HA:=Lib.hid hall;clear hall;by_cases hlt:k<nb_w
      ·obtain⟨bR,oR,l,Ar,nr,cr,rfl,hcr,hRr,hl⟩:=(hb_w.below (rSlice_ok NB _ rInt_ok) hB3).row hlt
       have Hl:=Lib.hid hl.out;clear hl;cases hc:conOk (nb_a4:Int) l
       ·have HN:=Lib.hid (vb_con (q:=q) Hl.out (by rw [HLP.out];exact hc))
        have HC:=Lib.hid hc;clear hc
        go_wp2_with (go_at_call 225;refine(iDiff_c _ _ _ l nb_a4 _ hRr hnP).mono ?_;rintro e w' ⟨rfl,hww⟩;replace hww:=hww.symm;subst hww;rw [HC.out])
        go_ret;exact⟨ret_bool (a:=false) HN.out.symm,hB3⟩
       ·have HN:=Lib.hid (all_snoc' HA.out Hl.out (by rw [HLP.out];exact hc))
        have HC:=Lib.hid hc;clear hc
        go_wp2_with (go_at_call 225;refine(iDiff_c _ _ _ l nb_a4 _ hRr hnP).mono ?_;rintro e w' ⟨rfl,hww⟩;replace hww:=hww.symm;subst hww;rw [HC.out])
        go_round
        case rel=>exact⟨k+1,by omega,by go_num,HN.out⟩
        case measure=>simp [intOf];omega
      ·have HE:=Lib.hid (vb_end E1.out HHD.out HPA.out HBA.out (by have:=HA.out;rwa [take_all hb_w.len hlt]at this))
       by_cases z1:0<nb_k
       ·by_cases z2:nb_w=nb_k
        ·have zb:((nb_w:Int)==(nb_k:Int))=true:=by simp [z2]
         have Z2:=Lib.hid z2;clear z2;go_wp2;go_ret;exact⟨ret_bool (a:=true) (by rw [HE.out,HLB.out,HLC.out,decide_eq_true z1,decide_eq_true Z2.out];rfl),hB3⟩
        ·have zb:((nb_w:Int)==(nb_k:Int))=false:=by simp;omega
         have Z2:=Lib.hid z2;clear z2;go_wp2;go_ret;exact⟨ret_bool (a:=false) (by rw [HE.out,HLB.out,HLC.out,decide_eq_false Z2.out,Bool.and_false]),hB3⟩
       ·go_wp2
        go_ret;exact⟨ret_bool (a:=false) (by rw [HE.out,HLB.out,decide_eq_false z1];rfl),hB3⟩
theorem sIsValidBouquet_c (csq:List Value) (q:QueryD) (csb:List Value) (b:BouquetD) (w:World) (hq:(rQuery NB).rep w csq q) (hb:(rBouquet NB).rep w csb b) :
  Calls Tryz.prog 100 #[.agg csq.toArray,.agg csb.toArray] w fun e w'=>e=.returned (.bool (validBouquet q b))/\Below w.heap.size w w':=by
 have rq:=hq;obtain⟨Aq_e,nq_e,cq_e,rfl,hq_p5,hq_e⟩:=rQuery_rep.1 hq;clear hq;have rb:=hb;obtain⟨Ab_i,nb_i,cb_i,Ab_h,nb_h,cb_h,Ab_k,nb_k,cb_k,Ab_a4,nb_a4,cb_a4,Ab_w,nb_w,cb_w,rfl,hb_r5,hb_f4,hb_v4,hb_i,hb_h,hb_k,hb_a4,hb_w⟩:=rBouquet_rep.1 hb;clear hb;obtain⟨hB,bxq,bxb⟩:=op2 w [.int .i64 q.fVariableCount,.slice Aq_e nq_e cq_e] 50 [.int .i64 b.fVersion,.int .i64 b.fRatio,.int .i64 b.fSlack,.slice Ab_i nb_i cb_i,.slice Ab_h nb_h cb_h,.slice Ab_k nb_k cb_k,.slice Ab_a4 nb_a4 cb_a4,.slice Ab_w nb_w cb_w] 90;have hnP:=hb_a4.bound;have hnB:=hb_k.bound;have hnC:=hb_w.bound;have HLP:=Lib.hid hb_a4.len;have HLB:=Lib.hid hb_k.len
 have HLC:=Lib.hid hb_w.len;have HLL:=Lib.hid hb_i.len;have hnL:=hb_i.bound;have hfm:=fullMask_bd q;have hf0:=hfm.1;have hf1:=hfm.2;clear hfm;have hbv:=boxVol_bd b.fBox;have hbv0:=hbv.1;have hbv1:=hbv.2;clear hbv
 go_enter Tryz.func100,Tryz.ntmps100
 go_upto_region 1 with fail
 obtain⟨wb,hwb⟩:∃ W,W=(w.alloc (.cells #[.int .i64 q.fVariableCount,.slice Aq_e nq_e cq_e] 50)).alloc (.cells #[.int .i64 b.fVersion,.int .i64 b.fRatio,.int .i64 b.fSlack,.slice Ab_i nb_i cb_i,.slice Ab_h nb_h cb_h,.slice Ab_k nb_k cb_k,.slice Ab_a4 nb_a4 cb_a4,.slice Ab_w nb_w cb_w] 90):=⟨_,rfl⟩;rw [<- hwb]at hB bxq bxb ⊢;clear hwb
 have HS1:Hid (∀ w',Below wb.heap.size wb w'->(w'.cell? ⟨w.heap.size,0,none⟩=some (.int .i64 q.fVariableCount)/\w'.cell? ⟨w.heap.size,1,none⟩=some (.slice Aq_e nq_e cq_e)/\w'.cell? ⟨w.heap.size+1,0,none⟩=some (.int .i64 b.fVersion)/\w'.cell? ⟨w.heap.size+1,1,none⟩=some (.int .i64 b.fRatio)/\w'.cell? ⟨w.heap.size+1,2,none⟩=some (.int .i64 b.fSlack)/\w'.cell? ⟨w.heap.size+1,3,none⟩=some (.slice Ab_i nb_i cb_i)/\w'.cell? ⟨w.heap.size+1,4,none⟩=some (.slice Ab_h nb_h cb_h))):=by
  show ∀ w',_->_;intro w' hc;exact⟨(bxq.below hc) 0 _ rfl,(bxq.below hc) 1 _ rfl,(bxb.below hc) 0 _ rfl,(bxb.below hc) 1 _ rfl,(bxb.below hc) 2 _ rfl,(bxb.below hc) 3 _ rfl,(bxb.below hc) 4 _ rfl⟩
 have RQ:Hid (∀ W,Below w.heap.size w W->(rQuery NB).rep W [.int .i64 q.fVariableCount,.slice Aq_e nq_e cq_e] q):=by
  show ∀ W,_->_;intro W hW;exact((rQuery_ok NB).keep rq (cells_below hW))
 have RB:Hid (∀ W,Below w.heap.size w W->(rBox NB).rep W [.slice Ab_i nb_i cb_i,.slice Ab_h nb_h cb_h] b.fBox):=by
  show ∀ W,_->_;intro W hW;exact(rBox_rep.2 ⟨Ab_i,nb_i,cb_i,Ab_h,nb_h,cb_h,rfl,hb_i.below rInt_ok hW,hb_h.below rInt_ok hW⟩)
 have HB0:=Lib.hid hB;cases hh1:inR b.fVersion 1 999
 ·have C2:=Lib.hid hh1
  have K2:=Lib.hid (fun W=>l1In_v hh1 W);have HN:=Lib.hid (show validBouquet q b=false from vb_head (by simp [bqHead,C2.out]));clear hh1;go_wp2;refine hbg HS1.out (Below.refl _ _).drew (fun hH=>?_);refine tq2 0 hH ?_;simp only [putS];refine rd 2 (some 10) fun K hK=>?_;clear hH;go_simp;refine(K2.out _).mono ?_;rintro e w' ⟨rfl,hww⟩;replace hww:=hww.symm;subst hww
  go_wp2_with fail
  refine hK.out _ _ (HS1.out _ (Below.refl wb.heap.size wb).drew) (fun hH=>?_);clear hK K
  try simp only [putS]
  refine tq2 3 hH ?_;simp only [putS];refine tr4 5 hH ?_;simp only [putS];refine tq2 9 hH ?_;simp only [putS];refine tr4 11 hH ?_;simp only [putS];refine tq2 15 hH ?_;simp only [putS];refine tr4 17 hH ?_;simp only [putS];refine tr4 21 hH ?_;simp only [putS];refine tq2 25 hH ?_;simp only [putS];refine tr4 27 hH ?_;simp only [putS];refine tr1 31 hH ?_;refine tq1 32 hH ?_;simp only [putS];refine wpAnyH_done (by kernel_rfl) ?_ _;clear hH;go_wp2;go_ret;exact⟨ret_bool (a:=false) HN.out.symm,HB0.out.trans (Below.mono (Below.refl wb.heap.size wb).drew HB0.out.size)⟩
 have C2:=Lib.hid hh1;have K2:=Lib.hid (fun W=>l1In_v hh1 W);clear hh1;cases hh2:inR b.fRatio 2 8
 ·have C3:=Lib.hid hh2
  have K3:=Lib.hid (fun W=>l1In_v hh2 W);have HN:=Lib.hid (show validBouquet q b=false from vb_head (by simp [bqHead,C3.out]));clear hh2;go_wp2;refine hbg HS1.out (Below.refl _ _).drew (fun hH=>?_);refine tq2 0 hH ?_;simp only [putS];refine rd 2 (some 10) fun K hK=>?_;clear hH;go_simp;refine(K2.out _).mono ?_;rintro e w' ⟨rfl,hww⟩;replace hww:=hww.symm;subst hww
  go_wp2_with fail
  refine hK.out _ _ (HS1.out _ (Below.refl wb.heap.size wb).drew) (fun hH=>?_);clear hK K
  try simp only [putS]
  refine tq4 3 hH ?_;simp only [putS];refine rd 7 (some 15) fun K hK=>?_;clear hH;go_simp;refine(K3.out _).mono ?_;rintro e w' ⟨rfl,hww⟩;replace hww:=hww.symm;subst hww
  go_wp2_with fail
  refine hK.out _ _ (HS1.out _ (Below.refl wb.heap.size wb).drew) (fun hH=>?_);clear hK K
  try simp only [putS]
  refine tq2 8 hH ?_;refine tq1 10 hH ?_;simp only [putS];refine tr4 11 hH ?_;simp only [putS];refine tq2 15 hH ?_;simp only [putS];refine tr4 17 hH ?_;simp only [putS];refine tr4 21 hH ?_;simp only [putS];refine tq2 25 hH ?_;simp only [putS];refine tr4 27 hH ?_;simp only [putS];refine tr1 31 hH ?_;refine tq1 32 hH ?_;simp only [putS];refine wpAnyH_done (by kernel_rfl) ?_ _;clear hH;go_wp2;go_ret;exact⟨ret_bool (a:=false) HN.out.symm,HB0.out.trans (Below.mono (Below.refl wb.heap.size wb).drew HB0.out.size)⟩
 have C3:=Lib.hid hh2;have K3:=Lib.hid (fun W=>l1In_v hh2 W);clear hh2;cases hh3:inR b.fSlack 0 100
 ·have C4:=Lib.hid hh3
  have K4:=Lib.hid (fun W=>l1In_v hh3 W);have HN:=Lib.hid (show validBouquet q b=false from vb_head (by simp [bqHead,C4.out]));clear hh3;go_wp2;refine hbg HS1.out (Below.refl _ _).drew (fun hH=>?_);refine tq2 0 hH ?_;simp only [putS];refine rd 2 (some 10) fun K hK=>?_;clear hH;go_simp;refine(K2.out _).mono ?_;rintro e w' ⟨rfl,hww⟩;replace hww:=hww.symm;subst hww
  go_wp2_with fail
  refine hK.out _ _ (HS1.out _ (Below.refl wb.heap.size wb).drew) (fun hH=>?_);clear hK K
  try simp only [putS]
  refine tq4 3 hH ?_;simp only [putS];refine rd 7 (some 15) fun K hK=>?_;clear hH;go_simp;refine(K3.out _).mono ?_;rintro e w' ⟨rfl,hww⟩;replace hww:=hww.symm;subst hww
  go_wp2_with fail
  refine hK.out _ _ (HS1.out _ (Below.refl wb.heap.size wb).drew) (fun hH=>?_);clear hK K
  try simp only [putS]
  refine tq4 8 hH ?_;simp only [putS];refine tq1 12 hH ?_;simp only [putS];refine rd 13 (some 21) fun K hK=>?_;clear hH;go_simp;refine(K4.out _).mono ?_;rintro e w' ⟨rfl,hww⟩;replace hww:=hww.symm;subst hww
  go_wp2_with fail
  refine hK.out _ _ (HS1.out _ (Below.refl wb.heap.size wb).drew) (fun hH=>?_);clear hK K
  try simp only [putS]
  refine tq2 14 hH ?_;refine tq1 16 hH ?_;simp only [putS];refine tr4 17 hH ?_;simp only [putS];refine tr4 21 hH ?_;simp only [putS];refine tq2 25 hH ?_;simp only [putS];refine tr4 27 hH ?_;simp only [putS];refine tr1 31 hH ?_;refine tq1 32 hH ?_;simp only [putS];refine wpAnyH_done (by kernel_rfl) ?_ _;clear hH;go_wp2;go_ret;exact⟨ret_bool (a:=false) HN.out.symm,HB0.out.trans (Below.mono (Below.refl wb.heap.size wb).drew HB0.out.size)⟩
 have C4:=Lib.hid hh3;have K4:=Lib.hid (fun W=>l1In_v hh3 W);clear hh3;have m1:IntKind.i64.wrap (fullMask q+1)=fullMask q+1:=IntWalk.i64_in _ (by omega);by_cases hl:(nb_i:Int)=fullMask q+1
 rotate_left
 ·have lb:((nb_i:Int) != fullMask q+1)=true:=by simp [hl]
  have HN:=Lib.hid (show validBouquet q b=false from vb_head (by unfold bqHead;rw [HLL.out,decide_eq_false hl,Bool.and_false]));clear hl;go_wp2;refine hbg HS1.out (Below.refl _ _).drew (fun hH=>?_);refine tq2 0 hH ?_;simp only [putS];refine rd 2 (some 10) fun K hK=>?_;clear hH;go_simp;refine(K2.out _).mono ?_;rintro e w' ⟨rfl,hww⟩;replace hww:=hww.symm;subst hww
  go_wp2_with fail
  refine hK.out _ _ (HS1.out _ (Below.refl wb.heap.size wb).drew) (fun hH=>?_);clear hK K
  try simp only [putS]
  refine tq4 3 hH ?_;simp only [putS];refine rd 7 (some 15) fun K hK=>?_;clear hH;go_simp;refine(K3.out _).mono ?_;rintro e w' ⟨rfl,hww⟩;replace hww:=hww.symm;subst hww
  go_wp2_with fail
  refine hK.out _ _ (HS1.out _ (Below.refl wb.heap.size wb).drew) (fun hH=>?_);clear hK K
  try simp only [putS]
  refine tq4 8 hH ?_;simp only [putS];refine tq1 12 hH ?_;simp only [putS];refine rd 13 (some 21) fun K hK=>?_;clear hH;go_simp;refine(K4.out _).mono ?_;rintro e w' ⟨rfl,hww⟩;replace hww:=hww.symm;subst hww
  go_wp2_with fail
  refine hK.out _ _ (HS1.out _ (Below.refl wb.heap.size wb).drew) (fun hH=>?_);clear hK K
  try simp only [putS]
  refine tq4 14 hH ?_;simp only [putS];refine tq4 18 hH ?_;simp only [putS];refine rd 22 (some 30) fun K hK=>?_;clear hH;go_simp;refine(sFullMask_c _ q _ (RQ.out _ (HB0.out.trans (Below.mono (Below.refl wb.heap.size wb).drew HB0.out.size)))).mono ?_;rintro e w1 ⟨rfl,hb1⟩;have hC1:Below wb.heap.size wb w1:=Below.trans (Below.refl wb.heap.size wb).drew hb1
  go_wp2_with fail
  refine hK.out _ _ (HS1.out _ hC1) (fun hH=>?_);clear hK K
  try simp only [putS]
  refine tq4 23 hH ?_;simp only [putS];refine tr4 27 hH ?_;simp only [putS];refine tr1 31 hH ?_;refine tq1 32 hH ?_;simp only [putS];refine wpAnyH_done (by kernel_rfl) ?_ _;clear hH;go_wp2;go_ret;exact⟨ret_bool (a:=false) HN.out.symm,HB0.out.trans (Below.mono hC1 HB0.out.size)⟩
 have lb:((nb_i:Int) != fullMask q+1)=false:=by simp [hl]
 have HL1:=Lib.hid hl;clear hl;cases hh5:inR (boxVol b.fBox) 1 400
 ·have C5:=Lib.hid hh5
  have K5:=Lib.hid (fun W=>l1In_v hh5 W);have HN:=Lib.hid (show validBouquet q b=false from vb_head (by simp [bqHead,C5.out]));clear hh5;go_wp2;refine hbg HS1.out (Below.refl _ _).drew (fun hH=>?_);refine tq2 0 hH ?_;simp only [putS];refine rd 2 (some 10) fun K hK=>?_;clear hH;go_simp;refine(K2.out _).mono ?_;rintro e w' ⟨rfl,hww⟩;replace hww:=hww.symm;subst hww
  go_wp2_with fail
  refine hK.out _ _ (HS1.out _ (Below.refl wb.heap.size wb).drew) (fun hH=>?_);clear hK K
  try simp only [putS]
  refine tq4 3 hH ?_;simp only [putS];refine rd 7 (some 15) fun K hK=>?_;clear hH;go_simp;refine(K3.out _).mono ?_;rintro e w' ⟨rfl,hww⟩;replace hww:=hww.symm;subst hww
  go_wp2_with fail
  refine hK.out _ _ (HS1.out _ (Below.refl wb.heap.size wb).drew) (fun hH=>?_);clear hK K
  try simp only [putS]
  refine tq4 8 hH ?_;simp only [putS];refine tq1 12 hH ?_;simp only [putS];refine rd 13 (some 21) fun K hK=>?_;clear hH;go_simp;refine(K4.out _).mono ?_;rintro e w' ⟨rfl,hww⟩;replace hww:=hww.symm;subst hww
  go_wp2_with fail
  refine hK.out _ _ (HS1.out _ (Below.refl wb.heap.size wb).drew) (fun hH=>?_);clear hK K
  try simp only [putS]
  refine tq4 14 hH ?_;simp only [putS];refine tq4 18 hH ?_;simp only [putS];refine rd 22 (some 30) fun K hK=>?_;clear hH;go_simp;refine(sFullMask_c _ q _ (RQ.out _ (HB0.out.trans (Below.mono (Below.refl wb.heap.size wb).drew HB0.out.size)))).mono ?_;rintro e w1 ⟨rfl,hb1⟩;have hC1:Below wb.heap.size wb w1:=Below.trans (Below.refl wb.heap.size wb).drew hb1
  go_wp2_with fail
  refine hK.out _ _ (HS1.out _ hC1) (fun hH=>?_);clear hK K
  try simp only [putS]
  refine tq4 23 hH ?_;simp only [putS];refine tq2 27 hH ?_;simp only [putS];refine rd 29 (some 37) fun K hK=>?_;clear hH;go_simp;refine(sBoxVolume_c _ b.fBox _ (RB.out _ (HB0.out.trans (Below.mono hC1 HB0.out.size)))).mono ?_;rintro e w2 ⟨rfl,hb2⟩;have hC2:Below wb.heap.size wb w2:=Below.trans hC1 (hb2.mono (Below.size hC1))
  go_wp2_with fail
  refine hK.out _ _ (HS1.out _ hC2) (fun hH=>?_);clear hK K
  try simp only [putS]
  refine rd 30 (some 38) fun K hK=>?_;clear hH;go_simp;refine(K5.out _).mono ?_;rintro e w' ⟨rfl,hww⟩;replace hww:=hww.symm;subst hww
  go_wp2_with fail
  refine hK.out _ _ (HS1.out _ hC2) (fun hH=>?_);clear hK K
  try simp only [putS]
  refine tq2 31 hH ?_;simp only [putS];refine wpAnyH_done (by kernel_rfl) ?_ _;clear hH;go_wp2;go_ret;exact⟨ret_bool (a:=false) HN.out.symm,HB0.out.trans (Below.mono hC2 HB0.out.size)⟩
 have C5:=Lib.hid hh5;have K5:=Lib.hid (fun W=>l1In_v hh5 W);clear hh5;have HHD:=Lib.hid (show bqHead q b=true by unfold bqHead;rw [HLL.out,decide_eq_true HL1.out,C2.out,C3.out,C4.out,C5.out];rfl);go_wp2;refine hbg HS1.out (Below.refl _ _).drew (fun hH=>?_);refine tq2 0 hH ?_;simp only [putS];refine rd 2 (some 10) fun K hK=>?_;clear hH;go_simp;refine(K2.out _).mono ?_;rintro e w' ⟨rfl,hww⟩;replace hww:=hww.symm;subst hww
 go_wp2_with fail
 refine hK.out _ _ (HS1.out _ (Below.refl wb.heap.size wb).drew) (fun hH=>?_);clear hK K
 try simp only [putS]
 refine tq4 3 hH ?_;simp only [putS];refine rd 7 (some 15) fun K hK=>?_;clear hH;go_simp;refine(K3.out _).mono ?_;rintro e w' ⟨rfl,hww⟩;replace hww:=hww.symm;subst hww
 go_wp2_with fail
 refine hK.out _ _ (HS1.out _ (Below.refl wb.heap.size wb).drew) (fun hH=>?_);clear hK K
 try simp only [putS]
 refine tq4 8 hH ?_;simp only [putS];refine tq1 12 hH ?_;simp only [putS];refine rd 13 (some 21) fun K hK=>?_;clear hH;go_simp;refine(K4.out _).mono ?_;rintro e w' ⟨rfl,hww⟩;replace hww:=hww.symm;subst hww
 go_wp2_with fail
 refine hK.out _ _ (HS1.out _ (Below.refl wb.heap.size wb).drew) (fun hH=>?_);clear hK K
 try simp only [putS]
 refine tq4 14 hH ?_;simp only [putS];refine tq4 18 hH ?_;simp only [putS];refine rd 22 (some 30) fun K hK=>?_;clear hH;go_simp;refine(sFullMask_c _ q _ (RQ.out _ (HB0.out.trans (Below.mono (Below.refl wb.heap.size wb).drew HB0.out.size)))).mono ?_;rintro e w1 ⟨rfl,hb1⟩;have hC1:Below wb.heap.size wb w1:=Below.trans (Below.refl wb.heap.size wb).drew hb1
 go_wp2_with fail
 refine hK.out _ _ (HS1.out _ hC1) (fun hH=>?_);clear hK K
 try simp only [putS]
 refine tq4 23 hH ?_;simp only [putS];refine tq2 27 hH ?_;simp only [putS];refine rd 29 (some 37) fun K hK=>?_;clear hH;go_simp;refine(sBoxVolume_c _ b.fBox _ (RB.out _ (HB0.out.trans (Below.mono hC1 HB0.out.size)))).mono ?_;rintro e w2 ⟨rfl,hb2⟩;have hC2:Below wb.heap.size wb w2:=Below.trans hC1 (hb2.mono (Below.size hC1))
 go_wp2_with fail
 refine hK.out _ _ (HS1.out _ hC2) (fun hH=>?_);clear hK K
 try simp only [putS]
 refine rd 30 (some 38) fun K hK=>?_;clear hH;go_simp;refine(K5.out _).mono ?_;rintro e w' ⟨rfl,hww⟩;replace hww:=hww.symm;subst hww
 go_wp2_with fail
 refine hK.out _ _ (HS1.out _ hC2) (fun hH=>?_);clear hK K
 try simp only [putS]
 refine tq2 31 hH ?_;simp only [putS];refine wpAnyH_done (by kernel_rfl) ?_ _;clear hH;clear hb1 hb2 hC1 m1 lb HS1;have hB1:=HB0.out.trans (hC2.mono HB0.out.size);replace bxq:=bxq.below hC2;replace bxb:=bxb.below hC2;clear hC2 hB;have hr2:=(bqHead_parts HHD.out).1.1;have hr8:=(bqHead_parts HHD.out).1.2;have kb_5:=bxb 5 _ rfl;have kb_7:=bxb 7 _ rfl;by_cases z1:nb_k=0
 ·have zb:((nb_k:Int)==0)=true:=by simp [z1]
  have HN:=Lib.hid (vb_len (q:=q) (b:=b) (.inl (HLB.out.trans z1)));clear z1;go_wp2;go_ret;exact⟨ret_bool (a:=false) HN.out.symm,hB1⟩
 have zb:((nb_k:Int)==0)=false:=by simp [z1]
 have Z1:=Lib.hid z1;clear z1;by_cases z2:nb_k=nb_w
 rotate_left
 ·have yb:((nb_k:Int) != (nb_w:Int))=true:=by simp;omega
  have HN:=Lib.hid (vb_len (q:=q) (b:=b) (.inr (by rw [HLB.out,HLC.out];exact fun h=>z2 h.symm)));clear z2;go_wp2;go_ret;exact⟨ret_bool (a:=false) HN.out.symm,hB1⟩
 have yb:((nb_k:Int) != (nb_w:Int))=false:=by simp [z2]
 have Z2:=Lib.hid z2;clear z2;go_wp2;clear kb_5 kb_7 zb yb
 go_loopw [5] (fun i wr=>∃ k:Nat,k<=nb_a4/\i=.int .i64 k/\(b.fPlans.take k).all (fun p=>planFull q p&&decide (¬ fullMask q=0))=true/\Below w2.heap.size w2 wr) (fun i _=>nb_a4 - (intOf i).toNat)
 case atStart=>exact⟨0,Nat.zero_le _,rfl,rfl,Below.refl _ _⟩
 case round =>
  obtain⟨k,hk,rfl,hall,hE⟩:=hrel;have HA:=Lib.hid hall;clear hall;have hB2:=hB1.trans (hE.mono hB1.size);have kb_6:=(bxb.below hE) 6 _ rfl;by_cases hlt:k<nb_a4
  ·obtain⟨bp,op,p,Ar,nr,cr,rfl,hc0,hRp,hp⟩:=hb_a4.planP hlt
   have HP:=Lib.hid hp.out;clear hp
   have HS1:Hid (∀ w',Below wr.heap.size wr w'->(w'.cell? ⟨w.heap.size,0,none⟩=some (.int .i64 q.fVariableCount)/\w'.cell? ⟨w.heap.size,1,none⟩=some (.slice Aq_e nq_e cq_e)/\w'.cell? ⟨w.heap.size+1,6,none⟩=some (.slice (some ⟨bp,op,none⟩) nb_a4 cb_a4)/\w'.cell? ⟨bp,op+k,none⟩=some (.slice Ar nr cr))):=by
    show ∀ w',_->_;intro w' hc;exact⟨((bxq.below hE).below hc) 0 _ rfl,((bxq.below hE).below hc) 1 _ rfl,((bxb.below hE).below hc) 6 _ rfl,cells_below (hB2.trans (hc.mono hB2.size)) _ _ hc0⟩
   have RP:Hid (∀ W,Below w.heap.size w W->(rPlan NB).rep W [.slice Ar nr cr] p):=by
    show ∀ W,_->_;intro W hW;exact rPlan_rep.2 ⟨Ar,nr,cr,rfl,hRp.below (rPlanStep_ok NB) hW⟩
   have HBp:=Lib.hid hB2;clear hc0;cases hpf:planFull q p
   ·have pb:(planMask q p != fullMask q)=true:=by unfold planFull at hpf;simpa using hpf
    have HN:=Lib.hid (vb_plan HP.out hpf);clear hpf;go_wp2;refine hbg HS1.out (Below.refl _ _).drew (fun hH=>?_);refine tq4 0 hH ?_;simp only [putS];refine tq2 4 hH ?_;refine tq1 7 hH ?_;simp only [putS];refine rd 6 (some 67) fun K hK=>?_;clear hH;go_simp;refine(sPlanMask_c _ q _ p _ (RQ.out _ HBp.out.drew) (RP.out _ HBp.out.drew)).mono ?_;rintro e v1 ⟨rfl,hd1⟩;have hD1:Below wr.heap.size wr v1:=(Below.refl wr.heap.size wr).drew.trans hd1
    go_wp2_with fail
    refine hK.out _ _ (HS1.out _ hD1) (fun hH=>?_);clear hK K
    try simp only [putS]
    refine rd 8 (some 69) fun K hK=>?_;clear hH;go_simp;refine(sFullMask_c _ q _ (RQ.out _ (HBp.out.trans (hD1.mono HBp.out.size)))).mono ?_;rintro e v2 ⟨rfl,hd2⟩;have hD2:Below wr.heap.size wr v2:=hD1.trans (hd2.mono hD1.size)
    go_wp2_with fail
    refine hK.out _ _ (HS1.out _ hD2) (fun hH=>?_);clear hK K
    try simp only [putS]
    refine tq2 9 hH ?_;refine tr2 11 hH ?_;simp only [putS];refine tr1 13 hH ?_;refine tq1 14 hH ?_;simp only [putS];refine wpAnyH_done (by kernel_rfl) ?_ _;clear hH;clear HS1 hd1 hd2 hD1;go_wp2;go_ret;exact⟨ret_bool (a:=false) HN.out.symm,HBp.out.trans (hD2.mono HBp.out.size)⟩
   ·have pb:(planMask q p != fullMask q)=false:=by unfold planFull at hpf;simpa using hpf
    have HPF:=Lib.hid hpf;clear hpf;by_cases hf:fullMask q=0
    ·have fb:(fullMask q==0)=true:=by simp [hf]
     have HN:=Lib.hid (vb_full (b:=b) hf);clear hf;go_wp2;refine hbg HS1.out (Below.refl _ _).drew (fun hH=>?_);refine tq4 0 hH ?_;simp only [putS];refine tq2 4 hH ?_;refine tq1 7 hH ?_;simp only [putS];refine rd 6 (some 67) fun K hK=>?_;clear hH;go_simp;refine(sPlanMask_c _ q _ p _ (RQ.out _ HBp.out.drew) (RP.out _ HBp.out.drew)).mono ?_;rintro e v1 ⟨rfl,hd1⟩;have hD1:Below wr.heap.size wr v1:=(Below.refl wr.heap.size wr).drew.trans hd1
     go_wp2_with fail
     refine hK.out _ _ (HS1.out _ hD1) (fun hH=>?_);clear hK K
     try simp only [putS]
     refine rd 8 (some 69) fun K hK=>?_;clear hH;go_simp;refine(sFullMask_c _ q _ (RQ.out _ (HBp.out.trans (hD1.mono HBp.out.size)))).mono ?_;rintro e v2 ⟨rfl,hd2⟩;have hD2:Below wr.heap.size wr v2:=hD1.trans (hd2.mono hD1.size)
     go_wp2_with fail
     refine hK.out _ _ (HS1.out _ hD2) (fun hH=>?_);clear hK K
     try simp only [putS]
     refine tq2 9 hH ?_;refine tq1 11 hH ?_;simp only [putS];refine rd 12 (some 73) fun K hK=>?_;clear hH;go_simp;refine(sFullMask_c _ q _ (RQ.out _ (HBp.out.trans (hD2.mono HBp.out.size)))).mono ?_;rintro e v3 ⟨rfl,hd3⟩;have hD3:Below wr.heap.size wr v3:=hD2.trans (hd3.mono hD2.size)
     go_wp2_with fail
     refine hK.out _ _ (HS1.out _ hD3) (fun hH=>?_);clear hK K
     try simp only [putS]
     refine tq2 13 hH ?_;simp only [putS];refine wpAnyH_done (by kernel_rfl) ?_ _;clear hH;clear HS1 hd1 hd2 hd3 hD1 hD2;go_wp2;go_ret;exact⟨ret_bool (a:=false) HN.out.symm,HBp.out.trans (hD3.mono HBp.out.size)⟩
    have fb:(fullMask q==0)=false:=by simp [hf]
    have HN:=Lib.hid (all_snoc' (p:=fun p=>planFull q p&&decide (¬ fullMask q=0)) HA.out HP.out (by rw [HPF.out,decide_eq_true hf];rfl));clear hf;go_wp2;refine hbg HS1.out (Below.refl _ _).drew (fun hH=>?_);refine tq4 0 hH ?_;simp only [putS];refine tq2 4 hH ?_;refine tq1 7 hH ?_;simp only [putS];refine rd 6 (some 67) fun K hK=>?_;clear hH;go_simp;refine(sPlanMask_c _ q _ p _ (RQ.out _ HBp.out.drew) (RP.out _ HBp.out.drew)).mono ?_;rintro e v1 ⟨rfl,hd1⟩;have hD1:Below wr.heap.size wr v1:=(Below.refl wr.heap.size wr).drew.trans hd1
    go_wp2_with fail
    refine hK.out _ _ (HS1.out _ hD1) (fun hH=>?_);clear hK K
    try simp only [putS]
    refine rd 8 (some 69) fun K hK=>?_;clear hH;go_simp;refine(sFullMask_c _ q _ (RQ.out _ (HBp.out.trans (hD1.mono HBp.out.size)))).mono ?_;rintro e v2 ⟨rfl,hd2⟩;have hD2:Below wr.heap.size wr v2:=hD1.trans (hd2.mono hD1.size)
    go_wp2_with fail
    refine hK.out _ _ (HS1.out _ hD2) (fun hH=>?_);clear hK K
    try simp only [putS]
    refine tq2 9 hH ?_;refine tq1 11 hH ?_;simp only [putS];refine rd 12 (some 73) fun K hK=>?_;clear hH;go_simp;refine(sFullMask_c _ q _ (RQ.out _ (HBp.out.trans (hD2.mono HBp.out.size)))).mono ?_;rintro e v3 ⟨rfl,hd3⟩;have hD3:Below wr.heap.size wr v3:=hD2.trans (hd3.mono hD2.size)
    go_wp2_with fail
    refine hK.out _ _ (HS1.out _ hD3) (fun hH=>?_);clear hK K
    try simp only [putS]
    refine tq2 13 hH ?_;simp only [putS];refine wpAnyH_done (by kernel_rfl) ?_ _;clear hH;clear HS1 hd1 hd2 hd3 hD1 hD2;go_wp2;go_roundw
    case rel=>exact⟨k+1,by omega,by go_num,HN.out,hE.trans (hD3.mono hE.size)⟩
    case measure=>simp [intOf];omega
  ·have HPA:Hid (b.fPlans.all (fun p=>planFull q p&&decide (¬ fullMask q=0))=true):=by show _=_;have:=HA.out;rwa [take_all hb_a4.len hlt]at this
   obtain⟨w4,hw4⟩:∃ W:World,W=wr:=⟨_,rfl⟩;rw [<- hw4]at hE hB2 kb_6 ⊢;clear hw4;have bxb4:=bxb.below hE;go_wp2;clear kb_6
   go_loopw [6] (fun i wr=>∃ k:Nat,k<=nb_k/\i=.int .i64 k/\(List.range k).all (budOk b.fRatio b.fBudgets)=true/\(b.fContours.take k).all (conOk (b.fPlans.length:Int))=true/\Below w4.heap.size w4 wr) (fun i _=>nb_k - (intOf i).toNat)
   case atStart=>exact⟨0,Nat.zero_le _,rfl,rfl,rfl,Below.refl _ _⟩
   case round =>
    clear hE;obtain⟨k,hk,rfl,hall,hcon,hE⟩:=hrel;have HA:=Lib.hid hall;clear hall;have HCN:=Lib.hid hcon;clear hcon;have hB3:=hB2.trans (hE.mono hB2.size);have kb_1:=(bxb4.below hE) 1 _ rfl;have kb_5:=(bxb4.below hE) 5 _ rfl;have kb_6:=(bxb4.below hE) 6 _ rfl;have kb_7:=(bxb4.below hE) 7 _ rfl;by_cases hlt:k<nb_k
    ·obtain⟨bB,oB,x,rfl,hcx,hI,hx⟩:=(hb_k.below rInt_ok hB3).ati hlt
     have Hx:=Lib.hid hx.out;clear hx;have hkC:k<nb_w:=by have:=Z2.out;omega
     obtain⟨bR,oR,l,Ar,nr,cr,rfl,hcr,hRr,hl⟩:=(hb_w.below (rSlice_ok NB _ rInt_ok) hB3).row hkC;have Hl:=Lib.hid hl.out;clear hl;have HRL:=Lib.hid hRr.len;have hnr:=hRr.bound;have hkL:Hid (k<b.fBudgets.length):=by show _<_;rw [HLB.out];exact hlt
     cases c1:inR x 1 500000000000
     ·have K1:=Lib.hid (fun W=>l1In_v c1 W)
      have HN:=Lib.hid (vb_bud (q:=q) hkL.out (budOk_out (r:=b.fRatio) Hx.out c1));clear c1;go_wp2
      go_quiet ((go_at_call 51;exact Calls.quiet_of_same (K1.out _)))
      go_wp2;go_ret;exact⟨ret_bool (a:=false) HN.out.symm,below_drewN hB3 _⟩
     have K1:=Lib.hid (fun W=>l1In_v c1 W);have C1:=Lib.hid c1;clear c1
     have HRN:Hid (nr=0->validBouquet q b=false):=by
      show nr=0->_;exact fun h=>vb_con Hl.out (conOk_no (HRL.out.trans h))
     by_cases hk0:0<k
     ·have dq:decide ((0:Int)<(k:Int))=true:=by simp;omega
      have dq':decide (0<k)=true:=by simp;omega
      obtain⟨j,hj⟩:∃ j,j+1=k:=⟨k - 1,by omega⟩;obtain⟨bB',oB',y,e2,hcy,hIy,hy⟩:=(hb_k.below rInt_ok hB3).ati (k:=j) (by omega);injection e2 with e2;injection e2 with e2 e3;subst e2;subst e3;have Hy:=Lib.hid hy.out;clear hy;have hyb:=budOk_at HA.out (j:=j) (by omega) Hy.out;have hmul:=mul_bd hr2 hr8 hyb.1 hyb.2;rw [Int.mul_comm]at hmul;have HBN:=Lib.hid (budOk_next (r:=b.fRatio) Hx.out hj Hy.out C1.out);have mj:IntKind.i64.wrap ((k:Int) - 1)=(j:Int):=by rw [IntWalk.i64_in _ (by omega)];omega
      have hjn:j<nb_k:=by omega
      have mm:IntKind.i64.wrap (y*b.fRatio)=y*b.fRatio:=IntWalk.i64_in _ (by omega);clear hmul hj;by_cases he:x=b.fRatio*y
      rotate_left
      ·have eb:(x != y*b.fRatio)=true:=by rw [Int.mul_comm];simp [he]
       have HN:=Lib.hid (vb_bud (q:=q) hkL.out (HBN.out.trans (decide_eq_false he)));clear he;go_wp2
       go_quiet ((go_at_call 51;exact Calls.quiet_of_same (K1.out _)))
       clear mj mm;go_wp2;go_ret;exact⟨ret_bool (a:=false) HN.out.symm,below_drewN hB3 _⟩
      have eb:(x != y*b.fRatio)=false:=by rw [Int.mul_comm];simp [he]
      have HBK:=Lib.hid (HBN.out.trans (decide_eq_true he));clear he;by_cases hr0:nr=0
      ·have rb:((nr:Int)==0)=true:=by simp [hr0]
       have HN:=Lib.hid (HRN.out hr0);clear hr0;go_wp2
       go_quiet ((go_at_call 51;exact Calls.quiet_of_same (K1.out _)))
       clear mj mm;go_wp2;go_ret;exact⟨ret_bool (a:=false) HN.out.symm,below_drewN hB3 _⟩
      have rb:((nr:Int)==0)=false:=by simp [hr0]
      have HR0:=Lib.hid hr0;clear hr0;go_wp2
      go_quiet ((go_at_call 51;exact Calls.quiet_of_same (K1.out _)))
      clear mj mm eb;go_wp2;clear kb_1 kb_5 kb_6 kb_7
      go_loopw [7] (fun i wr2=>∃ j:Nat,j<=nr/\i=.int .i64 j/\(List.range j).all (varOk (nb_a4:Int) l)=true/\Below w4.heap.size w4 wr2) (fun i _=>nr - (intOf i).toNat)
      case atStart=>exact⟨0,Nat.zero_le _,rfl,rfl,below_drewN hE _⟩
      case round =>
       clear hE hB3 hcx hcr hRr rb;obtain⟨j,hj,rfl,hall,hE⟩:=hrel;have HV:=Lib.hid hall;clear hall;have hB3:=hB2.trans (hE.mono hB2.size);have kb_5:=(bxb4.below hE) 5 _ rfl;have kb_6:=(bxb4.below hE) 6 _ rfl;have kb_7:=(bxb4.below hE) 7 _ rfl;obtain⟨bR',oR',l',Ar',nr',cr',e2,hcr,hRr,hl'⟩:=(hb_w.below (rSlice_ok NB _ rInt_ok) hB3).row hkC;injection e2 with e2;injection e2 with e2 e3;subst e2;subst e3;have e4:l'=l:=by have:=hl'.out;rw [Hl.out]at this;injection this with this;exact this.symm
       subst e4;have e5:nr'=nr:=by rw [<- hRr.len];exact HRL.out
       subst e5;clear hl';by_cases hlt2:j<nr'
       ·obtain⟨bv,ov,v,rfl,hcv,hIv,hv⟩:=hRr.ati hlt2
        have Hv:=Lib.hid hv.out;clear hv;have hjl:Hid (j<l'.length):=by show _<_;rw [HRL.out];exact hlt2
        have hjc:j<=cr':=Nat.le_trans (Nat.le_of_lt hlt2) hRr.nc;have hTk:=hRr.take (Nat.le_of_lt hlt2);have mp:IntKind.i64.wrap ((nb_a4:Int) - 1)=(nb_a4:Int) - 1:=IntWalk.i64_in _ (by omega);cases c1:inR v 0 ((nb_a4:Int) - 1)
        ·have K2:=Lib.hid (fun W=>l1In_v c1 W)
         have HN:=Lib.hid (vb_con (q:=q) Hl.out (by rw [HLP.out];exact conOk_bad hjl.out (varOk_out Hv.out c1)));clear c1;go_wp2
         go_quiet ((go_at_call 51;exact Calls.quiet_of_same (K2.out _)))
         clear mp;go_wp2;go_ret;exact⟨ret_bool (a:=false) HN.out.symm,below_drewN hB3 _⟩
        have K2:=Lib.hid (fun W=>l1In_v c1 W);cases c2:hasI (l'.take j) v
        rotate_left
        ·have HN:=Lib.hid (vb_con (q:=q) Hl.out (by rw [HLP.out];exact conOk_bad hjl.out (varOk_has Hv.out c2)))
         have K3:=Lib.hid c2;clear c1 c2;go_wp2
         go_quiet (first|(go_at_call 51;exact Calls.quiet_of_same (K2.out _))|(go_at_call 169;exact Calls.quiet_of_same (l7Has_v K3.out (hTk.drewN rInt_ok _))))
         clear mp;go_wp2;go_ret;exact⟨ret_bool (a:=false) HN.out.symm,below_drewN hB3 _⟩
        have HVK:=Lib.hid (varOk_yes Hv.out c1 c2);have K3:=Lib.hid c2;clear c1 c2;go_wp2
        go_quiet (first|(go_at_call 51;exact Calls.quiet_of_same (K2.out _))|(go_at_call 169;exact Calls.quiet_of_same (l7Has_v K3.out (hTk.drewN rInt_ok _))))
        clear mp;go_wp2;go_roundw
        case rel=>exact⟨j+1,by omega,by go_num,rngAll_snoc HV.out HVK.out,below_drewN hE _⟩
        case measure=>simp [intOf];omega
       ·have HCK:Hid (conOk (b.fPlans.length:Int) l'=true):=by
         show _=_;rw [HLP.out,conOk_end (by rw [HRL.out,show nr'=j by omega];exact HV.out),HRL.out];exact decide_eq_true (by have:=HR0.out;omega)
        go_wp2;go_roundw
        case rel=>exact⟨k+1,by omega,by go_num,rngAll_snoc HA.out HBK.out,all_snoc' HCN.out Hl.out HCK.out,hE⟩
        case measure=>simp [intOf];omega
     ·have dq:decide ((0:Int)<(k:Int))=false:=by simp;omega
      have dq':decide (0<k)=false:=by simp;omega
      have HBK:Hid (budOk b.fRatio b.fBudgets k=true):=by
       obtain rfl:k=0:=by omega
       exact budOk_first Hx.out C1.out
      by_cases hr0:nr=0
      ·have rb:((nr:Int)==0)=true:=by simp [hr0]
       have HN:=Lib.hid (HRN.out hr0);clear hr0;go_wp2
       go_quiet ((go_at_call 51;exact Calls.quiet_of_same (K1.out _)))
       go_wp2;go_ret;exact⟨ret_bool (a:=false) HN.out.symm,below_drewN hB3 _⟩
      have rb:((nr:Int)==0)=false:=by simp [hr0]
      have HR0:=Lib.hid hr0;clear hr0;go_wp2
      go_quiet ((go_at_call 51;exact Calls.quiet_of_same (K1.out _)))
      go_wp2;clear kb_1 kb_5 kb_6 kb_7
      go_loopw [7] (fun i wr2=>∃ j:Nat,j<=nr/\i=.int .i64 j/\(List.range j).all (varOk (nb_a4:Int) l)=true/\Below w4.heap.size w4 wr2) (fun i _=>nr - (intOf i).toNat)
      case atStart=>exact⟨0,Nat.zero_le _,rfl,rfl,below_drewN hE _⟩
      case round =>
       clear hE hB3 hcx hcr hRr rb;obtain⟨j,hj,rfl,hall,hE⟩:=hrel;have HV:=Lib.hid hall;clear hall;have hB3:=hB2.trans (hE.mono hB2.size);have kb_5:=(bxb4.below hE) 5 _ rfl;have kb_6:=(bxb4.below hE) 6 _ rfl;have kb_7:=(bxb4.below hE) 7 _ rfl;obtain⟨bR',oR',l',Ar',nr',cr',e2,hcr,hRr,hl'⟩:=(hb_w.below (rSlice_ok NB _ rInt_ok) hB3).row hkC;injection e2 with e2;injection e2 with e2 e3;subst e2;subst e3;have e4:l'=l:=by have:=hl'.out;rw [Hl.out]at this;injection this with this;exact this.symm
       subst e4;have e5:nr'=nr:=by rw [<- hRr.len];exact HRL.out
       subst e5;clear hl';by_cases hlt2:j<nr'
       ·obtain⟨bv,ov,v,rfl,hcv,hIv,hv⟩:=hRr.ati hlt2
        have Hv:=Lib.hid hv.out;clear hv;have hjl:Hid (j<l'.length):=by show _<_;rw [HRL.out];exact hlt2
        have hjc:j<=cr':=Nat.le_trans (Nat.le_of_lt hlt2) hRr.nc;have hTk:=hRr.take (Nat.le_of_lt hlt2);have mp:IntKind.i64.wrap ((nb_a4:Int) - 1)=(nb_a4:Int) - 1:=IntWalk.i64_in _ (by omega);cases c1:inR v 0 ((nb_a4:Int) - 1)
        ·have K2:=Lib.hid (fun W=>l1In_v c1 W)
         have HN:=Lib.hid (vb_con (q:=q) Hl.out (by rw [HLP.out];exact conOk_bad hjl.out (varOk_out Hv.out c1)));clear c1;go_wp2
         go_quiet ((go_at_call 51;exact Calls.quiet_of_same (K2.out _)))
         clear mp;go_wp2;go_ret;exact⟨ret_bool (a:=false) HN.out.symm,below_drewN hB3 _⟩
        have K2:=Lib.hid (fun W=>l1In_v c1 W);cases c2:hasI (l'.take j) v
        rotate_left
        ·have HN:=Lib.hid (vb_con (q:=q) Hl.out (by rw [HLP.out];exact conOk_bad hjl.out (varOk_has Hv.out c2)))
         have K3:=Lib.hid c2;clear c1 c2;go_wp2
         go_quiet (first|(go_at_call 51;exact Calls.quiet_of_same (K2.out _))|(go_at_call 169;exact Calls.quiet_of_same (l7Has_v K3.out (hTk.drewN rInt_ok _))))
         clear mp;go_wp2;go_ret;exact⟨ret_bool (a:=false) HN.out.symm,below_drewN hB3 _⟩
        have HVK:=Lib.hid (varOk_yes Hv.out c1 c2);have K3:=Lib.hid c2;clear c1 c2;go_wp2
        go_quiet (first|(go_at_call 51;exact Calls.quiet_of_same (K2.out _))|(go_at_call 169;exact Calls.quiet_of_same (l7Has_v K3.out (hTk.drewN rInt_ok _))))
        clear mp;go_wp2;go_roundw
        case rel=>exact⟨j+1,by omega,by go_num,rngAll_snoc HV.out HVK.out,below_drewN hE _⟩
        case measure=>simp [intOf];omega
       ·have HCK:Hid (conOk (b.fPlans.length:Int) l'=true):=by
         show _=_;rw [HLP.out,conOk_end (by rw [HRL.out,show nr'=j by omega];exact HV.out),HRL.out];exact decide_eq_true (by have:=HR0.out;omega)
        go_wp2;go_roundw
        case rel=>exact⟨k+1,by omega,by go_num,rngAll_snoc HA.out HBK.out,all_snoc' HCN.out Hl.out HCK.out,hE⟩
        case measure=>simp [intOf];omega
    ·have HN:=Lib.hid (vb_ref HHD.out (by rw [HLB.out];have:=Z1.out;omega) (by rw [HLB.out,HLC.out];exact Z2.out.symm) HPA.out (by rw [HLB.out,show nb_k=k by omega];exact HA.out) (by have:=HCN.out;rwa [List.take_of_length_le (by rw [HLC.out];have:=Z2.out;omega)]at this))
     go_wp2;go_ret;exact⟨ret_bool (a:=true) HN.out.symm,hB3⟩
end Go.Proofs.YtnlcfkpcmfljeaaGreat
