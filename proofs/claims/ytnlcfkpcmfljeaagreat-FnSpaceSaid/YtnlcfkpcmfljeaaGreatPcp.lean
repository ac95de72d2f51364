/-
  Pcp, Plr, Psz, Pls
-/
import Derived.Test.YtnlcfkpcmfljeaaGreatMop
import Derived.Test.YtnlcfkpcmfljeaaGreatQi
set_option linter.unusedSimpArgs false
set_option linter.unusedVariables false
set_option maxHeartbeats 1600000
set_option maxRecDepth 100000
namespace Go.Proofs.YtnlcfkpcmfljeaaGreat
open Go.RowKit
def isSizes (q:QueryD) (s:List Int):Bool:=validQ q&&decide ((s.length:Int)=fullMask q+1)&&s.all (fun n=>inR n 0 4096)
def sizeAt (s:List Int) (m:Int):Int:=(s[m.toNat]?).getD 0
def leftSize (s:List Int) (l:List StepInfoD) (y:StepInfoD):Int:=if 0<=y.fLeft then sizeAt s (infoAt l y.fLeft).fMask else sizeAt s y.fMask
def rightSize (s:List Int) (l:List StepInfoD) (y:StepInfoD):Int:=if 0<=y.fRight then sizeAt s (infoAt l y.fRight).fMask else 0
def stepCost (m:ModelD) (s:List Int) (l:List StepInfoD) (p:PlanStepD × StepInfoD):Int:=opCostV (opOf m p.1.fKind) (leftSize s l p.2) (rightSize s l p.2) (sizeAt s p.2.fMask)
def stepCosts (m:ModelD) (q:QueryD) (p:PlanD) (s:List Int):List Int:=match planInfo q p with
 | some l=>if isSizes q s then (p.fSteps.zip l).map (stepCost m s l) else []
 | none=>[]
def planCost (m:ModelD) (q:QueryD) (p:PlanD) (s:List Int):Int:=if (stepCosts m q p s).length=0 then -1 else (stepCosts m q p s).sum
theorem isSizes_parts {q:QueryD}{s:List Int}(h:isSizes q s=true):validQ q=true/\s.length=2 ^ q.fAtoms.length/\∀ n∈s,0<=n/\n<=4096:=by
 unfold isSizes at h;simp only [Bool.and_eq_true,decide_eq_true_eq,List.all_eq_true]at h;obtain⟨⟨h1,h2⟩,h3⟩:=h;have:1<=(2:Nat) ^ q.fAtoms.length:=Nat.one_le_two_pow;unfold fullMask at h2;rw [if_pos h1]at h2;exact⟨h1,by omega,fun n hn=>inR_t.1 (h3 n hn)⟩
theorem sizeAt_at {q:QueryD}{s:List Int}(h:isSizes q s=true) {m:Int}(h0:0<=m) (h1:m<((2 ^ q.fAtoms.length:Nat):Int)):m.toNat<s.length/\s[m.toNat]?=some (sizeAt s m)/\0<=sizeAt s m/\sizeAt s m<=4096:=by
 obtain⟨_,h2,h3⟩:=isSizes_parts h;have hl:m.toNat<s.length:=by omega
 have hx:=List.getElem?_eq_getElem hl;have e:sizeAt s m=s[m.toNat]:=by unfold sizeAt;rw [hx];rfl
 rw [e];exact⟨hl,hx,h3 _ (List.getElem_mem hl)⟩
theorem stepCost_bd (m:ModelD) (s:List Int) (l:List StepInfoD) (p:PlanStepD × StepInfoD):-2000000000<=stepCost m s l p/\stepCost m s l p<=2000000000:=opCostV_bd
theorem stepCosts_bd (m:ModelD) (q:QueryD) (p:PlanD) (s:List Int):(stepCosts m q p s).length<=14/\∀ x∈stepCosts m q p s,-2000000000<=x/\x<=2000000000:=by
 unfold stepCosts;cases h:planInfo q p with
 | none=>simp
 | some l =>
  obtain⟨_,h1,h2,_⟩:=planInfo_parts h;simp only;split
  ·refine⟨by simp;omega,fun x hx=>?_⟩
   obtain⟨y,_,rfl⟩:=List.mem_map.1 hx;exact stepCost_bd _ _ _ _
  ·simp
theorem sum_bd {l:List Int}(h:∀ x∈l,-2000000000<=x/\x<=2000000000):-2000000000*(l.length:Int)<=l.sum/\l.sum<=2000000000*(l.length:Int):=by
 induction l with
 | nil=>simp
 | cons x l ih =>
  have h1:=h x List.mem_cons_self;have h2:=ih fun y hy=>h y (List.mem_cons_of_mem _ hy);simp only [List.sum_cons,List.length_cons];omega
theorem sum_snoc {l:List Int}{k:Nat}{x:Int}(h:l[k]?=some x):(l.take (k+1)).sum=(l.take k).sum+x:=by
 rw [take_snoc h,List.sum_append];simp
theorem sum_take_bd {l:List Int}(h:∀ x∈l,-2000000000<=x/\x<=2000000000) (hl:l.length<=14) (k:Nat):-28000000000<=(l.take k).sum/\(l.take k).sum<=28000000000:=by
 have h1:=sum_bd (l:=l.take k) fun x hx=>h x (List.mem_of_mem_take hx);have h2:(l.take k).length<=14:=by simp;omega
 omega
theorem stepInfo_lr {q:QueryD}{x:PlanStepD}{l:List StepInfoD}{st:List Int}{y:StepInfoD}{k:Nat}(h:Run q.fAtoms.length l st) (hs:stepInfo q x l st=some (y,k)):y.fLeft<0->y.fRight<0:=by
 unfold stepInfo at hs;split at hs
 ·split at hs
  ·injection hs with hs;injection hs with h1 h2;subst h1;subst h2
   intro _;simp
  ·cases hs
 split at hs
 ·cases hs
 split at hs
 ·split at hs
  ·injection hs with hs;injection hs with h1 h2;subst h1;subst h2
   intro _;simp
  ·cases hs
 split at hs
 ·rename_i hc
  simp only [Bool.and_eq_true,decide_eq_true_eq]at hc;obtain⟨j',e1',e2',e3'⟩:=h.top (k:=2) (by omega) (by omega);simp only at hs;split at hs
  ·split at hs
   ·injection hs with hs;injection hs with h1 h2;subst h1;subst h2
    simp only [e1'];intro h0;omega
   ·cases hs
  ·split at hs
   ·injection hs with hs;injection hs with h1 h2;subst h1;subst h2
    simp only [e1'];intro h0;omega
   ·cases hs
 ·cases hs
theorem planRun_lr {q:QueryD}(hq:validQ q=true) {p:List PlanStepD}{l:List StepInfoD}{st:List Int}(h:planRun q p=some (l,st)):∀ y∈l,y.fLeft<0->y.fRight<0:=by
 induction p using snocInd generalizing l st with
 | h0 =>
  simp [planRun]at h;obtain⟨rfl,rfl⟩:=h;simp
 | h1 p x ih =>
  have e:planRun q (p++[x])=planStep q (planRun q p) x:=by unfold planRun;rw [List.foldl_append];rfl
  rw [e]at h;cases hp:planRun q p with
  | none=>rw [hp]at h;cases h
  | some s =>
   obtain⟨l0,st0⟩:=s;have i0:=ih hp;have i1:=(planRun_ok hq hp).1;rw [hp]at h;simp only [planStep]at h;cases hs:stepInfo q x l0 st0 with
   | none=>rw [hs]at h;cases h
   | some s =>
    obtain⟨y,k⟩:=s;rw [hs]at h;simp only at h;injection h with h;injection h with e1 e2;subst e1;subst e2;intro z hz;rcases List.mem_append.1 hz with hz|hz
    ·exact i0 z hz
    ·simp at hz;subst hz;exact stepInfo_lr i1 hs
theorem planInfo_lr {q:QueryD}{p:PlanD}{l:List StepInfoD}(h:planInfo q p=some l):∀ y∈l,y.fLeft<0->y.fRight<0:=by
 unfold planInfo at h;split at h
 ·rename_i hc
  rw [Bool.and_eq_true]at hc;cases hr:planRun q p.fSteps with
  | none=>rw [hr]at h;cases h
  | some s =>
   obtain⟨l',st⟩:=s;rw [hr]at h;simp only at h;split at h
   ·injection h with h;subst h
    exact planRun_lr hc.1 hr
   ·cases h
 ·cases h
theorem fullBd (q:QueryD):0<=fullMask q/\fullMask q<=15:=by
 unfold fullMask;split
 ·rename_i h
  have:(2:Nat) ^ q.fAtoms.length<=2 ^ 4:=Nat.pow_le_pow_right (by omega) (validQ_parts h).2.2.2.1;have:1<=(2:Nat) ^ q.fAtoms.length:=Nat.one_le_two_pow;omega
 ·omega
theorem isSizes_q {q:QueryD}{z:List Int}(h:validQ q=false):isSizes q z=false:=by simp [isSizes,h]
theorem isSizes_len {q:QueryD}{z:List Int}{n:Nat}(hl:z.length=n) (h:((n:Int)==fullMask q+1)=false):isSizes q z=false:=by
 have:¬ (n:Int)=fullMask q+1:=by simpa using h
 simp [isSizes,hl,this]
theorem isSizes_no {q:QueryD}{z:List Int}{k:Nat}{x:Int}(h:z[k]?=some x) (hx:inR x 0 4096=false):isSizes q z=false:=by
 have:z.all (fun n=>inR n 0 4096)=false:=by rw [List.all_eq_false];exact⟨x,mem_of_at h,by simp [hx]⟩
 simp [isSizes,this]
theorem isSizes_end {q:QueryD}{z:List Int}{n:Nat}(hl:z.length=n) (h1:validQ q=true) (h2:((n:Int)==fullMask q+1)=true) (h:z.all (fun c=>inR c 0 4096)=true):isSizes q z=true:=by
 have:(n:Int)=fullMask q+1:=by simpa using h2
 simp [isSizes,h1,h,hl,this]
theorem sIsSizeVector_c (csq:List Value) (q:QueryD) (Az:Option Addr) (nz cz:Nat) (z:List Int) (w:World) (hq:(rQuery NB).rep w csq q) (hz:RS NB rInt w Az nz cz z) :
  Calls Tryz.prog 220 #[.agg csq.toArray,.slice Az nz cz] w fun e w'=>e=.returned (.bool (isSizes q z))/\Below w.heap.size w w':=by
 have rq:=hq;obtain⟨Aq_e,nq_e,cq_e,rfl,hq_p5,hq_e⟩:=rQuery_rep.1 hq;clear hq;obtain⟨hB,bxq⟩:=op1 w [.int .i64 q.fVariableCount,.slice Aq_e nq_e cq_e] 50;have hnz:=hz.bound;have hfm:=fullBd q
 go_enter Tryz.func220,Tryz.ntmps220
 have kq_0:=bxq 0 _ rfl;have kq_1:=bxq 1 _ rfl
 go_wp2_with fail
 refine(sIsValidQuery_c _ q _ ((rQuery_ok NB).keep rq (cells_below hB))).mono ?_;rintro e w1 ⟨rfl,hb1⟩;replace hB:=hB.trans (hb1.mono hB.size);replace bxq:=bxq.below hb1;clear hb1 kq_0 kq_1;cases e1:validQ q
 ·go_wp2
  go_ret;exact⟨ret_bool (a:=false) (isSizes_q e1).symm,hB⟩
 have kq_0:=bxq 0 _ rfl;have kq_1:=bxq 1 _ rfl
 go_wp2_with fail
 refine(sFullMask_c _ q _ ((rQuery_ok NB).keep rq (cells_below hB))).mono ?_;rintro e w2 ⟨rfl,hb2⟩;replace hB:=hB.trans (hb2.mono hB.size);replace bxq:=bxq.below hb2;clear hb2 kq_0 kq_1;have hw:IntKind.i64.wrap (fullMask q+1)=fullMask q+1:=IntWalk.i64_in _ (by omega);cases e2:((nz:Int) != fullMask q+1)
 rotate_left
 ·go_wp2
  go_ret;exact⟨ret_bool (a:=false) (isSizes_len hz.len (by simpa using e2)).symm,hB⟩
 go_wp2;clear hw;have E1:=Lib.hid e1;clear e1;have E2:Hid (((nz:Int)==fullMask q+1)=true):=Lib.hid (by simpa using e2);clear e2
 go_loop [5] (fun i=>∃ k:Nat,k<=nz/\i=.int .i64 k/\(z.take k).all (fun c=>inR c 0 4096)=true) (fun i=>nz - (intOf i).toNat)
 case atStart=>exact⟨0,Nat.zero_le _,rfl,rfl⟩
 case round =>
  obtain⟨k,hk,rfl,hall⟩:=hrel;have Hall:=Lib.hid hall;clear hall;by_cases hlt:k<nz
  ·obtain⟨b,off,x,rfl,hc,hI,hxk⟩:=(hz.below rInt_ok hB).ati hlt
   cases hx:inR x 0 4096
   ·go_wp2_with (go_at_call 51;refine(l1In_v hx _).mono ?_;rintro e w' ⟨rfl,rfl⟩)
    go_ret;exact⟨ret_bool (a:=false) (isSizes_no hxk.out hx).symm,hB⟩
   ·go_wp2_with (go_at_call 51;refine(l1In_v hx _).mono ?_;rintro e w' ⟨rfl,rfl⟩)
    go_round
    case rel=>exact⟨k+1,by omega,by go_num,all_snoc Hall.out hxk.out hx⟩
    case measure=>simp [intOf];omega
  ·go_wp2
   go_ret;exact⟨ret_bool (a:=true) (isSizes_end hz.len E1.out E2.out (take_all hz.len hlt▸Hall.out)).symm,hB⟩
theorem iIsSizeVector_c (csq:List Value) (q:QueryD) (Az:Option Addr) (nz cz:Nat) (z:List Int) (w:World) (hq:(rQuery NB).rep w csq q) (hz:RS NB rInt w Az nz cz z) :
  Calls Tryz.prog 198 #[.agg csq.toArray,.slice Az nz cz] w fun e w'=>e=.returned (.bool (isSizes q z))/\Below w.heap.size w w':=by
 have rq:=hq;obtain⟨Aq_e,nq_e,cq_e,rfl,hq_p5,hq_e⟩:=rQuery_rep.1 hq;clear hq;obtain⟨hB,bxq⟩:=op1 w [.int .i64 q.fVariableCount,.slice Aq_e nq_e cq_e] 50;have hnz:=hz.bound;have hfm:=fullBd q
 go_enter Tryz.func198,Tryz.ntmps198
 go_upto_region 2 with fail
 go_loop [9] (fun i=>∃ k:Nat,k<=nz/\i=.int .i64 k/\(z.take k).all (fun c=>inR c 0 4096)=true) (fun i=>nz - (intOf i).toNat)
 case atStart=>exact⟨0,Nat.zero_le _,rfl,rfl⟩
 case round =>
  obtain⟨k,hk,rfl,hall⟩:=hrel;have Hall:=Lib.hid hall;clear hall;by_cases hlt:k<nz
  ·obtain⟨b,off,x,rfl,hc,hI,hxk⟩:=(hz.below rInt_ok hB).ati hlt
   cases hx:inR x 0 4096
   ·go_wp2_with (go_at_call 89;refine(within_c _ _ _ _).mono ?_;rintro e w' ⟨rfl,rfl⟩)
    go_ret;exact⟨ret_bool (a:=false) (isSizes_no hxk.out hx).symm,hB⟩
   ·go_wp2_with (go_at_call 89;refine(within_c _ _ _ _).mono ?_;rintro e w' ⟨rfl,rfl⟩)
    go_round
    case rel=>exact⟨k+1,by omega,by go_num,all_snoc Hall.out hxk.out hx⟩
    case measure=>simp [intOf];omega
  ·have HA:Hid (z.all (fun c=>inR c 0 4096)=true):=Lib.hid (take_all hz.len hlt▸Hall.out)
   have kq_0:=bxq 0 _ rfl;have kq_1:=bxq 1 _ rfl
   go_wp2_with fail
   refine(iIsValidQuery_c _ q _ ((rQuery_ok NB).keep rq (cells_below hB))).mono ?_;rintro e w1 ⟨rfl,hb1⟩;replace hB:=hB.trans (hb1.mono hB.size);replace bxq:=bxq.below hb1;clear hb1 kq_0 kq_1;cases e1:validQ q
   ·go_wp2
    go_ret;exact⟨ret_bool (a:=false) (isSizes_q e1).symm,hB⟩
   have kq_0:=bxq 0 _ rfl;have kq_1:=bxq 1 _ rfl
   go_wp2_with fail
   refine(iFullMask_c _ q _ ((rQuery_ok NB).keep rq (cells_below hB))).mono ?_;rintro e w2 ⟨rfl,hb2⟩;replace hB:=hB.trans (hb2.mono hB.size);replace bxq:=bxq.below hb2;clear hb2 kq_0 kq_1;have hw:IntKind.i64.wrap (fullMask q+1)=fullMask q+1:=IntWalk.i64_in _ (by omega);cases e2:((nz:Int)==fullMask q+1)
   ·go_wp2
    go_ret;exact⟨ret_bool (a:=false) (isSizes_len hz.len e2).symm,hB⟩
   ·go_wp2
    go_ret;exact⟨ret_bool (a:=true) (isSizes_end hz.len e1 e2 HA.out).symm,hB⟩
def locSizes (l:List Int):List Int:=if isLoc l then l.map clsSize else []
theorem locSizes_no {l:List Int}(h:isLoc l=false):locSizes l=[]:=by simp [locSizes,h]
theorem clsSize_I (k:Int):I64 (clsSize k):=by
 unfold clsSize;repeat' split
 all_goals exact⟨by omega,by omega⟩
theorem mapCls_snoc {l:List Int}{k:Nat}{x:Int}(h:l[k]?=some x):(l.take k).map clsSize++[clsSize x]=(l.take (k+1)).map clsSize:=by
 rw [take_snoc h];simp
theorem isLoc_v {P:Program}{f:Nat}{A:Option Addr}{n cap:Nat}{l:List Int}{w:World}{v:Bool}(h:isLoc l=v) (hc:Calls P f #[.slice A n cap] w fun e w'=>e=.returned (.bool (isLoc l))/\w=w'):Calls P f #[.slice A n cap] w fun e w'=>e=.returned (.bool v)/\w'=w :=
 hc.mono fun e w' q=>⟨h▸q.1,q.2.symm⟩
theorem sLocationSizes_c (Al:Option Addr) (nl cl:Nat) (l:List Int) (w:World) (hl:RS NB rInt w Al nl cl l) :
  Calls Tryz.prog 56 #[.slice Al nl cl] w (RetS 3 rInt (locSizes l) w):=by
 have hn:=hl.bound;have hB:=(Below.refl w.heap.size w).alloc (Nat.le_refl _) (.cells #[] 3);have hM:=MS.empty (B:=w.heap.size) (M:=NB) (e:=3) (r:=rInt) w (Nat.le_refl _);cases h1:isLoc l
 ·have K:Hid (∀ W,Below w.heap.size w W->Calls Tryz.prog 130 #[.slice Al nl cl] W fun e w'=>e=.returned (.bool false)/\w'=W):=by
   show ∀ W,_->_;exact fun W hW=>isLoc_v h1 (sIsLocation_c _ _ _ l W (hl.below rInt_ok hW))
  have HN:=Lib.hid (locSizes_no h1);clear h1;by_cases h0:0<nl
  ·go_enter Tryz.func56,Tryz.ntmps56
   go_wp2_with (go_at_call 130;refine(K.out _ hB).mono ?_;rintro e w' ⟨rfl,rfl⟩)
   go_loopw [3,4] (fun v i wr=>wr=w.alloc (.cells #[] 3)/\i=.int .i64 0/\v=.slice (some ⟨w.heap.size,0,none⟩) 0 0) (fun _ _ _=>0)
   case atStart=>exact⟨rfl,rfl,rfl⟩
   case round =>
    obtain⟨rfl,rfl,rfl⟩:=hrel
    go_wp2_with (go_at_call 130;refine(K.out _ hB).mono ?_;rintro e w' ⟨rfl,rfl⟩)
    go_ret;exact⟨_,_,_,rfl,by rw [HN.out];exact hM,hB⟩
  ·go_enter Tryz.func56,Tryz.ntmps56
   go_wp2
   go_loopw [3,4] (fun v i wr=>wr=w.alloc (.cells #[] 3)/\i=.int .i64 0/\v=.slice (some ⟨w.heap.size,0,none⟩) 0 0) (fun _ _ _=>0)
   case atStart=>exact⟨rfl,rfl,rfl⟩
   case round =>
    obtain⟨rfl,rfl,rfl⟩:=hrel;go_wp2;go_ret;exact⟨_,_,_,rfl,by rw [HN.out];exact hM,hB⟩
 have K:Hid (∀ W,Below w.heap.size w W->Calls Tryz.prog 130 #[.slice Al nl cl] W fun e w'=>e=.returned (.bool true)/\w'=W):=by
  show ∀ W,_->_;exact fun W hW=>isLoc_v h1 (sIsLocation_c _ _ _ l W (hl.below rInt_ok hW))
 have HE:Hid (locSizes l=l.map clsSize):=by show _=_;simp [locSizes,h1]
 clear h1
 go_enter Tryz.func56,Tryz.ntmps56
 go_wp2_with fail
 go_loopw [3,4] (fun v i wr=>∃ (k:Nat) (A:Option Addr) (c:Nat),k<=nl/\i=.int .i64 k/\v=.slice A k c/\MS w.heap.size NB 3 rInt wr A k c ((l.take k).map clsSize)/\Below w.heap.size w wr) (fun _ i _=>nl - (intOf i).toNat)
 case atStart=>exact⟨0,_,_,Nat.zero_le _,rfl,rfl,hM,hB⟩
 case round =>
  clear hM hB;obtain⟨k,A,c,hk,rfl,rfl,hMr,hBr⟩:=hrel;by_cases hlt:k<nl
  ·obtain⟨b,off,x,rfl,hc,hI,hxk⟩:=(hl.below rInt_ok hBr).ati hlt
   have hci:=clsSize_I x
   go_wp2_with (first|(go_at_call 130;refine(K.out _ hBr).mono ?_;rintro e w' ⟨rfl,rfl⟩)|(go_at_call 131;refine(sClassSize_q _ _).mono ?_;rintro e w' ⟨rfl,rfl⟩)|(at_builtin;refine wpList_app (r:=rInt) rfl _ _ 30 rfl _ 8 eiInt rInt_ok rfl hMr (bal) hBr.size ⟨_,0,none⟩ rfl [] [.int .i64 (clsSize x)] (clsSize x) ⟨rfl,rfl,hci⟩ (Fr.nil _) (cell_one_new _ _ _) (by unfold NB at *;omega) (Nat.le_refl _) (by unfold NB at *;omega) ?_;intro A2 k2 w2 hM2 hb2 hg2))
   go_roundw
   case rel=>exact⟨k+1,A2,k2,by omega,by go_num,rfl,by rw [<- mapCls_snoc hxk.out];exact hM2,(hBr.alloc hBr.size _).trans hb2⟩
   case measure=>simp [intOf];omega
  ·go_wp2
   go_ret
   exact⟨_,_,_,rfl,by
    have e:=hMr;rw [List.take_of_length_le (by rw [hl.len];omega)]at e;rw [HE.out];exact e,hBr⟩
theorem iLocationSizes_c (Al:Option Addr) (nl cl:Nat) (l:List Int) (w:World) (hl:RS NB rInt w Al nl cl l) :
  Calls Tryz.prog 67 #[.slice Al nl cl] w (RetS 3 rInt (locSizes l) w):=by
 have hn:=hl.bound;have hB:=(Below.refl w.heap.size w).alloc (Nat.le_refl _) (.cells #[] 3);have hM:=MS.empty (B:=w.heap.size) (M:=NB) (e:=3) (r:=rInt) w (Nat.le_refl _)
 go_enter Tryz.func67,Tryz.ntmps67
 go_wp2_with fail
 go_loopw [3,9] (fun v i wr=>∃ (k:Nat) (A:Option Addr) (c:Nat),k<=nl/\i=.int .i64 k/\v=.slice A k c/\MS w.heap.size NB 3 rInt wr A k c ((l.take k).map clsSize)/\Below w.heap.size w wr) (fun _ i _=>nl - (intOf i).toNat)
 case atStart=>exact⟨0,_,_,Nat.zero_le _,rfl,rfl,hM,hB⟩
 case round =>
  clear hM hB;obtain⟨k,A,c,hk,rfl,rfl,hMr,hBr⟩:=hrel;by_cases hlt:k<nl
  ·obtain⟨b,off,x,rfl,hc,hI,hxk⟩:=(hl.below rInt_ok hBr).ati hlt
   have hci:=clsSize_I x
   go_wp2_with (first|(go_at_call 143;refine(iClassSize_q _ _).mono ?_;rintro e w' ⟨rfl,rfl⟩)|(at_builtin;refine wpList_app (r:=rInt) rfl _ _ 30 rfl _ 8 eiInt rInt_ok rfl hMr (bal) hBr.size ⟨_,0,none⟩ rfl [] [.int .i64 (clsSize x)] (clsSize x) ⟨rfl,rfl,hci⟩ (Fr.nil _) (cell_one_new _ _ _) (by unfold NB at *;omega) (Nat.le_refl _) (by unfold NB at *;omega) ?_;intro A2 k2 w2 hM2 hb2 hg2))
   go_roundw
   case rel=>exact⟨k+1,A2,k2,by omega,by go_num,rfl,by rw [<- mapCls_snoc hxk.out];exact hM2,(hBr.alloc hBr.size _).trans hb2⟩
   case measure=>simp [intOf];omega
  ·rw [List.take_of_length_le (by rw [hl.len];omega)]at hMr
   have hr2:=hl.below rInt_ok hBr;cases h1:isLoc l
   ·have HN:=Lib.hid (locSizes_no h1)
    have K:=Lib.hid (isLoc_v h1 (iIsLocation_c _ _ _ l wr hr2));clear h1
    go_wp2_with (go_at_call 144;refine K.out.mono ?_;rintro e w' ⟨rfl,rfl⟩)
    go_ret;exact⟨_,_,_,rfl,by rw [HN.out];exact MS.nil _ (Nat.zero_le _),hBr⟩
   ·have HE:Hid (locSizes l=l.map clsSize):=by show _=_;simp [locSizes,h1]
    have K:=Lib.hid (isLoc_v h1 (iIsLocation_c _ _ _ l wr hr2));clear h1
    go_wp2_with (go_at_call 144;refine K.out.mono ?_;rintro e w' ⟨rfl,rfl⟩)
    go_ret;exact⟨_,_,_,rfl,by rw [HE.out];exact hMr,hBr⟩
end Go.Proofs.YtnlcfkpcmfljeaaGreat
