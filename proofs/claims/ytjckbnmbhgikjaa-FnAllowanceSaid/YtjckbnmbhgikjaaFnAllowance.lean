/-
  FnAllowance
-/
import Derived.Test.YtjckbnmbhgikjaaRows
import Derived.Test.YtjckbnmbhgikjaaKeep
import Derived.Test.YtjckbnmbhgikjaaAll
import Derived.Test.YtjckbnmbhgikjaaAllow
import Derived.Test.YtjckbnmbhgikjaaAdm
import Derived.Test.YtjckbnmbhgikjaaOper
import Derived.Test.YtjckbnmbhgikjaaCls
import Derived.Test.YtjckbnmbhgikjaaOpens
import Derived.WalkKit
import Derived.ProofKit
import Derived.OpenShut
import Derived.ChangeOld
import Derived.Below
import Derived.Deep.RegionHeld3
namespace Go.Proofs.Ytjckbnmbhgikjaa.fnAllowance
open Go.ChangeShapes Go.WideShapes Go.ChangeAt Go.RowKit
set_option linter.unusedVariables false
set_option linter.unusedSimpArgs false

theorem own:ownKnob Try.prog.godebug=none:=by kernel_rfl
theorem laidOut:laidOutB Try.prog=true:=by kernel_rfl
theorem opens_byte {P:Program}{t:TypeId}(ht:P.underlying t=some (.int .u8)):Opens P t rByte:=by
 intro H enc w base spare held fuel cs x h
 obtain⟨n,rfl,_,hw⟩:=DataW.trod_int ht h
 exact⟨n,rfl,bounds_u8 hw⟩
theorem big_c (A:Option Addr) (n cap:Nat) (w:World):Calls Try.prog 4 #[.slice A n cap] w fun e w'=>e=.returned (.bool (decide (1048576<n)))/\w=w':=by
 by_cases h:(1048576:Int)<n
 ·go_enter Try.func4,Try.ntmps4
  go_wp2
  go_ret
  exact⟨ret_bool (by simp;omega),rfl⟩
 ·go_enter Try.func4,Try.ntmps4
  go_wp2
  go_ret
  exact⟨ret_bool (by simp;omega),rfl⟩
set_option maxRecDepth 100000 in
set_option maxHeartbeats 4000000 in
theorem walk (A:Option Addr) (n cap:Nat) (l:List Int) (w:World) (r0:RS maxLen rByte w A n cap l) :
  Calls Try.prog 3 #[.slice A n cap] w fun e w'=>e=.returned (.bool true)/\Below w.heap.size w w':=by
 by_cases hsz:n<=1048576
 rotate_left
 ·have hd:decide (1048576<n)=true:=by simp;omega
  go_enter Try.func3,Try.ntmps3
  go_wp2_with (go_at_call 4;refine(big_c _ _ _ _).mono ?_;rintro e w' ⟨rfl,rfl⟩)
  go_ret
  exact⟨rfl,Below.refl _ _⟩
 have hd:decide (1048576<n)=false:=by simp;omega
 have hr:=smallB r0 hsz
 clear r0
 go_enter Try.func3,Try.ntmps3
 go_wp2_with (go_at_call 4;refine(big_c _ _ _ _).mono ?_;rintro e w' ⟨rfl,rfl⟩)
 clear hd
 refine(drawAllow_c _ _ _ _ _ hr).mono ?_
 rintro e w1 ⟨m,cm,k,x,y,b,rfl,rM,kI,xI,yI,bI,hB⟩
 clear hr
 have lenm:=(rModel_ok NB).len rM
 have ON:=one_rep (rModel_ok NB) rM
 have hcz:cm.toArray.size=30:=List.size_toArray.trans lenm
 obtain⟨gM,hgM⟩:∃ z,z=w1.heap.size:=⟨_,rfl⟩
 obtain⟨w2,hw2⟩:∃ W,W=w1.alloc (.cells #[.int .i64 0,.int .i64 0,.int .i64 0,.int .i64 0,.int .i64 0,.slice none 0 0,.int .i64 0,.int .i64 0,.int .i64 0,.int .i64 0,.int .i64 0,.slice none 0 0,.int .i64 0,.int .i64 0,.int .i64 0,.int .i64 0,.int .i64 0,.slice none 0 0,.int .i64 0,.int .i64 0,.int .i64 0,.int .i64 0,.int .i64 0,.slice none 0 0,.int .i64 0,.int .i64 0,.int .i64 0,.int .i64 0,.int .i64 0,.slice none 0 0] 28):=⟨_,rfl⟩
 have b2:Below w1.heap.size w1 w2:=by rw [hw2];exact(Below.refl _ _).alloc (Nat.le_refl _) _
 have k0:Bk w2 gM 28 [.int .i64 0,.int .i64 0,.int .i64 0,.int .i64 0,.int .i64 0,.slice none 0 0,.int .i64 0,.int .i64 0,.int .i64 0,.int .i64 0,.int .i64 0,.slice none 0 0,.int .i64 0,.int .i64 0,.int .i64 0,.int .i64 0,.int .i64 0,.slice none 0 0,.int .i64 0,.int .i64 0,.int .i64 0,.int .i64 0,.int .i64 0,.slice none 0 0,.int .i64 0,.int .i64 0,.int .i64 0,.int .i64 0,.int .i64 0,.slice none 0 0]:=by rw [hw2,hgM];exact Bk.new w1 _ _
 have TH:w2.there gM 0 cm.toArray.size:=by rw [hcz];exact k0.there
 obtain⟨w3,hw3⟩:∃ W,W=setCells w2 gM 0 cm:=⟨_,rfl⟩
 have kM:Bk w3 gM 28 cm:=by rw [hw3];exact k0.fill (by rw [lenm];rfl)
 have b3:Below w1.heap.size w1 w3:=by rw [hw3];exact Below.setCells b2 (by rw [hgM];exact Nat.le_refl _) _ _
 have hB3:=hB.trans (b3.mono hB.size)
 have rM3:=(rModel_ok NB).keep rM (cells_below b3)
 have HW2:=Lib.hid hw2
 have HW3:=Lib.hid hw3
 have HGM:=Lib.hid hgM
 clear hgM hw2 hw3 b2 b3 k0 hB rM
 obtain⟨N,hN⟩:∃ N,N=stepAllow m k x y b:=⟨_,rfl⟩
 have hNb:=stepAllow_bd m k x y b
 rw [<- hN]at hNb
 have HN:=Lib.hid hN
 clear hN
 have hC1:Hid (∀ W,Below w3.heap.size w3 W->Calls Try.prog 6 #[.agg cm.toArray,.int .i64 k,.int .i64 x,.int .i64 y,.int .i64 b] W fun e w'=>e=.returned (.int .i64 N)/\Below W.heap.size W w'):=by
  show ∀ W,_->_
  intro W hW
  rw [HN.out]
  exact iStepAllowance_c cm m k x y b W ((rModel_ok NB).keep rM3 (cells_below hW))
 have hC2:Hid (∀ W,Below w3.heap.size w3 W->Calls Try.prog 7 #[.agg cm.toArray,.int .i64 k,.int .i64 x,.int .i64 y,.int .i64 b] W fun e w'=>e=.returned (.int .i64 N)/\Below W.heap.size W w'):=by
  show ∀ W,_->_
  intro W hW
  rw [HN.out]
  exact sStepAllowance_c cm m k x y b W ((rModel_ok NB).keep rM3 (cells_below hW))
 go_wp2_with (first|(refine wpList_store_mid rfl 28 _ _ rfl gM 0 cm.toArray (by rw [HGM.out];rfl) rfl (by rw [<- HW2.out];exact TH) (by rw [hcz];exact sizeModelT) ON ?_;rw [<- HW2.out,setCells_kit,List.toList_toArray,<- HGM.out,<- HW3.out])|(refine wpList_load_mid rfl 28 _ rfl gM 0 rfl cm _ kM.rangeAt Try.underlying28 rfl (by rw [lenm];exact sizeModelT) ?_))
 refine(hC1.out _ (Below.refl _ _)).mono ?_
 rintro e w4 ⟨rfl,hb4⟩
 have kM4:=kM.below hb4
 clear HW2 HW3 HGM TH ON hcz hC1
 have hqq:(N != N)=false:=by simp
 go_wp2_with (refine wpList_load_mid rfl 28 _ rfl gM 0 rfl cm _ kM4.rangeAt Try.underlying28 rfl (by rw [lenm];exact sizeModelT) ?_)
 refine(hC2.out _ hb4).mono ?_
 rintro e w5 ⟨rfl,hb5⟩
 have bb5:=hb4.trans (hb5.mono hb4.size)
 have kM5:=kM.below bb5
 have rM5:=(rModel_ok NB).keep rM3 (cells_below bb5)
 have hB5:=hB3.trans (bb5.mono hB3.size)
 clear hC2 hb4 hb5 kM kM4 hB3 rM3 bb5
 go_wp2_with (refine wpList_load_mid rfl 28 _ rfl gM 0 rfl cm _ kM5.rangeAt Try.underlying28 rfl (by rw [lenm];exact sizeModelT) ?_)
 refine(sModelOperator_c cm m k _ rM5).mono ?_
 rintro e w6 ⟨cs,fp,rfl,oX,fX,hb6⟩
 have kM6:=kM5.below hb6
 have rM6:=(rModel_ok NB).keep rM5 (cells_below hb6)
 have hB6:=hB5.trans (hb6.mono hB5.size)
 have lenc:=(rOperator_ok NB).len ((rOperator_ok NB).toRep oX)
 have ON:=one_rep (rOperator_ok NB) ((rOperator_ok NB).toRep oX)
 have hcz:cs.toArray.size=6:=List.size_toArray.trans lenc
 obtain⟨gO,hgO⟩:∃ z,z=w6.heap.size:=⟨_,rfl⟩
 obtain⟨w7,hw7⟩:∃ W,W=w6.alloc (.cells #[.int .i64 0,.int .i64 0,.int .i64 0,.int .i64 0,.int .i64 0,.slice none 0 0] 26):=⟨_,rfl⟩
 have b7:Below w6.heap.size w6 w7:=by rw [hw7];exact(Below.refl _ _).alloc (Nat.le_refl _) _
 have k0:Bk w7 gO 26 [.int .i64 0,.int .i64 0,.int .i64 0,.int .i64 0,.int .i64 0,.slice none 0 0]:=by rw [hw7,hgO];exact Bk.new w6 _ _
 have TH:w7.there gO 0 cs.toArray.size:=by rw [hcz];exact k0.there
 obtain⟨w8,hw8⟩:∃ W,W=setCells w7 gO 0 cs:=⟨_,rfl⟩
 have kO:Bk w8 gO 26 cs:=by rw [hw8];exact k0.fill (by rw [lenc];rfl)
 have b8:Below w6.heap.size w6 w8:=by rw [hw8];exact Below.setCells b7 (by rw [hgO];exact Nat.le_refl _) _ _
 have kM8:=kM6.below b8
 have rM8:=(rModel_ok NB).keep rM6 (cells_below b8)
 have rO8:=(rOperator_ok NB).toRep ((rOperator_ok NB).ownB oX b8)
 have hB8:=hB6.trans (b8.mono hB6.size)
 have HW7:=Lib.hid hw7
 have HW8:=Lib.hid hw8
 have HGO:=Lib.hid hgO
 clear hgO hw7 hw8 b7 b8 k0 oX fX hb6 kM5 kM6 rM5 rM6 hB5 hB6 hqq
 cases hk:inR k 1 5 with
 | false =>
  have HO:Hid ((modelOp m k).2=false):=by show _=_;unfold modelOp;rw [hk];rfl
  have hN0:N=0:=by rw [HN.out];exact allow_none (by rw [hk];simp)
  clear HN hk
  subst hN0
  rw [HO.out]
  go_wp2_with (first|(refine wpList_store_mid rfl 26 _ _ rfl gO 0 cs.toArray (by rw [HGO.out];rfl) rfl (by rw [<- HW7.out];exact TH) (by rw [hcz];exact sizeOpU) ON ?_;rw [<- HW7.out,setCells_kit,List.toList_toArray,<- HGO.out,<- HW8.out]))
  go_ret
  exact⟨rfl,hB8⟩
 | true =>
  have HO:Hid ((modelOp m k).2=true):=by show _=_;unfold modelOp;rw [hk];rfl
  have HO1:(modelOp m k).1=opOf m k:=by unfold modelOp;rw [hk];rfl
  rw [HO1]at rO8
  rw [HO.out]
  clear HO HO1
  have HK:=Lib.hid hk
  clear hk
  go_wp2_with (first|(refine wpList_store_mid rfl 26 _ _ rfl gO 0 cs.toArray (by rw [HGO.out];rfl) rfl (by rw [<- HW7.out];exact TH) (by rw [hcz];exact sizeOpU) ON ?_;rw [<- HW7.out,setCells_kit,List.toList_toArray,<- HGO.out,<- HW8.out])|(refine wpList_load_midW 28 _ rfl gM 0 rfl cm _ kM8.rangeAt Try.underlying28 rfl (by rw [lenm];exact sizeModelT) (by simp [Region.wanted,yielded]) ?_))
  refine(sIsAdmitted_c cm m _ rM8).mono ?_
  rintro e w9 ⟨rfl,hb9⟩
  have kM9:=kM8.below hb9
  have kO9:=kO.below hb9
  have rO9:=(rOperator_ok NB).keep rO8 (cells_below hb9)
  have hB9:=hB8.trans (hb9.mono hB8.size)
  clear kM8 rM8 rO8 hB8 hb9 HW7 HW8 HGO TH ON kO
  cases hm:admitted m with
  | false =>
   have hN0:N=0:=by rw [HN.out];exact allow_none (by rw [hm];simp)
   clear HN hm
   subst hN0
   go_wp2
   go_ret
   exact⟨rfl,hB9⟩
  | true =>
   have HA:=Lib.hid hm
   clear hm
   by_cases h1:x<0
   ·have hN0:N=0:=by rw [HN.out];exact allow_none (by rw [inR_f.2 (.inl h1)];simp)
    clear HN
    subst hN0
    go_wp2
    go_ret
    exact⟨rfl,hB9⟩
   by_cases h2:y<0
   ·have hN0:N=0:=by rw [HN.out];exact allow_none (by rw [inR_f.2 (.inl h2)];simp)
    clear HN
    subst hN0
    go_wp2
    go_ret
    exact⟨rfl,hB9⟩
   by_cases h3:4096<x
   ·have hN0:N=0:=by rw [HN.out];exact allow_none (by rw [inR_f.2 (.inr h3)];simp)
    clear HN
    subst hN0
    go_wp2
    go_ret
    exact⟨rfl,hB9⟩
   by_cases h4:4096<y
   ·have hN0:N=0:=by rw [HN.out];exact allow_none (by rw [inR_f.2 (.inr h4)];simp)
    clear HN
    subst hN0
    go_wp2
    go_ret
    exact⟨rfl,hB9⟩
   have hL:Hid (∀ j:Nat,j<8->decide (opCostV (opOf m k) x y (clsSize (j:Int))<=b)=decide ((j:Int)<N)):=by
    show ∀ j:Nat,_->_
    intro j hj
    rw [HN.out]
    exact allow_law HK.out HA.out (inR_t.2 ⟨by omega,by omega⟩) (inR_t.2 ⟨by omega,by omega⟩) hj
   clear HN HK HA
   have lenc':cs.length=6:=lenc
   go_upto_region 10 with fail
   go_wp2
   go_loopw [11] (fun i wr=>∃ j:Nat,j<=8/\i=.int .i64 j/\Below w9.heap.size w9 wr) (fun i _=>8 - (intOf i).toNat)
   case atStart=>exact⟨0,by omega,rfl,Below.refl _ _⟩
   case round =>
    obtain⟨j,hj,rfl,hb⟩:=hrel
    by_cases hlt:j<8
    ·have hji:(j:Int)<=7:=by omega
     have hLj:=hL.out j hlt
     have hcl:=clsSize_bd (k:=(j:Int)) (by omega) (by omega)
     obtain⟨cost,hco⟩:∃ c,c=opCostV (opOf m k) x y (clsSize (j:Int)):=⟨_,rfl⟩
     rw [<- hco]at hLj
     have HCO:=Lib.hid hco
     clear hco
     have hbD:=hb.trans ((Below.refl wr.heap.size wr).drew.mono hb.size)
     have HSS:Hid (∀ w':World,Below w9.heap.size w9 w'->w'.rangeAt gO 0 cs):=by
      show ∀ w':World,_->_
      exact fun w' h=>(kO9.below h).rangeAt
     have hd1:(!(decide (cost<=b)==decide ((j:Int)<N)))=false:=by rw [hLj];cases decide ((j:Int)<N)<;>rfl
     clear hLj
     go_upto_region 13 with fail
     refine hbg HSS.out hbD (fun hHeld=>?_)
     refine' wpAnyH_take (i:=0) (oi:=⟨some 71,_,_,_,_,_⟩) (v:=_) rfl (by kernel_rfl) (by kernel_rfl) (by kernel_rfl) (fun _ _ _ h=>h) (yieldsIf_load_mid (by rfl) _ _ rfl _ _ rfl _ _ (fun w h=>h) Try.underlying26 rfl (by rw [lenc'];exact sizeOpU)) hHeld ?_
     simp only [putS]
     refine tka 1 72 hHeld ?_;simp only [putS]
     refine tka 2 73 hHeld ?_;simp only [putS]
     refine tka 3 74 hHeld ?_;simp only [putS]
     refine tka 6 77 hHeld ?_;simp only [putS]
     refine tka 8 79 hHeld ?_;simp only [putS]
     refine tka 9 80 hHeld ?_;simp only [putS]
     refine tka 10 81 hHeld ?_;simp only [putS]
     refine rd 4 (some 75) fun K hK=>?_
     clear hHeld
     go_simp
     refine(sClassSize_q (j:Int) _).mono ?_
     rintro e w' ⟨rfl,hww⟩;replace hww:=hww.symm;subst hww
     go_wp2_with fail
     refine hK.out _ _ (HSS.out _ hbD) (fun hHeld=>?_)
     clear hK K
     try simp only [putS]
     refine rd 5 (some 76) fun K hK=>?_
     clear hHeld
     go_simp
     refine(iOperatorCost_c cs (opOf m k) x y _ _ ((rOperator_ok NB).keep rO9 (cells_below hbD))).mono ?_
     rintro e w10 ⟨rfl,hb10⟩
     rw [<- HCO.out]
     have hE:Below w9.heap.size w9 w10:=hbD.trans (hb10.mono hbD.size)
     go_wp2_with fail
     refine hK.out _ _ (HSS.out _ hE) (fun hHeld=>?_)
     clear hK K
     try simp only [putS]
     refine tka 7 78 hHeld ?_;simp only [putS]
     refine tka 11 82 hHeld ?_;simp only [putS]
     refine wpAnyH_done (by kernel_rfl) ?_ _
     clear hHeld
     go_wp2
     go_roundw
     case rel=>exact⟨j+1,by omega,by go_num,hE⟩
     case measure=>simp [intOf];omega
    ·have hji:(7:Int)<j:=by omega
     go_wp2
     go_ret
     exact⟨rfl,hB9.trans (hb.mono hB9.size)⟩

set_option maxRecDepth 100000 in
theorem lifted (os:Os) (started:os.Started) (H:Type) (enc:TypeId × Value->H) :
  ReturnsInHanded {} Try.checked os 3 .any (Rows.fnAllowanceSpec.pre6 enc Try.prog Try.f3 Rows.fnAllowanceRow.domain false) (Rows.fnAllowanceSpec.post enc Try.prog Try.f3 false true false false):=by
 refine returnsInHanded_of_change (C:=Try.checked) own started (by kernel_rfl) Try.func3
  (ChangeSpec.witness6 (enc:=enc) (C:=Try.checked) false ⟨#[],#[.slice none 0 0],[]⟩ 8 (by kernel_rfl) (by kernel_rfl) (by kernel_rfl) (by kernel_rfl)) ?_
 intro W base args ds gs before hval0 hW hcnd _
 have hval:∀ (j:Nat) t v,Try.f3.params[j]?=some t->args[j]?=some v->Value.okWide Try.prog W .any base t v:=hval0
 have hW':=hW
 obtain⟨p,q,hA0,hV,rfl,hfz,hnd⟩:=hW
 have hA:DataW.TrodAll enc Try.prog W 0 (fun _=>true) true Try.f3.params.toList args.toList ds p:=hA0
 rw [Try.params3]at hA hval
 obtain⟨v0,vs0,d0,ds0,p0,q0,hargs,rfl,rfl,h0,r0⟩:=trodAll_cons hA
 obtain⟨rfl,rfl,rfl⟩:=trodAll_nil r0
 obtain rfl:args=#[v0]:=by cases args;simp_all
 obtain⟨rfl,rfl⟩:=trodVars_none hV
 obtain⟨A0,n0,c0,rfl⟩:=okWide_slice Try.underlying22 (hval 0 22 v0 rfl rfl)
 have k0:=h0
 have lt0:∀ x∈p0,x.block<W.heap.size:=by obtain⟨m,hm⟩:=k0;exact DataW.trod_lt m _ _ _ hm
 obtain⟨l0,g0⟩:∃ l,RS maxLen rByte W A0 n0 c0 l:=by
  obtain⟨fuel,hf⟩:=h0
  obtain⟨l,A,n,c,e,hr⟩:=(opens_slice rByte_ok Try.underlying22 (by kernel_rfl) (opens_byte Try.underlying5)) hf
  simp [Value.cells]at e
  obtain⟨rfl,rfl,rfl⟩:=e
  exact⟨l,hr⟩
 clear hA0 hval0
 refine(walk A0 n0 c0 l0 W g0).mono fun e W' ⟨he,bel⟩=>?_
 subst he
 exact⟨_,rfl,_,_,_,[],_,[],hW',trodAll_mk1 (shut_bool Try.underlying4 _),(trodAll_cons_mk (Below.trod laidOut (by kernel_rfl) (of_decide_eq_true (by kernel_rfl)) k0 bel lt0) trodAll_mk0),rfl,bel.frame _,fun h=>by cases h⟩

theorem over:Rows.fnAllowanceRow.holds Try.pinned (OpenSpec.ofChange Rows.fnAllowanceSpec) :=
 OpenClaim.holds_of_wide 3 Try.f3 rfl rfl rfl rfl rfl rfl rfl ⟨rfl,rfl,rfl,rfl,rfl⟩ rfl rfl rfl rfl rfl (by kernel_rfl) Try.func3 (by kernel_rfl)
  (of_decide_eq_true (by kernel_rfl)) (by unfold Func.isWrapper;first|(rw [if_pos (by decide +kernel)];kernel_rfl)|(rw [if_neg (by decide +kernel)];exact⟨rfl,rfl⟩))
  (fun os started H enc _=>lifted os started H enc)

theorem proved : Rows.FnAllowanceSaid := over
#print axioms proved
end Go.Proofs.Ytjckbnmbhgikjaa.fnAllowance
