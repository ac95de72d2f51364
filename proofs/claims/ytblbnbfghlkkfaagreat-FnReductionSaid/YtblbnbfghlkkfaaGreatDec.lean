/-
  Dec
-/
import Derived.Test.YtblbnbfghlkkfaaGreatTrip
import Derived.Test.YtblbnbfghlkkfaaGreatTo
namespace Go.Proofs.YtblbnbfghlkkfaaGreat
open Go.RowKit
set_option linter.unusedVariables false
set_option linter.unusedSimpArgs false
attribute [local go_sem ↓] Go.wp_at_zero Go.wp_at_succ

def trip (i:Nat):List Int:=[((i / 64:Nat):Int),((i / 8 % 8:Nat):Int),((i % 8:Nat):Int)]
theorem trip_eq {a b c:Nat}(hb:b<8) (hc:c<8):trip (64*a+8*b+c)=[(a:Int),(b:Int),(c:Int)]:=by
 have h1:(64*a+8*b+c) / 64=a:=by omega
 have h2:(64*a+8*b+c) / 8 % 8=b:=by omega
 have h3:(64*a+8*b+c) % 8=c:=by omega
 simp only [trip,h1,h2,h3]
def decAt (o:OperatorD) (t:List Int) (k:Nat):Bool:=match t[k]? with
 | some x=>decide (x<7)&&decide (costL o (t.set k (x+1))<costL o t)
 | none=>false
def decT (o:OperatorD) (t:List Int):Bool:=!(List.range 3).all (fun k=>!decAt o t k)
def hasDec (o:OperatorD):Bool:=!(List.range 512).all (fun i=>!decT o (trip i))
def cheapT (o:OperatorD) (t:List Int):Bool:=decide (costL o t<1)
def hasCheap (o:OperatorD):Bool:=!(List.range 512).all (fun i=>!cheapT o (trip i))
theorem decT_yes {o:OperatorD}{t:List Int}{k:Nat}(hk:k<3) (h:decAt o t k=true):decT o t=true:=by
 unfold decT;rw [rangeAll_no (p:=fun k=>!decAt o t k) (by simp [h]) hk];rfl
theorem decT_no {o:OperatorD}{t:List Int}(h:(List.range 3).all (fun k=>!decAt o t k)=true):decT o t=false:=by unfold decT;rw [h];rfl
theorem hasDec_yes {o:OperatorD}{i:Nat}(hi:i<512) (h:decT o (trip i)=true):hasDec o=true:=by
 unfold hasDec;rw [rangeAll_no (p:=fun i=>!decT o (trip i)) (by simp [h]) hi];rfl
theorem hasDec_no {o:OperatorD}(h:(List.range 512).all (fun i=>!decT o (trip i))=true):hasDec o=false:=by unfold hasDec;rw [h];rfl
theorem hasCheap_yes {o:OperatorD}{i:Nat}(hi:i<512) (h:cheapT o (trip i)=true):hasCheap o=true:=by
 unfold hasCheap;rw [rangeAll_no (p:=fun i=>!cheapT o (trip i)) (by simp [h]) hi];rfl
theorem hasCheap_no {o:OperatorD}(h:(List.range 512).all (fun i=>!cheapT o (trip i))=true):hasCheap o=false:=by unfold hasCheap;rw [h];rfl
theorem decAt_top {o:OperatorD}{t:List Int}{k:Nat}{x:Int}(h:t[k]?=some x) (hx:¬ x<7):decAt o t k=false:=by simp [decAt,h,hx]
theorem decAt_at {o:OperatorD}{t:List Int}{k:Nat}{x:Int}(h:t[k]?=some x) (hx:x<7):decAt o t k=decide (costL o (t.set k (x+1))<costL o t):=by simp [decAt,h,hx]

def Ret3 (b:Bool) (w:World) (e:Ending) (w':World):Prop:=∃ v1 v2,e=.returned (.tuple #[v1,v2,.bool b])/\Below w.heap.size w w'
theorem OS.three (w:World) {a b c:Int}(ha:I64 a) (hb:I64 b) (hc:I64 c):OS NB 3 rInt (w.alloc (.cells #[.int .i64 a,.int .i64 b,.int .i64 c] 3)) [w.heap.size] (some ⟨w.heap.size,0,none⟩) 3 3 [a,b,c] :=
 osInt.2 ⟨rfl,by unfold NB;omega,⟨by simp,.inr ⟨w.heap.size,3,#[.int .i64 a,.int .i64 b,.int .i64 c],rfl,Nat.zero_le _,heap_alloc_new w _,Nat.le_refl _,by unfold maxLen;omega,by simp,by simp⟩⟩,by simp [ha,hb,hc]⟩
theorem I64_small {n:Nat}(h:n<=1000):I64 (n:Int):=⟨by omega,by omega⟩

set_option maxRecDepth 100000 in
set_option maxHeartbeats 1600000 in
theorem sFindDecrease_c (csx:List Value) (x:OperatorD) (w:World) (hx:(rOperator NB).rep w csx x) :
  Calls Tryz.prog 136 #[.agg csx.toArray] w (Ret3 (validOp x&&hasDec x) w):=by
 have rx:=hx
 obtain⟨AxSteps,nxSteps,cxSteps,rfl,hxFixed,hxPerLeft,hxPerRight,hxPerOutput,hxPerPair,hxSteps⟩:=rOperator_rep.1 hx
 clear hx
 have hB:Below w.heap.size w w:=Below.refl _ _
 have hAx:=(Below.refl (World.heap (w)).size (w)).alloc (Nat.le_refl _) (.cells #[.int .i64 x.fFixed,.int .i64 x.fPerLeft,.int .i64 x.fPerRight,.int .i64 x.fPerOutput,.int .i64 x.fPerPair,.slice AxSteps nxSteps cxSteps] 26)
 replace hB:=hB.trans (hAx.mono hB.size)
 have bxx:=Bx.new (w) [.int .i64 x.fFixed,.int .i64 x.fPerLeft,.int .i64 x.fPerRight,.int .i64 x.fPerOutput,.int .i64 x.fPerPair,.slice AxSteps nxSteps cxSteps] 26
 clear hAx
 have kx_0:=bxx 0 _ rfl
 have kx_1:=bxx 1 _ rfl
 have kx_2:=bxx 2 _ rfl
 have kx_3:=bxx 3 _ rfl
 have kx_4:=bxx 4 _ rfl
 have kx_5:=bxx 5 _ rfl
 go_enter Tryz.func136,Tryz.ntmps136
 go_wp2_with fail
 refine(sIsValidOperator_c _ x _ ((rOperator_ok NB).keep rx (cells_below hB))).mono ?_
 rintro e w1 ⟨rfl,hb1⟩
 replace hB:=hB.trans (hb1.mono hB.size)
 replace bxx:=bxx.below hb1
 clear hb1 kx_0 kx_1 kx_2 kx_3 kx_4 kx_5
 cases hv:validOp x
 ·go_wp2
  go_ret3
  exact⟨_,_,by rw [hv];rfl,(hB.alloc hB.size _).alloc (by simp;have:=hB.size;omega) _⟩
 have HV:=Lib.hid hv;clear hv
 go_wp2
 go_loopw [5] (fun i wr=>∃ a:Nat,a<=8/\i=.int .i64 a/\(List.range (64*a)).all (fun i=>!decT x (trip i))=true/\Below w.heap.size w wr/\Bx wr w.heap.size [.int .i64 x.fFixed,.int .i64 x.fPerLeft,.int .i64 x.fPerRight,.int .i64 x.fPerOutput,.int .i64 x.fPerPair,.slice AxSteps nxSteps cxSteps]) (fun i _=>8 - (intOf i).toNat)
 case atStart=>exact⟨0,Nat.zero_le _,rfl,rfl,hB,bxx⟩
 case round =>
  clear hB bxx
  obtain⟨a,ha,rfl,hall,hB,bxx⟩:=hrel
  have HA:=Lib.hid hall;clear hall
  by_cases hlt:a<8
  ·have hle:(a:Int)<=7:=by omega
   go_wp2
   go_loopw [6] (fun i wr=>∃ b:Nat,b<=8/\i=.int .i64 b/\(List.range (64*a+8*b)).all (fun i=>!decT x (trip i))=true/\Below w.heap.size w wr/\Bx wr w.heap.size [.int .i64 x.fFixed,.int .i64 x.fPerLeft,.int .i64 x.fPerRight,.int .i64 x.fPerOutput,.int .i64 x.fPerPair,.slice AxSteps nxSteps cxSteps]) (fun i _=>8 - (intOf i).toNat)
   case atStart=>exact⟨0,Nat.zero_le _,rfl,HA.out,hB,bxx⟩
   case round =>
    clear hB bxx HA
    obtain⟨b,hb,rfl,hall,hB,bxx⟩:=hrel
    have HA:=Lib.hid hall;clear hall
    by_cases hlb:b<8
    ·have hlbI:(b:Int)<=7:=by omega
     go_wp2
     go_loopw [7] (fun i wr=>∃ e:Nat,e<=8/\i=.int .i64 e/\(List.range (64*a+8*b+e)).all (fun i=>!decT x (trip i))=true/\Below w.heap.size w wr/\Bx wr w.heap.size [.int .i64 x.fFixed,.int .i64 x.fPerLeft,.int .i64 x.fPerRight,.int .i64 x.fPerOutput,.int .i64 x.fPerPair,.slice AxSteps nxSteps cxSteps]) (fun i _=>8 - (intOf i).toNat)
     case atStart=>exact⟨0,Nat.zero_le _,rfl,HA.out,hB,bxx⟩
     case round =>
      clear hB bxx HA
      obtain⟨e,he,rfl,hall,hB,bxx⟩:=hrel
      have HA:=Lib.hid hall;clear hall
      by_cases hlc:e<8
      ·have hlcI:(e:Int)<=7:=by omega
       have HTE:Hid (trip (64*a+8*b+e)=[(a:Int),(b:Int),(e:Int)]):=Lib.hid (trip_eq hlb hlc)
       have hTT:Trip [(a:Int),(b:Int),(e:Int)]:=⟨_,_,_,rfl,⟨by omega,by omega⟩,⟨by omega,by omega⟩,by omega,by omega⟩
       have HT:=Lib.hid hTT;clear hTT
       have o1:=(OS.three wr (I64_small (n:=a) (by omega)) (I64_small (n:=b) (by omega)) (I64_small (n:=e) (by omega))).rs rInt_ok
       have hB1:=(Below.refl wr.heap.size wr).alloc (Nat.le_refl _) (.cells #[.int .i64 a,.int .i64 b,.int .i64 e] 3)
       generalize htv:[(a:Int),(b:Int),(e:Int)]=tv at o1 HT HTE
       clear htv
       go_wp2
       go_loopw [9] (fun i wr'=>∃ q:Nat,q<=3/\i=.int .i64 q/\(List.range q).all (fun k=>!decAt x tv k)=true/\RS NB rInt wr' (some ⟨wr.heap.size,0,none⟩) 3 3 tv/\Below w.heap.size w wr'/\Bx wr' w.heap.size [.int .i64 x.fFixed,.int .i64 x.fPerLeft,.int .i64 x.fPerRight,.int .i64 x.fPerOutput,.int .i64 x.fPerPair,.slice AxSteps nxSteps cxSteps]) (fun i _=>3 - (intOf i).toNat)
       case atStart=>exact⟨0,Nat.zero_le _,rfl,rfl,o1,hB.trans (hB1.mono hB.size),bxx.below hB1⟩
       case round =>
        clear o1 hB bxx hB1
        obtain⟨q,hq,rfl,hall,hRt,hB,bxx⟩:=hrel
        have HA2:=Lib.hid hall;clear hall
        by_cases hlt2:q<3
        ·have qI:(q:Int)<3:=by omega
         have q0:(0:Int)<=(q:Int):=by omega
         obtain⟨b3,off3,z,e3,hz,hIz,hzq⟩:=hRt.ati hlt2
         have hz7:=HT.out.at_ hzq.out
         clear e3 hz
         have hnew:=heap_alloc_new wr (.cells #[] 3)
         have hBn:=(Below.refl wr.heap.size wr).alloc (Nat.le_refl _) (.cells #[] 3)
         go_upto_region 17 with (at_builtin;refine wpList_appe (r:=rInt) (M:=NB) rfl _ _ 32 rfl _ 8 eiInt rInt_ok rInt_flat rfl hnew rfl (hRt.below rInt_ok hBn) hRt.nb (Nat.le_refl _) (by omega) ?_;intro A5 c5 w5 o5 g5 hb5)
         have M5:MS wr.heap.size NB 3 rInt w5 A5 3 c5 tv:=⟨_,o5,by cases A5<;>simp [blk],fun k hk=>by have:=g5 k hk;simp at this;omega⟩
         have hE5:=hBn.trans (hb5.mono hBn.size)
         clear o5 g5 hnew hBn hb5
         obtain⟨g,rfl,hgl,hgB⟩:=M5.form (by omega)
         obtain⟨u,hu,hIu,huk⟩:=M5.celli hlt2
         obtain rfl:u=z:=by have:=huk.out;rw [hzq.out]at this;injection this with this;exact this.symm
         have hfz:=M5.frozen q
         go_upto_region 18 with fail
         have hS:=M5.set q (x:=u+1) ⟨by omega,by omega⟩
         have hE:Below wr.heap.size wr (w5.setCell ⟨g,q,none⟩ (.int .i64 (u+1))):=hE5.trans ((Below.refl _ _).setCell hgB _)
         obtain⟨ws,hws⟩:∃ ws,ws=w5.setCell ⟨g,q,none⟩ (.int .i64 (u+1)):=⟨_,rfl⟩
         rw [<- hws]at hS hE ⊢
         clear hws hu hfz M5 hE5
         obtain⟨u2,hu2,_,hk2⟩:=hS.celli hlt2
         obtain rfl:u2=u+1:=by have:=hk2.out;rw [List.getElem?_set_self (lt_of_at huk.out)]at this;injection this with this;exact this.symm
         clear hk2
         replace hRt:=hRt.below rInt_ok hE
         replace hB:=hB.trans (hE.mono hB.size)
         replace bxx:=bxx.below hE
         clear hE
         by_cases h7:u<7
         ·have d7:decide (u+1<=7)=true:=by simp;omega
          have HD:=Lib.hid (decAt_at (o:=x) hzq.out h7)
          have HT2:=Lib.hid (HT.out.set (k:=q) (x:=u+1) ⟨by omega,by omega⟩)
          have hcb1:=HT2.out.bd HV.out
          have hcb2:=HT.out.bd HV.out
          have SS:∀ w',Below ws.heap.size ws w'->(w'.cell? ⟨w.heap.size,0,none⟩=some (.int .i64 x.fFixed)/\w'.cell? ⟨w.heap.size,1,none⟩=some (.int .i64 x.fPerLeft)/\w'.cell? ⟨w.heap.size,2,none⟩=some (.int .i64 x.fPerRight)/\w'.cell? ⟨w.heap.size,3,none⟩=some (.int .i64 x.fPerOutput)/\w'.cell? ⟨w.heap.size,4,none⟩=some (.int .i64 x.fPerPair)/\w'.cell? ⟨w.heap.size,5,none⟩=some (.slice AxSteps nxSteps cxSteps)/\w'.cell? ⟨g,q,none⟩=some (.int .i64 (u+1))):=fun w' hb=>⟨cells_below hb _ _ (bxx 0 _ rfl),cells_below hb _ _ (bxx 1 _ rfl),cells_below hb _ _ (bxx 2 _ rfl),cells_below hb _ _ (bxx 3 _ rfl),cells_below hb _ _ (bxx 4 _ rfl),cells_below hb _ _ (bxx 5 _ rfl),cells_below hb _ _ hu2⟩
          have HSS:=Lib.hid SS;clear SS hu2
          have tok1:True:=trivial
          have tok2:True:=trivial
          go_region_held3 (fun w'=>w'.cell? ⟨w.heap.size,0,none⟩=some (.int .i64 x.fFixed)/\w'.cell? ⟨w.heap.size,1,none⟩=some (.int .i64 x.fPerLeft)/\w'.cell? ⟨w.heap.size,2,none⟩=some (.int .i64 x.fPerRight)/\w'.cell? ⟨w.heap.size,3,none⟩=some (.int .i64 x.fPerOutput)/\w'.cell? ⟨w.heap.size,4,none⟩=some (.int .i64 x.fPerPair)/\w'.cell? ⟨w.heap.size,5,none⟩=some (.slice AxSteps nxSteps cxSteps)/\w'.cell? ⟨g,q,none⟩=some (.int .i64 (u+1))) (first|exact HSS.out _ (Below.refl _ _).drew|exact HSS.out _ hC6|exact HSS.out _ hC7) ((first|(go_at_call 150;have _t:=tok1;refine(sTripleCost_c _ x _ _ _ (tv.set q (u+1)) _ ?_ ?_ HV.out HT2.out).mono ?_;exact((rOperator_ok NB).keep rx (cells_below hB.drew));exact(hS.rs rInt_ok).keep rInt_ok (fun _ _ h=>h);rintro e w6 ⟨rfl,hb6⟩;have hC6:Below ws.heap.size ws w6:=Below.trans (Below.refl ws.heap.size ws).drew hb6;clear tok1)|(go_at_call 150;have _t:=tok2;refine(sTripleCost_c _ x _ _ _ tv _ ?_ ?_ HV.out HT.out).mono ?_;exact((rOperator_ok NB).keep rx (cells_below (hB.trans (hC6.mono hB.size))));exact hRt.below rInt_ok hC6;rintro e w7 ⟨rfl,hb7⟩;have hC7:Below ws.heap.size ws w7:=Below.trans hC6 (hb7.mono hC6.size);clear tok2)))
          all_goals
           replace hRt:=hRt.below rInt_ok hC7
           replace hB:=hB.trans (hC7.mono hB.size)
           replace bxx:=bxx.below hC7
           clear HSS hC6 hC7 hb6 hb7 hS
           by_cases hcc:costL x (tv.set q (u+1))<costL x tv
           ·have HCC:=Lib.hid hcc
            go_wp2
            go_ret3
            exact⟨_,_,by rw [HV.out,hasDec_yes (i:=64*a+8*b+e) (by omega) (by rw [HTE.out];exact decT_yes hlt2 (HD.out.trans (decide_eq_true HCC.out)))];rfl,hB⟩
           ·have HCC:=Lib.hid hcc
            go_wp2
            go_roundw
            case rel=>exact⟨q+1,by omega,by go_num,rangeAll_snoc HA2.out (by rw [HD.out,decide_eq_false HCC.out];rfl),hRt,hB,bxx⟩
            case measure=>simp [intOf];omega
         ·have d7:decide (u+1<=7)=false:=by simp;omega
          have HD:=Lib.hid (decAt_top (o:=x) hzq.out h7)
          go_quiet (fail)
          go_wp2
          go_roundw
          case rel=>exact⟨q+1,by omega,by go_num,rangeAll_snoc HA2.out (by simp [HD.out]),hRt.below rInt_ok (below_drewN (Below.refl _ _) _),below_drewN hB _,bxx.below (below_drewN (Below.refl _ _) _)⟩
          case measure=>simp [intOf];omega
        ·have HD:=Lib.hid (decT_no (show(List.range 3).all (fun k=>!decAt x tv k)=true by have:=HA2.out;rwa [show q=3 by omega]at this))
         have qI:¬ (q:Int)<3:=by omega
         go_wp2
         go_roundw
         case rel=>exact⟨e+1,by omega,by go_num,rangeAll_snoc HA.out (by show(!decT x (trip (64*a+8*b+e)))=true;rw [HTE.out,HD.out];rfl),hB,bxx⟩
         case measure=>simp [intOf];omega
      ·have hlcI:¬ (e:Int)<=7:=by omega
       go_wp2
       go_roundw
       case rel=>exact⟨b+1,by omega,by go_num,by rw [show 64*a+8*(b+1)=64*a+8*b+e by omega];exact HA.out,hB,bxx⟩
       case measure=>simp [intOf];omega
    ·have hlbI:¬ (b:Int)<=7:=by omega
     go_wp2
     go_roundw
     case rel=>exact⟨a+1,by omega,by go_num,by rw [show 64*(a+1)=64*a+8*b by omega];exact HA.out,hB,bxx⟩
     case measure=>simp [intOf];omega
  ·have hle:¬ (a:Int)<=7:=by omega
   have HD:=Lib.hid (hasDec_no (show(List.range 512).all (fun i=>!decT x (trip i))=true by have:=HA.out;rwa [show 64*a=512 by omega]at this))
   go_wp2
   go_ret3
   exact⟨_,_,by rw [HV.out,HD.out];rfl,(hB.alloc hB.size _).alloc (by simp;have:=hB.size;omega) _⟩
def RetE (b:Bool) (w:World) (e:Ending) (w':World):Prop:=∃ A n c,e=.returned (.slice A n c)/\decide (0<n)=b/\Below w.heap.size w w'
set_option maxRecDepth 100000 in
set_option maxHeartbeats 1600000 in
theorem sCheap_c (csx:List Value) (x:OperatorD) (w:World) (hx:(rOperator NB).rep w csx x) (hv:validOp x=true) :
  Calls Tryz.prog 137 #[.agg csx.toArray] w (RetE (hasCheap x) w):=by
 have rx:=hx
 obtain⟨AxSteps,nxSteps,cxSteps,rfl,hxFixed,hxPerLeft,hxPerRight,hxPerOutput,hxPerPair,hxSteps⟩:=rOperator_rep.1 hx
 clear hx
 have hB:Below w.heap.size w w:=Below.refl _ _
 have hAx:=(Below.refl (World.heap (w)).size (w)).alloc (Nat.le_refl _) (.cells #[.int .i64 x.fFixed,.int .i64 x.fPerLeft,.int .i64 x.fPerRight,.int .i64 x.fPerOutput,.int .i64 x.fPerPair,.slice AxSteps nxSteps cxSteps] 26)
 replace hB:=hB.trans (hAx.mono hB.size)
 have bxx:=Bx.new (w) [.int .i64 x.fFixed,.int .i64 x.fPerLeft,.int .i64 x.fPerRight,.int .i64 x.fPerOutput,.int .i64 x.fPerPair,.slice AxSteps nxSteps cxSteps] 26
 clear hAx
 have HV:=Lib.hid hv;clear hv
 go_enter Tryz.func137,Tryz.ntmps137
 go_wp2
 go_loopw [3] (fun i wr=>∃ a:Nat,a<=8/\i=.int .i64 a/\(List.range (64*a)).all (fun i=>!cheapT x (trip i))=true/\Below w.heap.size w wr/\Bx wr w.heap.size [.int .i64 x.fFixed,.int .i64 x.fPerLeft,.int .i64 x.fPerRight,.int .i64 x.fPerOutput,.int .i64 x.fPerPair,.slice AxSteps nxSteps cxSteps]) (fun i _=>8 - (intOf i).toNat)
 case atStart=>exact⟨0,Nat.zero_le _,rfl,rfl,hB,bxx⟩
 case round =>
  clear hB bxx
  obtain⟨a,ha,rfl,hall,hB,bxx⟩:=hrel
  have HA:=Lib.hid hall;clear hall
  by_cases hlt:a<8
  ·have hle:(a:Int)<=7:=by omega
   go_wp2
   go_loopw [4] (fun i wr=>∃ b:Nat,b<=8/\i=.int .i64 b/\(List.range (64*a+8*b)).all (fun i=>!cheapT x (trip i))=true/\Below w.heap.size w wr/\Bx wr w.heap.size [.int .i64 x.fFixed,.int .i64 x.fPerLeft,.int .i64 x.fPerRight,.int .i64 x.fPerOutput,.int .i64 x.fPerPair,.slice AxSteps nxSteps cxSteps]) (fun i _=>8 - (intOf i).toNat)
   case atStart=>exact⟨0,Nat.zero_le _,rfl,HA.out,hB,bxx⟩
   case round =>
    clear hB bxx HA
    obtain⟨b,hb,rfl,hall,hB,bxx⟩:=hrel
    have HA:=Lib.hid hall;clear hall
    by_cases hlb:b<8
    ·have hlbI:(b:Int)<=7:=by omega
     go_wp2
     go_loopw [5] (fun i wr=>∃ e:Nat,e<=8/\i=.int .i64 e/\(List.range (64*a+8*b+e)).all (fun i=>!cheapT x (trip i))=true/\Below w.heap.size w wr/\Bx wr w.heap.size [.int .i64 x.fFixed,.int .i64 x.fPerLeft,.int .i64 x.fPerRight,.int .i64 x.fPerOutput,.int .i64 x.fPerPair,.slice AxSteps nxSteps cxSteps]) (fun i _=>8 - (intOf i).toNat)
     case atStart=>exact⟨0,Nat.zero_le _,rfl,HA.out,hB,bxx⟩
     case round =>
      clear hB bxx HA
      obtain⟨e,he,rfl,hall,hB,bxx⟩:=hrel
      have HA:=Lib.hid hall;clear hall
      by_cases hlc:e<8
      ·have hlcI:(e:Int)<=7:=by omega
       have HTE:Hid (trip (64*a+8*b+e)=[(a:Int),(b:Int),(e:Int)]):=Lib.hid (trip_eq hlb hlc)
       have hTT:Trip [(a:Int),(b:Int),(e:Int)]:=⟨_,_,_,rfl,⟨by omega,by omega⟩,⟨by omega,by omega⟩,by omega,by omega⟩
       have HT:=Lib.hid hTT;clear hTT
       have o1:=(OS.three wr (I64_small (n:=a) (by omega)) (I64_small (n:=b) (by omega)) (I64_small (n:=e) (by omega))).rs rInt_ok
       have hB1:=(Below.refl wr.heap.size wr).alloc (Nat.le_refl _) (.cells #[.int .i64 a,.int .i64 b,.int .i64 e] 3)
       generalize htv:[(a:Int),(b:Int),(e:Int)]=tv at o1 HT HTE
       clear htv
       have hcb:=HT.out.bd HV.out
       have kx_0:=bxx 0 _ rfl
       have kx_1:=bxx 1 _ rfl
       have kx_2:=bxx 2 _ rfl
       have kx_3:=bxx 3 _ rfl
       have kx_4:=bxx 4 _ rfl
       have kx_5:=bxx 5 _ rfl
       go_wp2_with fail
       replace hB:=hB.trans (hB1.mono hB.size)
       replace bxx:=bxx.below hB1
       clear hB1 kx_0 kx_1 kx_2 kx_3 kx_4 kx_5
       refine(sTripleCost_c _ x _ _ _ tv _ ((rOperator_ok NB).keep rx (cells_below hB)) o1 HV.out HT.out).mono ?_
       rintro ee w2 ⟨rfl,hb2⟩
       replace hB:=hB.trans (hb2.mono hB.size)
       replace bxx:=bxx.below hb2
       clear hb2 o1
       have HCT:Hid (cheapT x tv=decide (costL x tv<1)):=Lib.hid rfl
       by_cases hcc:costL x tv<1
       ·have HCC:=Lib.hid (HCT.out.trans (decide_eq_true hcc))
        go_wp2
        go_ret
        exact⟨_,_,_,rfl,by rw [hasCheap_yes (i:=64*a+8*b+e) (by omega) (by rw [HTE.out];exact HCC.out)];rfl,hB.alloc hB.size _⟩
       ·have HCC:=Lib.hid (HCT.out.trans (decide_eq_false hcc))
        go_wp2
        go_roundw
        case rel=>exact⟨e+1,by omega,by go_num,rangeAll_snoc HA.out (by show(!cheapT x (trip (64*a+8*b+e)))=true;rw [HTE.out,HCC.out];rfl),hB,bxx⟩
        case measure=>simp [intOf];omega
      ·have hlcI:¬ (e:Int)<=7:=by omega
       go_wp2
       go_roundw
       case rel=>exact⟨b+1,by omega,by go_num,by rw [show 64*a+8*(b+1)=64*a+8*b+e by omega];exact HA.out,hB,bxx⟩
       case measure=>simp [intOf];omega
    ·have hlbI:¬ (b:Int)<=7:=by omega
     go_wp2
     go_roundw
     case rel=>exact⟨a+1,by omega,by go_num,by rw [show 64*(a+1)=64*a+8*b by omega];exact HA.out,hB,bxx⟩
     case measure=>simp [intOf];omega
  ·have hle:¬ (a:Int)<=7:=by omega
   have HD:=Lib.hid (hasCheap_no (show(List.range 512).all (fun i=>!cheapT x (trip i))=true by have:=HA.out;rwa [show 64*a=512 by omega]at this))
   go_wp2
   go_ret
   exact⟨_,_,_,rfl,by rw [HD.out];rfl,hB.alloc hB.size _⟩
end Go.Proofs.YtblbnbfghlkkfaaGreat
