/-
  Jss
-/
import Derived.Test.YtnlcfkpcmfljeaaGreatJnS
import Derived.BigQuiet
set_option linter.unusedSimpArgs false
set_option linter.unusedVariables false
set_option maxHeartbeats 1600000
set_option maxRecDepth 100000
namespace Go.Proofs.YtnlcfkpcmfljeaaGreat
open Go.RowKit
theorem bit_test0 (m i:Nat) (hm:m<65536):(bits .and .i64 ((m:Int) / 2 ^ i) 1==0)=!m.testBit i:=by
 have e:((m:Int) / 2 ^ i)=((m / 2 ^ i:Nat):Int):=by push_cast;rfl
 have hlt:m / 2 ^ i<2 ^ 62:=Nat.lt_of_le_of_lt (Nat.div_le_self _ _) (by omega);have h1:=bitsAnd (m / 2 ^ i) 1 hlt (by omega);rw [e,show(1:Int)=((1:Nat):Int) from rfl,h1,Nat.and_one_is_mod,Nat.testBit_eq_decide_div_mod_eq];rw [Bool.eq_iff_iff];simp;omega
theorem mbit_test0 {m:Int}{i:Nat}{v:Bool}(h0:0<=m) (h1:m<65536) (h:mbit m i=v):(bits .and .i64 (m / 2 ^ i) 1==0)=!v:=by
 obtain⟨k,rfl⟩:∃ k:Nat,m=k:=⟨m.toNat,by omega⟩;rw [bit_test0 k i (by omega),<- h];rfl
theorem lowB_bits (m:Fin 16):bits .and .i64 (m.val:Int) (-(m.val:Int))=lowB (m.val:Int):=by revert m;decide +kernel
theorem Bx.lowJ {w w':World}{B g:Nat}{cs:List Value}(h:Bx w g cs) (hg:g<B) (hb:Below B w w'):Bx w' g cs:=fun j v hj=>(hb.cell (p:=⟨g,j,none⟩) hg).trans (h j v hj)
theorem sMaskAtoms_c (m:Int) (w:World) (h0:0<=m) (h1:m<16):Calls Tryz.prog 126 #[.int .i64 m] w (RetS 3 rInt (listV m 4) w):=by
 have hM0:=MS.empty (B:=w.heap.size) (M:=NB) (e:=3) (r:=rInt) w (Nat.le_refl _);have hA0:=(Below.refl w.heap.size w).alloc (Nat.le_refl _) (.cells #[] 3);have C1:=Lib.hid (fun W=>l1In_v (inR_t.2 (show 0<=m/\m<=15 by omega)) W)
 go_enter Tryz.func126,Tryz.ntmps126
 go_wp2
 go_loopw [3,4] (fun o i wr=>∃ (k n c:Nat) (A:Option Addr),k<=4/\n<=k/\i=.int .i64 k/\o=.slice A n c/\MS w.heap.size NB 3 rInt wr A n c (listV m k)/\Below w.heap.size w wr) (fun _ i _=>4 - (intOf i).toNat)
 case atStart=>exact⟨0,0,0,_,by omega,by omega,rfl,rfl,hM0,hA0⟩
 case round =>
  clear hM0 hA0;obtain⟨k,n,c,A,hk,hn,rfl,rfl,hM,hE⟩:=hrel;have hz:=hE.size;by_cases hlt:k<4
  ·have hk16:(k:Int)<=15:=by omega
   have hlt':(k:Int)<4:=by omega
   cases hb:mbit m k
   ·have hbt:=mbit_test h0 (by omega) hb
    have HB:=Lib.hid (listV_no hb);clear hb
    go_wp2_with (go_at_call 51;refine(C1.out _).mono ?_;rintro e w' ⟨rfl,rfl⟩)
    go_roundw
    case rel=>exact⟨k+1,n,c,A,by omega,by omega,by go_num,rfl,by rw [HB.out];exact hM,hE⟩
    case measure=>simp [intOf];omega
   ·have hbt:=mbit_test h0 (by omega) hb
    have HB:=Lib.hid (listV_yes hb);clear hb
    go_wp2_with (first|(go_at_call 51;refine(C1.out _).mono ?_;rintro e w' ⟨rfl,rfl⟩)|(at_builtin;refine wpList_app (r:=rInt) rfl _ _ 30 rfl _ 8 eiInt rInt_ok rfl hM (bal) hz ⟨_,0,none⟩ rfl [] [.int .i64 (k:Int)] (k:Int) ⟨rfl,rfl,by unfold I64;omega⟩ (Fr.nil _) (cell_one_new _ _ _) (by unfold NB;omega) (Nat.le_refl _) (by omega) ?_;intro A9 k9 w9 hM9 hb9 hg9))
    go_roundw
    case rel=>exact⟨k+1,n+1,k9,A9,by omega,by omega,by go_num,rfl,by rw [HB.out];exact hM9,(hE.alloc hE.size _).trans hb9⟩
    case measure=>simp [intOf];omega
  ·have hk4:k=4:=by omega
   subst hk4
   go_wp2_with fail
   go_ret;exact⟨_,_,_,rfl,hM,hE⟩
theorem nearTo_yes {l:List AtomD}{m:Int}{k:Nat}(h:nearAt l m k=true):nearTo l m (k+1)=orI (nearTo l m k) (pow2 (k:Int)):=if_pos h
theorem nearTo_no {l:List AtomD}{m:Int}{k:Nat}(h:nearAt l m k=false):nearTo l m (k+1)=nearTo l m k:=if_neg (by rw [h];decide)
theorem sL8Near_c (csx:List Value) (x:QueryD) (m:Int) (w:World) (hx:(rQuery NB).rep w csx x) (hv:validQ x=true) (h0:0<=m) (h1:m<16) :
  Calls Tryz.prog 181 #[.agg csx.toArray,.int .i64 m] w fun e w'=>e=.returned (.int .i64 (nearQ x.fAtoms m))/\Below w.heap.size w w':=by
 have rx:=hx;obtain⟨Ax_e,nx_e,cx_e,rfl,hx_p5,hx_e⟩:=rQuery_rep.1 hx;clear hx;obtain⟨hB,bxx⟩:=op1 w [.int .i64 x.fVariableCount,.slice Ax_e nx_e cx_e] 50;have hnA:=hx_e.bound;have HL:=Lib.hid hx_e.len;have HV:=Lib.hid hv;clear hv;have hn4:nx_e<=4:=by have:=HL.out;have:=validQ_parts HV.out;omega
 have HBD:=Lib.hid (bitsQ_bd (m:=m) HV.out)
 go_enter Tryz.func181,Tryz.ntmps181
 have kx_0:=bxx 0 _ rfl;have kx_1:=bxx 1 _ rfl
 go_wp2_with fail
 refine(sL7Bits_c _ x m _ ((rQuery_ok NB).keep rx (cells_below hB)) HV.out h0 (by omega)).mono ?_;rintro e w1 ⟨rfl,hb1⟩;replace hB:=hB.trans (hb1.mono hB.size);replace bxx:=bxx.below hb1;clear hb1 kx_0 kx_1
 go_wp2_with fail
 go_loopw [5,7] (fun s i wr=>∃ (k:Nat),k<=nx_e/\i=.int .i64 k/\s=.int .i64 (nearTo x.fAtoms m k)/\Below w.heap.size w wr/\Bx wr w.heap.size [.int .i64 x.fVariableCount,.slice Ax_e nx_e cx_e]) (fun _ i _=>nx_e - (intOf i).toNat)
 case atStart=>exact⟨0,Nat.zero_le _,rfl,rfl,hB,bxx⟩
 case round =>
  clear hB bxx;obtain⟨k,hk,rfl,rfl,hB,bxx⟩:=hrel;have kx_0:=bxx 0 _ rfl;have kx_1:=bxx 1 _ rfl;by_cases hlt:k<nx_e
  ·have hk15:(k:Int)<=15:=by omega
   have hNB:=nearTo_bd (l:=x.fAtoms) (m:=m) (by rw [HL.out];omega) (n:=k) (by rw [HL.out];omega);have p1:=pow2_wrap (v:=(k:Int)) (by omega) (by omega);have p2:=pow2_bd (v:=(k:Int)) (by omega) (by omega);rw [Int.toNat_natCast]at p1;cases hb:mbit m k
   ·have hbt:=mbit_test0 h0 (by omega) hb
    have HBK:=Lib.hid (bitsQ_bd (m:=pow2 (k:Int)) HV.out);cases hz:decide (¬ andI (bitsQ x.fAtoms (pow2 (k:Int))) (bitsQ x.fAtoms m)=0)
    ·have HN:Hid (nearTo x.fAtoms m (k+1)=nearTo x.fAtoms m k):=nearTo_no (by unfold nearAt;rw [hb,hz];rfl)
     have hnz:(andI (bitsQ x.fAtoms (pow2 (k:Int))) (bitsQ x.fAtoms m) != 0)=false:=by simpa using hz
     clear hb hz
     have HSS:Hid (∀ w',Below wr.heap.size wr w'->(w'.cell? ⟨w.heap.size,0,none⟩=some (.int .i64 x.fVariableCount)/\w'.cell? ⟨w.heap.size,1,none⟩=some (.slice Ax_e nx_e cx_e))):=by
      show ∀ w',_->_;intro w' hb;have bq:=bxx.below hb;exact⟨bq 0 _ rfl,bq 1 _ rfl⟩
     have hd0:=(Below.refl wr.heap.size wr).drew;have RV:=((rQuery_ok NB).keep rx (cells_below (hB.drew)))
     go_upto_region 6 with fail
     refine hbg HSS.out hd0 (fun hH=>?_);refine tq4 0 hH ?_;simp only [putS];refine tq4 4 hH ?_;simp only [putS];refine tq1 8 hH ?_;refine tq1 10 hH ?_;simp only [putS];refine rd 9 (some 27) fun K hK=>?_;clear hH;go_simp;refine(sL7Bits_c _ x (pow2 (k:Int)) _ RV HV.out (by omega) (by omega)).mono ?_;rintro e wc ⟨rfl,hb5⟩;have hC5:=hd0.trans (hb5.mono hd0.size)
     go_wp2_with fail
     refine hK.out _ _ (HSS.out _ hC5) (fun hH=>?_);clear hK K
     try simp only [putS]
     have pB:=andI_bits (a:=bitsQ x.fAtoms (pow2 (k:Int))) (b:=bitsQ x.fAtoms m) HBK.out.1 (by have:=HBK.out;omega) HBD.out.1 (by have:=HBD.out;omega);refine tq2 11 hH ?_;refine tq1 13 hH ?_;simp only [putS];refine wpAnyH_done (by kernel_rfl) ?_ _;clear hH;clear HSS RV hd0 pB hb5;replace hB:=hB.trans (hC5.mono hB.size);replace bxx:=bxx.below hC5;clear hC5;go_wp2;go_roundw
     case rel=>exact⟨k+1,by omega,by go_num,by rw [HN.out],hB,bxx⟩
     case measure=>simp [intOf];omega
    ·have HN:Hid (nearTo x.fAtoms m (k+1)=orI (nearTo x.fAtoms m k) (pow2 (k:Int))):=nearTo_yes (by unfold nearAt;rw [hb,hz];rfl)
     have hnz:(andI (bitsQ x.fAtoms (pow2 (k:Int))) (bitsQ x.fAtoms m) != 0)=true:=by simpa using hz
     clear hb hz
     have HSS:Hid (∀ w',Below wr.heap.size wr w'->(w'.cell? ⟨w.heap.size,0,none⟩=some (.int .i64 x.fVariableCount)/\w'.cell? ⟨w.heap.size,1,none⟩=some (.slice Ax_e nx_e cx_e))):=by
      show ∀ w',_->_;intro w' hb;have bq:=bxx.below hb;exact⟨bq 0 _ rfl,bq 1 _ rfl⟩
     have hd0:=(Below.refl wr.heap.size wr).drew;have RV:=((rQuery_ok NB).keep rx (cells_below (hB.drew)))
     go_upto_region 6 with fail
     refine hbg HSS.out hd0 (fun hH=>?_);refine tq4 0 hH ?_;simp only [putS];refine tq4 4 hH ?_;simp only [putS];refine tq1 8 hH ?_;refine tq1 10 hH ?_;simp only [putS];refine rd 9 (some 27) fun K hK=>?_;clear hH;go_simp;refine(sL7Bits_c _ x (pow2 (k:Int)) _ RV HV.out (by omega) (by omega)).mono ?_;rintro e wc ⟨rfl,hb5⟩;have hC5:=hd0.trans (hb5.mono hd0.size)
     go_wp2_with fail
     refine hK.out _ _ (HSS.out _ hC5) (fun hH=>?_);clear hK K
     try simp only [putS]
     have pB:=andI_bits (a:=bitsQ x.fAtoms (pow2 (k:Int))) (b:=bitsQ x.fAtoms m) HBK.out.1 (by have:=HBK.out;omega) HBD.out.1 (by have:=HBD.out;omega);refine tq2 11 hH ?_;refine tq1 13 hH ?_;simp only [putS];refine wpAnyH_done (by kernel_rfl) ?_ _;clear hH;clear HSS RV hd0 pB hb5;replace hB:=hB.trans (hC5.mono hB.size);replace bxx:=bxx.below hC5;clear hC5;have p3:=orI_bits (a:=nearTo x.fAtoms m k) (b:=pow2 (k:Int)) (by omega) (by omega) (by omega) (by omega);go_wp2;go_roundw
     case rel=>exact⟨k+1,by omega,by go_num,by rw [HN.out],hB,bxx⟩
     case measure=>simp [intOf];omega
   ·have hbt:=mbit_test0 h0 (by omega) hb
    have HN:Hid (nearTo x.fAtoms m (k+1)=nearTo x.fAtoms m k):=nearTo_no (by unfold nearAt;rw [hb];rfl);clear hb p1 p2
    go_upto_region 6 with fail
    go_quiet (fail)
    go_wp2_with fail
    go_roundw
    case rel=>exact⟨k+1,by omega,by go_num,by rw [HN.out],below_drewN hB _,bxx⟩
    case measure=>simp [intOf];omega
  ·have hk4:k=nx_e:=by omega
   subst hk4;go_wp2;go_ret;exact⟨ret_int (by unfold nearQ;rw [HL.out]),hB⟩
theorem sL8Joined_c (csx:List Value) (x:QueryD) (m:Int) (w:World) (hx:(rQuery NB).rep w csx x) (hv:validQ x=true) (h0:0<=m) (h1:m<16) :
  Calls Tryz.prog 120 #[.agg csx.toArray,.int .i64 m] w fun e w'=>e=.returned (.bool (joinedQ x.fAtoms m))/\Below w.heap.size w w':=by
 have rx:=hx;obtain⟨Ax_e,nx_e,cx_e,rfl,hx_p5,hx_e⟩:=rQuery_rep.1 hx;clear hx;obtain⟨hB,bxx⟩:=op1 w [.int .i64 x.fVariableCount,.slice Ax_e nx_e cx_e] 50;have hnA:=hx_e.bound;have HL:=Lib.hid hx_e.len;have HV:=Lib.hid hv;clear hv;have hn4:nx_e<=4:=by have:=HL.out;have:=validQ_parts HV.out;omega
 have HLB:=Lib.hid (lowB_bits ⟨m.toNat,by omega⟩);have hlb:bits .and .i64 m (-m)=lowB m:=by have:=HLB.out;rwa [show((m.toNat:Nat):Int)=m by omega]at this
 clear HLB
 go_enter Tryz.func120,Tryz.ntmps120
 have kx_0:=bxx 0 _ rfl;have kx_1:=bxx 1 _ rfl;go_wp2
 go_loopw [5,6] (fun s i wr=>∃ (k:Nat),k<=nx_e/\i=.int .i64 k/\s=.int .i64 (bfs x.fAtoms m k)/\Below w.heap.size w wr/\Bx wr w.heap.size [.int .i64 x.fVariableCount,.slice Ax_e nx_e cx_e]) (fun _ i _=>nx_e - (intOf i).toNat)
 case atStart=>exact⟨0,Nat.zero_le _,rfl,rfl,hB,bxx⟩
 case round =>
  clear hB bxx kx_0 kx_1 hlb;obtain⟨k,hk,rfl,rfl,hB,bxx⟩:=hrel;have kx_0:=bxx 0 _ rfl;have kx_1:=bxx 1 _ rfl;by_cases hlt:k<nx_e
  ·have hb1:=bfs_bd (l:=x.fAtoms) (by rw [HL.out];omega) h0 h1 k
   have hb2:=nearTo_bd (l:=x.fAtoms) (m:=bfs x.fAtoms m k) (by rw [HL.out];omega) (n:=x.fAtoms.length) (Nat.le_refl _);have hb3:=andI_bd (b:=m) hb2.1 hb2.2;have p1:=andI_bits (a:=nearQ x.fAtoms (bfs x.fAtoms m k)) (b:=m) hb2.1 (Int.lt_trans hb2.2 (by decide)) h0 (by omega);have p2:=orI_bits (a:=bfs x.fAtoms m k) (b:=andI (nearQ x.fAtoms (bfs x.fAtoms m k)) m) hb1.1 (by omega) hb3.1 (Int.lt_trans hb3.2 (by decide));have h01:=hb1.1;have h02:=hb1.2;clear hb1 hb2 hb3
   go_wp2_with fail
   refine(sL8Near_c _ x (bfs x.fAtoms m k) _ ((rQuery_ok NB).keep rx (cells_below hB)) HV.out h01 h02).mono ?_;rintro e w1 ⟨rfl,hb1⟩;replace hB:=hB.trans (hb1.mono hB.size);replace bxx:=bxx.below hb1;clear hb1 kx_0 kx_1;go_wp2;go_roundw
   case rel=>exact⟨k+1,by omega,by go_num,rfl,hB,bxx⟩
   case measure=>simp [intOf];omega
  ·have hk4:k=nx_e:=by omega
   subst hk4;go_wp2;go_ret;exact⟨ret_bool (by unfold joinedQ;rw [HL.out];by_cases h:bfs x.fAtoms m k=m<;>simp [h]),hB⟩
theorem sIsConnected_c (csx:List Value) (x:QueryD) (m:Int) (w:World) (hx:(rQuery NB).rep w csx x) :
  Calls Tryz.prog 49 #[.agg csx.toArray,.int .i64 m] w fun e w'=>e=.returned (.bool (isConn x m))/\Below w.heap.size w w':=by
 have rx:=hx;obtain⟨Ax_e,nx_e,cx_e,rfl,hx_p5,hx_e⟩:=rQuery_rep.1 hx;clear hx;obtain⟨hB,bxx⟩:=op1 w [.int .i64 x.fVariableCount,.slice Ax_e nx_e cx_e] 50
 go_enter Tryz.func49,Tryz.ntmps49
 have kx_0:=bxx 0 _ rfl;have kx_1:=bxx 1 _ rfl
 go_wp2_with fail
 refine(sL7Mask_c _ x m _ ((rQuery_ok NB).keep rx (cells_below hB))).mono ?_;rintro e w1 ⟨rfl,hb1⟩;replace hB:=hB.trans (hb1.mono hB.size);replace bxx:=bxx.below hb1;clear hb1 kx_0 kx_1;have kx_0:=bxx 0 _ rfl;have kx_1:=bxx 1 _ rfl;cases hm:maskOk x m
 ·have HI:Hid (isConn x m=false):=by show _=_;unfold isConn;rw [hm];rfl
  clear hm;go_wp2;go_ret;exact⟨ret_bool (a:=false) HI.out.symm,hB⟩
 ·obtain⟨h1,h2,h3⟩:=maskOk_bd hm
  have HV:=Lib.hid h1;clear h1;by_cases hp:0<m
  ·have HI:Hid (isConn x m=joinedQ x.fAtoms m):=by show _=_;unfold isConn;rw [hm,decide_eq_true hp];rfl
   have hd:decide (0<m)=true:=decide_eq_true hp;clear hm
   go_wp2_with fail
   refine(sL8Joined_c _ x m _ ((rQuery_ok NB).keep rx (cells_below hB)) HV.out h2 h3).mono ?_;rintro e w9 ⟨rfl,hb9⟩;replace hB:=hB.trans (hb9.mono hB.size);replace bxx:=bxx.below hb9;clear hb9 kx_0 kx_1;go_wp2;go_ret;exact⟨ret_bool HI.out.symm,hB⟩
  ·have HI:Hid (isConn x m=false):=by show _=_;unfold isConn;rw [hm,decide_eq_false hp];rfl
   have hd:decide (0<m)=false:=decide_eq_false hp;clear hm;go_wp2;go_ret;exact⟨ret_bool (a:=false) HI.out.symm,hB⟩
theorem sJoinSplits_c (csx:List Value) (x:QueryD) (m:Int) (w:World) (hx:(rQuery NB).rep w csx x) :
  Calls Tryz.prog 123 #[.agg csx.toArray,.int .i64 m] w (RetS 3 rInt (splits x m) w):=by
 have rx:=hx;obtain⟨Ax_e,nx_e,cx_e,rfl,hx_p5,hx_e⟩:=rQuery_rep.1 hx;clear hx;obtain⟨hB,bxx⟩:=op1 w [.int .i64 x.fVariableCount,.slice Ax_e nx_e cx_e] 50;have hM:=MS.empty (B:=w.heap.size+1) (M:=NB) (e:=3) (r:=rInt) (w.alloc (.cells #[.int .i64 x.fVariableCount,.slice Ax_e nx_e cx_e] 50)) (by simp);have hb0:=(Below.refl _ (w.alloc (.cells #[.int .i64 x.fVariableCount,.slice Ax_e nx_e cx_e] 50))).alloc (Nat.le_refl _) (.cells #[] 3);simp only [World.size_alloc]at hM;replace hB:=hB.trans (hb0.mono hB.size);replace bxx:=bxx.below hb0;clear hb0
 go_enter Tryz.func123,Tryz.ntmps123
 have kx_0:=bxx 0 _ rfl;have kx_1:=bxx 1 _ rfl
 go_wp2_with fail
 refine(sIsConnected_c _ x m _ ((rQuery_ok NB).keep rx (cells_below hB))).mono ?_;rintro e w1 ⟨rfl,hb1⟩;replace hB:=hB.trans (hb1.mono hB.size);replace bxx:=bxx.below hb1;replace hM:=hM.below rInt_ok hb1;clear hb1 kx_0 kx_1;cases hc:isConn x m
 ·have HI:Hid (splits x m=[]):=by show _=_;unfold splits;rw [hc];rfl
  clear hc;go_wp2;go_ret;exact⟨_,_,_,rfl,by rw [HI.out];exact hM.base (Nat.le_succ _),hB⟩
 have HI:Hid (splits x m=splitsTo x.fAtoms m (m.toNat - 1)):=by show _=_;unfold splits;rw [hc];rfl
 unfold isConn at hc;simp only [Bool.and_eq_true,decide_eq_true_eq]at hc;obtain⟨h1,h2,h3⟩:=maskOk_bd hc.1;have hp:=hc.2.1;have HV:=Lib.hid h1;clear h1 hc
 go_wp2_with fail
 go_loopw [5,6] (fun s i wr=>∃ (k n c:Nat) (A:Option Addr),(k:Int)+1<=m/\n<=k/\i=.int .i64 ((k:Int)+1)/\s=.slice A n c/\MS (w.heap.size+1) NB 3 rInt wr A n c (splitsTo x.fAtoms m k)/\Below w.heap.size w wr/\Bx wr w.heap.size [.int .i64 x.fVariableCount,.slice Ax_e nx_e cx_e]) (fun _ i _=>(m - intOf i).toNat)
 case atStart=>exact⟨0,0,0,_,by omega,by omega,rfl,rfl,hM,hB,bxx⟩
 case round =>
  clear hB bxx hM;obtain⟨k,n,c,A,hk,hn,rfl,rfl,hM,hB,bxx⟩:=hrel;have kx_0:=bxx 0 _ rfl;have kx_1:=bxx 1 _ rfl;have hz:=Nat.succ_le_of_lt (World.block_lt_of_cell? _ _ (bxx 0 _ rfl));by_cases hlt:(k:Int)+1<m
  ·have p1:=andI_bits (a:=(k:Int)+1) (b:=m) (by omega) (by omega) h2 (by omega)
   by_cases ha:andI ((k:Int)+1) m=(k:Int)+1
   ·have hd:(andI ((k:Int)+1) m==(k:Int)+1)=true:=by simpa using ha
    go_wp2_with fail
    refine(sL8Joined_c _ x ((k:Int)+1) _ ((rQuery_ok NB).keep rx (cells_below hB)) HV.out (by omega) (by omega)).mono ?_;rintro e w9 ⟨rfl,hb9⟩;replace hB:=hB.trans (hb9.mono hB.size);replace bxx:=bxx.below hb9;replace hM:=hM.below rInt_ok hb9;clear hb9 kx_0 kx_1;have kx_0:=bxx 0 _ rfl;have kx_1:=bxx 1 _ rfl;have hz:=Nat.succ_le_of_lt (World.block_lt_of_cell? _ _ (bxx 0 _ rfl));cases hj:joinedQ x.fAtoms ((k:Int)+1)
    ·have HS:Hid (splitsTo x.fAtoms m (k+1)=splitsTo x.fAtoms m k):=if_neg (by unfold splitOk;rw [hj,Bool.false_and,Bool.and_false];exact Bool.false_ne_true)
     clear hj;go_wp2;go_roundw
     case rel=>exact⟨k+1,n,c,A,by omega,by omega,by go_num,rfl,by rw [HS.out];exact hM,hB,bxx⟩
     case measure=>simp [intOf];omega
    ·go_wp2_with fail
     refine(sL8Joined_c _ x (m - ((k:Int)+1)) _ ((rQuery_ok NB).keep rx (cells_below hB)) HV.out (by omega) (by omega)).mono ?_;rintro e w10 ⟨rfl,hb10⟩;replace hB:=hB.trans (hb10.mono hB.size);replace bxx:=bxx.below hb10;replace hM:=hM.below rInt_ok hb10;clear hb10 kx_0 kx_1;have hz:=Nat.succ_le_of_lt (World.block_lt_of_cell? _ _ (bxx 0 _ rfl));cases hj2:joinedQ x.fAtoms (m - ((k:Int)+1))
     ·have HS:Hid (splitsTo x.fAtoms m (k+1)=splitsTo x.fAtoms m k):=if_neg (by unfold splitOk;rw [hj2,Bool.and_false,Bool.and_false];exact Bool.false_ne_true)
      clear hj hj2;go_wp2;go_roundw
      case rel=>exact⟨k+1,n,c,A,by omega,by omega,by go_num,rfl,by rw [HS.out];exact hM,hB,bxx⟩
      case measure=>simp [intOf];omega
     ·have HS:Hid (splitsTo x.fAtoms m (k+1)=splitsTo x.fAtoms m k++[(k:Int)+1]):=if_pos (by unfold splitOk;rw [hj,hj2,decide_eq_true ha];rfl)
      clear hj hj2
      go_wp2_with (at_builtin;refine wpList_app (r:=rInt) rfl _ _ 30 rfl _ 8 eiInt rInt_ok rfl hM (bal) hz ⟨_,0,none⟩ rfl [] [.int .i64 ((k:Int)+1)] ((k:Int)+1) ⟨rfl,rfl,by unfold I64;omega⟩ (Fr.nil _) (cell_one_new _ _ _) (by unfold NB;omega) (Nat.le_refl _) (by omega) ?_;intro A9 k9 w9 hM9 hb9 hg9)
      go_roundw
      case rel=>exact⟨k+1,n+1,k9,A9,by omega,by omega,by go_num,rfl,by rw [HS.out];exact hM9,(hB.alloc hB.size _).trans (hb9.mono (Nat.le_succ _)),(bxx.below (bal)).lowJ (Nat.lt_succ_self _) hb9⟩
      case measure=>simp [intOf];omega
   ·have hd:(andI ((k:Int)+1) m==(k:Int)+1)=false:=by simpa using ha
    have HS:Hid (splitsTo x.fAtoms m (k+1)=splitsTo x.fAtoms m k):=if_neg (by unfold splitOk;rw [decide_eq_false ha,Bool.false_and];exact Bool.false_ne_true);clear ha;go_wp2;go_roundw
    case rel=>exact⟨k+1,n,c,A,by omega,by omega,by go_num,rfl,by rw [HS.out];exact hM,hB,bxx⟩
    case measure=>simp [intOf];omega
  ·have hk4:k=m.toNat - 1:=by omega
   subst hk4;go_wp2;go_ret;exact⟨_,_,_,rfl,by rw [HI.out];exact hM.base (Nat.le_succ _),hB⟩
theorem sharedL_len (q:QueryD) (a b:Int):(maskVarsL q a).length<=4:=by
 unfold maskVarsL;split
 ·exact listV_len _ 4
 ·exact Nat.zero_le _
theorem maskVarsL_at {q:QueryD}{a v:Int}(h:v∈maskVarsL q a):0<=v/\v<=3:=by
 unfold maskVarsL at h;split at h
 ·have:=listV_mem.1 h;omega
 ·cases h
theorem sSharedVariables_c (csx:List Value) (x:QueryD) (a:Int) (b:Int) (w:World) (hx:(rQuery NB).rep w csx x) :
  Calls Tryz.prog 124 #[.agg csx.toArray,.int .i64 a,.int .i64 b] w (RetS 3 rInt (sharedL x a b) w):=by
 have rx:=hx;obtain⟨Ax_e,nx_e,cx_e,rfl,hx_p5,hx_e⟩:=rQuery_rep.1 hx;clear hx;obtain⟨hB,bxx⟩:=op1 w [.int .i64 x.fVariableCount,.slice Ax_e nx_e cx_e] 50;have hM:=MS.empty (B:=w.heap.size) (M:=NB) (e:=3) (r:=rInt) (w.alloc (.cells #[.int .i64 x.fVariableCount,.slice Ax_e nx_e cx_e] 50)) (by simp);have hb0:=(Below.refl _ (w.alloc (.cells #[.int .i64 x.fVariableCount,.slice Ax_e nx_e cx_e] 50))).alloc (Nat.le_refl _) (.cells #[] 3);simp only [World.size_alloc]at hM;replace hB:=hB.trans (hb0.mono hB.size);replace bxx:=bxx.below hb0;clear hb0
 go_enter Tryz.func124,Tryz.ntmps124
 have kx_0:=bxx 0 _ rfl;have kx_1:=bxx 1 _ rfl
 go_wp2_with fail
 refine(sMaskVariables_c _ x a _ ((rQuery_ok NB).keep rx (cells_below hB))).mono ?_;rintro e w1 ⟨A1,n1,c1,rfl,m1,hb1⟩;have hz1:w.heap.size+1<w1.heap.size:=by have:=hb1.size;simp at this;omega
 replace hB:=hB.trans (hb1.mono hB.size);replace bxx:=bxx.below hb1;replace hM:=hM.below rInt_ok hb1;clear hb1 kx_0 kx_1;obtain⟨f1,o1,fr1⟩:=m1;have d1:∀ j∈f1,j≠w.heap.size+1:=fun j hj=>by have:=fr1.ge j hj;simp at this;omega
 clear fr1;have kx_0:=bxx 0 _ rfl;have kx_1:=bxx 1 _ rfl
 go_wp2_with fail
 refine(sMaskVariables_c _ x b _ ((rQuery_ok NB).keep rx (cells_below hB))).mono ?_;rintro e w2 ⟨A2,n2,c2,rfl,m2,hb2⟩;replace hB:=hB.trans (hb2.mono hB.size);replace bxx:=bxx.below hb2;replace hM:=hM.below rInt_ok hb2;replace o1:=o1.belowS rInt_ok hb2;clear hb2 kx_0 kx_1;obtain⟨f2,o2,fr2⟩:=m2;have d2:∀ j∈f2,j≠w.heap.size+1:=fun j hj=>by have:=fr2.ge j hj;omega
 clear fr2 hz1;have HL1:=Lib.hid (o1.rs rInt_ok).len;have h14:n1<=4:=by rw [<- HL1.out];exact sharedL_len x a b
 go_wp2_with fail
 go_loopw [7,10] (fun s i wr=>∃ (k n c:Nat) (A:Option Addr),k<=n1/\n<=k/\i=.int .i64 (k:Int)/\s=.slice A n c/\MS w.heap.size NB 3 rInt wr A n c (((maskVarsL x a).take k).filter (hasI (maskVarsL x b)))/\Below w.heap.size w wr/\OS NB 3 rInt wr f1 A1 n1 c1 (maskVarsL x a)/\OS NB 3 rInt wr f2 A2 n2 c2 (maskVarsL x b)/\(∀ j∈f1,some j≠A.map (·.block))/\∀ j∈f2,some j≠A.map (·.block)) (fun _ i _=>n1 - (intOf i).toNat)
 case atStart=>exact⟨0,0,0,_,by omega,by omega,rfl,rfl,by rw [List.take_zero];exact hM,hB,o1,o2,fun j hj e=>d1 j hj (by simpa using e),fun j hj e=>d2 j hj (by simpa using e)⟩
 case round =>
  clear hB bxx hM o1 o2 d1 d2;obtain⟨k,n,c,A,hk,hn,rfl,rfl,hM,hB,o1,o2,d1,d2⟩:=hrel;have hz:=hB.size;by_cases hlt:k<n1
  ·obtain⟨bb,off,v,rfl,hc,hI,hv⟩:=(o1.rs rInt_ok).ati hlt
   have r2:=o2.rs rInt_ok;cases hh:hasI (maskVarsL x b) v
   ·have HS:Hid (((maskVarsL x a).take (k+1)).filter (hasI (maskVarsL x b))=((maskVarsL x a).take k).filter (hasI (maskVarsL x b))):=by show _=_;rw [take_snoc hv.out,List.filter_append];simp [hh]
    have K:=Lib.hid (fun W (hr:RS NB rInt W A2 n2 c2 (maskVarsL x b))=>l7Has_v hh hr);clear hh
    go_wp2_with (go_at_call 169;refine(K.out _ r2).mono ?_;rintro e w' ⟨rfl,hww⟩;replace hww:=hww.symm;subst hww)
    go_roundw
    case rel=>exact⟨k+1,n,c,A,by omega,by omega,by go_num,rfl,by rw [HS.out];exact hM,hB,o1,o2,d1,d2⟩
    case measure=>simp [intOf];omega
   ·have HS:Hid (((maskVarsL x a).take (k+1)).filter (hasI (maskVarsL x b))=((maskVarsL x a).take k).filter (hasI (maskVarsL x b))++[v]):=by show _=_;rw [take_snoc hv.out,List.filter_append];simp [hh]
    have K:=Lib.hid (fun W (hr:RS NB rInt W A2 n2 c2 (maskVarsL x b))=>l7Has_v hh hr);clear hh
    go_wp2_with (first|(go_at_call 169;refine(K.out _ r2).mono ?_;rintro e w' ⟨rfl,hww⟩;replace hww:=hww.symm;subst hww)|(at_builtin;refine wpList_appB (r:=rInt) rfl _ _ 30 rfl _ 8 eiInt rInt_ok rfl hM (bal) hz ⟨_,0,none⟩ rfl [] [.int .i64 v] v ⟨rfl,rfl,hI⟩ (Fr.nil _) (cell_one_new _ _ _) (by unfold NB;omega) (Nat.le_refl _) (by omega) ?_;intro A9 k9 w9 hM9 hb9 hg9 hv9))
    go_roundw
    case rel =>
     have hal:=(Below.refl _ wr).alloc (Nat.le_refl _) (.cells #[.int .i64 v] 3)
     have keep:∀ {f:List Nat} {A' n' c' L},OS NB 3 rInt wr f A' n' c' L->(∀ j∈f,some j≠A.map (·.block))->OS NB 3 rInt w9 f A' n' c' L/\∀ j∈f,some j≠A9.map (·.block):=fun o hd=>by
      have o':=o.belowS rInt_ok hal;refine⟨o'.okeep rInt_ok fun j hj=>hg9.block j (o'.lt rInt_ok j hj) (fun e=>hd j hj e),fun j hj e=>?_⟩;rcases hv9 with h|h
      ·exact hd j hj (e.trans h)
      ·have:=o.lt rInt_ok j hj
       rw [h]at e;injection e with e;simp at e;omega
     exact⟨k+1,n+1,k9,A9,by omega,by omega,by go_num,rfl,by rw [HS.out];exact hM9,(hB.alloc hB.size _).trans hb9,(keep o1 d1).1,(keep o2 d2).1,(keep o1 d1).2,(keep o2 d2).2⟩
    case measure=>simp [intOf];omega
  ·have HT:Hid (((maskVarsL x a).take k).filter (hasI (maskVarsL x b))=sharedL x a b):=by show _=_;rw [List.take_of_length_le (by rw [HL1.out];omega)];rfl
   rw [HT.out]at hM;go_wp2;go_ret;exact⟨_,_,_,rfl,hM,hB⟩
end Go.Proofs.YtnlcfkpcmfljeaaGreat
