/-
  Msk, Scp
-/
import Derived.Test.YtadgmjdafkihfaaGreatKeep
import Derived.Test.YtadgmjdafkihfaaGreatQi
import Derived.Test.YtadgmjdafkihfaaGreatStrP
import Derived.Test.YtadgmjdafkihfaaGreatQf
import Derived.Test.YtadgmjdafkihfaaGreatJnS
namespace Go.Proofs.YtadgmjdafkihfaaGreat
open Go.RowKit
set_option linter.unusedVariables false
set_option linter.unusedSimpArgs false
/-- the numbers whose bits are set -/
def listV (m:Int) (k:Nat):List Int:=((List.range k).filter (fun i=>mbit m i)).map Int.ofNat
theorem listV_yes {m:Int}{k:Nat}(h:mbit m k=true):listV m (k+1)=listV m k++[(k:Int)]:=by unfold listV;rw [List.range_succ,List.filter_append];simp [h]
theorem listV_no {m:Int}{k:Nat}(h:mbit m k=false):listV m (k+1)=listV m k:=by unfold listV;rw [List.range_succ,List.filter_append];simp [h]
theorem listV_len (m:Int) (k:Nat):(listV m k).length<=k:=by unfold listV;rw [List.length_map];exact Nat.le_trans (List.length_filter_le _ _) (by simp)
theorem listV_mem {m:Int}{k:Nat}{x:Int}:x∈listV m k↔0<=x/\x<k/\mbit m x.toNat=true:=by
 unfold listV
 rw [List.mem_map]
 constructor
 ·rintro⟨i,hi,rfl⟩
  rw [List.mem_filter,List.mem_range]at hi
  exact⟨by simp,by simpa using hi.1,by simpa using hi.2⟩
 ·rintro⟨h0,h1,h2⟩
  exact⟨x.toNat,by rw [List.mem_filter,List.mem_range];exact⟨by omega,h2⟩,by simp;omega⟩
theorem listV_pw (m:Int) (k:Nat):(listV m k).Pairwise (·<·):=by
 unfold listV
 refine List.Pairwise.map Int.ofNat (fun a b h=>by simpa using h) (List.Pairwise.filter _ ?_)
 exact List.pairwise_lt_range
set_option maxRecDepth 100000 in
set_option maxHeartbeats 1600000 in
theorem sL7List_c (m:Int) (w:World) (h0:0<=m) (h1:m<65536):Calls Tryz.prog 251 #[.int .i64 m] w (RetS 3 rInt (listV m 4) w):=by
 have hM0:=MS.empty (B:=w.heap.size) (M:=NB) (e:=3) (r:=rInt) w (Nat.le_refl _)
 have hA0:=(Below.refl w.heap.size w).alloc (Nat.le_refl _) (.cells #[] 3)
 go_enter Tryz.func251,Tryz.ntmps251
 go_wp2
 go_loopw [3,4] (fun o i wr=>∃ (k n c:Nat) (A:Option Addr),k<=4/\n<=k/\i=.int .i64 k/\o=.slice A n c/\MS w.heap.size NB 3 rInt wr A n c (listV m k)/\Below w.heap.size w wr) (fun _ i _=>4 - (intOf i).toNat)
 case atStart=>exact⟨0,0,0,_,by omega,by omega,rfl,rfl,hM0,hA0⟩
 case round =>
  clear hM0 hA0
  obtain⟨k,n,c,A,hk,hn,rfl,rfl,hM,hE⟩:=hrel
  have hz:=hE.size
  by_cases hlt:k<4
  ·have hk16:(k:Int)<=15:=by omega
   have hlt':(k:Int)<4:=by omega
   cases hb:mbit m k
   ·have hbt:=mbit_test h0 h1 hb
    have HB:=Lib.hid (listV_no hb);clear hb
    go_wp2
    go_roundw
    case rel=>exact⟨k+1,n,c,A,by omega,by omega,by go_num,rfl,by rw [HB.out];exact hM,hE⟩
    case measure=>simp [intOf];omega
   ·have hbt:=mbit_test h0 h1 hb
    have HB:=Lib.hid (listV_yes hb);clear hb
    go_wp2_with (at_builtin;refine wpList_app (r:=rInt) rfl _ _ 24 rfl _ 8 eiInt rInt_ok rfl hM ((Below.refl _ _).alloc (Nat.le_refl _) _) hz ⟨_,0,none⟩ rfl [] [.int .i64 (k:Int)] (k:Int) ⟨rfl,rfl,by unfold I64;omega⟩ (Fr.nil _) (cell_one_new _ _ _) (by unfold NB;omega) (Nat.le_refl _) (by omega) ?_;intro A9 k9 w9 hM9 hb9 hg9)
    go_roundw
    case rel=>exact⟨k+1,n+1,k9,A9,by omega,by omega,by go_num,rfl,by rw [HB.out];exact hM9,(hE.alloc hE.size _).trans hb9⟩
    case measure=>simp [intOf];omega
  ·have hk4:k=4:=by omega
   subst hk4
   go_wp2
   go_ret
   exact⟨_,_,_,rfl,hM,hE⟩
def maskOk (q:QueryD) (m:Int):Bool:=validQ q&&inR m 0 (pow2 (q.fAtoms.length:Int) - 1)
def maskVarsL (q:QueryD) (m:Int):List Int:=if maskOk q m then listV (bitsQ q.fAtoms m) 4 else []
theorem maskOk_bd {q:QueryD}{m:Int}(h:maskOk q m=true):validQ q=true/\0<=m/\m<16:=by
 unfold maskOk at h
 simp only [Bool.and_eq_true]at h
 have h2:=inR_t.1 h.2
 have h3:=validQ_parts h.1
 have h4:pow2 (q.fAtoms.length:Int)<=16:=by
  have:(2:Nat) ^ q.fAtoms.length<=2 ^ 4:=Nat.pow_le_pow_right (by omega) (by omega)
  unfold pow2;rw [Int.toNat_natCast];omega
 exact⟨h.1,by omega,by omega⟩
set_option maxRecDepth 100000 in
set_option maxHeartbeats 1600000 in
theorem sL7Mask_c (csx:List Value) (x:QueryD) (m:Int) (w:World) (hx:(rQuery NB).rep w csx x) :
  Calls Tryz.prog 151 #[.agg csx.toArray,.int .i64 m] w fun e w'=>e=.returned (.bool (maskOk x m))/\Below w.heap.size w w':=by
 have rx:=hx
 obtain⟨AxAtoms,nxAtoms,cxAtoms,rfl,hxVariableCount,hxAtoms⟩:=rQuery_rep.1 hx
 clear hx
 have hB:Below w.heap.size w w:=Below.refl _ _
 have hAx:=(Below.refl (World.heap (w)).size (w)).alloc (Nat.le_refl _) (.cells #[.int .i64 x.fVariableCount,.slice AxAtoms nxAtoms cxAtoms] 63)
 replace hB:=hB.trans (hAx.mono hB.size)
 have bxx:=Bx.new (w) [.int .i64 x.fVariableCount,.slice AxAtoms nxAtoms cxAtoms] 63
 clear hAx
 have hnA:=hxAtoms.bound
 have HL:=Lib.hid hxAtoms.len
 go_enter Tryz.func151,Tryz.ntmps151
 go_wp2_with fail
 refine(sIsValidQuery_c _ x _ ((rQuery_ok NB).keep rx (cells_below hB))).mono ?_
 rintro e w1 ⟨rfl,hb1⟩
 replace hB:=hB.trans (hb1.mono hB.size)
 replace bxx:=bxx.below hb1
 clear hb1
 cases hv:validQ x
 ·have HM:Hid (maskOk x m=false):=by show _=_;simp [maskOk,hv]
  clear hv
  go_wp2
  go_ret
  exact⟨ret_bool (a:=false) HM.out.symm,hB⟩
 ·have hp:=validQ_parts hv
  have hn4:nxAtoms<=4:=by have:=HL.out;omega
  have p1:=pow2_wrap (v:=(nxAtoms:Int)) (by omega) (by omega)
  have p2:=pow2_bd (v:=(nxAtoms:Int)) (by omega) (by omega)
  rw [Int.toNat_natCast]at p1
  have HM:Hid (maskOk x m=inR m 0 (pow2 (nxAtoms:Int) - 1)):=by show _=_;simp [maskOk,hv,HL.out]
  clear hp hv
  have kx_1:=bxx 1 _ rfl
  have hn15:(nxAtoms:Int)<=15:=by omega
  have K:=Lib.hid (fun W=>l1In_q m 0 (pow2 (nxAtoms:Int) - 1) W)
  go_wp2_with (go_at_call 61;refine(K.out _).mono ?_;rintro e w' ⟨rfl,hww⟩;replace hww:=hww.symm;subst hww)
  go_ret
  exact⟨ret_bool HM.out.symm,hB⟩
set_option maxRecDepth 100000 in
set_option maxHeartbeats 1600000 in
theorem sMaskVariables_c (csx:List Value) (x:QueryD) (m:Int) (w:World) (hx:(rQuery NB).rep w csx x) :
  Calls Tryz.prog 207 #[.agg csx.toArray,.int .i64 m] w (RetS 3 rInt (maskVarsL x m) w):=by
 have rx:=hx
 obtain⟨AxAtoms,nxAtoms,cxAtoms,rfl,hxVariableCount,hxAtoms⟩:=rQuery_rep.1 hx
 clear hx
 have hB:Below w.heap.size w w:=Below.refl _ _
 have hAx:=(Below.refl (World.heap (w)).size (w)).alloc (Nat.le_refl _) (.cells #[.int .i64 x.fVariableCount,.slice AxAtoms nxAtoms cxAtoms] 63)
 replace hB:=hB.trans (hAx.mono hB.size)
 have bxx:=Bx.new (w) [.int .i64 x.fVariableCount,.slice AxAtoms nxAtoms cxAtoms] 63
 clear hAx
 have kx_0:=bxx 0 _ rfl
 have kx_1:=bxx 1 _ rfl
 go_enter Tryz.func207,Tryz.ntmps207
 go_wp2_with fail
 refine(sL7Mask_c _ x m _ ((rQuery_ok NB).keep rx (cells_below hB))).mono ?_
 rintro e w1 ⟨rfl,hb1⟩
 replace hB:=hB.trans (hb1.mono hB.size)
 replace bxx:=bxx.below hb1
 clear hb1 kx_0 kx_1
 cases hv:maskOk x m
 ·have HM:Hid (maskVarsL x m=[]):=by show _=_;simp [maskVarsL,hv]
  clear hv
  rename World=>wz
  have hM0:=MS.empty (B:=wz.heap.size) (M:=NB) (e:=3) (r:=rInt) wz (Nat.le_refl _)
  go_wp2
  go_ret
  exact⟨_,_,_,rfl,by rw [HM.out];exact hM0.base hB.size,hB.alloc hB.size _⟩
 ·obtain⟨h1,h2,h3⟩:=maskOk_bd hv
  have HM:Hid (maskVarsL x m=listV (bitsQ x.fAtoms m) 4):=by show _=_;simp [maskVarsL,hv]
  clear hv
  have hbd:=bitsQ_bd (m:=m) h1
  have kx_0:=bxx 0 _ rfl
  have kx_1:=bxx 1 _ rfl
  go_wp2_with fail
  refine(sL7Bits_c _ x m _ ((rQuery_ok NB).keep rx (cells_below hB)) h1 h2 (by omega)).mono ?_
  rintro e w2 ⟨rfl,hb2⟩
  replace hB:=hB.trans (hb2.mono hB.size)
  replace bxx:=bxx.below hb2
  clear hb2 kx_0 kx_1
  go_wp2_with fail
  refine(sL7List_c _ _ hbd.1 (by omega)).mono ?_
  rintro e w9 ⟨A,n,c,rfl,hM,hb⟩
  go_wp2
  go_ret
  exact⟨_,_,_,rfl,by rw [HM.out];exact hM.base hB.size,hB.trans (hb.mono hB.size)⟩
end Go.Proofs.YtadgmjdafkihfaaGreat
namespace Go.Proofs.YtadgmjdafkihfaaGreat
open Go.RowKit
set_option linter.unusedVariables false
set_option linter.unusedSimpArgs false
end Go.Proofs.YtadgmjdafkihfaaGreat
