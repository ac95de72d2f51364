/-
  Msk, Scp
-/
import Derived.Test.YtiafklphblkpbaaGreatKeep
import Derived.Test.YtiafklphblkpbaaGreatQi
import Derived.Test.YtiafklphblkpbaaGreatStrP
import Derived.Test.YtiafklphblkpbaaGreatQf
import Derived.Test.YtiafklphblkpbaaGreatJnS
namespace Go.Proofs.YtiafklphblkpbaaGreat
open Go.RowKit
set_option linter.unusedVariables false
set_option linter.unusedSimpArgs false
/-- the numbers whose bits are set -/
def listV (m:Int) (k:Nat):List Int:=((List.range k).filter (fun i=>mbit m i)).map Int.ofNat
theorem listV_yes {m:Int}{k:Nat}(h:mbit m k=true):listV m (k+1)=listV m k++[(k:Int)]:=by unfold listV;rw [List.range_succ,List.filter_append];simp [h]
theorem listV_no {m:Int}{k:Nat}(h:mbit m k=false):listV m (k+1)=listV m k:=by unfold listV;rw [List.range_succ,List.filter_append];simp [h]
theorem listV_len (m:Int) (k:Nat):(listV m k).length<=k:=by unfold listV;rw [List.length_map];exact Nat.le_trans (List.length_filter_le _ _) (by simp)
theorem listV_mem {m:Int}{k:Nat}{x:Int}:x∈listV m k↔0<=x/\x<k/\mbit m x.toNat=true:=by
 unfold listV
 rw [List.mem_map]
 constructor
 ·rintro⟨i,hi,rfl⟩
  rw [List.mem_filter,List.mem_range]at hi
  exact⟨by simp,by simpa using hi.1,by simpa using hi.2⟩
 ·rintro⟨h0,h1,h2⟩
  exact⟨x.toNat,by rw [List.mem_filter,List.mem_range];exact⟨by omega,h2⟩,by simp;omega⟩
theorem listV_pw (m:Int) (k:Nat):(listV m k).Pairwise (·<·):=by
 unfold listV
 refine List.Pairwise.map Int.ofNat (fun a b h=>by simpa using h) (List.Pairwise.filter _ ?_)
 exact List.pairwise_lt_range
set_option maxRecDepth 100000 in
set_option maxHeartbeats 1600000 in
theorem sL7List_c (m:Int) (w:World) (h0:0<=m) (h1:m<65536):Calls Tryz.prog 95 #[.int .i64 m] w (RetS 3 rInt (listV m 4) w):=by
 have hM0:=MS.empty (B:=w.heap.size) (M:=NB) (e:=3) (r:=rInt) w (Nat.le_refl _)
 have hA0:=(Below.refl w.heap.size w).alloc (Nat.le_refl _) (.cells #[] 3)
 go_enter Tryz.func95,Tryz.ntmps95
 go_wp2
 go_loopw [3,4] (fun o i wr=>∃ (k n c:Nat) (A:Option Addr),k<=4/\n<=k/\i=.int .i64 k/\o=.slice A n c/\MS w.heap.size NB 3 rInt wr A n c (listV m k)/\Below w.heap.size w wr) (fun _ i _=>4 - (intOf i).toNat)
 case atStart=>exact⟨0,0,0,_,by omega,by omega,rfl,rfl,hM0,hA0⟩
 case round =>
  clear hM0 hA0
  obtain⟨k,n,c,A,hk,hn,rfl,rfl,hM,hE⟩:=hrel
  have hz:=hE.size
  by_cases hlt:k<4
  ·have hk16:(k:Int)<=15:=by omega
   have hlt':(k:Int)<4:=by omega
   cases hb:mbit m k
   ·have hbt:=mbit_test h0 h1 hb
    have HB:=Lib.hid (listV_no hb);clear hb
    go_wp2
    go_roundw
    case rel=>exact⟨k+1,n,c,A,by omega,by omega,by go_num,rfl,by rw [HB.out];exact hM,hE⟩
    case measure=>simp [intOf];omega
   ·have hbt:=mbit_test h0 h1 hb
    have HB:=Lib.hid (listV_yes hb);clear hb
    go_wp2_with (at_builtin;refine wpList_app (r:=rInt) rfl _ _ 24 rfl _ 8 eiInt rInt_ok rfl hM ((Below.refl _ _).alloc (Nat.le_refl _) _) hz ⟨_,0,none⟩ rfl [] [.int .i64 (k:Int)] (k:Int) ⟨rfl,rfl,by unfold I64;omega⟩ (Fr.nil _) (cell_one_new _ _ _) (by unfold NB;omega) (Nat.le_refl _) (by omega) ?_;intro A9 k9 w9 hM9 hb9 hg9)
    go_roundw
    case rel=>exact⟨k+1,n+1,k9,A9,by omega,by omega,by go_num,rfl,by rw [HB.out];exact hM9,(hE.alloc hE.size _).trans hb9⟩
    case measure=>simp [intOf];omega
  ·have hk4:k=4:=by omega
   subst hk4
   go_wp2
   go_ret
   exact⟨_,_,_,rfl,hM,hE⟩
def maskOk (q:QueryD) (m:Int):Bool:=validQ q&&inR m 0 (pow2 (q.fAtoms.length:Int) - 1)
def maskVarsL (q:QueryD) (m:Int):List Int:=if maskOk q m then listV (bitsQ q.fAtoms m) 4 else []
theorem maskOk_bd {q:QueryD}{m:Int}(h:maskOk q m=true):validQ q=true/\0<=m/\m<16:=by
 unfold maskOk at h
 simp only [Bool.and_eq_true]at h
 have h2:=inR_t.1 h.2
 have h3:=validQ_parts h.1
 have h4:pow2 (q.fAtoms.length:Int)<=16:=by
  have:(2:Nat) ^ q.fAtoms.length<=2 ^ 4:=Nat.pow_le_pow_right (by omega) (by omega)
  unfold pow2;rw [Int.toNat_natCast];omega
 exact⟨h.1,by omega,by omega⟩
set_option maxRecDepth 100000 in
set_option maxHeartbeats 1600000 in
theorem sL7Mask_c (csx:List Value) (x:QueryD) (m:Int) (w:World) (hx:(rQuery NB).rep w csx x) :
  Calls Tryz.prog 94 #[.agg csx.toArray,.int .i64 m] w fun e w'=>e=.returned (.bool (maskOk x m))/\Below w.heap.size w w':=by
 have rx:=hx
 obtain⟨AxAtoms,nxAtoms,cxAtoms,rfl,hxVariableCount,hxAtoms⟩:=rQuery_rep.1 hx
 clear hx
 have hB:Below w.heap.size w w:=Below.refl _ _
 have hAx:=(Below.refl (World.heap (w)).size (w)).alloc (Nat.le_refl _) (.cells #[.int .i64 x.fVariableCount,.slice AxAtoms nxAtoms cxAtoms] 46)
 replace hB:=hB.trans (hAx.mono hB.size)
 have bxx:=Bx.new (w) [.int .i64 x.fVariableCount,.slice AxAtoms nxAtoms cxAtoms] 46
 clear hAx
 have hnA:=hxAtoms.bound
 have HL:=Lib.hid hxAtoms.len
 go_enter Tryz.func94,Tryz.ntmps94
 go_wp2_with fail
 refine(sIsValidQuery_c _ x _ ((rQuery_ok NB).keep rx (cells_below hB))).mono ?_
 rintro e w1 ⟨rfl,hb1⟩
 replace hB:=hB.trans (hb1.mono hB.size)
 replace bxx:=bxx.below hb1
 clear hb1
 cases hv:validQ x
 ·have HM:Hid (maskOk x m=false):=by show _=_;simp [maskOk,hv]
  clear hv
  go_wp2
  go_ret
  exact⟨ret_bool (a:=false) HM.out.symm,hB⟩
 ·have hp:=validQ_parts hv
  have hn4:nxAtoms<=4:=by have:=HL.out;omega
  have p1:=pow2_wrap (v:=(nxAtoms:Int)) (by omega) (by omega)
  have p2:=pow2_bd (v:=(nxAtoms:Int)) (by omega) (by omega)
  rw [Int.toNat_natCast]at p1
  have HM:Hid (maskOk x m=inR m 0 (pow2 (nxAtoms:Int) - 1)):=by show _=_;simp [maskOk,hv,HL.out]
  clear hp hv
  have kx_1:=bxx 1 _ rfl
  have hn15:(nxAtoms:Int)<=15:=by omega
  have K:=Lib.hid (fun W=>l1In_q m 0 (pow2 (nxAtoms:Int) - 1) W)
  go_wp2_with (go_at_call 35;refine(K.out _).mono ?_;rintro e w' ⟨rfl,hww⟩;replace hww:=hww.symm;subst hww)
  go_ret
  exact⟨ret_bool HM.out.symm,hB⟩
set_option maxRecDepth 100000 in
set_option maxHeartbeats 1600000 in
theorem sMaskVariables_c (csx:List Value) (x:QueryD) (m:Int) (w:World) (hx:(rQuery NB).rep w csx x) :
  Calls Tryz.prog 53 #[.agg csx.toArray,.int .i64 m] w (RetS 3 rInt (maskVarsL x m) w):=by
 have rx:=hx
 obtain⟨AxAtoms,nxAtoms,cxAtoms,rfl,hxVariableCount,hxAtoms⟩:=rQuery_rep.1 hx
 clear hx
 have hB:Below w.heap.size w w:=Below.refl _ _
 have hAx:=(Below.refl (World.heap (w)).size (w)).alloc (Nat.le_refl _) (.cells #[.int .i64 x.fVariableCount,.slice AxAtoms nxAtoms cxAtoms] 46)
 replace hB:=hB.trans (hAx.mono hB.size)
 have bxx:=Bx.new (w) [.int .i64 x.fVariableCount,.slice AxAtoms nxAtoms cxAtoms] 46
 clear hAx
 have kx_0:=bxx 0 _ rfl
 have kx_1:=bxx 1 _ rfl
 go_enter Tryz.func53,Tryz.ntmps53
 go_wp2_with fail
 refine(sL7Mask_c _ x m _ ((rQuery_ok NB).keep rx (cells_below hB))).mono ?_
 rintro e w1 ⟨rfl,hb1⟩
 replace hB:=hB.trans (hb1.mono hB.size)
 replace bxx:=bxx.below hb1
 clear hb1 kx_0 kx_1
 cases hv:maskOk x m
 ·have HM:Hid (maskVarsL x m=[]):=by show _=_;simp [maskVarsL,hv]
  clear hv
  rename World=>wz
  have hM0:=MS.empty (B:=wz.heap.size) (M:=NB) (e:=3) (r:=rInt) wz (Nat.le_refl _)
  go_wp2
  go_ret
  exact⟨_,_,_,rfl,by rw [HM.out];exact hM0.base hB.size,hB.alloc hB.size _⟩
 ·obtain⟨h1,h2,h3⟩:=maskOk_bd hv
  have HM:Hid (maskVarsL x m=listV (bitsQ x.fAtoms m) 4):=by show _=_;simp [maskVarsL,hv]
  clear hv
  have hbd:=bitsQ_bd (m:=m) h1
  have kx_0:=bxx 0 _ rfl
  have kx_1:=bxx 1 _ rfl
  go_wp2_with fail
  refine(sL7Bits_c _ x m _ ((rQuery_ok NB).keep rx (cells_below hB)) h1 h2 (by omega)).mono ?_
  rintro e w2 ⟨rfl,hb2⟩
  replace hB:=hB.trans (hb2.mono hB.size)
  replace bxx:=bxx.below hb2
  clear hb2 kx_0 kx_1
  go_wp2_with fail
  refine(sL7List_c _ _ hbd.1 (by omega)).mono ?_
  rintro e w9 ⟨A,n,c,rfl,hM,hb⟩
  go_wp2
  go_ret
  exact⟨_,_,_,rfl,by rw [HM.out];exact hM.base hB.size,hB.trans (hb.mono hB.size)⟩
set_option maxRecDepth 100000 in
set_option maxHeartbeats 1600000 in
theorem sL19Column_c (nm:ByteArray) (A:Option Addr) (n cap:Nat) (l:List Int) (v:Int) (w:World) (hr:RS NB rInt w A n cap l) :
  Calls Tryz.prog 54 #[.agg #[.string nm,.slice A n cap],.int .i64 v] w fun e w'=>e=.returned (.int .i64 (idxOf (fun b=>b==v) l))/\Below w.heap.size w w':=by
 have hn:=hr.bound
 have hA:=(Below.refl w.heap.size w).alloc (Nat.le_refl _) (.cells #[.string nm,.slice A n cap] 57)
 have bx:=Bx.new w [.string nm,.slice A n cap] 57
 have k1:=bx 1 _ rfl
 have hr2:=hr.below rInt_ok hA
 go_enter Tryz.func54,Tryz.ntmps54
 go_wp2
 go_loop [5] (fun i=>∃ k:Nat,k<=n/\i=.int .i64 k/\(l.take k).all (fun b=>!(b==v))=true) (fun i=>n - (intOf i).toNat)
 case atStart=>exact⟨0,Nat.zero_le _,rfl,rfl⟩
 case round =>
  obtain⟨k,hk,rfl,hall⟩:=hrel
  have Hall:=Lib.hid hall;clear hall
  by_cases hlt:k<n
  ·obtain⟨b,off,y,rfl,hc,hI,hy⟩:=hr2.ati hlt
   by_cases hx:y=v
   ·have d1:(y==v)=true:=by simp [hx]
    have HX:=Lib.hid hx;clear hx
    go_wp2
    go_ret
    exact⟨ret_int (idxOf_yes Hall.out hy.out (by simp [HX.out])).symm,hA⟩
   ·have d1:(y==v)=false:=by simp [hx]
    go_wp2
    go_round
    case rel=>exact⟨k+1,by omega,by go_num,all_snoc' Hall.out hy.out (by simp [hx])⟩
    case measure=>simp [intOf];omega
  ·go_wp2
   go_ret
   exact⟨ret_int (a:=-1) (idxOf_no (take_all hr.len hlt▸Hall.out)).symm,hA⟩
end Go.Proofs.YtiafklphblkpbaaGreat
namespace Go.Proofs.YtiafklphblkpbaaGreat
open Go.RowKit
set_option linter.unusedVariables false
set_option linter.unusedSimpArgs false
def scanRow (av V row:List Int):List Int:=V.map fun v=>(lk av row v).getD 0
theorem scanRow_snoc {av V row:List Int}{k:Nat}{v z:Int}(hv:V[k]?=some v) (hz:lk av row v=some z):scanRow av (V.take (k+1)) row=scanRow av (V.take k) row++[z]:=by
 unfold scanRow;rw [take_snoc hv,List.map_append];simp [hz]
/-- what a scan hands back -/
def scan (d:DatabaseD) (q:QueryD) (i:Int):StreamD × Bool :=
 if queryFor d q&&inR i 0 ((q.fAtoms.length:Int) - 1) then
  (match q.fAtoms[i.toNat]? with|some a=>(⟨sortI a.fVars,(lookup d a.fName).1.fRows.map (scanRow a.fVars (sortI a.fVars))⟩,true)|none=>(⟨[],[]⟩,false))
 else (⟨[],[]⟩,false)
theorem scan_no1 {d:DatabaseD}{q:QueryD}{i:Int}(h:queryFor d q=false):scan d q i=(⟨[],[]⟩,false):=by simp [scan,h]
theorem scan_no2 {d:DatabaseD}{q:QueryD}{i:Int}(h:inR i 0 ((q.fAtoms.length:Int) - 1)=false):scan d q i=(⟨[],[]⟩,false):=by simp [scan,h]
theorem scan_yes {d:DatabaseD}{q:QueryD}{k:Nat}{a:AtomD}{t:TableD}(h1:queryFor d q=true) (ha:q.fAtoms[k]?=some a) (ht:lookup d a.fName=(t,true)):scan d q (k:Int)=(⟨sortI a.fVars,t.fRows.map (scanRow a.fVars (sortI a.fVars))⟩,true):=by
 have hk:=lt_of_at ha
 have h2:inR (k:Int) 0 ((q.fAtoms.length:Int) - 1)=true:=inR_t.2 ⟨by omega,by omega⟩
 simp [scan,h1,h2,ha,ht]
theorem lookup_valid {d:DatabaseD}{nm:ByteArray}{t:TableD}(h:lookup d nm=(t,true)):validTable t=true:=by
 unfold lookup at h
 split at h
 ·rename_i hv
  split at h
  ·rename_i t' hf
   injection h with h _;subst h
   have hm:=List.mem_of_find?_eq_some hf
   unfold validDb at hv
   simp only [Bool.and_eq_true,List.all_eq_true]at hv
   exact hv.1 _ hm
  ·injection h with _ h;cases h
 ·injection h with _ h;cases h
theorem table_rows {t:TableD}(h:validTable t=true) {r:List Int}(hr:r∈t.fRows):(r.length:Int)=t.fArity/\∀ v∈r,0<=v/\v<=9:=by
 unfold validTable at h
 simp only [Bool.and_eq_true,List.all_eq_true]at h
 have h1:=h.2.2.2.1 r hr
 unfold rowOk at h1
 simp only [Bool.and_eq_true,List.all_eq_true,decide_eq_true_eq]at h1
 exact⟨h1.2,fun v hv=>inR_t.1 (h1.1 v hv)⟩
theorem queryFor_parts {d:DatabaseD}{q:QueryD}(h:queryFor d q=true):validQ q=true/\∀ a∈q.fAtoms,∃ t,lookup d a.fName=(t,true)/\t.fArity=(a.fVars.length:Int)/\∀ r∈t.fRows,r.length=a.fVars.length/\∀ v∈r,0<=v/\v<=9:=by
 unfold queryFor at h
 simp only [Bool.and_eq_true,List.all_eq_true]at h
 refine⟨h.1,fun a ha=>?_⟩
 have h1:=h.2 a ha
 unfold atomIn at h1
 simp only [Bool.and_eq_true,decide_eq_true_eq]at h1
 have e:lookup d a.fName=((lookup d a.fName).1,true):=by rw [<- h1.1]
 refine⟨_,e,h1.2,fun r hr=>?_⟩
 have h3:=table_rows (lookup_valid e) hr
 exact⟨by omega,h3.2⟩
theorem atom_nodup {vc:Int}{a:AtomD}(h:atomOk vc a=true):a.fVars.Nodup:=by
 have h5:=(atomOk_parts h).2.2.2.2
 rw [List.nodup_iff_pairwise_ne,List.pairwise_iff_getElem]
 intro i j hi hj hij
 have:=h5 j hj
 simp only [varOk,List.getElem?_eq_getElem hj,Bool.and_eq_true,Bool.not_eq_true']at this
 intro he
 have hc:(a.fVars.take j).contains a.fVars[j]=true:=by
  rw [List.contains_iff_mem,<- he]
  exact List.mem_take_iff_getElem.2 ⟨i,by omega,rfl⟩
 rw [hc]at this;cases this.2
theorem sortI_mem {l:List Int}{x:Int}:x∈sortI l↔x∈l:=(sortI_perm l).mem_iff
theorem sortI_lt {l:List Int}(h:l.Nodup):(sortI l).Pairwise (·<·):=by
 have h1:=sortI_pw l
 have h2:(sortI l).Nodup:=(sortI_perm l).nodup_iff.2 h
 rw [List.nodup_iff_pairwise_ne]at h2
 exact(h1.and h2).imp (fun h=>by omega)
theorem scan_vars {q:QueryD}(h:validQ q=true) {k:Nat}{a:AtomD}(ha:q.fAtoms[k]?=some a):maskVarsL q (pow2 (k:Int))=sortI a.fVars:=by
 have hp:=validQ_parts h
 have hk:=lt_of_at ha
 have hm:maskOk q (pow2 (k:Int))=true:=by
  unfold maskOk
  rw [h,Bool.true_and,inR_t]
  have h1:=pow2_pos (k:Int)
  have h2:(2:Nat) ^ k<2 ^ q.fAtoms.length:=Nat.pow_lt_pow_right (by omega) hk
  unfold pow2 at *
  rw [Int.toNat_natCast]at *
  rw [Int.toNat_natCast]
  omega
 unfold maskVarsL
 rw [if_pos hm]
 refine pw_eq (listV_pw _ _) (sortI_lt (atom_nodup (hp.2.2.2.2.1 a (mem_of_at ha)))) fun x=>?_
 rw [listV_mem,sortI_mem,mbit_bitsQ h]
 constructor
 ·rintro⟨h0,h4,hv⟩
  have hv':hasV q.fAtoms (pow2 (k:Int)) x=true:=by rw [Int.toNat_of_nonneg h0]at hv;exact hv
  obtain⟨i,b,hb,hi,hx⟩:=hasV_iff.1 hv'
  rw [mbit_pow,decide_eq_true_eq,Int.toNat_natCast]at hi
  subst hi
  rw [ha]at hb;injection hb with hb;subst hb;exact hx
 ·intro hx
  have hb:=validQ_var h (mem_of_at ha) hx
  refine⟨hb.1,by omega,?_⟩
  rw [Int.toNat_of_nonneg hb.1]
  exact hasV_iff.2 ⟨k,a,ha,by rw [mbit_pow];simp,hx⟩
theorem scan_at {av row V:List Int}(hl:row.length=av.length) (hV:∀ v∈V,v∈av) {k:Nat}{v:Int}(hv:V[k]?=some v):∃ (j:Nat) (z:Int),idxOf (fun b=>b==v) av=j/\j<row.length/\row[j]?=some z/\lk av row v=some z:=by
 obtain⟨j,h1,h2⟩:=mem_find (hV v (mem_of_at hv))
 have hz:row[j]?=some (row[j]'(by omega)):=List.getElem?_eq_getElem (by omega)
 exact⟨j,_,idxOf_find h1,by omega,hz,lk_some h1 hz⟩
end Go.Proofs.YtiafklphblkpbaaGreat
