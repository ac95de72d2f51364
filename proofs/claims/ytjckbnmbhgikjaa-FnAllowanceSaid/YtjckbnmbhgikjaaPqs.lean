/-
  Pqs
-/
import Derived.Test.YtjckbnmbhgikjaaPqp
import Derived.Test.YtjckbnmbhgikjaaKeep
import Derived.Test.YtjckbnmbhgikjaaQi
import Derived.Test.YtjckbnmbhgikjaaCul
import Derived.Test.YtjckbnmbhgikjaaQb
namespace Go.Proofs.Ytjckbnmbhgikjaa
open Go.RowKit
set_option linter.unusedVariables false
set_option linter.unusedSimpArgs false
theorem RS.atS {M M':Nat}{w:World}{A:Option Addr}{n cap:Nat}{l:List ByteArray}(h:RS M (rStr M') w A n cap l) {k:Nat}(hk:k<n) :
  ∃ b off x,A=some ⟨b,off,none⟩/\w.cell? ⟨b,off+k,none⟩=some (.string x)/\x.size<=M'/\Hid (l[k]?=some x):=by
 obtain⟨b,off,x,cs,e,⟨rfl,h1⟩,hc,hx⟩:=h.at_ hk
 exact⟨b,off,x,e,by simpa [rStr]using hc 0 _ rfl,h1,hx⟩
theorem RS.litS (w:World) (l:List ByteArray) (t:TypeId) (hl:l.length<=1000) (hI:∀ x∈l,x.size<=NB):RS NB (rStr NB) (w.alloc (.cells (l.map Value.string).toArray t)) (some ⟨w.heap.size,0,none⟩) l.length l.length l :=
 ⟨rfl,by unfold NB;omega,Nat.le_refl _,fun _=>⟨w.heap.size,0,rfl,fun j x hj=>⟨[.string x],⟨rfl,hI x (mem_of_at hj)⟩,fun i v hi=>by
  match i,hi with
  | 0,hi =>
   simp at hi;subst hi
   rw [cell_of_row _ w.heap.size (0+j*(rStr NB).size+0) (l.map Value.string).toArray t (0,0) (heap_alloc_new w _)]
   have e:(rStr NB).size=1:=rfl
   simp [e,hj]⟩⟩⟩
theorem RS.chgS {M M':Nat}{w w':World}{A:Option Addr}{n cap:Nat}{l:List ByteArray}{S:List Nat}(h:RS M (rStr M') w A n cap l) (hc:Chg S w w') (hS:∀ k∈blk A,k∉S):RS M (rStr M') w' A n cap l :=
 ⟨h.len,h.nb,h.nc,fun h0=>by
  obtain⟨b,off,e,hk⟩:=h.cell h0
  refine⟨b,off,e,fun j x hj=>?_⟩
  obtain⟨cs,h1,h2⟩:=hk j x hj
  exact⟨cs,h1,fun i v hi=>by rw [<- h2 i v hi];exact hc.cell (World.block_lt_of_cell? w _ (h2 i v hi)) (hS b (by subst e;simp [blk]))⟩⟩
/-- a text drawn -/
def DrawnB (P:ByteArray->Prop) (g:Nat) (w:World) (e:Ending) (w':World):Prop:=∃ x,e=.returned (.string x)/\P x/\Cur w' g/\Chg [g] w w'
set_option maxRecDepth 100000 in
set_option maxHeartbeats 1600000 in
theorem l1Pick_c (g:Nat) (A:Option Addr) (n cap:Nat) (l:List ByteArray) (w:World) (hr:RS NB (rStr NB) w A n cap l) (hA:∀ k∈blk A,k≠g) (h0:0<n) (hc:Cur w g) :
  Calls Try.prog 57 #[.pointer (some ⟨g,0,none⟩),.slice A n cap] w (DrawnB (fun x=>x∈l) g w):=by
 have hn:=hr.bound
 go_enter Try.func57,Try.ntmps57
 go_wp2_with fail
 refine(l1Below_c g n w (by omega) hc).mono ?_
 rintro e w1 ⟨x,rfl,⟨hx0,hx1,hx2⟩,hc1,hC1⟩
 obtain⟨k,rfl⟩:=Int.eq_ofNat_of_zero_le hx0
 have hk:k<n:=by have:=hx2 (by omega);omega
 obtain⟨b,off,y,rfl,hcell,hI,hy⟩:=hr.atS hk
 have hcell1:w1.cell? ⟨b,off+k,none⟩=some (.string y):=by
  rw [<- hcell];exact hC1.cell (World.block_lt_of_cell? w _ hcell) (by simp;exact hA b (by simp [blk]))
 clear hcell
 go_wp2
 go_ret
 exact⟨_,rfl,mem_of_at hy.out,hc1,hC1⟩
theorem getB {s:ByteArray}{k:Nat}(h:k<s.size):s.get! k=s[k]:=by
 show s.data[k]! = s.data[k]
 exact getElem!_pos s.data k h
theorem ext_size (s:ByteArray) (a b:Nat):(s.extract a b).size<=s.size:=by rw [ByteArray.size_extract];omega
theorem cutF_yes {s:ByteArray}{a k:Nat}(h:k<s.size) (hc:s[k]=32):cutF s 32 (s.size - k) a k=s.extract a k::cutF s 32 (s.size - (k+1)) (k+1) (k+1):=by
 have e:s.size - k=(s.size - (k+1))+1:=by omega
 rw [e,cutF,getB h,if_pos hc]
theorem cutF_no {s:ByteArray}{a k:Nat}(h:k<s.size) (hc:¬ s[k]=32):cutF s 32 (s.size - k) a k=cutF s 32 (s.size - (k+1)) a (k+1):=by
 have e:s.size - k=(s.size - (k+1))+1:=by omega
 rw [e,cutF,getB h,if_neg hc]
theorem eiStr:Ei Try.prog 81 9 (.string ⟨#[]⟩) (rStr NB).size 16:=⟨by kernel_rfl,by kernel_rfl,rfl⟩
set_option maxRecDepth 100000 in
set_option maxHeartbeats 1600000 in
theorem l4Cut_c (s:ByteArray) (w:World) (hs:s.size<=100):Calls Try.prog 68 #[.string s,.int .u8 32] w (RetS 9 (rStr NB) (cutB s 32) w):=by
 have M0:=MS.empty (B:=w.heap.size) (M:=NB) (e:=9) (r:=rStr NB) w (Nat.le_refl _)
 have B0:=(Below.refl w.heap.size w).alloc (Nat.le_refl _) (.cells #[] 9)
 go_enter Try.func68,Try.ntmps68
 go_wp2
 go_loopw [5,6,7] (fun o f i wr=>∃ (k a m c:Nat) (B:Option Addr) (O:List ByteArray),k<=s.size/\a<=k/\m<=k/\i=.int .i64 k/\f=.int .i64 a/\o=.slice B m c/\MS w.heap.size NB 9 (rStr NB) wr B m c O/\Hid (O++cutF s 32 (s.size - k) a k=cutB s 32)/\Below w.heap.size w wr) (fun _ _ i _=>s.size - (intOf i).toNat)
 case atStart=>exact⟨0,0,0,0,_,[],by omega,by omega,by omega,rfl,rfl,rfl,M0,Lib.hid rfl,B0⟩
 case round =>
  clear M0 B0
  obtain⟨k,a,m,c,B,O,hk,ha,hm,rfl,rfl,rfl,hM,HO,hE⟩:=hrel
  have hz:=hE.size
  by_cases hlt:k<s.size
  ·by_cases hc:s[k]=32
   ·have hb:((s[k].toNat:Int)==32)=true:=by rw [hc];rfl
    have HN:Hid ((O++[s.extract a k])++cutF s 32 (s.size - (k+1)) (k+1) (k+1)=cutB s 32):=by
     show _=_
     rw [<- HO.out,cutF_yes hlt hc];simp
    have hx:=ext_size s a k
    clear HO hc
    go_wp2_with (at_builtin;refine wpList_app (r:=rStr NB) rfl _ _ 81 rfl _ 16 eiStr (rStr_ok NB) rfl hM ((Below.refl _ _).alloc (Nat.le_refl _) _) hz ⟨wr.heap.size,0,none⟩ rfl [] [.string (s.extract a k)] (s.extract a k) ⟨rfl,rfl,by unfold NB;omega⟩ (Fr.nil _) (cells_new _ _ _) (by unfold NB;omega) (Nat.le_refl _) (by omega) ?_;intro A9 k9 w9 hM9 hb9 hg9)
    go_roundw
    case rel=>exact⟨k+1,k+1,m+1,k9,A9,O++[s.extract a k],by omega,by omega,by omega,by go_num,by go_num,rfl,hM9,HN,(hE.alloc hE.size _).trans hb9⟩
    case measure=>simp [intOf];omega
   ·have hb:((s[k].toNat:Int)==32)=false:=by
     rw [Bool.eq_false_iff];intro h;apply hc;have h2:(s[k].toNat:Int)=32:=by simpa using h
     exact UInt8.toNat_inj.1 (by show s[k].toNat=32;omega)
    have HN:Hid (O++cutF s 32 (s.size - (k+1)) a (k+1)=cutB s 32):=by
     show _=_
     rw [<- HO.out,cutF_no hlt hc]
    clear HO hc
    go_wp2
    go_roundw
    case rel=>exact⟨k+1,a,m,c,B,O,by omega,by omega,by omega,by go_num,rfl,rfl,hM,HN,hE⟩
    case measure=>simp [intOf];omega
  ·have hkn:k=s.size:=by omega
   have HN:Hid (O++[s.extract a s.size]=cutB s 32):=by
    show _=_
    rw [<- HO.out,hkn,Nat.sub_self];rfl
   have hx:=ext_size s a s.size
   clear HO hkn
   go_wp2_with (at_builtin;refine wpList_app (r:=rStr NB) rfl _ _ 81 rfl _ 16 eiStr (rStr_ok NB) rfl hM ((Below.refl _ _).alloc (Nat.le_refl _) _) hz ⟨wr.heap.size,0,none⟩ rfl [] [.string (s.extract a s.size)] (s.extract a s.size) ⟨rfl,rfl,by unfold NB;omega⟩ (Fr.nil _) (cells_new _ _ _) (by unfold NB;omega) (Nat.le_refl _) (by omega) ?_;intro A9 k9 w9 hM9 hb9 hg9)
   go_ret
   exact⟨_,_,_,rfl,HN.out▸hM9,(hE.alloc hE.size _).trans hb9⟩
set_option maxRecDepth 100000 in
set_option maxHeartbeats 1600000 in
theorem sL7Names_c (A:Option Addr) (n cap:Nat) (l:List Int) (w:World) (hr:RS NB rInt w A n cap l) (hn:n<=100):Calls Try.prog 77 #[.slice A n cap] w fun e w'=>e=.returned (.string (namesT l))/\w'=w:=by
 have HL:=Lib.hid hr.len
 go_enter Try.func77,Try.ntmps77
 go_wp2
 go_loop [3,4] (fun s i=>∃ (k:Nat) (t:ByteArray),k<=n/\i=.int .i64 k/\s=.string t/\Hid (t=namesT (l.take k))/\t.size<=k) (fun _ i=>n - (intOf i).toNat)
 case atStart=>exact⟨0,_,Nat.zero_le _,rfl,rfl,Lib.hid rfl,Nat.le_refl _⟩
 case round =>
  obtain⟨k,t,hk,rfl,rfl,HT,hs⟩:=hrel
  by_cases hlt:k<n
  ·obtain⟨b,off,x,rfl,hc,hI,hx⟩:=hr.ati hlt
   have hv:=varT_le x
   have hc1:¬ IntKind.i64.max<((t.size+(varT x).size:Nat):Int):=by rw [show IntKind.i64.max=9223372036854775807 from rfl];omega
   have HN:Hid (t++varT x=namesT (l.take (k+1))):=by show _=_;rw [namesT_snoc hx.out,HT.out]
   have hz:(t++varT x).size<=k+1:=by rw [ByteArray.size_append];omega
   go_wp2_with (go_at_call 69;refine(sVariableName_c x _).mono ?_;rintro e w' ⟨rfl,hww⟩;replace hww:=hww.symm;subst hww)
   go_round
   case rel=>exact⟨k+1,_,by omega,by go_num,rfl,HN,by omega⟩
   case measure=>simp [intOf];omega
  ·go_wp2
   go_ret
   exact⟨by rw [HT.out,take_all HL.out hlt];rfl,rfl⟩
theorem Bx.drewN {w:World}{g:Nat}{cs:List Value}(h:Bx w g cs) (m:Nat):Bx (w.drewN m) g cs:=h
theorem valid_small {q:QueryD}(h:validQ q=true):∀ a∈q.fAtoms,a.fName.size<=1/\a.fVars.length<=3:=fun a ha=>by
 obtain⟨_,_,_,_,h5,_⟩:=validQ_parts h
 obtain⟨g1,g2,g3,_⟩:=atomOk_parts (h5 a ha)
 refine⟨?_,g3⟩
 unfold nameOk at g1
 simp only [Bool.and_eq_true,decide_eq_true_eq]at g1
 omega
theorem fmtTo_one {l:List AtomD}{k:Nat}{a:AtomD}(h:l[k]?=some a) (hk:0<k):fmtTo l (k+1)=fmtTo l k++⟨#[32]⟩++a.fName++⟨#[40]⟩++namesT a.fVars++⟨#[41]⟩:=by rw [fmtTo,h];simp only;rw [if_pos hk]
theorem fmtTo_fst {l:List AtomD}{k:Nat}{a:AtomD}(h:l[k]?=some a) (hk:¬ 0<k):fmtTo l (k+1)=fmtTo l k++a.fName++⟨#[40]⟩++namesT a.fVars++⟨#[41]⟩:=by rw [fmtTo,h];simp only;rw [if_neg hk]
theorem catOk {a b:ByteArray}(h1:a.size<=1000) (h2:b.size<=1000):¬ IntKind.i64.max<((a.size+b.size:Nat):Int):=by rw [show IntKind.i64.max=9223372036854775807 from rfl];omega
theorem catLe {a b:ByteArray}{m n k:Nat}(h1:a.size<=m) (h2:b.size<=n) (h:m+n<=k):(a++b).size<=k:=by rw [ByteArray.size_append];omega
set_option maxRecDepth 100000 in
set_option maxHeartbeats 1600000 in
theorem sFormatQuery_c (csx:List Value) (x:QueryD) (w:World) (hx:(rQuery NB).rep w csx x) (hv:validQ x=true) :
  Calls Try.prog 70 #[.agg csx.toArray] w fun e w'=>e=.returned (.string (fmtQ x))/\Below w.heap.size w w':=by
 have rx:=hx
 obtain⟨AxAtoms,nxAtoms,cxAtoms,rfl,hxVariableCount,hxAtoms⟩:=rQuery_rep.1 hx
 clear hx
 have hB:Below w.heap.size w w:=Below.refl _ _
 have hAx:=(Below.refl (World.heap (w)).size (w)).alloc (Nat.le_refl _) (.cells #[.int .i64 x.fVariableCount,.slice AxAtoms nxAtoms cxAtoms] 43)
 replace hB:=hB.trans (hAx.mono hB.size)
 have bxx:=Bx.new (w) [.int .i64 x.fVariableCount,.slice AxAtoms nxAtoms cxAtoms] 43
 clear hAx
 have HL:=Lib.hid hxAtoms.len
 have HV:=Lib.hid hv
 have hn4:nxAtoms<=4:=by have:=validQ_parts hv;have:=hxAtoms.len;omega
 clear hv
 have kx_0:=bxx 0 _ rfl
 have kx_1:=bxx 1 _ rfl
 go_enter Try.func70,Try.ntmps70
 go_wp2
 go_loopw [3,4] (fun s i wr=>∃ (k:Nat) (t:ByteArray),k<=nxAtoms/\i=.int .i64 k/\s=.string t/\Hid (t=fmtTo x.fAtoms k)/\t.size<=7*k/\Below w.heap.size w wr/\Bx wr w.heap.size [.int .i64 x.fVariableCount,.slice AxAtoms nxAtoms cxAtoms]) (fun _ i _=>nxAtoms - (intOf i).toNat)
 case atStart=>exact⟨0,_,Nat.zero_le _,rfl,rfl,Lib.hid rfl,Nat.le_refl _,hB,bxx⟩
 case round =>
  clear kx_0 kx_1 bxx hB
  obtain⟨k,t,hk,rfl,rfl,HT,hs,hB,bxx⟩:=hrel
  have kx_0:=bxx 0 _ rfl
  have kx_1:=bxx 1 _ rfl
  by_cases hlt:k<nxAtoms
  ·go_wp2_with fail
   refine(sIsValidQuery_c _ x _ ((rQuery_ok NB).keep rx (cells_below hB))).mono ?_
   rintro e w1 ⟨rfl,hb1⟩
   replace hB:=hB.trans (hb1.mono hB.size)
   replace bxx:=bxx.below hb1
   clear hb1 kx_0 kx_1
   rw [HV.out]
   obtain⟨b,off,a,AV,nV,cV,rfl,hc0,hc1,hsn,hV,hx⟩:=(hxAtoms.below (rAtom_ok NB) hB).eAtom hlt
   have hsm:=valid_small HV.out a (mem_of_at hx.out)
   have hnm:=namesT_len a.fVars
   have hVl:=hV.len
   have kx_0:=bxx 0 _ rfl
   have kx_1:=bxx 1 _ rfl
   have s1:(⟨#[32]⟩:ByteArray).size<=1:=Nat.le_refl _
   have s2:(⟨#[40]⟩:ByteArray).size<=1:=Nat.le_refl _
   have s3:(⟨#[41]⟩:ByteArray).size<=1:=Nat.le_refl _
   have k0:=catOk (a:=t) (b:=⟨#[32]⟩) (by omega) (by omega)
   by_cases hk0:0<k
   ·have hki:(0:Int)<k:=by omega
    have HN:=Lib.hid (fmtTo_one hx.out hk0)
    rw [<- HT.out]at HN
    have l1:=catLe (k:=30) (show t.size<=28 by omega) s1 (by omega)
    have l2:=catLe (k:=31) l1 hsm.1 (by omega)
    have l3:=catLe (k:=32) l2 s2 (by omega)
    have l4:=catLe (k:=40) l3 (show(namesT a.fVars).size<=3 by omega) (by omega)
    have k1:=catOk (a:=t++⟨#[32]⟩) (b:=a.fName) (by omega) (by omega)
    have k2:=catOk (a:=t++⟨#[32]⟩++a.fName) (b:=⟨#[40]⟩) (by omega) (by omega)
    have k3:=catOk (a:=t++⟨#[32]⟩++a.fName++⟨#[40]⟩) (b:=namesT a.fVars) (by omega) (by omega)
    have k4:=catOk (a:=t++⟨#[32]⟩++a.fName++⟨#[40]⟩++namesT a.fVars) (b:=⟨#[41]⟩) (by omega) (by omega)
    have hz:(t++⟨#[32]⟩++a.fName++⟨#[40]⟩++namesT a.fVars++⟨#[41]⟩).size<=7*(k+1):=by simp only [ByteArray.size_append];omega
    go_wp2
    go_quiet ((go_at_call 77;exact Calls.quiet_of_same (sL7Names_c _ _ _ a.fVars _ (hV.drewN rInt_ok _) (by omega))))
    go_wp2
    go_roundw
    case rel=>exact⟨k+1,_,by omega,by go_num,rfl,Lib.hid HN.out.symm,hz,Below.qt hB ⟨_,rfl⟩ hB.size,bxx.drewN _⟩
    case measure=>simp [intOf];omega
   ·have hki:¬ (0:Int)<k:=by omega
    have HN:=Lib.hid (fmtTo_fst hx.out hk0)
    rw [<- HT.out]at HN
    have l2:=catLe (k:=31) (show t.size<=28 by omega) hsm.1 (by omega)
    have l3:=catLe (k:=32) l2 s2 (by omega)
    have l4:=catLe (k:=40) l3 (show(namesT a.fVars).size<=3 by omega) (by omega)
    have k1:=catOk (a:=t) (b:=a.fName) (by omega) (by omega)
    have k2:=catOk (a:=t++a.fName) (b:=⟨#[40]⟩) (by omega) (by omega)
    have k3:=catOk (a:=t++a.fName++⟨#[40]⟩) (b:=namesT a.fVars) (by omega) (by omega)
    have k4:=catOk (a:=t++a.fName++⟨#[40]⟩++namesT a.fVars) (b:=⟨#[41]⟩) (by omega) (by omega)
    have hz:(t++a.fName++⟨#[40]⟩++namesT a.fVars++⟨#[41]⟩).size<=7*(k+1):=by simp only [ByteArray.size_append];omega
    go_wp2
    go_quiet ((go_at_call 77;exact Calls.quiet_of_same (sL7Names_c _ _ _ a.fVars _ (hV.drewN rInt_ok _) (by omega))))
    go_wp2
    go_roundw
    case rel=>exact⟨k+1,_,by omega,by go_num,rfl,Lib.hid HN.out.symm,hz,Below.qt hB ⟨_,rfl⟩ hB.size,bxx.drewN _⟩
    case measure=>simp [intOf];omega
  ·have hd:decide (k<nxAtoms)=false:=by simpa using hlt
   go_wp2
   go_ret
   exact⟨by rw [HT.out,show k=x.fAtoms.length by have:=HL.out;omega];rfl,hB⟩
end Go.Proofs.Ytjckbnmbhgikjaa
namespace Go.Proofs.Ytjckbnmbhgikjaa
open Go.RowKit
set_option linter.unusedVariables false
set_option linter.unusedSimpArgs false
theorem parse_parts {s:ByteArray}(h:parseOk s=true):s.size<=100/\(cutB s 32).length<=4/\(∀ t∈cutB s 32,4<=t.size/\t.size<=6)/\validQ (queryP s)=true/\fmtQ (queryP s)=s:=by
 unfold parseOk at h
 simp only [Bool.and_eq_true,decide_eq_true_eq,List.all_eq_true]at h
 obtain⟨⟨⟨⟨h1,h2⟩,h3⟩,h4⟩,h5⟩:=h
 refine⟨h1,h2,fun t ht=>?_,h4,?_⟩
 ·have:=h3 t ht
  unfold tokOk at this
  simpa using this
 ·rw [ByteArray.toList_eq,ByteArray.toList_eq]at h5
  exact ByteArray.ext (Array.toList_inj.1 h5)
theorem allVars_app (l:List AtomD) (a:AtomD):allVars (l++[a])=allVars l++a.fVars:=by simp [allVars]
theorem atomP_vars (t:ByteArray):(atomP t).fVars=varsTo2 t (t.size - 3):=rfl
theorem allV_bd (ts:List ByteArray):∀ v∈allVars (ts.map atomP),0<=v/\v<=3:=fun v hv=>by
 unfold allVars at hv
 simp only [List.map_map,List.mem_flatten,List.mem_map]at hv
 obtain⟨_,⟨t,_,rfl⟩,hv⟩:=hv
 exact varsTo2_bd t _ v hv
theorem app_bd {l m:List Int}(h1:∀ v∈l,0<=v/\v<=3) (h2:∀ v∈m,0<=v/\v<=3):∀ v∈l++m,0<=v/\v<=3:=fun v hv=>by
 rcases List.mem_append.1 hv with h|h
 ·exact h1 v h
 ·exact h2 v h
set_option maxRecDepth 100000 in
set_option maxHeartbeats 3200000 in
theorem sParseQuery_c (s:ByteArray) (w:World) (h:parseOk s=true):Calls Try.prog 56 #[.string s] w (RetVB (rQuery NB) (queryP s) (.bool true) w):=by
 obtain⟨hs,hlen,htok,hval,hfmt⟩:=parse_parts h
 have HV:=Lib.hid hval;clear hval
 have HF:=Lib.hid hfmt;clear hfmt
 obtain⟨ts,HTS⟩:∃ ts,Hid (ts=cutB s 32):=⟨_,rfl⟩
 have HQ:Hid (queryP s=⟨vcOf (allVars (ts.map atomP)),ts.map atomP⟩):=by show _=_;rw [HTS.out];rfl
 rw [<- HTS.out]at hlen htok
 have HTok:=Lib.hid htok
 clear h htok
 obtain⟨w1,hw1⟩:∃ W,W=w.alloc (.cells #[.int .i64 0,.slice none 0 0] 43):=⟨_,rfl⟩
 obtain⟨w2,hw2⟩:∃ W,W=w1.alloc (.cells #[.int .i64 0,.slice none 0 0] 43):=⟨_,rfl⟩
 have hs1:w1.heap.size=w.heap.size+1:=by rw [hw1];simp
 have hs2:w2.heap.size=w.heap.size+1+1:=by rw [hw2];simp [hs1]
 have b1:Below w.heap.size w w1:=by rw [hw1];exact(Below.refl _ _).alloc (Nat.le_refl _) _
 have b2:Below w1.heap.size w1 w2:=by rw [hw2];exact(Below.refl _ _).alloc (Nat.le_refl _) _
 have kR:Bk w2 w.heap.size 43 [.int .i64 0,.slice none 0 0]:=by refine Bk.below ?_ b2;rw [hw1];exact Bk.new w _ _
 have kQ:Bk w2 (w.heap.size+1) 43 [.int .i64 0,.slice none 0 0]:=by rw [hw2,<- hs1];exact Bk.new w1 _ _
 have B2:=b1.trans (b2.mono b1.size)
 clear b1 b2
 go_enter Try.func56,Try.ntmps56
 go_upto_region 2 with fail
 rw [<- hw1,<- hw2]
 clear hw1 hw2
 go_wp2_with fail
 refine(l4Cut_c s _ hs).mono ?_
 rw [<- HTS.out]
 rintro e w3 ⟨AT,nT,cT,rfl,mT,hb3⟩
 replace kR:=kR.below hb3
 replace kQ:=kQ.below hb3
 have B3:=B2.trans (hb3.mono B2.size)
 have hs3:w.heap.size+1<w3.heap.size:=by have:=hb3.size;omega
 have hTl:=mT.len
 have HRT:Hid (∀ W,Chg [w.heap.size+1] w3 W->RS NB (rStr NB) W AT nT cT ts):=by
  show ∀ W,_->_
  intro W hW
  refine(mT.rs (rStr_ok NB)).chgS hW fun k hk=>?_
  obtain⟨fp,o,f⟩:=mT
  have hk2:k∈fp:=by obtain⟨_,fps,_,e,_⟩:=o.ex;rw [e];exact List.mem_append_left _ hk
  have:=f.ge k hk2;simp;omega
 have HKR:Hid (∀ W,Chg [w.heap.size+1] w3 W->Bk W w.heap.size 43 [.int .i64 0,.slice none 0 0]):=by
  show ∀ W,_->_
  exact fun W hW=>(hW.block _ kR.lt (by simp)).trans kR
 have HB3:=Lib.hid B3
 have Q0:=Qb.new kQ
 have HS3:=Lib.hid hs3
 clear mT hb3 kR kQ B2 B3 hs1 hs2 hs3
 obtain⟨B,hBe⟩:∃ B,B=w3.heap.size:=⟨_,rfl⟩
 rw [<- hBe]at Q0
 have HBE:=Lib.hid hBe;clear hBe
 go_wp2
 go_loopw [6] (fun i wr=>∃ (k T c:Nat) (A:Option Addr),k<=nT/\i=.int .i64 k/\Qb (w.heap.size+1) B T (vcOf (allVars ((ts.take k).map atomP))) A k c ((ts.take k).map atomP) wr/\Chg [w.heap.size+1] w3 wr) (fun i _=>nT - (intOf i).toNat)
 case atStart=>exact⟨0,B,0,none,Nat.zero_le _,rfl,Q0,Chg.refl _ _⟩
 case round =>
  clear Q0
  obtain⟨k,T,c,A,hk,rfl,hQ,hC⟩:=hrel
  by_cases hlt:k<nT
  ·have hk4:(k:Int)<=4:=by omega
   have rT:=HRT.out wr hC
   obtain⟨b,off,t,rfl,hct,htn,htk⟩:=rT.atS hlt
   obtain⟨ht4,ht6⟩:=HTok.out t (mem_of_at htk.out)
   obtain⟨P,HP⟩:∃ P,Hid (P=(ts.take k).map atomP):=⟨_,rfl⟩
   rw [<- HP.out]at hQ
   have hPb:∀ v∈allVars P,0<=v/\v<=3:=by rw [HP.out];exact allV_bd _
   have HPb:=Lib.hid hPb;clear hPb
   obtain⟨gA,hgA⟩:∃ g,g=wr.heap.size:=⟨_,rfl⟩
   have szr:=hQ.sz
   obtain⟨wa,hwa⟩:∃ W,W=wr.alloc (.cells #[.string (t.extract 0 1),.slice none 0 0] 100):=⟨_,rfl⟩
   have A0:Ab gA (t.extract 0 1) none 0 0 [] wa:=by rw [hwa];exact Ab.new wr gA hgA.symm _
   have ba:Below wr.heap.size wr wa:=by rw [hwa];exact(Below.refl _ _).alloc (Nat.le_refl _) _
   have sza:wa.heap.size=gA+1:=by rw [hwa,hgA];simp
   have Q1:Qb (w.heap.size+1) B gA (vcOf (allVars P)) A k c P wa:=(hQ.low (ba.mono szr)).rise (by rw [hgA];exact szr) (by omega)
   have C1:=hC.trans (Chg.ofBelow ba _)
   have hgB:B<=gA:=Q1.le
   have HGQ:Hid (w.heap.size+1<gA):=by show _<_;have:=Q1.lt;omega
   have HC0:=Lib.hid hC
   have HQ0:=Lib.hid hQ
   have hwB:w3.heap.size<=gA:=by have:=HBE.out;omega
   clear hQ hC rT szr
   go_upto_region 9 with fail
   rw [<- hgA,<- hwa]
   clear hwa ba hct
   have HGA:=Lib.hid hgA;clear hgA
   have wo:=wr
   rename World=>wr0
   go_wp2
   go_loopw [8] (fun i wr=>∃ (j nV cV:Nat) (AV:Option Addr),j<=t.size - 3/\i=.int .i64 (2+(j:Int))/\Hid ((varsTo2 t j).length=nV)/\Qb (w.heap.size+1) B gA (vcOf (allVars P++varsTo2 t j)) A k c P wr/\Ab gA (t.extract 0 1) AV nV cV (varsTo2 t j) wr/\Chg [w.heap.size+1] w3 wr/\gA+1<=wr.heap.size) (fun i _=>t.size - (intOf i).toNat)
   case atStart=>exact⟨0,0,0,none,Nat.zero_le _,rfl,Lib.hid rfl,by rw [show varsTo2 t 0=[] from rfl,List.append_nil];exact Q1,A0,C1,by omega⟩
   case round =>
    clear Q1 A0 C1 sza
    obtain⟨j,nV,cV,AV,hj,rfl,HNV,hQ,hA,hC,hsz⟩:=hrel
    have rT:=HRT.out wr hC
    obtain⟨b',off',t',e',hct,htn',htk'⟩:=rT.atS hlt
    injection e' with e';injection e' with e1 e2;subst e1;subst e2
    obtain rfl:t=t':=by have:=htk'.out;rw [htk.out]at this;injection this with this
    by_cases hlj:j<t.size - 3
    ·have hc1:2+(j:Int)<(t.size:Int) - 1:=by omega
     have hl0:varsKV t (2+j) 0=[]:=rfl
     have HVL:=Lib.hid (varsTo2_len t j)
     have hwa:∃ W,W=wr:=⟨_,rfl⟩
     rename World=>wr1
     go_wp2
     go_loopw [9] (fun i wr=>∃ (v nV cV:Nat) (AV:Option Addr),v<=4/\i=.int .i64 v/\Hid ((varsTo2 t j++varsKV t (2+j) v).length=nV)/\Qb (w.heap.size+1) B gA (vcOf (allVars P++(varsTo2 t j++varsKV t (2+j) v))) A k c P wr/\Ab gA (t.extract 0 1) AV nV cV (varsTo2 t j++varsKV t (2+j) v) wr/\Chg [w.heap.size+1] w3 wr/\gA+1<=wr.heap.size) (fun i _=>4 - (intOf i).toNat)
     case atStart=>exact⟨0,nV,cV,AV,Nat.zero_le _,rfl,by rw [hl0,List.append_nil];exact HNV,by rw [hl0,List.append_nil];exact hQ,by rw [hl0,List.append_nil];exact hA,hC,hsz⟩
     case round =>
      clear hQ hA hC hsz rT hct HNV hl0
      obtain⟨v,nV,cV,AV,hv,rfl,HNV,hQ,hA,hC,hsz⟩:=hrel
      have rT:=HRT.out wr hC
      obtain⟨b',off',t',e',hct,htn',htk'⟩:=rT.atS hlt
      injection e' with e';injection e' with e1 e2;subst e1;subst e2
      obtain rfl:t=t':=by have:=htk'.out;rw [htk.out]at this;injection this with this
      by_cases hlv:v<4
      ·have hvi:(v:Int)<4:=by omega
       obtain⟨V,hV⟩:∃ V,V=varsTo2 t j++varsKV t (2+j) v:=⟨_,rfl⟩
       have hVb:∀ x∈V,0<=x/\x<=3:=by rw [hV];exact app_bd (varsTo2_bd t j) (varsKV_bd t (2+j) v)
       have hVl:V.length<=24:=by rw [hV,List.length_append];have:=HVL.out;have:=varsKV_len t (2+j) v;omega
       have hvc:=vcOf_bd (app_bd HPb.out hVb)
       rw [<- hV]at hQ hA HNV
       have HVV:=Lib.hid hV;clear hV
       obtain⟨VC,hVC⟩:∃ VC,VC=vcOf (allVars P++V):=⟨_,rfl⟩
       rw [<- hVC]at hQ hvc
       have HVC:=Lib.hid hVC;clear hVC hVb
       cases hb:(varT (v:Int)).toList==(t.extract (2+j) (2+j+1)).toList
       ·go_wp2
        go_quiet ((go_at_call 69;exact Calls.quiet_of_same (sVariableName_c _ _)))
        go_wp2
        go_roundw
        case rel =>
         have e:varsTo2 t j++varsKV t (2+j) (v+1)=V:=by rw [varsKV_snoc t (2+j) hlv,hb,HVV.out];rfl
         have bd:Below wr.heap.size wr (wr.drewN nq):=below_drewN (Below.refl _ _) _
         exact⟨v+1,nV,cV,AV,by omega,by go_num,by rw [e];exact HNV,by rw [e,<- HVC.out];exact hQ.low (bd.mono hQ.sz),by rw [e];exact hA.below bd,hC.trans (Chg.ofBelow bd _),hsz⟩
        case measure=>simp [intOf];omega
       ·go_wp2
        go_quiet ((go_at_call 69;exact Calls.quiet_of_same (sVariableName_c _ _)))
        obtain⟨wd,hwd⟩:∃ W,W=wr.drewN nq:=⟨_,rfl⟩
        have bd:Below wr.heap.size wr wd:=by rw [hwd];exact below_drewN (Below.refl _ _) _
        have hszd:gA+1<=wd.heap.size:=by have:=bd.size;omega
        rw [<- hwd]
        clear hwd
        have Q2:=hQ.low (bd.mono hQ.sz)
        have A2:=hA.below bd
        have C2:=hC.trans (Chg.ofBelow bd _)
        clear hQ hA hC hct rT
        have ⟨x0,x1⟩:=A2.kA.bx.b2
        have hnV:nV<=24:=by have:=HNV.out;omega
        have C4:=C2.alloc (.cells #[.int .i64 v] 3)
        go_upto_region 17 with (at_builtin;refine wpList_appB (r:=rInt) rfl _ _ 51 rfl _ 8 eiInt rInt_ok rfl A2.mV ((Below.refl _ _).alloc (Nat.le_refl _) _) hszd ⟨wd.heap.size,0,none⟩ rfl [] [.int .i64 v] v ⟨rfl,rfl,⟨by omega,by omega⟩⟩ (Fr.nil _) (cell_one_new _ _ _) (by unfold NB;omega) (Nat.le_refl _) (by omega) ?_;intro A4 c4 w4 hM4 hb4 hg4 hA4;obtain⟨k4,A5⟩:=(A2.below ((Below.refl _ _).alloc (Nat.le_refl _) (.cells #[.int .i64 v] 3))).app hM4 hb4;have f4:=k4.frozen 1;have x4:=k4.bx 1 _ rfl)
        have b5:Below gA wd (w4.setCell ⟨gA,1,none⟩ (.slice A4 (nV+1) c4)):=(((Below.refl gA wd).alloc (by omega) (.cells #[.int .i64 v] 3)).trans (hb4.mono (Nat.le_succ _))).setCell (p:=⟨gA,1,none⟩) (Nat.le_refl _) _
        have Q5:=Q2.low b5
        have C5:=chgS C2 b5 hwB
        have s5:gA+1<=(w4.setCell ⟨gA,1,none⟩ (.slice A4 (nV+1) c4)).heap.size:=by rw [World.size_setCell];have:=hb4.size;simp at this;omega
        obtain⟨w5,hw5⟩:∃ W,W=w4.setCell ⟨gA,1,none⟩ (.slice A4 (nV+1) c4):=⟨_,rfl⟩
        rw [<- hw5]at Q5 A5 C5 s5 ⊢
        clear hw5 b5 k4 f4 x4 hM4 hb4 hg4 hA4 Q2 A2 C2 C4 x0 x1 hszd bd
        obtain⟨VN,hVN⟩:∃ VN,VN=max VC ((v:Int)+1):=⟨_,rfl⟩
        have hmx:(if VC<(v:Int)+1 then (v:Int)+1 else VC)=VN:=by rw [hVN];split<;>omega
        have HVN:Hid (VN=vcOf (allVars P++(V++[(v:Int)]))):=by
         show _=_
         rw [<- List.append_assoc,vcOf_snoc,<- HVC.out];exact hVN
        clear hVN
        have hq0:=Q5.kQ.bx 0 _ rfl
        have fq0:=Q5.kQ.frozen 0
        go_wp2
        go_roundw
        case rel =>
         have e:varsTo2 t j++varsKV t (2+j) (v+1)=V++[(v:Int)]:=by rw [varsKV_snoc t (2+j) hlv,hb,HVV.out,if_pos rfl,List.append_assoc]
         refine⟨v+1,nV+1,c4,A4,by omega,by go_num,?_,?_,?_,?_,?_⟩
         ·show _=_;rw [e];simp [HNV.out]
         ·rw [e,<- HVN.out];exact Q5.setVc VN
         ·rw [e];exact A5.other HGQ.out
         ·exact C5.setCell (by simp) _ _
         ·rw [World.size_setCell];exact s5
        case measure=>simp [intOf];omega
      ·have hv4:v=4:=by omega
       subst hv4
       go_wp2
       go_roundw
       case rel =>
        have e:varsTo2 t j++varsKV t (2+j) 4=varsTo2 t (j+1):=rfl
        rw [e]at HNV hQ hA
        exact⟨j+1,nV,cV,AV,by omega,by go_num,HNV,hQ,hA,hC,hsz⟩
       case measure=>simp [intOf];omega
    ·have HJE:Hid (j=t.size - 3):=by show _=_;omega
     have hc1:¬ 2+(j:Int)<(t.size:Int) - 1:=by omega
     obtain⟨v0,hv0,hbv,hMv⟩:=hQ.base
     obtain⟨ho,hfr⟩:=hA.own (show(t.extract 0 1).size<=NB by have:=ext_size t 0 1;unfold NB;omega)
     have ha1:Below wr.heap.size wr (wr.alloc (.cells #[.string (t.extract 0 1),.slice AV nV cV] 100)):=(Below.refl _ _).alloc (Nat.le_refl _) _
     have hbv2:=hbv.trans (ha1.mono hbv.size)
     have ho2:=(rAtom_ok NB).ownB ho ha1
     have hfr2:Fr v0.heap.size (blk AV):=hfr.mono (by omega)
     have hgB2:B<=v0.heap.size:=by omega
     have QA:=hQ.low (ha1.mono hQ.sz)
     have ⟨x0,x1⟩:=hA.kA.bx.b2
     have y1:=hQ.kQ.bx 1 _ rfl
     have CA:=hC.trans (Chg.ofBelow ha1 _)
     clear hQ hA hbv ho hfr rT
     go_wp2_with (at_builtin;refine wpList_appB (r:=rAtom NB) rfl _ _ 41 rfl _ 40 eiAtomD (rAtom_ok NB) rfl hMv hbv2 hgB2 ⟨wr.heap.size,0,none⟩ rfl (blk AV) [.string (t.extract 0 1),.slice AV nV cV] ⟨t.extract 0 1,varsTo2 t j⟩ ho2 hfr2 (cells_new _ _ _) (by unfold NB;omega) (Nat.le_refl _) (by omega) ?_;intro A9 c9 w9 hM9 hb9 hg9 hA9;obtain⟨k9,Q9⟩:=QA.app hM9 hb9;have f9:=k9.frozen 1;have x9:=k9.bx 1 _ rfl)
     go_roundw
     case rel =>
      have e1:(ts.take (k+1)).map atomP=P++[⟨t.extract 0 1,varsTo2 t j⟩]:=by rw [take_snoc htk.out,List.map_append,<- HP.out,HJE.out];rfl
      refine⟨k+1,w9.heap.size,c9,A9,by omega,by go_num,?_,?_⟩
      ·rw [e1,allVars_app];exact Q9
      ·exact(chgS CA hb9 (by rw [HBE.out];exact Nat.le_refl _)).setCell (by simp) _ _
     case measure=>simp [intOf];omega
  ·have ek:ts.take k=ts:=List.take_of_length_le (by omega)
   rw [ek]at hQ
   clear ek
   have hd:decide (k<nT)=false:=by simpa using hlt
   obtain⟨VC,hVC⟩:∃ VC,VC=vcOf (allVars (ts.map atomP)):=⟨_,rfl⟩
   have hI:I64 VC:=by have:=vcOf_bd (allV_bd ts);unfold I64;omega
   rw [<- hVC]at hQ
   obtain⟨fp,ho,hfr⟩:=hQ.own hI
   rw [hVC,<- HQ.out,<- hVC]at ho
   have ⟨q0,q1⟩:=hQ.kQ.bx.b2
   have kR:=HKR.out wr hC
   have hb:Below w.heap.size w wr:=HB3.out.trans (hC.toBelow HB3.out.size (by simp))
   have hfB:Fr (w.heap.size+1+1) fp:=hfr.mono (by have:=hQ.lt;omega)
   have kQ:=hQ.kQ
   clear hfr hVC hQ
   go_wp2_with fail
   refine(sIsValidQuery_c _ _ _ ((rQuery_ok NB).toRep ho)).mono ?_
   rw [HV.out]
   rintro e w4 ⟨rfl,hb4⟩
   replace ho:=(rQuery_ok NB).ownB ho hb4
   replace kQ:=kQ.below hb4
   replace kR:=kR.below hb4
   replace hb:=hb.trans (hb4.mono hb.size)
   clear q0 q1 hb4
   have ⟨q0,q1⟩:=kQ.bx.b2
   go_wp2_with fail
   refine(sFormatQuery_c _ _ _ ((rQuery_ok NB).toRep ho) HV.out).mono ?_
   rw [HF.out]
   rintro e w5 ⟨rfl,hb5⟩
   replace ho:=(rQuery_ok NB).ownB ho hb5
   replace kQ:=kQ.below hb5
   replace kR:=kR.below hb5
   replace hb:=hb.trans (hb5.mono hb.size)
   clear q0 q1 hb5
   have ⟨q0,q1⟩:=kQ.bx.b2
   have ⟨r0,g0,r1,g1⟩:=kR.r2
   have ⟨z0,z1⟩:=kR.s2
   have hne:(s.toList != s.toList)=false:=by simp
   go_wp2
   refine bodyPost_ret (v:=.tuple #[.agg #[.int .i64 VC,.slice A k c],.bool true]) (by simp [results,Try.results56,go_sem,z0,z1]) rfl ?_
   exact⟨[.int .i64 VC,.slice A k c],fp,rfl,own_set2 (rQuery_ok NB) ho (hfB.mono (by omega)) _ _,hfB.mono (by omega),bls2 hb (Nat.le_refl _) _ _⟩
end Go.Proofs.Ytjckbnmbhgikjaa
