/-
  Pqp
-/
import Derived.Test.YtnlcfkpcmfljeaaGreatVar
import Derived.Test.YtnlcfkpcmfljeaaGreatMid
import Derived.Test.YtnlcfkpcmfljeaaGreatJss
set_option linter.unusedSimpArgs false
set_option linter.unusedVariables false
set_option maxHeartbeats 3200000
set_option maxRecDepth 100000
namespace Go.Proofs.YtnlcfkpcmfljeaaGreat
open Go.RowKit
def cutF (s:ByteArray) (sep:UInt8):Nat->Nat->Nat->List ByteArray
 | 0,a,_=>[s.extract a s.size]
 | f+1,a,i=>if s.get! i=sep then s.extract a i::cutF s sep f (i+1) (i+1) else cutF s sep f a (i+1)
def cutB (s:ByteArray) (sep:UInt8):List ByteArray:=cutF s sep s.size 0 0
def varsK (t:ByteArray) (k:Nat):List Int:=([0,1,2,3]:List Int).filter fun v=>(varT v).toList==(t.extract k (k+1)).toList
def varsKV (t:ByteArray) (k v:Nat):List Int:=(([0,1,2,3]:List Int).take v).filter fun v=>(varT v).toList==(t.extract k (k+1)).toList
theorem varsKV_snoc (t:ByteArray) (k:Nat) {v:Nat}(hv:v<4):varsKV t k (v+1)=if (varT (v:Int)).toList==(t.extract k (k+1)).toList then varsKV t k v++[(v:Int)] else varsKV t k v:=by
 have e:([0,1,2,3]:List Int).take (v+1)=([0,1,2,3]:List Int).take v++[(v:Int)]:=by
  have:v=0\/v=1\/v=2\/v=3:=by omega
  rcases this with rfl|rfl|rfl|rfl<;>rfl
 unfold varsKV;rw [e,List.filter_append];cases h:(varT (v:Int)).toList==(t.extract k (k+1)).toList with
 | true=>rw [List.filter_cons,if_pos h];rfl
 | false=>rw [List.filter_cons,if_neg (by rw [h];decide)];simp
def varsTo2 (t:ByteArray):Nat->List Int
 | 0=>[]
 | n+1=>varsTo2 t n++varsK t (2+n)
theorem varsK_len (t:ByteArray) (k:Nat):(varsK t k).length<=4:=List.length_filter_le _ _
theorem varsKV_len (t:ByteArray) (k v:Nat):(varsKV t k v).length<=4:=Nat.le_trans (List.length_filter_le _ _) (by rw [List.length_take];simp;omega)
theorem varsTo2_len (t:ByteArray) (n:Nat):(varsTo2 t n).length<=4*n:=by
 induction n with
 | zero=>simp [varsTo2]
 | succ n ih=>simp only [varsTo2,List.length_append];have:=varsK_len t (2+n);omega
def vcOf (l:List Int):Int:=l.foldl (fun m v=>max m (v+1)) 0
theorem vcOf_snoc (l:List Int) (v:Int):vcOf (l++[v])=max (vcOf l) (v+1):=by unfold vcOf;rw [List.foldl_append];rfl
theorem vcOf_bd {l:List Int}(h:∀ v∈l,0<=v/\v<=3):0<=vcOf l/\vcOf l<=4:=by
 induction l using snocInd with
 | h0=>simp [vcOf]
 | h1 l v ih =>
  have h1:=ih fun x hx=>h x (List.mem_append_left _ hx);have h2:=h v (by simp);rw [vcOf_snoc];omega
theorem varsK_bd (t:ByteArray) (k:Nat):∀ v∈varsK t k,0<=v/\v<=3:=fun v hv=>by
 have:=(List.mem_filter.1 hv).1;simp at this;omega
theorem varsKV_bd (t:ByteArray) (k j:Nat):∀ v∈varsKV t k j,0<=v/\v<=3:=fun v hv=>by
 have:=List.mem_of_mem_take (List.mem_filter.1 hv).1;simp at this;omega
theorem varsTo2_bd (t:ByteArray) (n:Nat):∀ v∈varsTo2 t n,0<=v/\v<=3:=by
 induction n with
 | zero=>intro v hv;cases hv
 | succ n ih =>
  intro v hv;rcases List.mem_append.1 hv with hv|hv
  ·exact ih v hv
  ·exact varsK_bd t _ v hv
def atomP (t:ByteArray):AtomD:=⟨t.extract 0 1,varsTo2 t (t.size - 3)⟩
def queryP (s:ByteArray):QueryD:=⟨vcOf (allVars ((cutB s 32).map atomP)),(cutB s 32).map atomP⟩
def namesT (l:List Int):ByteArray:=l.foldl (fun s v=>s++varT v) ⟨#[]⟩
theorem namesT_snoc {l:List Int}{k:Nat}{v:Int}(h:l[k]?=some v):namesT (l.take (k+1))=namesT (l.take k)++varT v:=by unfold namesT;rw [take_snoc h,List.foldl_append];rfl
theorem namesT_len (l:List Int):(namesT l).size<=l.length:=by
 induction l using snocInd with
 | h0=>exact Nat.le_refl _
 | h1 l v ih =>
  have e:namesT (l++[v])=namesT l++varT v:=by unfold namesT;rw [List.foldl_append];rfl
  rw [e,ByteArray.size_append];have:=varT_le v;simp;omega
def fmtTo (l:List AtomD):Nat->ByteArray
 | 0=>⟨#[]⟩
 | k+1=>match l[k]? with
  | some a=>(if 0<k then fmtTo l k++⟨#[32]⟩ else fmtTo l k)++a.fName++⟨#[40]⟩++namesT a.fVars++⟨#[41]⟩
  | none=>fmtTo l k
def fmtQ (q:QueryD):ByteArray:=fmtTo q.fAtoms q.fAtoms.length
def tokOk (t:ByteArray):Bool:=decide (4<=t.size)&&decide (t.size<=6)
def parseOk (s:ByteArray):Bool:=decide (s.size<=100)&&decide ((cutB s 32).length<=4)&&(cutB s 32).all tokOk&&validQ (queryP s)&&decide ((fmtQ (queryP s)).toList=s.toList)
def knownQ:List ByteArray:=[⟨#[114,40,88,89,41]⟩,⟨#[114,40,88,89,41,32,115,40,89,90,41]⟩,⟨#[114,40,88,89,41,32,115,40,89,90,41,32,116,40,90,85,41]⟩,⟨#[114,40,88,89,41,32,115,40,89,90,41,32,116,40,90,88,41]⟩,⟨#[114,40,88,89,41,32,115,40,88,90,41,32,116,40,88,85,41]⟩,⟨#[114,40,88,89,41,32,115,40,89,90,41,32,118,40,89,41]⟩,⟨#[117,40,88,89,90,41,32,115,40,90,85,41]⟩,⟨#[117,40,88,89,90,41,32,114,40,88,89,41,32,118,40,90,41]⟩,⟨#[114,40,88,89,41,32,115,40,89,90,41,32,116,40,90,85,41,32,118,40,88,41]⟩,⟨#[114,40,88,89,41,32,114,40,89,90,41]⟩,⟨#[114,40,88,89,41,32,115,40,89,88,41]⟩,⟨#[118,40,88,41,32,114,40,88,89,41,32,115,40,89,90,41,32,116,40,90,85,41]⟩,⟨#[114,40,88,89,41,32,115,40,89,90,41,32,116,40,90,85,41,32,115,40,85,88,41]⟩]
theorem knownQ_ok:knownQ.all parseOk=true:=by decide +kernel
theorem RS.atS {M M':Nat}{w:World}{A:Option Addr}{n cap:Nat}{l:List ByteArray}(h:RS M (rStr M') w A n cap l) {k:Nat}(hk:k<n) :
  ∃ b off x,A=some ⟨b,off,none⟩/\w.cell? ⟨b,off+k,none⟩=some (.string x)/\x.size<=M'/\Hid (l[k]?=some x):=by
 obtain⟨b,off,x,cs,e,⟨rfl,h1⟩,hc,hx⟩:=h.at_ hk;exact⟨b,off,x,e,by simpa [rStr]using hc 0 _ rfl,h1,hx⟩
theorem RS.litS (w:World) (l:List ByteArray) (t:TypeId) (hl:l.length<=1000) (hI:∀ x∈l,x.size<=NB):RS NB (rStr NB) (w.alloc (.cells (l.map Value.string).toArray t)) (some ⟨w.heap.size,0,none⟩) l.length l.length l :=
 ⟨rfl,by unfold NB;omega,Nat.le_refl _,fun _=>⟨w.heap.size,0,rfl,fun j x hj=>⟨[.string x],⟨rfl,hI x (mem_of_at hj)⟩,fun i v hi=>by
  match i,hi with
  | 0,hi =>
   simp at hi;subst hi;rw [cell_of_row _ w.heap.size (0+j*(rStr NB).size+0) (l.map Value.string).toArray t (0,0) (heap_alloc_new w _)];have e:(rStr NB).size=1:=rfl;simp [e,hj]⟩⟩⟩
theorem RS.chgS {M M':Nat}{w w':World}{A:Option Addr}{n cap:Nat}{l:List ByteArray}{S:List Nat}(h:RS M (rStr M') w A n cap l) (hc:Chg S w w') (hS:∀ k∈blk A,k∉S):RS M (rStr M') w' A n cap l :=
 ⟨h.len,h.nb,h.nc,fun h0=>by
  obtain⟨b,off,e,hk⟩:=h.cell h0;refine⟨b,off,e,fun j x hj=>?_⟩;obtain⟨cs,h1,h2⟩:=hk j x hj;exact⟨cs,h1,fun i v hi=>by rw [<- h2 i v hi];exact hc.cell (World.block_lt_of_cell? w _ (h2 i v hi)) (hS b (by subst e;simp [blk]))⟩⟩
def DrawnB (P:ByteArray->Prop) (g:Nat) (w:World) (e:Ending) (w':World):Prop:=∃ x,e=.returned (.string x)/\P x/\Cur w' g/\Chg [g] w w'
theorem l1Pick_c (g:Nat) (A:Option Addr) (n cap:Nat) (l:List ByteArray) (w:World) (hr:RS NB (rStr NB) w A n cap l) (hA:∀ k∈blk A,k≠g) (h0:0<n) (hc:Cur w g) :
  Calls Tryz.prog 160 #[.pointer (some ⟨g,0,none⟩),.slice A n cap] w (DrawnB (fun x=>x∈l) g w):=by
 have hn:=hr.bound
 go_enter Tryz.func160,Tryz.ntmps160
 go_wp2_with fail
 refine(l1Below_c g n w (by omega) hc).mono ?_;rintro e w1 ⟨x,rfl,⟨hx0,hx1,hx2⟩,hc1,hC1⟩;obtain⟨k,rfl⟩:=Int.eq_ofNat_of_zero_le hx0;have hk:k<n:=by have:=hx2 (by omega);omega
 obtain⟨b,off,y,rfl,hcell,hI,hy⟩:=hr.atS hk
 have hcell1:w1.cell? ⟨b,off+k,none⟩=some (.string y):=by
  rw [<- hcell];exact hC1.cell (World.block_lt_of_cell? w _ hcell) (by simp;exact hA b (by simp [blk]))
 clear hcell;go_wp2;go_ret;exact⟨_,rfl,mem_of_at hy.out,hc1,hC1⟩
theorem getB {s:ByteArray}{k:Nat}(h:k<s.size):s.get! k=s[k]:=by
 show s.data[k]! = s.data[k];exact getElem!_pos s.data k h
theorem ext_size (s:ByteArray) (a b:Nat):(s.extract a b).size<=s.size:=by rw [ByteArray.size_extract];omega
theorem cutF_yes {s:ByteArray}{a k:Nat}(h:k<s.size) (hc:s[k]=32):cutF s 32 (s.size - k) a k=s.extract a k::cutF s 32 (s.size - (k+1)) (k+1) (k+1):=by
 have e:s.size - k=(s.size - (k+1))+1:=by omega
 rw [e,cutF,getB h,if_pos hc]
theorem cutF_no {s:ByteArray}{a k:Nat}(h:k<s.size) (hc:¬ s[k]=32):cutF s 32 (s.size - k) a k=cutF s 32 (s.size - (k+1)) a (k+1):=by
 have e:s.size - k=(s.size - (k+1))+1:=by omega
 rw [e,cutF,getB h,if_neg hc]
theorem eiStr:Ei Tryz.prog 187 9 (.string ⟨#[]⟩) (rStr NB).size 16:=⟨by kernel_rfl,by kernel_rfl,rfl⟩
theorem l4Cut_c (s:ByteArray) (w:World) (hs:s.size<=100):Calls Tryz.prog 212 #[.string s,.int .u8 32] w (RetS 9 (rStr NB) (cutB s 32) w):=by
 have M0:=MS.empty (B:=w.heap.size) (M:=NB) (e:=9) (r:=rStr NB) w (Nat.le_refl _);have B0:=(Below.refl w.heap.size w).alloc (Nat.le_refl _) (.cells #[] 9)
 go_enter Tryz.func212,Tryz.ntmps212
 go_wp2
 go_loopw [5,6,7] (fun o f i wr=>∃ (k a m c:Nat) (B:Option Addr) (O:List ByteArray),k<=s.size/\a<=k/\m<=k/\i=.int .i64 k/\f=.int .i64 a/\o=.slice B m c/\MS w.heap.size NB 9 (rStr NB) wr B m c O/\Hid (O++cutF s 32 (s.size - k) a k=cutB s 32)/\Below w.heap.size w wr) (fun _ _ i _=>s.size - (intOf i).toNat)
 case atStart=>exact⟨0,0,0,0,_,[],by omega,by omega,by omega,rfl,rfl,rfl,M0,Lib.hid rfl,B0⟩
 case round =>
  clear M0 B0;obtain⟨k,a,m,c,B,O,hk,ha,hm,rfl,rfl,rfl,hM,HO,hE⟩:=hrel;have hz:=hE.size;by_cases hlt:k<s.size
  ·by_cases hc:s[k]=32
   ·have hb:((s[k].toNat:Int)==32)=true:=by rw [hc];rfl
    have HN:Hid ((O++[s.extract a k])++cutF s 32 (s.size - (k+1)) (k+1) (k+1)=cutB s 32):=by
     show _=_;rw [<- HO.out,cutF_yes hlt hc];simp
    have hx:=ext_size s a k;clear HO hc
    go_wp2_with (at_builtin;refine wpList_app (r:=rStr NB) rfl _ _ 187 rfl _ 16 eiStr (rStr_ok NB) rfl hM (bal) hz ⟨wr.heap.size,0,none⟩ rfl [] [.string (s.extract a k)] (s.extract a k) ⟨rfl,rfl,by unfold NB;omega⟩ (Fr.nil _) (cells_new _ _ _) (by unfold NB;omega) (Nat.le_refl _) (by omega) ?_;intro A9 k9 w9 hM9 hb9 hg9)
    go_roundw
    case rel=>exact⟨k+1,k+1,m+1,k9,A9,O++[s.extract a k],by omega,by omega,by omega,by go_num,by go_num,rfl,hM9,HN,(hE.alloc hE.size _).trans hb9⟩
    case measure=>simp [intOf];omega
   ·have hb:((s[k].toNat:Int)==32)=false:=by
     rw [Bool.eq_false_iff];intro h;apply hc;have h2:(s[k].toNat:Int)=32:=by simpa using h
     exact UInt8.toNat_inj.1 (by show s[k].toNat=32;omega)
    have HN:Hid (O++cutF s 32 (s.size - (k+1)) a (k+1)=cutB s 32):=by
     show _=_;rw [<- HO.out,cutF_no hlt hc]
    clear HO hc;go_wp2;go_roundw
    case rel=>exact⟨k+1,a,m,c,B,O,by omega,by omega,by omega,by go_num,rfl,rfl,hM,HN,hE⟩
    case measure=>simp [intOf];omega
  ·have hkn:k=s.size:=by omega
   have HN:Hid (O++[s.extract a s.size]=cutB s 32):=by
    show _=_;rw [<- HO.out,hkn,Nat.sub_self];rfl
   have hx:=ext_size s a s.size;clear HO hkn
   go_wp2_with (at_builtin;refine wpList_app (r:=rStr NB) rfl _ _ 187 rfl _ 16 eiStr (rStr_ok NB) rfl hM (bal) hz ⟨wr.heap.size,0,none⟩ rfl [] [.string (s.extract a s.size)] (s.extract a s.size) ⟨rfl,rfl,by unfold NB;omega⟩ (Fr.nil _) (cells_new _ _ _) (by unfold NB;omega) (Nat.le_refl _) (by omega) ?_;intro A9 k9 w9 hM9 hb9 hg9)
   go_ret;exact⟨_,_,_,rfl,HN.out▸hM9,(hE.alloc hE.size _).trans hb9⟩
theorem sL7Names_c (A:Option Addr) (n cap:Nat) (l:List Int) (w:World) (hr:RS NB rInt w A n cap l) (hn:n<=100):Calls Tryz.prog 243 #[.slice A n cap] w fun e w'=>e=.returned (.string (namesT l))/\w'=w:=by
 have HL:=Lib.hid hr.len
 go_enter Tryz.func243,Tryz.ntmps243
 go_wp2
 go_loop [3,4] (fun s i=>∃ (k:Nat) (t:ByteArray),k<=n/\i=.int .i64 k/\s=.string t/\Hid (t=namesT (l.take k))/\t.size<=k) (fun _ i=>n - (intOf i).toNat)
 case atStart=>exact⟨0,_,Nat.zero_le _,rfl,rfl,Lib.hid rfl,Nat.le_refl _⟩
 case round =>
  obtain⟨k,t,hk,rfl,rfl,HT,hs⟩:=hrel;by_cases hlt:k<n
  ·obtain⟨b,off,x,rfl,hc,hI,hx⟩:=hr.ati hlt
   have hv:=varT_le x;have hc1:¬ IntKind.i64.max<((t.size+(varT x).size:Nat):Int):=by rw [show IntKind.i64.max=9223372036854775807 from rfl];omega
   have HN:Hid (t++varT x=namesT (l.take (k+1))):=by show _=_;rw [namesT_snoc hx.out,HT.out]
   have hz:(t++varT x).size<=k+1:=by rw [ByteArray.size_append];omega
   go_wp2_with (go_at_call 213;refine(sVariableName_c x _).mono ?_;rintro e w' ⟨rfl,hww⟩;replace hww:=hww.symm;subst hww)
   go_round
   case rel=>exact⟨k+1,_,by omega,by go_num,rfl,HN,by omega⟩
   case measure=>simp [intOf];omega
  ·go_wp2
   go_ret;exact⟨by rw [HT.out,take_all HL.out hlt];rfl,rfl⟩
theorem Bx.drewN {w:World}{g:Nat}{cs:List Value}(h:Bx w g cs) (m:Nat):Bx (w.drewN m) g cs:=h
theorem valid_small {q:QueryD}(h:validQ q=true):∀ a∈q.fAtoms,a.fName.size<=1/\a.fVars.length<=3:=fun a ha=>by
 obtain⟨_,_,_,_,h5,_⟩:=validQ_parts h;obtain⟨g1,g2,g3,_⟩:=atomOk_parts (h5 a ha);refine⟨?_,g3⟩;unfold nameOk at g1;simp only [Bool.and_eq_true,decide_eq_true_eq]at g1;omega
theorem fmtTo_one {l:List AtomD}{k:Nat}{a:AtomD}(h:l[k]?=some a) (hk:0<k):fmtTo l (k+1)=fmtTo l k++⟨#[32]⟩++a.fName++⟨#[40]⟩++namesT a.fVars++⟨#[41]⟩:=by rw [fmtTo,h];simp only;rw [if_pos hk]
theorem fmtTo_fst {l:List AtomD}{k:Nat}{a:AtomD}(h:l[k]?=some a) (hk:¬ 0<k):fmtTo l (k+1)=fmtTo l k++a.fName++⟨#[40]⟩++namesT a.fVars++⟨#[41]⟩:=by rw [fmtTo,h];simp only;rw [if_neg hk]
theorem catOk {a b:ByteArray}(h1:a.size<=1000) (h2:b.size<=1000):¬ IntKind.i64.max<((a.size+b.size:Nat):Int):=by rw [show IntKind.i64.max=9223372036854775807 from rfl];omega
theorem catLe {a b:ByteArray}{m n k:Nat}(h1:a.size<=m) (h2:b.size<=n) (h:m+n<=k):(a++b).size<=k:=by rw [ByteArray.size_append];omega
theorem sFormatQuery_c (csx:List Value) (x:QueryD) (w:World) (hx:(rQuery NB).rep w csx x) (hv:validQ x=true) :
  Calls Tryz.prog 214 #[.agg csx.toArray] w fun e w'=>e=.returned (.string (fmtQ x))/\Below w.heap.size w w':=by
 have rx:=hx;obtain⟨Ax_e,nx_e,cx_e,rfl,hx_p5,hx_e⟩:=rQuery_rep.1 hx;clear hx;obtain⟨hB,bxx⟩:=op1 w [.int .i64 x.fVariableCount,.slice Ax_e nx_e cx_e] 50;have HL:=Lib.hid hx_e.len;have HV:=Lib.hid hv;have hn4:nx_e<=4:=by have:=validQ_parts hv;have:=hx_e.len;omega
 clear hv;have kx_0:=bxx 0 _ rfl;have kx_1:=bxx 1 _ rfl
 go_enter Tryz.func214,Tryz.ntmps214
 go_wp2
 go_loopw [3,4] (fun s i wr=>∃ (k:Nat) (t:ByteArray),k<=nx_e/\i=.int .i64 k/\s=.string t/\Hid (t=fmtTo x.fAtoms k)/\t.size<=7*k/\Below w.heap.size w wr/\Bx wr w.heap.size [.int .i64 x.fVariableCount,.slice Ax_e nx_e cx_e]) (fun _ i _=>nx_e - (intOf i).toNat)
 case atStart=>exact⟨0,_,Nat.zero_le _,rfl,rfl,Lib.hid rfl,Nat.le_refl _,hB,bxx⟩
 case round =>
  clear kx_0 kx_1 bxx hB;obtain⟨k,t,hk,rfl,rfl,HT,hs,hB,bxx⟩:=hrel;have kx_0:=bxx 0 _ rfl;have kx_1:=bxx 1 _ rfl;by_cases hlt:k<nx_e
  ·go_wp2_with fail
   refine(sIsValidQuery_c _ x _ ((rQuery_ok NB).keep rx (cells_below hB))).mono ?_;rintro e w1 ⟨rfl,hb1⟩;replace hB:=hB.trans (hb1.mono hB.size);replace bxx:=bxx.below hb1;clear hb1 kx_0 kx_1;rw [HV.out];obtain⟨b,off,a,AV,nV,cV,rfl,hc0,hc1,hsn,hV,hx⟩:=(hx_e.below (rAtom_ok NB) hB).eAtom hlt;have hsm:=valid_small HV.out a (mem_of_at hx.out);have hnm:=namesT_len a.fVars;have hVl:=hV.len;have kx_0:=bxx 0 _ rfl;have kx_1:=bxx 1 _ rfl;have s1:(⟨#[32]⟩:ByteArray).size<=1:=Nat.le_refl _;have s2:(⟨#[40]⟩:ByteArray).size<=1:=Nat.le_refl _;have s3:(⟨#[41]⟩:ByteArray).size<=1:=Nat.le_refl _;have k0:=catOk (a:=t) (b:=⟨#[32]⟩) (by omega) (by omega)
   by_cases hk0:0<k
   ·have hki:(0:Int)<k:=by omega
    have HN:=Lib.hid (fmtTo_one hx.out hk0);rw [<- HT.out]at HN;have l1:=catLe (k:=30) (show t.size<=28 by omega) s1 (by omega);have l2:=catLe (k:=31) l1 hsm.1 (by omega);have l3:=catLe (k:=32) l2 s2 (by omega);have l4:=catLe (k:=40) l3 (show(namesT a.fVars).size<=3 by omega) (by omega);have k1:=catOk (a:=t++⟨#[32]⟩) (b:=a.fName) (by omega) (by omega);have k2:=catOk (a:=t++⟨#[32]⟩++a.fName) (b:=⟨#[40]⟩) (by omega) (by omega);have k3:=catOk (a:=t++⟨#[32]⟩++a.fName++⟨#[40]⟩) (b:=namesT a.fVars) (by omega) (by omega);have k4:=catOk (a:=t++⟨#[32]⟩++a.fName++⟨#[40]⟩++namesT a.fVars) (b:=⟨#[41]⟩) (by omega) (by omega)
    have hz:(t++⟨#[32]⟩++a.fName++⟨#[40]⟩++namesT a.fVars++⟨#[41]⟩).size<=7*(k+1):=by simp only [ByteArray.size_append];omega
    go_wp2
    go_quiet ((go_at_call 243;exact Calls.quiet_of_same (sL7Names_c _ _ _ a.fVars _ (hV.drewN rInt_ok _) (by omega))))
    go_wp2;go_roundw
    case rel=>exact⟨k+1,_,by omega,by go_num,rfl,Lib.hid HN.out.symm,hz,Below.qt hB ⟨_,rfl⟩ hB.size,bxx.drewN _⟩
    case measure=>simp [intOf];omega
   ·have hki:¬ (0:Int)<k:=by omega
    have HN:=Lib.hid (fmtTo_fst hx.out hk0);rw [<- HT.out]at HN;have l2:=catLe (k:=31) (show t.size<=28 by omega) hsm.1 (by omega);have l3:=catLe (k:=32) l2 s2 (by omega);have l4:=catLe (k:=40) l3 (show(namesT a.fVars).size<=3 by omega) (by omega);have k1:=catOk (a:=t) (b:=a.fName) (by omega) (by omega);have k2:=catOk (a:=t++a.fName) (b:=⟨#[40]⟩) (by omega) (by omega);have k3:=catOk (a:=t++a.fName++⟨#[40]⟩) (b:=namesT a.fVars) (by omega) (by omega);have k4:=catOk (a:=t++a.fName++⟨#[40]⟩++namesT a.fVars) (b:=⟨#[41]⟩) (by omega) (by omega);have hz:(t++a.fName++⟨#[40]⟩++namesT a.fVars++⟨#[41]⟩).size<=7*(k+1):=by simp only [ByteArray.size_append];omega
    go_wp2
    go_quiet ((go_at_call 243;exact Calls.quiet_of_same (sL7Names_c _ _ _ a.fVars _ (hV.drewN rInt_ok _) (by omega))))
    go_wp2;go_roundw
    case rel=>exact⟨k+1,_,by omega,by go_num,rfl,Lib.hid HN.out.symm,hz,Below.qt hB ⟨_,rfl⟩ hB.size,bxx.drewN _⟩
    case measure=>simp [intOf];omega
  ·have hd:decide (k<nx_e)=false:=by simpa using hlt
   go_wp2;go_ret;exact⟨by rw [HT.out,show k=x.fAtoms.length by have:=HL.out;omega];rfl,hB⟩
theorem parse_parts {s:ByteArray}(h:parseOk s=true):s.size<=100/\(cutB s 32).length<=4/\(∀ t∈cutB s 32,4<=t.size/\t.size<=6)/\validQ (queryP s)=true/\fmtQ (queryP s)=s:=by
 unfold parseOk at h;simp only [Bool.and_eq_true,decide_eq_true_eq,List.all_eq_true]at h;obtain⟨⟨⟨⟨h1,h2⟩,h3⟩,h4⟩,h5⟩:=h;refine⟨h1,h2,fun t ht=>?_,h4,?_⟩
 ·have:=h3 t ht
  unfold tokOk at this;simpa using this
 ·rw [ByteArray.toList_eq,ByteArray.toList_eq]at h5
  exact ByteArray.ext (Array.toList_inj.1 h5)
theorem allVars_app (l:List AtomD) (a:AtomD):allVars (l++[a])=allVars l++a.fVars:=by simp [allVars]
theorem atomP_vars (t:ByteArray):(atomP t).fVars=varsTo2 t (t.size - 3):=rfl
theorem allV_bd (ts:List ByteArray):∀ v∈allVars (ts.map atomP),0<=v/\v<=3:=fun v hv=>by
 unfold allVars at hv;simp only [List.map_map,List.mem_flatten,List.mem_map]at hv;obtain⟨_,⟨t,_,rfl⟩,hv⟩:=hv;exact varsTo2_bd t _ v hv
theorem app_bd {l m:List Int}(h1:∀ v∈l,0<=v/\v<=3) (h2:∀ v∈m,0<=v/\v<=3):∀ v∈l++m,0<=v/\v<=3:=fun v hv=>by
 rcases List.mem_append.1 hv with h|h
 ·exact h1 v h
 ·exact h2 v h
theorem sParseQuery_c (s:ByteArray) (w:World) (h:parseOk s=true):Calls Tryz.prog 156 #[.string s] w (RetVB (rQuery NB) (queryP s) (.bool true) w):=by
 obtain⟨hs,hlen,htok,hval,hfmt⟩:=parse_parts h;have HV:=Lib.hid hval;clear hval;have HF:=Lib.hid hfmt;clear hfmt;obtain⟨ts,HTS⟩:∃ ts,Hid (ts=cutB s 32):=⟨_,rfl⟩;have HQ:Hid (queryP s=⟨vcOf (allVars (ts.map atomP)),ts.map atomP⟩):=by show _=_;rw [HTS.out];rfl
 rw [<- HTS.out]at hlen htok;have HTok:=Lib.hid htok;clear h htok;obtain⟨w1,hw1⟩:∃ W,W=w.alloc (.cells #[.int .i64 0,.slice none 0 0] 50):=⟨_,rfl⟩;obtain⟨w2,hw2⟩:∃ W,W=w1.alloc (.cells #[.int .i64 0,.slice none 0 0] 50):=⟨_,rfl⟩;have hs1:w1.heap.size=w.heap.size+1:=by rw [hw1];simp
 have hs2:w2.heap.size=w.heap.size+1+1:=by rw [hw2];simp [hs1]
 have b1:Below w.heap.size w w1:=by rw [hw1];exact bal
 have b2:Below w1.heap.size w1 w2:=by rw [hw2];exact bal
 have kR:Bk w2 w.heap.size 50 [.int .i64 0,.slice none 0 0]:=by refine Bk.below ?_ b2;rw [hw1];exact Bk.new w _ _
 have kQ:Bk w2 (w.heap.size+1) 50 [.int .i64 0,.slice none 0 0]:=by rw [hw2,<- hs1];exact Bk.new w1 _ _
 have B2:=b1.trans (b2.mono b1.size);clear b1 b2
 go_enter Tryz.func156,Tryz.ntmps156
 go_upto_region 2 with fail
 rw [<- hw1,<- hw2];clear hw1 hw2
 go_wp2_with fail
 refine(l4Cut_c s _ hs).mono ?_;rw [<- HTS.out];rintro e w3 ⟨AT,nT,cT,rfl,mT,hb3⟩;replace kR:=kR.below hb3;replace kQ:=kQ.below hb3;have B3:=B2.trans (hb3.mono B2.size);have hs3:w.heap.size+1<w3.heap.size:=by have:=hb3.size;omega
 have hTl:=mT.len
 have HRT:Hid (∀ W,Chg [w.heap.size+1] w3 W->RS NB (rStr NB) W AT nT cT ts):=by
  show ∀ W,_->_;intro W hW;refine(mT.rs (rStr_ok NB)).chgS hW fun k hk=>?_;obtain⟨fp,o,f⟩:=mT;have hk2:k∈fp:=by obtain⟨_,fps,_,e,_⟩:=o.ex;rw [e];exact List.mem_append_left _ hk
  have:=f.ge k hk2;simp;omega
 have HKR:Hid (∀ W,Chg [w.heap.size+1] w3 W->Bk W w.heap.size 50 [.int .i64 0,.slice none 0 0]):=by
  show ∀ W,_->_;exact fun W hW=>(hW.block _ kR.lt (by simp)).trans kR
 have HB3:=Lib.hid B3;have Q0:=Qb.new kQ;have HS3:=Lib.hid hs3;clear mT hb3 kR kQ B2 B3 hs1 hs2 hs3;obtain⟨B,hBe⟩:∃ B,B=w3.heap.size:=⟨_,rfl⟩;rw [<- hBe]at Q0;have HBE:=Lib.hid hBe;clear hBe;go_wp2
 go_loopw [6] (fun i wr=>∃ (k T c:Nat) (A:Option Addr),k<=nT/\i=.int .i64 k/\Qb (w.heap.size+1) B T (vcOf (allVars ((ts.take k).map atomP))) A k c ((ts.take k).map atomP) wr/\Chg [w.heap.size+1] w3 wr) (fun i _=>nT - (intOf i).toNat)
 case atStart=>exact⟨0,B,0,none,Nat.zero_le _,rfl,Q0,Chg.refl _ _⟩
 case round =>
  clear Q0;obtain⟨k,T,c,A,hk,rfl,hQ,hC⟩:=hrel;by_cases hlt:k<nT
  ·have hk4:(k:Int)<=4:=by omega
   have rT:=HRT.out wr hC;obtain⟨b,off,t,rfl,hct,htn,htk⟩:=rT.atS hlt;obtain⟨ht4,ht6⟩:=HTok.out t (mem_of_at htk.out);obtain⟨P,HP⟩:∃ P,Hid (P=(ts.take k).map atomP):=⟨_,rfl⟩;rw [<- HP.out]at hQ;have hPb:∀ v∈allVars P,0<=v/\v<=3:=by rw [HP.out];exact allV_bd _
   have HPb:=Lib.hid hPb;clear hPb;obtain⟨gA,hgA⟩:∃ g,g=wr.heap.size:=⟨_,rfl⟩;have szr:=hQ.sz;obtain⟨wa,hwa⟩:∃ W,W=wr.alloc (.cells #[.string (t.extract 0 1),.slice none 0 0] 162):=⟨_,rfl⟩;have A0:Ab gA (t.extract 0 1) none 0 0 [] wa:=by rw [hwa];exact Ab.new wr gA hgA.symm _
   have ba:Below wr.heap.size wr wa:=by rw [hwa];exact bal
   have sza:wa.heap.size=gA+1:=by rw [hwa,hgA];simp
   have Q1:Qb (w.heap.size+1) B gA (vcOf (allVars P)) A k c P wa:=(hQ.low (ba.mono szr)).rise (by rw [hgA];exact szr) (by omega);have C1:=hC.trans (Chg.ofBelow ba _);have hgB:B<=gA:=Q1.le;have HGQ:Hid (w.heap.size+1<gA):=by show _<_;have:=Q1.lt;omega
   have HC0:=Lib.hid hC;have HQ0:=Lib.hid hQ;have hwB:w3.heap.size<=gA:=by have:=HBE.out;omega
   clear hQ hC rT szr
   go_upto_region 9 with fail
   rw [<- hgA,<- hwa];clear hwa ba hct;have HGA:=Lib.hid hgA;clear hgA;have wo:=wr;rename World=>wr0;go_wp2
   go_loopw [8] (fun i wr=>∃ (j nV cV:Nat) (AV:Option Addr),j<=t.size - 3/\i=.int .i64 (2+(j:Int))/\Hid ((varsTo2 t j).length=nV)/\Qb (w.heap.size+1) B gA (vcOf (allVars P++varsTo2 t j)) A k c P wr/\Ab gA (t.extract 0 1) AV nV cV (varsTo2 t j) wr/\Chg [w.heap.size+1] w3 wr/\gA+1<=wr.heap.size) (fun i _=>t.size - (intOf i).toNat)
   case atStart=>exact⟨0,0,0,none,Nat.zero_le _,rfl,Lib.hid rfl,by rw [show varsTo2 t 0=[] from rfl,List.append_nil];exact Q1,A0,C1,by omega⟩
   case round =>
    clear Q1 A0 C1 sza;obtain⟨j,nV,cV,AV,hj,rfl,HNV,hQ,hA,hC,hsz⟩:=hrel;have rT:=HRT.out wr hC;obtain⟨b',off',t',e',hct,htn',htk'⟩:=rT.atS hlt;injection e' with e';injection e' with e1 e2;subst e1;subst e2;obtain rfl:t=t':=by have:=htk'.out;rw [htk.out]at this;injection this with this
    by_cases hlj:j<t.size - 3
    ·have hc1:2+(j:Int)<(t.size:Int) - 1:=by omega
     have hl0:varsKV t (2+j) 0=[]:=rfl;have HVL:=Lib.hid (varsTo2_len t j);have hwa:∃ W,W=wr:=⟨_,rfl⟩;rename World=>wr1;go_wp2
     go_loopw [9] (fun i wr=>∃ (v nV cV:Nat) (AV:Option Addr),v<=4/\i=.int .i64 v/\Hid ((varsTo2 t j++varsKV t (2+j) v).length=nV)/\Qb (w.heap.size+1) B gA (vcOf (allVars P++(varsTo2 t j++varsKV t (2+j) v))) A k c P wr/\Ab gA (t.extract 0 1) AV nV cV (varsTo2 t j++varsKV t (2+j) v) wr/\Chg [w.heap.size+1] w3 wr/\gA+1<=wr.heap.size) (fun i _=>4 - (intOf i).toNat)
     case atStart=>exact⟨0,nV,cV,AV,Nat.zero_le _,rfl,by rw [hl0,List.append_nil];exact HNV,by rw [hl0,List.append_nil];exact hQ,by rw [hl0,List.append_nil];exact hA,hC,hsz⟩
     case round =>
      clear hQ hA hC hsz rT hct HNV hl0;obtain⟨v,nV,cV,AV,hv,rfl,HNV,hQ,hA,hC,hsz⟩:=hrel;have rT:=HRT.out wr hC;obtain⟨b',off',t',e',hct,htn',htk'⟩:=rT.atS hlt;injection e' with e';injection e' with e1 e2;subst e1;subst e2;obtain rfl:t=t':=by have:=htk'.out;rw [htk.out]at this;injection this with this
      by_cases hlv:v<4
      ·have hvi:(v:Int)<4:=by omega
       obtain⟨V,hV⟩:∃ V,V=varsTo2 t j++varsKV t (2+j) v:=⟨_,rfl⟩;have hVb:∀ x∈V,0<=x/\x<=3:=by rw [hV];exact app_bd (varsTo2_bd t j) (varsKV_bd t (2+j) v)
       have hVl:V.length<=24:=by rw [hV,List.length_append];have:=HVL.out;have:=varsKV_len t (2+j) v;omega
       have hvc:=vcOf_bd (app_bd HPb.out hVb);rw [<- hV]at hQ hA HNV;have HVV:=Lib.hid hV;clear hV;obtain⟨VC,hVC⟩:∃ VC,VC=vcOf (allVars P++V):=⟨_,rfl⟩;rw [<- hVC]at hQ hvc;have HVC:=Lib.hid hVC;clear hVC hVb;cases hb:(varT (v:Int)).toList==(t.extract (2+j) (2+j+1)).toList
       ·go_wp2
        go_quiet ((go_at_call 213;exact Calls.quiet_of_same (sVariableName_c _ _)))
        go_wp2;go_roundw
        case rel =>
         have e:varsTo2 t j++varsKV t (2+j) (v+1)=V:=by rw [varsKV_snoc t (2+j) hlv,hb,HVV.out];rfl
         have bd:Below wr.heap.size wr (wr.drewN nq):=below_drewN (Below.refl _ _) _;exact⟨v+1,nV,cV,AV,by omega,by go_num,by rw [e];exact HNV,by rw [e,<- HVC.out];exact hQ.low (bd.mono hQ.sz),by rw [e];exact hA.below bd,hC.trans (Chg.ofBelow bd _),hsz⟩
        case measure=>simp [intOf];omega
       ·go_wp2
        go_quiet ((go_at_call 213;exact Calls.quiet_of_same (sVariableName_c _ _)))
        obtain⟨wd,hwd⟩:∃ W,W=wr.drewN nq:=⟨_,rfl⟩;have bd:Below wr.heap.size wr wd:=by rw [hwd];exact below_drewN (Below.refl _ _) _
        have hszd:gA+1<=wd.heap.size:=by have:=bd.size;omega
        rw [<- hwd];clear hwd;have Q2:=hQ.low (bd.mono hQ.sz);have A2:=hA.below bd;have C2:=hC.trans (Chg.ofBelow bd _);clear hQ hA hC hct rT;have ⟨x0,x1⟩:=A2.kA.bx.b2;have hnV:nV<=24:=by have:=HNV.out;omega
        have C4:=C2.alloc (.cells #[.int .i64 v] 3)
        go_upto_region 17 with (at_builtin;refine wpList_appB (r:=rInt) rfl _ _ 30 rfl _ 8 eiInt rInt_ok rfl A2.mV (bal) hszd ⟨wd.heap.size,0,none⟩ rfl [] [.int .i64 v] v ⟨rfl,rfl,⟨by omega,by omega⟩⟩ (Fr.nil _) (cell_one_new _ _ _) (by unfold NB;omega) (Nat.le_refl _) (by omega) ?_;intro A4 c4 w4 hM4 hb4 hg4 hA4;obtain⟨k4,A5⟩:=(A2.below ((Below.refl _ _).alloc (Nat.le_refl _) (.cells #[.int .i64 v] 3))).app hM4 hb4;have f4:=k4.frozen 1;have x4:=k4.bx 1 _ rfl)
        have b5:Below gA wd (w4.setCell ⟨gA,1,none⟩ (.slice A4 (nV+1) c4)):=(((Below.refl gA wd).alloc (by omega) (.cells #[.int .i64 v] 3)).trans (hb4.mono (Nat.le_succ _))).setCell (p:=⟨gA,1,none⟩) (Nat.le_refl _) _;have Q5:=Q2.low b5;have C5:=chgS C2 b5 hwB;have s5:gA+1<=(w4.setCell ⟨gA,1,none⟩ (.slice A4 (nV+1) c4)).heap.size:=by rw [World.size_setCell];have:=hb4.size;simp at this;omega
        obtain⟨w5,hw5⟩:∃ W,W=w4.setCell ⟨gA,1,none⟩ (.slice A4 (nV+1) c4):=⟨_,rfl⟩;rw [<- hw5]at Q5 A5 C5 s5 ⊢;clear hw5 b5 k4 f4 x4 hM4 hb4 hg4 hA4 Q2 A2 C2 C4 x0 x1 hszd bd;obtain⟨VN,hVN⟩:∃ VN,VN=max VC ((v:Int)+1):=⟨_,rfl⟩;have hmx:(if VC<(v:Int)+1 then (v:Int)+1 else VC)=VN:=by rw [hVN];split<;>omega
        have HVN:Hid (VN=vcOf (allVars P++(V++[(v:Int)]))):=by
         show _=_;rw [<- List.append_assoc,vcOf_snoc,<- HVC.out];exact hVN
        clear hVN;have hq0:=Q5.kQ.bx 0 _ rfl;have fq0:=Q5.kQ.frozen 0;go_wp2;go_roundw
        case rel =>
         have e:varsTo2 t j++varsKV t (2+j) (v+1)=V++[(v:Int)]:=by rw [varsKV_snoc t (2+j) hlv,hb,HVV.out,if_pos rfl,List.append_assoc]
         refine⟨v+1,nV+1,c4,A4,by omega,by go_num,?_,?_,?_,?_,?_⟩
         ·show _=_;rw [e];simp [HNV.out]
         ·rw [e,<- HVN.out];exact Q5.setVc VN
         ·rw [e];exact A5.other HGQ.out
         ·exact C5.setCell (by simp) _ _
         ·rw [World.size_setCell];exact s5
        case measure=>simp [intOf];omega
      ·have hv4:v=4:=by omega
       subst hv4;go_wp2;go_roundw
       case rel =>
        have e:varsTo2 t j++varsKV t (2+j) 4=varsTo2 t (j+1):=rfl;rw [e]at HNV hQ hA;exact⟨j+1,nV,cV,AV,by omega,by go_num,HNV,hQ,hA,hC,hsz⟩
       case measure=>simp [intOf];omega
    ·have HJE:Hid (j=t.size - 3):=by show _=_;omega
     have hc1:¬ 2+(j:Int)<(t.size:Int) - 1:=by omega
     obtain⟨v0,hv0,hbv,hMv⟩:=hQ.base;obtain⟨ho,hfr⟩:=hA.own (show(t.extract 0 1).size<=NB by have:=ext_size t 0 1;unfold NB;omega);have ha1:Below wr.heap.size wr (wr.alloc (.cells #[.string (t.extract 0 1),.slice AV nV cV] 162)):=bal;have hbv2:=hbv.trans (ha1.mono hbv.size);have ho2:=(rAtom_ok NB).ownB ho ha1;have hfr2:Fr v0.heap.size (blk AV):=hfr.mono (by omega);have hgB2:B<=v0.heap.size:=by omega
     have QA:=hQ.low (ha1.mono hQ.sz);have ⟨x0,x1⟩:=hA.kA.bx.b2;have y1:=hQ.kQ.bx 1 _ rfl;have CA:=hC.trans (Chg.ofBelow ha1 _);clear hQ hA hbv ho hfr rT
     go_wp2_with (at_builtin;refine wpList_appB (r:=rAtom NB) rfl _ _ 48 rfl _ 40 eiAtomD (rAtom_ok NB) rfl hMv hbv2 hgB2 ⟨wr.heap.size,0,none⟩ rfl (blk AV) [.string (t.extract 0 1),.slice AV nV cV] ⟨t.extract 0 1,varsTo2 t j⟩ ho2 hfr2 (cells_new _ _ _) (by unfold NB;omega) (Nat.le_refl _) (by omega) ?_;intro A9 c9 w9 hM9 hb9 hg9 hA9;obtain⟨k9,Q9⟩:=QA.app hM9 hb9;have f9:=k9.frozen 1;have x9:=k9.bx 1 _ rfl)
     go_roundw
     case rel =>
      have e1:(ts.take (k+1)).map atomP=P++[⟨t.extract 0 1,varsTo2 t j⟩]:=by rw [take_snoc htk.out,List.map_append,<- HP.out,HJE.out];rfl
      refine⟨k+1,w9.heap.size,c9,A9,by omega,by go_num,?_,?_⟩
      ·rw [e1,allVars_app];exact Q9
      ·exact(chgS CA hb9 (by rw [HBE.out];exact Nat.le_refl _)).setCell (by simp) _ _
     case measure=>simp [intOf];omega
  ·have ek:ts.take k=ts:=List.take_of_length_le (by omega)
   rw [ek]at hQ;clear ek;have hd:decide (k<nT)=false:=by simpa using hlt
   obtain⟨VC,hVC⟩:∃ VC,VC=vcOf (allVars (ts.map atomP)):=⟨_,rfl⟩;have hI:I64 VC:=by have:=vcOf_bd (allV_bd ts);unfold I64;omega
   rw [<- hVC]at hQ;obtain⟨fp,ho,hfr⟩:=hQ.own hI;rw [hVC,<- HQ.out,<- hVC]at ho;have ⟨q0,q1⟩:=hQ.kQ.bx.b2;have kR:=HKR.out wr hC;have hb:Below w.heap.size w wr:=HB3.out.trans (hC.toBelow HB3.out.size (by simp));have hfB:Fr (w.heap.size+1+1) fp:=hfr.mono (by have:=hQ.lt;omega);have kQ:=hQ.kQ;clear hfr hVC hQ
   go_wp2_with fail
   refine(sIsValidQuery_c _ _ _ ((rQuery_ok NB).toRep ho)).mono ?_;rw [HV.out];rintro e w4 ⟨rfl,hb4⟩;replace ho:=(rQuery_ok NB).ownB ho hb4;replace kQ:=kQ.below hb4;replace kR:=kR.below hb4;replace hb:=hb.trans (hb4.mono hb.size);clear q0 q1 hb4;have ⟨q0,q1⟩:=kQ.bx.b2
   go_wp2_with fail
   refine(sFormatQuery_c _ _ _ ((rQuery_ok NB).toRep ho) HV.out).mono ?_;rw [HF.out];rintro e w5 ⟨rfl,hb5⟩;replace ho:=(rQuery_ok NB).ownB ho hb5;replace kQ:=kQ.below hb5;replace kR:=kR.below hb5;replace hb:=hb.trans (hb5.mono hb.size);clear q0 q1 hb5;have ⟨q0,q1⟩:=kQ.bx.b2;have ⟨r0,g0,r1,g1⟩:=kR.r2;have ⟨z0,z1⟩:=kR.s2;have hne:(s.toList != s.toList)=false:=by simp
   go_wp2;refine bodyPost_ret (v:=.tuple #[.agg #[.int .i64 VC,.slice A k c],.bool true]) (by simp [results,Tryz.results156,go_sem,z0,z1]) rfl ?_;exact⟨[.int .i64 VC,.slice A k c],fp,rfl,own_set2 (rQuery_ok NB) ho (hfB.mono (by omega)) _ _,hfB.mono (by omega),bls2 hb (Nat.le_refl _) _ _⟩
theorem knownQ_size:∀ x∈knownQ,x.size<=NB:=by
 have h:=knownQ_ok;rw [List.all_eq_true]at h;intro x hx;have:=(parse_parts (h x hx)).1;unfold NB;omega
theorem chgW {g gX:Nat}{w w7 W:World}(h:Chg [g] w w7) (hc:Chg [g,gX] w7 W) (hX:w.heap.size<gX):Chg [g] w W :=
 ⟨hc.os.trans h.os,hc.tape.trans h.tape,hc.output.trans h.output,Nat.le_trans h.size hc.size,fun k hk hn=>(hc.block k (Nat.lt_of_lt_of_le hk h.size) (by simp at hn ⊢;omega)).trans (h.block k hk hn)⟩
theorem Ab.chg {gA g:Nat}{nm:ByteArray}{A:Option Addr}{n c:Nat}{V:List Int}{W W':World}(h:Ab gA nm A n c V W) (hc:Chg [g] W W') (hg:g<gA):Ab gA nm A n c V W':=by
 obtain⟨o,hB⟩:=h.mV.bI;exact⟨(hc.block _ h.kA.lt (by simp;omega)).trans h.kA,h.mV.keepI (fun z hz=>hc.block z (hB z hz).2 (by have:=(hB z hz).1;simp;omega))⟩
theorem l7Query_c (g:Nat) (w:World) (hc:Cur w g):Calls Tryz.prog 158 #[.pointer (some ⟨g,0,none⟩)] w (DrawnV (rQuery NB) (fun q=>validQ q=true) g w):=by
 have hgw:=hc.lt;obtain⟨w1,hw1⟩:∃ W,W=w.alloc (.cells #[.int .i64 0,.slice none 0 0] 50):=⟨_,rfl⟩;obtain⟨w2,hw2⟩:∃ W,W=w1.alloc (.cells (knownQ.map Value.string).toArray 9):=⟨_,rfl⟩;have hs1:w1.heap.size=w.heap.size+1:=by rw [hw1];simp
 have hs2:w2.heap.size=w.heap.size+1+1:=by rw [hw2];simp [hs1]
 have b1:Below w.heap.size w w1:=by rw [hw1];exact bal
 have b2:Below w1.heap.size w1 w2:=by rw [hw2];exact bal
 have kR:Bk w2 w.heap.size 50 [.int .i64 0,.slice none 0 0]:=by refine Bk.below ?_ b2;rw [hw1];exact Bk.new w _ _
 have rK:RS NB (rStr NB) w2 (some ⟨w.heap.size+1,0,none⟩) 13 13 knownQ:=by rw [hw2,<- hs1];exact RS.litS w1 knownQ _ (by decide) knownQ_size
 have C2:Chg [g] w w2:=Chg.ofBelow (b1.trans (b2.mono b1.size)) _;have cu2:Cur w2 g:=(hc.below b1).below b2;unfold knownQ at hw2;simp only [List.map_cons,List.map_nil]at hw2;clear b1 b2 hs1
 go_enter Tryz.func158,Tryz.ntmps158
 go_upto_region 2 with fail
 rw [<- hw1,<- hw2];clear hw1 hw2
 go_wp2_with fail
 refine(l1Pick_c g _ 13 13 knownQ _ rK (fun k hk=>by simp [blk]at hk;omega) (by decide) cu2).mono ?_;rintro e w3 ⟨s,rfl,hsm,cu3,ch3⟩;have hpo:parseOk s=true:=by have h:=knownQ_ok;rw [List.all_eq_true]at h;exact h s hsm
 have hval:=(parse_parts hpo).2.2.2.1;have kR3:Bk w3 w.heap.size 50 [.int .i64 0,.slice none 0 0]:=(ch3.block _ kR.lt (by simp;omega)).trans kR;have C3:=C2.trans ch3;have hs3:w.heap.size+1+1<=w3.heap.size:=by have:=ch3.size;omega
 clear rK kR cu2 C2 ch3 hsm hs2
 go_wp2_with fail
 refine(sParseQuery_c s _ hpo).mono ?_;rintro e w4 ⟨cs,fp,rfl,oQ,fQ,hb4⟩;obtain⟨Aq,nq,cq,fA,rfl,rfl,hqv,oqA⟩:=rQuery_own.1 oQ;have fQ2:Fr (w.heap.size+1) fp:=fQ.mono (by omega);obtain⟨q,hq⟩:∃ q,queryP s=q:=⟨_,rfl⟩;rw [hq]at oQ hval hqv oqA ⊢;clear hpo hq;replace kR3:=kR3.below hb4;replace cu3:=cu3.below hb4;replace C3:=C3.trans (Chg.ofBelow hb4 _);replace hs3:=Nat.le_trans hs3 hb4.size;obtain⟨w5,hw5⟩:∃ W,W=w4.alloc (.cells #[.int .i64 q.fVariableCount,.slice Aq nq cq] 50):=⟨_,rfl⟩;have b5:Below w4.heap.size w4 w5:=by rw [hw5];exact bal
 have hs5:w5.heap.size=w4.heap.size+1:=by rw [hw5];simp
 have kq:Bk w5 w4.heap.size 50 [.int .i64 q.fVariableCount,.slice Aq nq cq]:=by rw [hw5];exact Bk.new w4 _ _
 replace oQ:=(rQuery_ok NB).ownB oQ b5;replace kR3:=kR3.below b5;replace cu3:=cu3.below b5;replace C3:=C3.trans (Chg.ofBelow b5 _);have hgq:w.heap.size+1<=w4.heap.size:=by omega
 obtain⟨gq,hgqe⟩:∃ z,z=w4.heap.size:=⟨_,rfl⟩;rw [<- hgqe]at kq hgq hs5;clear hb4 b5 fQ
 go_upto_region 3 with fail
 rw [<- hgqe,<- hw5];clear hw5 hgqe oqA;have HFP:Hid (∀ k∈fp,k<w5.heap.size):=by show ∀ k∈fp,_;exact(rQuery_ok NB).lt oQ
 go_wp2_with fail
 refine(l1Once_c g 4 _ (by omega) cu3).mono ?_;rintro e w6 ⟨b,rfl,cu6,ch6⟩;have kR6:Bk w6 w.heap.size 50 [.int .i64 0,.slice none 0 0]:=(ch6.block _ kR3.lt (by simp;omega)).trans kR3;have kq6:Bk w6 gq 50 [.int .i64 q.fVariableCount,.slice Aq nq cq]:=(ch6.block _ kq.lt (by simp;omega)).trans kq;have oQ6:=Stb.low (rQuery_ok NB) oQ ch6 (fun k hk=>by have:=fQ2.ge k hk;simp;omega);have C6:=C3.trans ch6;have hs6:gq<w6.heap.size:=kq6.lt;have HFP6:Hid (∀ k∈fp,k<w6.heap.size):=by show ∀ k∈fp,_;exact(rQuery_ok NB).lt oQ6
 clear kR3 kq oQ C3 cu3 ch6 HFP;cases b
 ·have ⟨q0,q1⟩:=kq6.bx.b2
  have ⟨r0,g0,r1,g1⟩:=kR6.r2;have ⟨z0,z1⟩:=kR6.s2;go_wp2;refine bodyPost_ret (v:=.agg #[.int .i64 q.fVariableCount,.slice Aq nq cq]) (by simp [results,Tryz.results158,go_sem,z0,z1]) rfl ?_;exact⟨q,[.int .i64 q.fVariableCount,.slice Aq nq cq],fp,rfl,own_set2 (rQuery_ok NB) oQ6 fQ2 _ _,fQ2.mono (by omega),hval,cu6.low hgw (bls2 (Below.refl _ _) (Nat.le_refl _) _ _),chgS C6 (bls2 (Below.refl _ _) (Nat.le_refl _) _ _) (Nat.le_refl _)⟩
 ·obtain⟨gX,hgX⟩:∃ z,z=w6.heap.size:=⟨_,rfl⟩
  obtain⟨w7,hw7⟩:∃ W,W=w6.alloc (.cells #[.int .i64 0,.slice none 0 0] 50):=⟨_,rfl⟩;have b7:Below w6.heap.size w6 w7:=by rw [hw7];exact bal
  have kX:Bk w7 gX 50 [.int .i64 0,.slice none 0 0]:=by rw [hw7,hgX];exact Bk.new w6 _ _
  have Q0:=Qb.new kX
  have HR:Hid (∀ W,Chg [g,gX] w7 W->Bk W w.heap.size 50 [.int .i64 0,.slice none 0 0]/\Bk W gq 50 [.int .i64 q.fVariableCount,.slice Aq nq cq]/\(rQuery NB).own W fp [.int .i64 q.fVariableCount,.slice Aq nq cq] q):=by
   show ∀ W,_->_;intro W hW;have k1:=kR6.below b7;have k2:=kq6.below b7;have o:=(rQuery_ok NB).ownB oQ6 b7;exact⟨(hW.block _ k1.lt (by simp;omega)).trans k1,(hW.block _ k2.lt (by simp;omega)).trans k2,Stb.low (rQuery_ok NB) o hW (fun k hk=>by have:=fQ2.ge k hk;have:=HFP6.out k hk;simp;omega)⟩
  have cu7:=cu6.below b7;have C7:=C6.trans (Chg.ofBelow b7 _);have hgg:g<gX:=by omega
  clear kR6 kq6 oQ6 C6 cu6 b7 HFP6 kX;obtain⟨B,hBe⟩:∃ B,B=w7.heap.size:=⟨_,rfl⟩;rw [<- hBe]at Q0;have HBE:=Lib.hid hBe;clear hBe
  go_upto_region 6 with fail
  rw [<- hgX,<- hw7];have hgXw:w.heap.size<gX:=by omega
  clear hw7 hgX hs6
  go_wp2_with fail
  refine(l1Below_c g 4 _ (by omega) cu7).mono ?_;rintro e w8 ⟨x,rfl,⟨hx0,_,hx1⟩,cu8,ch8⟩;have hx2:=hx1 (by omega);clear hx1;obtain⟨m,rfl⟩:∃ m:Nat,x=m:=⟨x.toNat,by omega⟩;have Q8:=Q0.chg ch8 hgg;have D8:Chg [g,gX] w7 w8:=ch8.mono (by simp);clear cu7 ch8 Q0;go_wp2
  go_loopw [7] (fun i wr=>∃ (k T n c:Nat) (vc:Int) (A:Option Addr) (L:List AtomD),k<=4/\i=.int .i64 k/\n+k<=4/\0<=vc/\vc<=4/\Qb gX B T vc A n c L wr/\Chg [g,gX] w7 wr/\Cur wr g) (fun i _=>(intOf i).toNat)
  case atStart=>exact⟨m+1,B,0,0,0,none,[],by omega,by go_num,by omega,by omega,by omega,Q8,D8,cu8⟩
  case round =>
   clear Q8 D8 cu8;obtain⟨k,T,n,c,vc,A,L,hk,rfl,hnk,hvc0,hvc4,hQ,hD,hcu⟩:=hrel;by_cases hk0:0<k
   ·have hki:(0:Int)<k:=by omega
    obtain⟨k',rfl⟩:∃ j,k=j+1:=⟨k - 1,by omega⟩
    go_wp2_with fail
    refine(l1Below_c g 5 _ (by omega) hcu).mono ?_;rintro e w9 ⟨y,rfl,⟨hy0,_,hy1⟩,cu9,ch9⟩;have hy2:=hy1 (by omega);clear hy1;obtain⟨y,rfl⟩:∃ j:Nat,y=j:=⟨y.toNat,by omega⟩;have Q9:=hQ.chg ch9 hgg;have D9:Chg [g,gX] w7 w9:=hD.trans (ch9.mono (by simp));clear hQ hD hcu ch9
    go_upto_region 10 with fail
    obtain⟨wl,hwl⟩:∃ W,W=w9.alloc (.cells #[.string ⟨#[114]⟩,.string ⟨#[115]⟩,.string ⟨#[116]⟩,.string ⟨#[117]⟩,.string ⟨#[118]⟩] 9):=⟨_,rfl⟩;have bl:Below w9.heap.size w9 wl:=by rw [hwl];exact bal
    obtain⟨nm,hnm,hnz⟩:∃ nm,wl.cell? ⟨w9.heap.size,y,none⟩=some (.string nm)/\nm.size<=NB:=by
     obtain⟨b,off,x,e,h1,h2,_⟩:=(RS.litS w9 [⟨#[114]⟩,⟨#[115]⟩,⟨#[116]⟩,⟨#[117]⟩,⟨#[118]⟩] 9 (by decide) (by decide)).atS (k:=y) (by show y<5;omega);injection e with e;injection e with e1 e2;subst e1;subst e2;refine⟨x,?_,h2⟩;rw [hwl];rw [Nat.zero_add]at h1;exact h1
    rw [hwl]at hnm;obtain⟨gA,hgA⟩:∃ z,z=wl.heap.size:=⟨_,rfl⟩;have hgA2:w9.heap.size+1=gA:=by rw [hgA,hwl];simp
    obtain⟨wa,hwa⟩:∃ W,W=wl.alloc (.cells #[.string nm,.slice none 0 0] 162):=⟨_,rfl⟩;have ba:Below w9.heap.size w9 wa:=bl.trans (by rw [hwa];exact(bal).mono bl.size);have A0:Ab gA nm none 0 0 [] wa:=by rw [hwa];exact Ab.new wl gA hgA.symm nm
    have sza:wa.heap.size=gA+1:=by rw [hwa,hgA];simp
    have Q1:Qb gX B gA vc A n c L wa:=(Q9.low (ba.mono Q9.sz)).rise (by have:=Q9.sz;omega) (by omega);have D1:=D9.trans (Chg.ofBelow ba _);have cu1:=cu9.below ba;have HWL:=Lib.hid hwl;have HWA:=Lib.hid hwa;have HGA:=Lib.hid hgA2;clear Q9 D9 cu9 ba bl hwl hwa hgA2 hgA
    go_upto_region 11 with fail
    rw [<- HWL.out,HGA.out,<- HWA.out];obtain⟨wi,hwi⟩:∃ W,W=wa.alloc (.cells #[.int .i64 2,.int .i64 2,.int .i64 2,.int .i64 3,.int .i64 1] 3):=⟨_,rfl⟩;have bi:Below wa.heap.size wa wi:=by rw [hwi];exact bal
    obtain⟨mm,hmm,hm1,hm3⟩:∃ mm:Nat,wi.cell? ⟨wa.heap.size,y,none⟩=some (.int .i64 mm)/\1<=mm/\mm<=3:=by
     obtain⟨b,off,x,e,h1,h2,h3⟩:=(RS.lit wa [2,2,2,3,1] 3 (by decide) (by simp [I64])).ati (k:=y) (by show y<5;omega);injection e with e;injection e with e1 e2;subst e1;subst e2;have hx:1<=x/\x<=3:=by have:=mem_of_at h3.out;simp at this;omega
     refine⟨x.toNat,?_,by omega,by omega⟩;rw [hwi,show((x.toNat:Nat):Int)=x by omega];rw [Nat.zero_add]at h1;exact h1
    rw [hwi]at hmm;have HWI:=Lib.hid hwi;have A1:=A0.below bi;have Q2:=Q1.low (bi.mono Q1.sz);have D2:=D1.trans (Chg.ofBelow bi _);have cu2:=cu1.below bi;have szi:gA+1<=wi.heap.size:=by have:=bi.size;omega
    clear hwi A0 Q1 D1 cu1 bi sza hnm
    go_upto_region 12 with fail
    rw [<- HWI.out];clear hmm HWI HWL HWA
    go_wp2_with fail
    refine(l1Below_c g 4 _ (by omega) cu2).mono ?_;rintro e w10 ⟨v0,rfl,⟨hv0,_,hv1⟩,cu3,ch3⟩;have hv2:=hv1 (by omega);have hgA9:g<gA:=by have:=Q2.lt;have:=Q2.le;omega
    have Q3:=Q2.chg ch3 hgg;have A2:Ab gA nm none 0 0 [] w10:=A1.chg ch3 hgA9;have D3:=D2.trans (ch3.mono (fp':=[g,gX]) (by simp));have sz3:gA+1<=w10.heap.size:=by have:=ch3.size;omega
    have HGB:=Lib.hid Q2.le;have HGX:Hid (gX<gA):=by show _<_;have:=Q2.lt;have:=Q2.le;omega
    have hwB:w7.heap.size<=gA:=by have:=HBE.out;have:=Q2.le;omega
    have H9:Hid (g<gA):=hgA9;clear A1 Q2 D2 cu2 ch3 hv1 szi hgA9;rename World=>wz;go_wp2
    go_loopw [11,12] (fun vv i wr=>∃ (j cV:Nat) (v vc:Int) (AV:Option Addr) (V:List Int),j<=mm/\i=.int .i64 j/\vv=.int .i64 v/\0<=v/\v<4/\0<=vc/\vc<=4/\Qb gX B gA vc A n c L wr/\Ab gA nm AV j cV V wr/\Chg [g,gX] w7 wr/\Cur wr g/\gA+1<=wr.heap.size) (fun _ i _=>mm - (intOf i).toNat)
    case atStart=>exact⟨0,0,v0,vc,none,[],by omega,rfl,rfl,hv0,hv2,hvc0,hvc4,Q3,A2,D3,cu3,sz3⟩
    case round =>
     clear Q3 A2 D3 cu3 sz3 hvc0 hvc4;obtain⟨j,cV,v,vc',AV,V,hj,rfl,rfl,hv0',hv4',hvc0,hvc4,hQ,hA,hD,hcu,hsz⟩:=hrel;by_cases hlj:j<mm
     ·have hji:(j:Int)<mm:=by omega
      have ⟨x0,x1⟩:=hA.kA.bx.b2
      go_upto_region 17 with (at_builtin;refine wpList_appB (r:=rInt) rfl _ _ 30 rfl _ 8 eiInt rInt_ok rfl hA.mV (bal) hsz ⟨wr.heap.size,0,none⟩ rfl [] [.int .i64 v] v ⟨rfl,rfl,⟨by omega,by omega⟩⟩ (Fr.nil _) (cell_one_new _ _ _) (by unfold NB;omega) (Nat.le_refl _) (by omega) ?_;intro A4 c4 w4 hM4 hb4 hg4 hA4;obtain⟨k4,A5⟩:=(hA.below ((Below.refl _ _).alloc (Nat.le_refl _) (.cells #[.int .i64 v] 3))).app hM4 hb4;have f4:=k4.frozen 1;have x4:=k4.bx 1 _ rfl)
      have b5:Below gA wr (w4.setCell ⟨gA,1,none⟩ (.slice A4 (j+1) c4)):=(((Below.refl gA wr).alloc (by omega) (.cells #[.int .i64 v] 3)).trans (hb4.mono (Nat.le_succ _))).setCell (p:=⟨gA,1,none⟩) (Nat.le_refl _) _;have Q5:=hQ.low b5;have D5:=chgS hD b5 hwB;have cu5:=hcu.low H9.out b5;have s5:gA+1<=(w4.setCell ⟨gA,1,none⟩ (.slice A4 (j+1) c4)).heap.size:=by rw [World.size_setCell];have:=hb4.size;simp at this;omega
      obtain⟨w5',hw5⟩:∃ W,W=w4.setCell ⟨gA,1,none⟩ (.slice A4 (j+1) c4):=⟨_,rfl⟩;rw [<- hw5]at Q5 A5 D5 s5 cu5 ⊢;clear hw5 b5 k4 f4 x4 hM4 hb4 hg4 hA4 hQ hA hD hcu x0 x1 hsz;obtain⟨VN,hVN⟩:∃ VN,VN=max vc' (v+1):=⟨_,rfl⟩;have hmx:(if vc'<v+1 then v+1 else vc')=VN:=by rw [hVN];split<;>omega
      have hVb:0<=VN/\VN<=4:=by omega
      have hm4:=tmod_bd (a:=v+1) (n:=4) (by omega) (by omega);clear hVN;have hq0:=Q5.kQ.bx 0 _ rfl;have fq0:=Q5.kQ.frozen 0;go_wp2;go_roundw
      case rel =>
       exact⟨j+1,c4,(v+1) % 4,VN,A4,V++[v],by omega,by go_num,rfl,hm4.1,hm4.2,hVb.1,hVb.2,Q5.setVc VN,A5.other HGX.out,D5.setCell (by simp) _ _,cu5.low hgg ((Below.refl _ _).setCell (p:=⟨gX,0,none⟩) (Nat.le_refl _) _),by rw [World.size_setCell];exact s5⟩
      case measure=>simp [intOf];omega
     ·have hji:¬ (j:Int)<mm:=by omega
      obtain⟨u0,hu0,hbu,hMu⟩:=hQ.base;obtain⟨ho,hfr⟩:=hA.own hnz;have ha1:Below wr.heap.size wr (wr.alloc (.cells #[.string nm,.slice AV j cV] 162)):=bal;have hbu2:=hbu.trans (ha1.mono hbu.size);have ho2:=(rAtom_ok NB).ownB ho ha1;have hfr2:Fr u0.heap.size (blk AV):=hfr.mono (by omega);have hgB2:B<=u0.heap.size:=by have:=HGB.out;omega
      have QA:=hQ.low (ha1.mono hQ.sz);have ⟨x0,x1⟩:=hA.kA.bx.b2;have y1:=hQ.kQ.bx 1 _ rfl;have DA:=hD.trans (Chg.ofBelow ha1 _);have cuA:=hcu.below ha1;have hgB:g<B:=by have:=hQ.lt;omega
      have hn4:n<=4:=by omega
      clear hQ hA hbu ho hfr hD hcu
      go_wp2_with (at_builtin;refine wpList_appB (r:=rAtom NB) rfl _ _ 48 rfl _ 40 eiAtomD (rAtom_ok NB) rfl hMu hbu2 hgB2 ⟨wr.heap.size,0,none⟩ rfl (blk AV) [.string nm,.slice AV j cV] ⟨nm,V⟩ ho2 hfr2 (cells_new _ _ _) (by unfold NB;omega) (Nat.le_refl _) (by omega) ?_;intro A9 c9 w9' hM9 hb9 hg9 hA9;obtain⟨k9,Q9⟩:=QA.app hM9 hb9;have f9:=k9.frozen 1;have x9:=k9.bx 1 _ rfl)
      go_roundw
      case rel =>
       refine⟨k',w9'.heap.size,n+1,c9,vc',A9,L++[⟨nm,V⟩],by omega,by go_num,by omega,hvc0,hvc4,Q9,?_,?_⟩
       ·exact(chgS DA hb9 (by rw [HBE.out];exact Nat.le_refl _)).setCell (by simp) _ _
       ·exact(cuA.low hgB hb9).low hgg ((Below.refl _ _).setCell (p:=⟨gX,1,none⟩) (Nat.le_refl _) _)
      case measure=>simp [intOf]
   ·have hk00:k=0:=by omega
    subst hk00;obtain⟨kR,kq,oQ⟩:=HR.out wr hD;have hIv:I64 vc:=⟨by omega,by omega⟩;obtain⟨fx,ox,ffx⟩:=hQ.own hIv;have ⟨x0,x1⟩:=hQ.kQ.bx.b2;have hgX2:w.heap.size+1<=B:=by have:=hQ.lt;omega
    have kX:=hQ.kQ;have E0:Chg [g] w wr:=chgW C7 hD hgXw;clear hQ hD
    go_wp2_with fail
    refine(sIsValidQuery_c _ _ _ ((rQuery_ok NB).toRep ox)).mono ?_;rintro e w9 ⟨rfl,hb9⟩;replace ox:=(rQuery_ok NB).ownB ox hb9;replace oQ:=(rQuery_ok NB).ownB oQ hb9;replace kX:=kX.below hb9;replace kq:=kq.below hb9;replace kR:=kR.below hb9;replace E0:=E0.trans (Chg.ofBelow hb9 _);replace hcu:=hcu.below hb9;clear hb9 x0 x1;have ⟨x0,x1⟩:=kX.bx.b2;have ⟨q0,q1⟩:=kq.bx.b2;have ⟨r0,g0,r1,g1⟩:=kR.r2;have ⟨z0,z1⟩:=kR.s2;cases hv:validQ ⟨vc,L⟩
    ·go_wp2
     refine bodyPost_ret (v:=.agg #[.int .i64 q.fVariableCount,.slice Aq nq cq]) (by simp [results,Tryz.results158,go_sem,z0,z1]) rfl ?_;exact⟨q,[.int .i64 q.fVariableCount,.slice Aq nq cq],fp,rfl,own_set2 (rQuery_ok NB) oQ fQ2 _ _,fQ2.mono (by omega),hval,hcu.low hgw (bls2 (Below.refl _ _) (Nat.le_refl _) _ _),chgS E0 (bls2 (Below.refl _ _) (Nat.le_refl _) _ _) (Nat.le_refl _)⟩
    ·go_wp2
     refine bodyPost_ret (v:=.agg #[.int .i64 vc,.slice A n c]) (by simp [results,Tryz.results158,go_sem,z0,z1]) rfl ?_;exact⟨⟨vc,L⟩,[.int .i64 vc,.slice A n c],fx,rfl,own_set2 (rQuery_ok NB) ox (ffx.mono hgX2) _ _,ffx.mono (by omega),hv,hcu.low hgw (bls2 (Below.refl _ _) (Nat.le_refl _) _ _),chgS E0 (bls2 (Below.refl _ _) (Nat.le_refl _) _ _) (Nat.le_refl _)⟩
def smallQ:List ByteArray:=[⟨#[114,40,88,89,41,32,115,40,89,90,41]⟩,⟨#[114,40,88,89,41,32,115,40,89,90,41,32,116,40,90,88,41]⟩,⟨#[114,40,88,89,41,32,115,40,89,90,41,32,118,40,89,41]⟩,⟨#[114,40,88,89,41,32,114,40,89,90,41]⟩]
theorem smallQ_ok:smallQ.all parseOk=true:=by decide +kernel
theorem smallQ_size:∀ x∈smallQ,x.size<=NB:=by
 have h:=smallQ_ok;rw [List.all_eq_true]at h;intro x hx;have:=(parse_parts (h x hx)).1;unfold NB;omega
theorem pathQ_ok:parseOk ⟨#[114,40,88,89,41,32,115,40,89,90,41]⟩=true:=by decide +kernel
theorem sizeQuT:(Tryz.prog.info? 50).map (·.size)=some 2:=by kernel_rfl
theorem sml_fin {w W:World}{g:Nat}{q:QueryD}{Aq:Option Addr}{nq cq:Nat}{fp:List Nat}(hg:g<w.heap.size) (oQ:(rQuery NB).own W fp [.int .i64 q.fVariableCount,.slice Aq nq cq] q) (fQ:Fr (w.heap.size+1) fp) (hv:validQ q=true) (cu:Cur W g) (C:Chg [g] w W) (a b:Value) :
  DrawnV (rQuery NB) (fun q=>validQ q=true) g w (.returned (.agg #[.int .i64 q.fVariableCount,.slice Aq nq cq])) (set2 W w.heap.size a b) :=
 ⟨q,[.int .i64 q.fVariableCount,.slice Aq nq cq],fp,rfl,own_set2 (rQuery_ok NB) oQ fQ _ _,fQ.mono (by omega),hv,cu.low hg (bls2 (Below.refl _ _) (Nat.le_refl _) _ _),chgS C (bls2 (Below.refl _ _) (Nat.le_refl _) _ _) (Nat.le_refl _)⟩
structure Sq (w:World) (g gX:Nat) (q:QueryD) (Aq:Option Addr) (nq cq:Nat) (fp:List Nat) (W:World):Prop where
 kR:Bk W w.heap.size 50 [.int .i64 0,.slice none 0 0]
 kX:Bk W gX 50 [.int .i64 q.fVariableCount,.slice Aq nq cq]
 oQ:(rQuery NB).own W fp [.int .i64 q.fVariableCount,.slice Aq nq cq] q
 fQ:Fr (w.heap.size+1) fp
 hv:validQ q=true
 cu:Cur W g
 C:Chg [g] w W
 gw:g<w.heap.size
 gx:w.heap.size<gX
section
variable {w W W':World} {g gX:Nat} {q:QueryD} {Aq:Option Addr} {nq cq:Nat} {fp:List Nat}
theorem Sq.below (h:Sq w g gX q Aq nq cq fp W) (hb:Below W.heap.size W W'):Sq w g gX q Aq nq cq fp W' :=
 ⟨h.kR.below hb,h.kX.below hb,(rQuery_ok NB).ownB h.oQ hb,h.fQ,h.hv,h.cu.below hb,h.C.trans (Chg.ofBelow hb _),h.gw,h.gx⟩
theorem Sq.step (h:Sq w g gX q Aq nq cq fp W) (hc:Chg [g] W W') (cu:Cur W' g):Sq w g gX q Aq nq cq fp W':=by
 have h1:=h.gw;have h2:=h.gx;exact⟨(hc.block _ h.kR.lt (by simp;omega)).trans h.kR,(hc.block _ h.kX.lt (by simp;omega)).trans h.kX,Stb.low (rQuery_ok NB) h.oQ hc (fun k hk=>by have:=h.fQ.ge k hk;simp;omega),h.fQ,h.hv,cu,h.C.trans hc,h1,h2⟩
theorem Sq.put (h:Sq w g gX q Aq nq cq fp W) {q':QueryD}{A':Option Addr}{n' c':Nat}{fp':List Nat}(hv:validQ q'=true) (o:(rQuery NB).own W fp' [.int .i64 q'.fVariableCount,.slice A' n' c'] q') (f:Fr (gX+1) fp') :
  Sq w g gX q' A' n' c' fp' (set2 W gX (.int .i64 q'.fVariableCount) (.slice A' n' c')):=by
 have h1:=h.gw;have h2:=h.gx;have hb:Below gX W (set2 W gX (.int .i64 q'.fVariableCount) (.slice A' n' c')):=bls2 (Below.refl _ _) (Nat.le_refl _) _ _;exact⟨(hb.block _ h2).trans h.kR,(h.kX.set 0 _).set 1 _,own_set2 (rQuery_ok NB) o f _ _,f.mono (by omega),hv,h.cu.low (by omega) hb,chgS h.C hb (by omega),h1,h2⟩
end
theorem l25Small_c (g:Nat) (w:World) (hc:Cur w g):Calls Tryz.prog 155 #[.pointer (some ⟨g,0,none⟩)] w (DrawnV (rQuery NB) (fun q=>validQ q=true) g w):=by
 have hgw:=hc.lt;obtain⟨w1,hw1⟩:∃ W,W=w.alloc (.cells #[.int .i64 0,.slice none 0 0] 50):=⟨_,rfl⟩;have b1:Below w.heap.size w w1:=by rw [hw1];exact bal
 have kR:Bk w1 w.heap.size 50 [.int .i64 0,.slice none 0 0]:=by rw [hw1];exact Bk.new w _ _
 have hs1:w1.heap.size=w.heap.size+1:=by rw [hw1];simp
 have C1:Chg [g] w w1:=Chg.ofBelow b1 _;have cu1:=hc.below b1;clear b1
 go_enter Tryz.func155,Tryz.ntmps155
 go_upto_region 1 with fail
 rw [<- hw1];clear hw1
 go_wp2_with fail
 refine(l7Query_c g w1 cu1).mono ?_;rintro e w2 ⟨q,cs,fp,rfl,oQ,fQ,hv,cu2,ch2⟩;obtain⟨Aq,nq,cq,fA,rfl,rfl,hqv,oqA⟩:=rQuery_own.1 oQ;obtain⟨gX,hgX⟩:∃ z,z=w2.heap.size:=⟨_,rfl⟩;obtain⟨w3,hw3⟩:∃ W,W=w2.alloc (.cells #[.int .i64 q.fVariableCount,.slice Aq nq cq] 50):=⟨_,rfl⟩;have b3:Below w2.heap.size w2 w3:=by rw [hw3];exact bal
 have kR2:Bk w2 w.heap.size 50 [.int .i64 0,.slice none 0 0]:=(ch2.block _ kR.lt (by simp;omega)).trans kR
 have H:Sq w g gX q Aq nq cq fp w3 :=
  ⟨kR2.below b3,by rw [hw3,hgX];exact Bk.new w2 _ _,(rQuery_ok NB).ownB oQ b3,fQ.mono (by omega),hv,cu2.below b3,(C1.trans ch2).trans (Chg.ofBelow b3 _),hgw,by rw [hgX];have:=ch2.size;omega⟩
 go_upto_region 2 with fail
 rw [<- hw3,<- hgX];clear hw3 hgX b3 kR2 kR ch2 cu2 cu1 hc C1 hs1 hv fQ oQ oqA hqv;have ⟨x0,x1⟩:=H.kX.bx.b2;by_cases hn:3<nq
 ·have hn2:(3:Int)<(nq:Int):=by omega
  have hnd:decide (3<nq)=true:=decide_eq_true hn
  go_wp2_with fail
  refine(l1Once_c g 8 w3 (by omega) H.cu).mono ?_;rintro e w4 ⟨b,rfl,cu4,ch4⟩;have H4:=H.step ch4 cu4;clear ch4 cu4 H x0 x1;cases b
  ·go_upto_region 3 with fail
   obtain⟨w5,hw5⟩:∃ W,W=w4.alloc (.cells (smallQ.map Value.string).toArray 9):=⟨_,rfl⟩;have b5:Below w4.heap.size w4 w5:=by rw [hw5];exact bal
   have rK:RS NB (rStr NB) w5 (some ⟨w4.heap.size,0,none⟩) 4 4 smallQ:=by rw [hw5];exact RS.litS w4 smallQ _ (by decide) smallQ_size
   have H5:=H4.below b5;have hgl:=H4.cu.lt;unfold smallQ at hw5;simp only [List.map_cons,List.map_nil]at hw5
   go_wp2_with fail
   rw [<- hw5];clear hw5 b5;refine(l1Pick_c g _ 4 4 smallQ w5 rK (fun k hk=>by simp [blk]at hk;omega) (by decide) H5.cu).mono ?_;rintro e w5b ⟨s,rfl,hsm,cu5,ch5⟩;have hpo:parseOk s=true:=by have h:=smallQ_ok;rw [List.all_eq_true]at h;exact h s hsm
   have H5b:=H5.step ch5 cu5;clear ch5 cu5 H5 H4 rK hsm hgl
   go_wp2_with fail
   refine(sParseQuery_c s w5b hpo).mono ?_;rintro e w6 ⟨cs6,fp6,rfl,oP,fP,hb6⟩;have hv6:=(parse_parts hpo).2.2.2.1;obtain⟨q6,hq6⟩:∃ z,queryP s=z:=⟨_,rfl⟩;rw [hq6]at oP hv6;obtain⟨A6,n6,c6,f6,rfl,rfl,hq6v,oq6⟩:=rQuery_own.1 oP;have H6:=H5b.below hb6;have hlx:=H5b.kX.lt;have ⟨x0,g0,x1,g1⟩:=H6.kX.r2;clear hq6 hb6 H5b
   go_upto_region 4 with fail
   obtain⟨w7,hw7⟩:∃ W,W=(w6.setCell ⟨gX,0,none⟩ (.int .i64 q6.fVariableCount)).setCell ⟨gX,1,none⟩ (.slice A6 n6 c6):=⟨_,rfl⟩;have H7:Sq w g gX q6 A6 n6 c6 fp6 w7:=by rw [hw7];exact H6.put hv6 oP (fP.mono (by omega))
   rw [<- hw7];clear hw7 H6 oP fP oq6 x0 g0 x1 g1 hlx;have ⟨x0,x1⟩:=H7.kX.bx.b2;have ⟨r0,g0,r1,g1⟩:=H7.kR.r2;go_wp2;have k9:=(H7.kR.set 0 (.int .i64 q6.fVariableCount)).set 1 (.slice A6 n6 c6);refine bodyPost_ret (results_cell1 Tryz.results155 rfl k9.rangeAt Tryz.underlying50 rfl sizeQuT) rfl ?_;exact sml_fin hgw H7.oQ H7.fQ H7.hv H7.cu H7.C _ _
  ·skip
   have ⟨x0,x1⟩:=H4.kX.bx.b2;have ⟨r0,g0,r1,g1⟩:=H4.kR.r2;go_wp2;have k9:=(H4.kR.set 0 (.int .i64 q.fVariableCount)).set 1 (.slice Aq nq cq);refine bodyPost_ret (results_cell1 Tryz.results155 rfl k9.rangeAt Tryz.underlying50 rfl sizeQuT) rfl ?_;exact sml_fin hgw H4.oQ H4.fQ H4.hv H4.cu H4.C _ _
 ·have hn2:¬ (3:Int)<(nq:Int):=by omega
  have hnd:decide (3<nq)=false:=decide_eq_false hn;clear x0 x1;have ⟨x0,x1⟩:=H.kX.bx.b2;have ⟨r0,g0,r1,g1⟩:=H.kR.r2;go_wp2;have k9:=(H.kR.set 0 (.int .i64 q.fVariableCount)).set 1 (.slice Aq nq cq);refine bodyPost_ret (results_cell1 Tryz.results155 rfl k9.rangeAt Tryz.underlying50 rfl sizeQuT) rfl ?_;exact sml_fin hgw H.oQ H.fQ H.hv H.cu H.C _ _
theorem l30Query_c (g:Nat) (w:World) (hc:Cur w g):Calls Tryz.prog 84 #[.pointer (some ⟨g,0,none⟩)] w (DrawnV (rQuery NB) (fun q=>validQ q=true) g w):=by
 have hgw:=hc.lt;obtain⟨w1,hw1⟩:∃ W,W=w.alloc (.cells #[.int .i64 0,.slice none 0 0] 50):=⟨_,rfl⟩;have b1:Below w.heap.size w w1:=by rw [hw1];exact bal
 have kR:Bk w1 w.heap.size 50 [.int .i64 0,.slice none 0 0]:=by rw [hw1];exact Bk.new w _ _
 have hs1:w1.heap.size=w.heap.size+1:=by rw [hw1];simp
 have C1:Chg [g] w w1:=Chg.ofBelow b1 _;have cu1:=hc.below b1;clear b1
 go_enter Tryz.func84,Tryz.ntmps84
 go_upto_region 1 with fail
 rw [<- hw1];clear hw1
 go_wp2_with fail
 refine(l25Small_c g w1 cu1).mono ?_;rintro e w2 ⟨q,cs,fp,rfl,oQ,fQ,hv,cu2,ch2⟩;obtain⟨Aq,nq,cq,fA,rfl,rfl,hqv,oqA⟩:=rQuery_own.1 oQ;obtain⟨gX,hgX⟩:∃ z,z=w2.heap.size:=⟨_,rfl⟩;obtain⟨w3,hw3⟩:∃ W,W=w2.alloc (.cells #[.int .i64 q.fVariableCount,.slice Aq nq cq] 50):=⟨_,rfl⟩;have b3:Below w2.heap.size w2 w3:=by rw [hw3];exact bal
 have kR2:Bk w2 w.heap.size 50 [.int .i64 0,.slice none 0 0]:=(ch2.block _ kR.lt (by simp;omega)).trans kR
 have H:Sq w g gX q Aq nq cq fp w3 :=
  ⟨kR2.below b3,by rw [hw3,hgX];exact Bk.new w2 _ _,(rQuery_ok NB).ownB oQ b3,fQ.mono (by omega),hv,cu2.below b3,(C1.trans ch2).trans (Chg.ofBelow b3 _),hgw,by rw [hgX];have:=ch2.size;omega⟩
 go_upto_region 2 with fail
 rw [<- hw3,<- hgX];clear hw3 hgX b3 kR2 kR ch2 cu2 cu1 hc C1 hs1 hv fQ oQ oqA hqv
 have HSS:Hid (∀ w',Below w3.heap.size w3 w'->(w'.cell? ⟨gX,0,none⟩=some (.int .i64 q.fVariableCount)/\w'.cell? ⟨gX,1,none⟩=some (.slice Aq nq cq))):=by
  show ∀ w',_->_;intro w' h;exact⟨(H.kX.below h).bx 0 _ rfl,(H.kX.below h).bx 1 _ rfl⟩
 have hd0:=(Below.refl w3.heap.size w3).drew;have rQ:=(rQuery_ok NB).toRep (H.below hd0).oQ;refine hbg HSS.out (Below.refl _ _).drew (fun hH=>?_);refine tq2 0 hH ?_;simp only [putS];refine rd 2 (some 8) fun K hK=>?_;clear hH;go_simp;refine(sFullMask_c _ q _ rQ).mono ?_;rintro e w4 ⟨rfl,hb4⟩;have hC1:=hd0.trans (hb4.mono hd0.size)
 go_wp2_with fail
 refine hK.out _ _ (HSS.out _ hC1) (fun hH=>?_);clear hK K
 try simp only [putS]
 refine rd 3 (some 9) fun K hK=>?_;clear hH;go_simp;refine(sIsConnected_c _ q (fullMask q) _ ((rQuery_ok NB).toRep (H.below hC1).oQ)).mono ?_;rintro e w5 ⟨rfl,hb5⟩;have hC2:=hC1.trans (hb5.mono hC1.size)
 go_wp2_with fail
 refine hK.out _ _ (HSS.out _ hC2) (fun hH=>?_);clear hK K
 try simp only [putS]
 refine tq1 4 hH ?_;simp only [putS];refine wpAnyH_done (by kernel_rfl) ?_ _;clear hH;have H5:=H.below hC2;obtain⟨v,hv⟩:∃ v,isConn q (fullMask q)=v:=⟨_,rfl⟩;rw [hv];clear hv HSS hd0 rQ hb4 hb5 hC1 hC2 H;cases v
 ·go_wp2_with fail
  refine(sParseQuery_c ⟨#[114,40,88,89,41,32,115,40,89,90,41]⟩ w5 pathQ_ok).mono ?_;rintro e w6 ⟨cs6,fp6,rfl,oP,fP,hb6⟩;have hv6:=(parse_parts pathQ_ok).2.2.2.1;obtain⟨q6,hq6⟩:∃ z,queryP ⟨#[114,40,88,89,41,32,115,40,89,90,41]⟩=z:=⟨_,rfl⟩;rw [hq6]at oP hv6;obtain⟨A6,n6,c6,f6,rfl,rfl,hq6v,oq6⟩:=rQuery_own.1 oP;have H6:=H5.below hb6;have hlx:=H5.kX.lt;have ⟨x0,g0,x1,g1⟩:=H6.kX.r2;clear hq6 hb6 H5
  go_upto_region 4 with fail
  obtain⟨w7,hw7⟩:∃ W,W=(w6.setCell ⟨gX,0,none⟩ (.int .i64 q6.fVariableCount)).setCell ⟨gX,1,none⟩ (.slice A6 n6 c6):=⟨_,rfl⟩;have H7:Sq w g gX q6 A6 n6 c6 fp6 w7:=by rw [hw7];exact H6.put hv6 oP (fP.mono (by omega))
  rw [<- hw7];clear hw7 H6 oP fP oq6 x0 g0 x1 g1 hlx;have ⟨x0,x1⟩:=H7.kX.bx.b2;have ⟨r0,g0,r1,g1⟩:=H7.kR.r2;go_wp2;have k9:=(H7.kR.set 0 (.int .i64 q6.fVariableCount)).set 1 (.slice A6 n6 c6);refine bodyPost_ret (results_cell1 Tryz.results84 rfl k9.rangeAt Tryz.underlying50 rfl sizeQuT) rfl ?_;exact sml_fin hgw H7.oQ H7.fQ H7.hv H7.cu H7.C _ _
 ·skip
  have ⟨x0,x1⟩:=H5.kX.bx.b2;have ⟨r0,g0,r1,g1⟩:=H5.kR.r2;go_wp2;have k9:=(H5.kR.set 0 (.int .i64 q.fVariableCount)).set 1 (.slice Aq nq cq);refine bodyPost_ret (results_cell1 Tryz.results84 rfl k9.rangeAt Tryz.underlying50 rfl sizeQuT) rfl ?_;exact sml_fin hgw H5.oQ H5.fQ H5.hv H5.cu H5.C _ _
end Go.Proofs.YtnlcfkpcmfljeaaGreat
