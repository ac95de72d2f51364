/-
  Sti, Qp
-/
import Derived.Test.YtnlcfkpcmfljeaaGreatTypes
import Derived.Test.YtnlcfkpcmfljeaaGreatLoc
import Derived.IntWalk
import Derived.Laws.BitsLemmas
set_option linter.unusedSimpArgs false
set_option linter.unusedVariables false
namespace Go.Proofs.YtnlcfkpcmfljeaaGreat
open Go.RowKit
structure StepInfoD where
 fMask:Int
 fOrder:Int
 fLeft:Int
 fRight:Int
 deriving DecidableEq
def rStepInfo (M:Nat):Rp StepInfoD:=rIso (rPair rInt (rPair rInt (rPair rInt (rInt)))) (fun x=>(x.fMask,x.fOrder,x.fLeft,x.fRight))
theorem rStepInfo_ok (M:Nat):(rStepInfo M).Ok:=rIso_ok (rPair_ok rInt_ok (rPair_ok rInt_ok (rPair_ok rInt_ok (rInt_ok)))) _
def zStepInfo:StepInfoD:=⟨0,0,0,0⟩
theorem rStepInfo_rep {M:Nat}{w:World}{cs:List Value}{x:StepInfoD}:(rStepInfo M).rep w cs x↔cs=[.int .i64 x.fMask,.int .i64 x.fOrder,.int .i64 x.fLeft,.int .i64 x.fRight]/\I64 x.fMask/\I64 x.fOrder/\I64 x.fLeft/\I64 x.fRight:=by
 constructor
 ·rintro⟨_,_,rfl,⟨rfl,hMask⟩,⟨_,_,rfl,⟨rfl,h_s3⟩,⟨_,_,rfl,⟨rfl,hLeft⟩,⟨rfl,hRight⟩⟩⟩⟩
  exact⟨rfl,hMask,h_s3,hLeft,hRight⟩
 ·rintro⟨rfl,hMask,h_s3,hLeft,hRight⟩
  exact⟨[.int .i64 x.fMask],_,rfl,⟨rfl,hMask⟩,⟨[.int .i64 x.fOrder],_,rfl,⟨rfl,h_s3⟩,⟨[.int .i64 x.fLeft],_,rfl,⟨rfl,hLeft⟩,⟨rfl,hRight⟩⟩⟩⟩
theorem rStepInfo_own {M:Nat}{w:World}{fp:List Nat}{cs:List Value}{x:StepInfoD}:(rStepInfo M).own w fp cs x↔cs=[.int .i64 x.fMask,.int .i64 x.fOrder,.int .i64 x.fLeft,.int .i64 x.fRight]/\fp=[]/\I64 x.fMask/\I64 x.fOrder/\I64 x.fLeft/\I64 x.fRight:=by
 constructor
 ·rintro⟨_,_,_,_,rfl,rfl,⟨rfl,rfl,hMask⟩,⟨_,_,_,_,rfl,rfl,⟨rfl,rfl,h_s3⟩,⟨_,_,_,_,rfl,rfl,⟨rfl,rfl,hLeft⟩,⟨rfl,rfl,hRight⟩⟩⟩⟩
  exact⟨rfl,rfl,hMask,h_s3,hLeft,hRight⟩
 ·rintro⟨rfl,rfl,hMask,h_s3,hLeft,hRight⟩
  exact⟨[],_,[.int .i64 x.fMask],_,rfl,rfl,⟨rfl,rfl,hMask⟩,⟨[],_,[.int .i64 x.fOrder],_,rfl,rfl,⟨rfl,rfl,h_s3⟩,⟨[],_,[.int .i64 x.fLeft],_,rfl,rfl,⟨rfl,rfl,hLeft⟩,⟨rfl,rfl,hRight⟩⟩⟩⟩
theorem RS.eStepInfo {M M':Nat}{w:World}{A:Option Addr}{n cap:Nat}{l:List StepInfoD}(h:RS M (rStepInfo M') w A n cap l) {k:Nat}(hk:k<n) :
  ∃ b off x,A=some ⟨b,off,none⟩/\w.cell? ⟨b,off+k*4,none⟩=some (.int .i64 x.fMask)/\w.cell? ⟨b,off+k*4+1,none⟩=some (.int .i64 x.fOrder)/\w.cell? ⟨b,off+k*4+2,none⟩=some (.int .i64 x.fLeft)/\w.cell? ⟨b,off+k*4+3,none⟩=some (.int .i64 x.fRight)/\I64 x.fMask/\I64 x.fOrder/\I64 x.fLeft/\I64 x.fRight/\Hid (l[k]?=some x):=by
 obtain⟨b,off,x,cs,e,hrep,hc,hx⟩:=h.at_ hk;obtain⟨rfl,h1,h2,h3,h4⟩:=rStepInfo_rep.1 hrep;exact⟨b,off,x,e,hc 0 _ rfl,hc 1 _ rfl,hc 2 _ rfl,hc 3 _ rfl,h1,h2,h3,h4,hx⟩
theorem RS.eAtom {M M':Nat}{w:World}{A:Option Addr}{n cap:Nat}{l:List AtomD}(h:RS M (rAtom M') w A n cap l) {k:Nat}(hk:k<n) :
  ∃ b off x AV nV cV,A=some ⟨b,off,none⟩/\w.cell? ⟨b,off+k*2,none⟩=some (.string x.fName)/\w.cell? ⟨b,off+k*2+1,none⟩=some (.slice AV nV cV)/\x.fName.size<=M'/\RS M' rInt w AV nV cV x.fVars/\Hid (l[k]?=some x):=by
 obtain⟨b,off,x,cs,e,hrep,hc,hx⟩:=h.at_ hk;obtain⟨AV,nV,cV,rfl,h1,h2⟩:=rAtom_rep.1 hrep;exact⟨b,off,x,AV,nV,cV,e,hc 0 _ rfl,hc 1 _ rfl,h1,h2,hx⟩
theorem wraps62 (n:Int) (h0:0<=n) (h1:n<2 ^ 62):IntKind.i64.wrap n=n:=IntWalk.i64_in _ (by omega)
theorem bitsAnd (a b:Nat) (ha:a<2 ^ 62) (hb:b<2 ^ 62):bits .and .i64 (a:Int) (b:Int)=((a &&& b:Nat):Int):=(bits_nat .i64 62 (by decide) wraps62 a b ha hb).1
theorem bitsOr (a b:Nat) (ha:a<2 ^ 62) (hb:b<2 ^ 62):bits .or .i64 (a:Int) (b:Int)=((a ||| b:Nat):Int):=(bits_nat .i64 62 (by decide) wraps62 a b ha hb).2
def mbit (m:Int) (i:Nat):Bool:=m.toNat.testBit i
theorem bit_test (m i:Nat) (hm:m<65536):(bits .and .i64 ((m:Int) / 2 ^ i) 1==1)=m.testBit i:=by
 have e:((m:Int) / 2 ^ i)=((m / 2 ^ i:Nat):Int):=by push_cast;rfl
 have hlt:m / 2 ^ i<2 ^ 62:=Nat.lt_of_le_of_lt (Nat.div_le_self _ _) (by omega);have h1:=bitsAnd (m / 2 ^ i) 1 hlt (by omega);rw [e,show(1:Int)=((1:Nat):Int) from rfl,h1,Nat.and_one_is_mod,Nat.testBit_eq_decide_div_mod_eq];rw [Bool.eq_iff_iff];simp;omega
theorem mbit_test {m:Int}{i:Nat}{v:Bool}(h0:0<=m) (h1:m<65536) (h:mbit m i=v):(bits .and .i64 (m / 2 ^ i) 1==1)=v:=by
 obtain⟨k,rfl⟩:∃ k:Nat,m=k:=⟨m.toNat,by omega⟩;rw [bit_test k i (by omega),<- h];rfl
def pow2 (v:Int):Int:=((2 ^ v.toNat:Nat):Int)
theorem pow2_wrap {v:Int}(h0:0<=v) (h1:v<=15):IntKind.i64.wrap (2 ^ v.toNat)=pow2 v:=by
 have:(2:Nat) ^ v.toNat<=2 ^ 15:=Nat.pow_le_pow_right (by omega) (by omega);have e:(2:Int) ^ v.toNat=((2 ^ v.toNat:Nat):Int):=by push_cast;rfl
 rw [e];show IntKind.i64.wrap _=((2 ^ v.toNat:Nat):Int)
 generalize (2:Nat) ^ v.toNat=p at *;exact wraps62 _ (by omega) (by omega)
theorem pow2_bd {v:Int}(h0:0<=v) (h1:v<=15):1<=pow2 v/\pow2 v<=32768:=by
 have h2:(2:Nat) ^ v.toNat<=2 ^ 15:=Nat.pow_le_pow_right (by omega) (by omega);have h3:1<=(2:Nat) ^ v.toNat:=Nat.one_le_two_pow;unfold pow2;generalize (2:Nat) ^ v.toNat=p at *;omega
theorem pow2_pos (v:Int):1<=pow2 v:=by
 have h3:1<=(2:Nat) ^ v.toNat:=Nat.one_le_two_pow;unfold pow2;generalize (2:Nat) ^ v.toNat=p at *;omega
def orI (a b:Int):Int:=((a.toNat ||| b.toNat:Nat):Int)
def andI (a b:Int):Int:=((a.toNat &&& b.toNat:Nat):Int)
theorem orI_bits {a b:Int}(h0:0<=a) (h1:a<65536) (h2:0<=b) (h3:b<65536):bits .or .i64 a b=orI a b:=by
 obtain⟨j,rfl⟩:∃ k:Nat,a=k:=⟨a.toNat,by omega⟩;obtain⟨k,rfl⟩:∃ k:Nat,b=k:=⟨b.toNat,by omega⟩;rw [bitsOr j k (by omega) (by omega)];rfl
theorem andI_bits {a b:Int}(h0:0<=a) (h1:a<65536) (h2:0<=b) (h3:b<65536):bits .and .i64 a b=andI a b:=by
 obtain⟨j,rfl⟩:∃ k:Nat,a=k:=⟨a.toNat,by omega⟩;obtain⟨k,rfl⟩:∃ k:Nat,b=k:=⟨b.toNat,by omega⟩;rw [bitsAnd j k (by omega) (by omega)];rfl
theorem orI_bd {a b:Int}{n:Nat}(h0:0<=a) (h1:a<((2 ^ n:Nat):Int)) (h2:0<=b) (h3:b<((2 ^ n:Nat):Int)):0<=orI a b/\orI a b<((2 ^ n:Nat):Int):=by
 have:=Nat.or_lt_two_pow (x:=a.toNat) (y:=b.toNat) (n:=n) (by omega) (by omega);unfold orI;omega
theorem mbit_or (a b:Int) (i:Nat):mbit (orI a b) i=(mbit a i||mbit b i):=by
 unfold mbit orI;rw [Int.toNat_natCast,Nat.testBit_or]
theorem mbit_and (a b:Int) (i:Nat):mbit (andI a b) i=(mbit a i&&mbit b i):=by
 unfold mbit andI;rw [Int.toNat_natCast,Nat.testBit_and]
theorem mbit_pow (v:Int) (i:Nat):mbit (pow2 v) i=decide (v.toNat=i):=by
 unfold mbit pow2;rw [Int.toNat_natCast,Nat.testBit_two_pow]
theorem mbit_zero (i:Nat):mbit 0 i=false:=by simp [mbit]
theorem mbit_ext {a b:Int}(h0:0<=a) (h1:0<=b) (h:∀ i,mbit a i=mbit b i):a=b:=by
 have:a.toNat=b.toNat:=Nat.eq_of_testBit_eq h;omega
theorem andI_zero {a b:Int}:(andI a b=0)↔∀ i,¬ (mbit a i=true/\mbit b i=true):=by
 constructor
 ·intro h i hi
  have:=mbit_and a b i;rw [h,mbit_zero,hi.1,hi.2]at this;cases this
 ·intro h
  refine mbit_ext (by unfold andI;omega) (by omega) fun i=>?_;rw [mbit_and,mbit_zero];have:=h i;cases h1:mbit a i<;>cases h2:mbit b i<;>simp_all
theorem mbit_full (n i:Nat):mbit (((2 ^ n:Nat):Int) - 1) i=decide (i<n):=by
 have e:((((2 ^ n:Nat):Int) - 1).toNat)=2 ^ n - 1:=by omega
 unfold mbit;rw [e,Nat.testBit_two_pow_sub_one]
theorem snocInd {α:Type}{P:List α->Prop}(h0:P []) (h1:∀ l x,P l->P (l++[x])) (l:List α):P l:=by
 rw [<- List.reverse_reverse l]
 induction l.reverse with
 | nil=>exact h0
 | cons x l ih=>rw [List.reverse_cons];exact h1 _ _ ih
def nameOk (s:ByteArray):Bool:=decide (s.size=1)&&match s.data[0]? with
 | some c=>decide (97<=c.toNat)&&decide (c.toNat<=122)
 | none=>false
def varOk (vc:Int) (l:List Int) (k:Nat):Bool:=match l[k]? with
 | some v=>inR v 0 (vc - 1)&&!((l.take k).contains v)
 | none=>true
def atomOk (vc:Int) (a:AtomD):Bool:=nameOk a.fName&&inR (a.fVars.length:Int) 1 3&&(List.range a.fVars.length).all (varOk vc a.fVars)
def usesV (l:List AtomD) (v:Int):Bool:=l.any (fun a=>a.fVars.contains v)
def validQ (q:QueryD):Bool:=inR q.fVariableCount 1 4&&inR (q.fAtoms.length:Int) 1 4&&q.fAtoms.all (atomOk q.fVariableCount)&&(List.range q.fVariableCount.toNat).all (fun v=>usesV q.fAtoms v)
theorem atomOk_parts {vc:Int}{a:AtomD}(h:atomOk vc a=true):nameOk a.fName=true/\1<=a.fVars.length/\a.fVars.length<=3/\(∀ v∈a.fVars,0<=v/\v<=vc - 1)/\∀ k,k<a.fVars.length->varOk vc a.fVars k=true:=by
 unfold atomOk at h;simp only [Bool.and_eq_true,List.all_eq_true]at h;obtain⟨⟨h1,h2⟩,h3⟩:=h;have h2:=inR_t.1 h2;refine⟨h1,by omega,by omega,fun v hv=>?_,fun k hk=>h3 k (List.mem_range.2 hk)⟩;obtain⟨i,hi⟩:=List.getElem?_of_mem hv;have:=h3 i (List.mem_range.2 (lt_of_at hi));simp only [varOk,hi,Bool.and_eq_true]at this;exact inR_t.1 this.1
theorem validQ_parts {q:QueryD}(h:validQ q=true):1<=q.fVariableCount/\q.fVariableCount<=4/\1<=q.fAtoms.length/\q.fAtoms.length<=4/\(∀ a∈q.fAtoms,atomOk q.fVariableCount a=true)/\∀ v:Nat,v<q.fVariableCount.toNat->usesV q.fAtoms v=true:=by
 unfold validQ at h;simp only [Bool.and_eq_true,List.all_eq_true]at h;obtain⟨⟨⟨h1,h2⟩,h3⟩,h4⟩:=h;have h1:=inR_t.1 h1;have h2:=inR_t.1 h2;exact⟨h1.1,h1.2,by omega,by omega,h3,fun v hv=>h4 v (List.mem_range.2 hv)⟩
theorem validQ_var {q:QueryD}(h:validQ q=true) {a:AtomD}(ha:a∈q.fAtoms) {v:Int}(hv:v∈a.fVars):0<=v/\v<=q.fVariableCount - 1/\v<=3:=by
 obtain⟨_,h2,_,_,h5,_⟩:=validQ_parts h;have:=(atomOk_parts (h5 a ha)).2.2.2.1 v hv;omega
def seenBits (l:List Int):Int:=l.foldl (fun b v=>orI b (pow2 v)) 0
theorem seenBits_snoc (l:List Int) (v:Int):seenBits (l++[v])=orI (seenBits l) (pow2 v):=by unfold seenBits;rw [List.foldl_append];rfl
theorem seenBits_nonneg (l:List Int):0<=seenBits l:=by
 induction l using snocInd with
 | h0=>simp [seenBits]
 | h1 l v _=>rw [seenBits_snoc];unfold orI;omega
theorem seenBits_lt {l:List Int}(h:∀ v∈l,0<=v/\v<=3):seenBits l<16:=by
 induction l using snocInd with
 | h0=>simp [seenBits]
 | h1 l v ih =>
  have h1:=ih fun x hx=>h x (List.mem_append_left _ hx);have h2:=h v (by simp)
  have h3:pow2 v<16:=by
   have:(2:Nat) ^ v.toNat<=2 ^ 3:=Nat.pow_le_pow_right (by omega) (by omega);unfold pow2;generalize (2:Nat) ^ v.toNat=p at *;omega
  rw [seenBits_snoc];exact(orI_bd (n:=4) (seenBits_nonneg l) h1 (by have:=pow2_pos v;omega) h3).2
theorem mbit_seen {l:List Int}(h:∀ v∈l,0<=v) (i:Nat):mbit (seenBits l) i=l.contains (i:Int):=by
 induction l using snocInd with
 | h0=>simp [seenBits,mbit_zero]
 | h1 l v ih =>
  rw [seenBits_snoc,mbit_or,mbit_pow,ih fun x hx=>h x (List.mem_append_left _ hx)];have:=h v (by simp);rw [Bool.eq_iff_iff];simp;constructor
  ·rintro(h|h)
   ·exact .inl h
   ·exact .inr (by omega)
  ·rintro(h|h)
   ·exact .inl h
   ·exact .inr (by omega)
def allVars (l:List AtomD):List Int:=(l.map (fun a=>a.fVars)).flatten
theorem allVars_contains (l:List AtomD) (v:Int):(allVars l).contains v=usesV l v:=by
 rw [Bool.eq_iff_iff];simp [allVars,usesV];constructor
 ·rintro⟨_,⟨a,ha,rfl⟩,hv⟩;exact⟨a,ha,hv⟩
 ·rintro⟨a,ha,hv⟩;exact⟨_,⟨a,ha,rfl⟩,hv⟩
theorem seen_full {l:List AtomD}{vc:Int}(h1:1<=vc) (h2:vc<=4) (h:∀ v∈allVars l,0<=v/\v<=vc - 1) :
  (seenBits (allVars l)=pow2 vc - 1)↔(List.range vc.toNat).all (fun v=>usesV l v)=true:=by
 constructor
 ·intro he
  rw [List.all_eq_true];intro v hv;rw [<- allVars_contains,<- mbit_seen (fun x hx=>(h x hx).1),he];unfold pow2;rw [mbit_full];simpa using hv
 ·intro ha
  rw [List.all_eq_true]at ha;refine mbit_ext (seenBits_nonneg _) (by have:=pow2_bd (v:=vc) (by omega) (by omega);omega) fun i=>?_;rw [mbit_seen (fun x hx=>(h x hx).1),pow2,mbit_full];by_cases hi:i<vc.toNat
  ·rw [allVars_contains,ha i (List.mem_range.2 hi)];simp [hi]
  ·rw [decide_eq_false hi]
   rw [Bool.eq_false_iff];intro hc;have:=h _ (List.contains_iff_mem.1 hc);omega
def fullMask (q:QueryD):Int:=if validQ q then ((2 ^ q.fAtoms.length:Nat):Int) - 1 else 0
def hasV (l:List AtomD) (m v:Int):Bool:=(List.range l.length).any (fun i=>mbit m i&&match l[i]? with|some a=>a.fVars.contains v|none=>false)
def varsOf (q:QueryD) (m:Int):List Int:=((List.range q.fVariableCount.toNat).map (fun v:Nat=>(v:Int))).filter (hasV q.fAtoms m)
def maskVars (l:List AtomD) (m:Int):List Int:=((List.range l.length).map (fun i=>if mbit m i then (match l[i]? with|some a=>a.fVars|none=>[]) else [])).flatten
def bitsQ (l:List AtomD) (m:Int):Int:=seenBits (maskVars l m)
theorem hasV_iff {l:List AtomD}{m v:Int}:hasV l m v=true↔∃ i a,l[i]?=some a/\mbit m i=true/\v∈a.fVars:=by
 unfold hasV;simp only [List.any_eq_true,List.mem_range,Bool.and_eq_true];constructor
 ·rintro⟨i,hi,h1,h2⟩
  rw [List.getElem?_eq_getElem hi]at h2;exact⟨i,l[i],List.getElem?_eq_getElem hi,h1,by simpa using h2⟩
 ·rintro⟨i,a,h1,h2,h3⟩
  exact⟨i,lt_of_at h1,h2,by rw [h1];simpa using h3⟩
theorem maskVars_iff {l:List AtomD}{m v:Int}:v∈maskVars l m↔hasV l m v=true:=by
 rw [hasV_iff];unfold maskVars;simp only [List.mem_flatten,List.mem_map,List.mem_range];constructor
 ·rintro⟨_,⟨i,hi,rfl⟩,hv⟩
  rw [List.getElem?_eq_getElem hi]at hv;split at hv
  ·exact⟨i,l[i],List.getElem?_eq_getElem hi,‹_›,hv⟩
  ·cases hv
 ·rintro⟨i,a,h1,h2,h3⟩
  exact⟨_,⟨i,lt_of_at h1,rfl⟩,by rw [if_pos h2,h1];exact h3⟩
theorem hasV_bd {q:QueryD}(h:validQ q=true) {m v:Int}(hv:hasV q.fAtoms m v=true):0<=v/\v<=q.fVariableCount - 1/\v<=3:=by
 obtain⟨i,a,h1,_,h3⟩:=hasV_iff.1 hv;exact validQ_var h (mem_of_at h1) h3
theorem bitsQ_bd {q:QueryD}(h:validQ q=true) (m:Int):0<=bitsQ q.fAtoms m/\bitsQ q.fAtoms m<16 :=
 ⟨seenBits_nonneg _,seenBits_lt fun v hv=>by have:=hasV_bd h (maskVars_iff.1 hv);omega⟩
theorem mbit_bitsQ {q:QueryD}(h:validQ q=true) (m:Int) (i:Nat):mbit (bitsQ q.fAtoms m) i=hasV q.fAtoms m i:=by
 unfold bitsQ;rw [mbit_seen fun v hv=>(hasV_bd h (maskVars_iff.1 hv)).1,Bool.eq_iff_iff,List.contains_iff_mem];exact maskVars_iff
theorem varsOf_contains {q:QueryD}(h:validQ q=true) (m v:Int):(varsOf q m).contains v=hasV q.fAtoms m v:=by
 rw [Bool.eq_iff_iff,List.contains_iff_mem];unfold varsOf;simp only [List.mem_filter,List.mem_map,List.mem_range];constructor
 ·exact fun h=>h.2
 ·intro hv
  have:=hasV_bd h hv;exact⟨⟨v.toNat,by omega,by omega⟩,hv⟩
def inBits (b v:Int):Bool:=inR v 0 3&&mbit b v.toNat
theorem inBits_hasV {q:QueryD}(h:validQ q=true) (m v:Int):inBits (bitsQ q.fAtoms m) v=hasV q.fAtoms m v:=by
 unfold inBits;rw [mbit_bitsQ h];cases hv:hasV q.fAtoms m v
 ·by_cases h0:0<=v
  ·rw [show((v.toNat:Nat):Int)=v by omega,hv,Bool.and_false]
  ·rw [inR_f.2 (.inl (by omega)),Bool.false_and]
 ·have:=hasV_bd h hv
  rw [show((v.toNat:Nat):Int)=v by omega,hv,inR_t.2 (by omega)];rfl
def bothL (a b:List Int):List Int:=a.filter (fun x=>b.contains x)
theorem bothL_mem {q:QueryD}(h:validQ q=true) (a b v:Int):(bothL (varsOf q a) (varsOf q b)).contains v=(hasV q.fAtoms a v&&hasV q.fAtoms b v):=by
 rw [<- varsOf_contains h,<- varsOf_contains h,Bool.eq_iff_iff];simp [bothL]
theorem inBits_and {q:QueryD}(h:validQ q=true) (a b v:Int):inBits (andI (bitsQ q.fAtoms a) (bitsQ q.fAtoms b)) v=(hasV q.fAtoms a v&&hasV q.fAtoms b v):=by
 rw [<- inBits_hasV h,<- inBits_hasV h];unfold inBits;rw [mbit_and];cases inR v 0 3<;>simp
theorem shared_none {q:QueryD}(h:validQ q=true) (a b:Int):((bothL (varsOf q a) (varsOf q b)).length=0)↔(andI (bitsQ q.fAtoms a) (bitsQ q.fAtoms b)=0):=by
 rw [andI_zero,List.length_eq_zero_iff,List.eq_nil_iff_forall_not_mem];constructor
 ·intro hn i hi
  rw [mbit_bitsQ h,mbit_bitsQ h]at hi;have:=bothL_mem h a b i;rw [hi.1,hi.2]at this;exact hn i (List.contains_iff_mem.1 this)
 ·intro hn v hv
  have h1:=bothL_mem h a b v;rw [List.contains_iff_mem.2 hv]at h1;have h1:=h1.symm;rw [Bool.and_eq_true]at h1;have h0:=hasV_bd h h1.1;apply hn v.toNat;rw [mbit_bitsQ h,mbit_bitsQ h,show((v.toNat:Nat):Int)=v by omega];exact h1
def infoAt (l:List StepInfoD) (i:Int):StepInfoD:=(l[i.toNat]?).getD zStepInfo
def firstVar (q:QueryD) (i:Int):Int:=match q.fAtoms[i.toNat]? with
 | some a=>(a.fVars[0]?).getD 0
 | none=>0
def topAt (st:List Int) (k:Nat):Int:=(st[st.length - k]?).getD 0
def joinOk (q:QueryD) (a b:StepInfoD):Bool:=decide (andI a.fMask b.fMask=0)&&decide (¬ andI (bitsQ q.fAtoms a.fMask) (bitsQ q.fAtoms b.fMask)=0)
def stepInfo (q:QueryD) (x:PlanStepD) (l:List StepInfoD) (st:List Int):Option (StepInfoD × Nat) :=
 if x.fKind=1 then
  if inR x.fAtom 0 ((q.fAtoms.length:Int) - 1)&&decide (x.fOrder=0) then some (⟨pow2 x.fAtom,firstVar q x.fAtom,-1,-1⟩,0) else none
 else if ¬ x.fAtom=0 then none
 else if x.fKind=2 then
  if decide (1<=st.length)&&hasV q.fAtoms (infoAt l (topAt st 1)).fMask x.fOrder&&decide (¬ (infoAt l (topAt st 1)).fOrder=x.fOrder) then some (⟨(infoAt l (topAt st 1)).fMask,x.fOrder,topAt st 1,-1⟩,1) else none
 else if inR x.fKind 3 5&&decide (2<=st.length)&&joinOk q (infoAt l (topAt st 2)) (infoAt l (topAt st 1)) then
  let a:=infoAt l (topAt st 2)
  let b:=infoAt l (topAt st 1)
  if x.fKind=4 then
   if hasV q.fAtoms a.fMask x.fOrder&&hasV q.fAtoms b.fMask x.fOrder&&decide (a.fOrder=x.fOrder)&&decide (b.fOrder=x.fOrder) then some (⟨orI a.fMask b.fMask,x.fOrder,topAt st 2,topAt st 1⟩,2) else none
  else if x.fOrder=0 then some (⟨orI a.fMask b.fMask,if x.fKind=5 then a.fOrder else -1,topAt st 2,topAt st 1⟩,2) else none
 else none
def planStep (q:QueryD) (s:Option (List StepInfoD × List Int)) (x:PlanStepD):Option (List StepInfoD × List Int) :=
 match s with
 | none=>none
 | some (l,st)=>match stepInfo q x l st with
  | none=>none
  | some (y,k)=>some (l++[y],st.take (st.length - k)++[(l.length:Int)])
def planRun (q:QueryD) (p:List PlanStepD):Option (List StepInfoD × List Int):=p.foldl (planStep q) (some ([],[]))
def planInfo (q:QueryD) (p:PlanD):Option (List StepInfoD) :=
 if validQ q&&inR (p.fSteps.length:Int) 1 14 then
  match planRun q p.fSteps with
  | some (l,st)=>if st.length=1 then some l else none
  | none=>none
 else none
theorem planRun_snoc {q:QueryD}{p:List PlanStepD}{k:Nat}{x:PlanStepD}(h:p[k]?=some x):planRun q (p.take (k+1))=planStep q (planRun q (p.take k)) x:=by
 unfold planRun;rw [take_snoc h,List.foldl_append];rfl
theorem planRun_none {q:QueryD}{p:List PlanStepD}{k:Nat}(h:planRun q (p.take k)=none):planRun q p=none:=by
 unfold planRun at h ⊢
 have e:p.foldl (planStep q) (some ([],[]))=(p.drop k).foldl (planStep q) ((p.take k).foldl (planStep q) (some ([],[]))):=by
  rw [<- List.foldl_append,List.take_append_drop]
 rw [e,h];generalize p.drop k=d
 induction d with
 | nil=>rfl
 | cons x d ih=>exact ih
structure Run (n:Nat) (l:List StepInfoD) (st:List Int):Prop where
 mask:∀ y∈l,1<=y.fMask/\y.fMask<((2 ^ n:Nat):Int)
 kids:∀ (i:Nat) y,l[i]?=some y->(-1<=y.fLeft/\y.fLeft<i)/\(-1<=y.fRight/\y.fRight<i)
 stk:∀ s∈st,0<=s/\s<l.length
 len:st.length<=l.length
theorem Run.nil (n:Nat):Run n [] []:=⟨by simp,by simp,by simp,by simp⟩
theorem Run.top {n:Nat}{l:List StepInfoD}{st:List Int}(h:Run n l st) {k:Nat}(h1:1<=k) (h2:k<=st.length):∃ j:Nat,topAt st k=j/\j<l.length/\l[j]?=some (infoAt l (topAt st k)):=by
 have hx:st[st.length - k]?=some (st[st.length - k]'(by omega)):=List.getElem?_eq_getElem (by omega);have hm:=h.stk _ (mem_of_at hx);have e:topAt st k=st[st.length - k]'(by omega):=by unfold topAt;rw [hx];rfl
 rw [e];refine⟨(st[st.length - k]'(by omega)).toNat,by omega,by omega,?_⟩;unfold infoAt;rw [List.getElem?_eq_getElem (by omega)];rfl
theorem Run.at_ {n:Nat}{l:List StepInfoD}{st:List Int}(h:Run n l st) {k:Nat}(h1:1<=k) (h2:k<=st.length):1<=(infoAt l (topAt st k)).fMask/\(infoAt l (topAt st k)).fMask<((2 ^ n:Nat):Int):=by
 obtain⟨j,_,_,h3⟩:=h.top h1 h2;exact h.mask _ (mem_of_at h3)
theorem stepInfo_ok {q:QueryD}{x:PlanStepD}{l:List StepInfoD}{st:List Int}{y:StepInfoD}{k:Nat}(hq:validQ q=true) (h:Run q.fAtoms.length l st) (hs:stepInfo q x l st=some (y,k)) :
  (1<=y.fMask/\y.fMask<((2 ^ q.fAtoms.length:Nat):Int))/\(-1<=y.fLeft/\y.fLeft<l.length)/\(-1<=y.fRight/\y.fRight<l.length)/\k<=st.length/\(1<=x.fKind/\x.fKind<=5):=by
 obtain⟨_,_,q3,q4,_⟩:=validQ_parts hq;unfold stepInfo at hs;split at hs
 ·rename_i hk
  split at hs
  ·rename_i hc
   injection hs with hs;injection hs with h1 h2;subst h1;subst h2;simp only [Bool.and_eq_true]at hc;have ha:=inR_t.1 hc.1;have h1:=pow2_bd (v:=x.fAtom) (by omega) (by omega);have h2:(2:Nat) ^ (x.fAtom.toNat+1)<=2 ^ q.fAtoms.length:=Nat.pow_le_pow_right (by omega) (by omega);rw [Nat.pow_succ]at h2;have h3:1<=(2:Nat) ^ x.fAtom.toNat:=Nat.one_le_two_pow;refine⟨⟨h1.1,?_⟩,⟨by simp,by simp;omega⟩,⟨by simp,by simp;omega⟩,by omega,by omega,by omega⟩;show pow2 x.fAtom<_;unfold pow2;omega
  ·cases hs
 split at hs
 ·cases hs
 split at hs
 ·split at hs
  ·rename_i hk _ hc
   injection hs with hs;injection hs with h1 h2;subst h1;subst h2;simp only [Bool.and_eq_true,decide_eq_true_eq]at hc;obtain⟨j,e1,e2,e3⟩:=h.top (k:=1) (by omega) hc.1.1;have:=h.at_ (k:=1) (by omega) hc.1.1;exact⟨this,⟨by simp only [e1];omega,by simp only [e1];omega⟩,⟨by simp,by simp;omega⟩,hc.1.1,by omega,by omega⟩
  ·cases hs
 split at hs
 ·rename_i hc
  simp only [Bool.and_eq_true,decide_eq_true_eq]at hc;have hk:=inR_t.1 hc.1.1;obtain⟨j,e1,e2,e3⟩:=h.top (k:=1) (by omega) (by omega);obtain⟨j',e1',e2',e3'⟩:=h.top (k:=2) (by omega) (by omega);have m1:=h.at_ (k:=1) (by omega) (by omega);have m2:=h.at_ (k:=2) (by omega) (by omega);have mo:=orI_bd (n:=q.fAtoms.length) (a:=(infoAt l (topAt st 2)).fMask) (b:=(infoAt l (topAt st 1)).fMask) (by omega) m2.2 (by omega) m1.2
  have mp:1<=orI (infoAt l (topAt st 2)).fMask (infoAt l (topAt st 1)).fMask:=by
   rcases Int.lt_or_le 0 (orI (infoAt l (topAt st 2)).fMask (infoAt l (topAt st 1)).fMask) with h0|h0
   ·omega
   ·have e0:orI (infoAt l (topAt st 2)).fMask (infoAt l (topAt st 1)).fMask=0:=by omega
    have:(infoAt l (topAt st 2)).fMask=0:=mbit_ext (by omega) (by omega) fun i=>by
     have:=mbit_or (infoAt l (topAt st 2)).fMask (infoAt l (topAt st 1)).fMask i;rw [e0,mbit_zero]at this;rw [mbit_zero];cases hh:mbit (infoAt l (topAt st 2)).fMask i<;>simp_all
    omega
  simp only at hs;split at hs
  ·split at hs
   ·injection hs with hs;injection hs with h1 h2;subst h1;subst h2
    exact⟨⟨mp,mo.2⟩,⟨by simp only [e1'];omega,by simp only [e1'];omega⟩,⟨by simp only [e1];omega,by simp only [e1];omega⟩,by omega,by omega,by omega⟩
   ·cases hs
  ·split at hs
   ·injection hs with hs;injection hs with h1 h2;subst h1;subst h2
    exact⟨⟨mp,mo.2⟩,⟨by simp only [e1'];omega,by simp only [e1'];omega⟩,⟨by simp only [e1];omega,by simp only [e1];omega⟩,by omega,by omega,by omega⟩
   ·cases hs
 ·cases hs
theorem Run.step {q:QueryD}{x:PlanStepD}{l:List StepInfoD}{st:List Int}{y:StepInfoD}{k:Nat}(hq:validQ q=true) (h:Run q.fAtoms.length l st) (hs:stepInfo q x l st=some (y,k)) :
  Run q.fAtoms.length (l++[y]) (st.take (st.length - k)++[(l.length:Int)]):=by
 obtain⟨h1,h2,h3,h4,_⟩:=stepInfo_ok hq h hs;refine⟨fun z hz=>?_,fun i z hz=>?_,fun s hs'=>?_,by have:=h.len;simp;omega⟩
 ·rcases List.mem_append.1 hz with hz|hz
  ·exact h.mask z hz
  ·simp at hz;subst hz;exact h1
 ·by_cases hi:i<l.length
  ·rw [List.getElem?_append_left hi]at hz;exact h.kids i z hz
  ·rw [List.getElem?_append_right (by omega)]at hz
   have:=lt_of_at hz;have e:i=l.length:=by simp at this;omega
   subst e;simp at hz;subst hz;exact⟨h2,h3⟩
 ·rcases List.mem_append.1 hs' with hs'|hs'
  ·have:=h.stk s (List.mem_of_mem_take hs');simp;omega
  ·simp at hs';subst hs';simp;omega
theorem planRun_ok {q:QueryD}(hq:validQ q=true) {p:List PlanStepD}{l:List StepInfoD}{st:List Int}(h:planRun q p=some (l,st)) :
  Run q.fAtoms.length l st/\l.length=p.length/\∀ x∈p,1<=x.fKind/\x.fKind<=5:=by
 induction p using snocInd generalizing l st with
 | h0 =>
  simp [planRun]at h;obtain⟨rfl,rfl⟩:=h;exact⟨Run.nil _,rfl,by simp⟩
 | h1 p x ih =>
  have e:planRun q (p++[x])=planStep q (planRun q p) x:=by unfold planRun;rw [List.foldl_append];rfl
  rw [e]at h;cases hp:planRun q p with
  | none=>rw [hp]at h;cases h
  | some s =>
   obtain⟨l0,st0⟩:=s;obtain⟨i1,i2,i3⟩:=ih hp;rw [hp]at h;simp only [planStep]at h;cases hs:stepInfo q x l0 st0 with
   | none=>rw [hs]at h;cases h
   | some s =>
    obtain⟨y,k⟩:=s;rw [hs]at h;simp only at h;injection h with h;injection h with e1 e2;subst e1;subst e2;refine⟨i1.step hq hs,by simp [i2],fun z hz=>?_⟩;rcases List.mem_append.1 hz with hz|hz
    ·exact i3 z hz
    ·simp at hz;subst hz;exact(stepInfo_ok hq i1 hs).2.2.2.2
theorem planInfo_parts {q:QueryD}{p:PlanD}{l:List StepInfoD}(h:planInfo q p=some l):validQ q=true/\1<=p.fSteps.length/\p.fSteps.length<=14/\∃ st,Run q.fAtoms.length l st/\l.length=p.fSteps.length/\∀ x∈p.fSteps,1<=x.fKind/\x.fKind<=5:=by
 unfold planInfo at h;split at h
 ·rename_i hc
  rw [Bool.and_eq_true]at hc;have h2:=inR_t.1 hc.2;cases hr:planRun q p.fSteps with
  | none=>rw [hr]at h;cases h
  | some s =>
   obtain⟨l',st⟩:=s;rw [hr]at h;simp only at h;split at h
   ·injection h with h;subst h
    obtain⟨h3,h4,h5⟩:=planRun_ok hc.1 hr;exact⟨hc.1,by omega,by omega,st,h3,h4,h5⟩
   ·cases h
 ·cases h
end Go.Proofs.YtnlcfkpcmfljeaaGreat
