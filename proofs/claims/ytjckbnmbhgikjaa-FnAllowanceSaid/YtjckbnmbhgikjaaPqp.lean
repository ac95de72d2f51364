/-
  Pqp
-/
import Derived.Test.YtjckbnmbhgikjaaQp
import Derived.Test.YtjckbnmbhgikjaaVar
namespace Go.Proofs.Ytjckbnmbhgikjaa
open Go.RowKit
set_option linter.unusedVariables false
set_option linter.unusedSimpArgs false

/-- what is still to be cut from place i on, the piece under way having begun at 'a' -/
def cutF (s:ByteArray) (sep:UInt8):Nat->Nat->Nat->List ByteArray
 | 0,a,_=>[s.extract a s.size]
 | f+1,a,i=>if s.get! i=sep then s.extract a i::cutF s sep f (i+1) (i+1) else cutF s sep f a (i+1)
def cutB (s:ByteArray) (sep:UInt8):List ByteArray:=cutF s sep s.size 0 0
theorem cutF_len (s:ByteArray) (sep:UInt8) (f a i:Nat):(cutF s sep f a i).length<=f+1:=by
 induction f generalizing a i with
 | zero=>simp [cutF]
 | succ f ih =>
  unfold cutF;split
  ·simp only [List.length_cons];have:=ih (i+1) (i+1);omega
  ·have:=ih a (i+1);omega
/-- the variables whose name stands at place k -/
def varsK (t:ByteArray) (k:Nat):List Int:=([0,1,2,3]:List Int).filter fun v=>(varT v).toList==(t.extract k (k+1)).toList
/-- the first v of these -/
def varsKV (t:ByteArray) (k v:Nat):List Int:=(([0,1,2,3]:List Int).take v).filter fun v=>(varT v).toList==(t.extract k (k+1)).toList
theorem varsKV_all (t:ByteArray) (k:Nat):varsKV t k 4=varsK t k:=rfl
theorem varsKV_snoc (t:ByteArray) (k:Nat) {v:Nat}(hv:v<4):varsKV t k (v+1)=if (varT (v:Int)).toList==(t.extract k (k+1)).toList then varsKV t k v++[(v:Int)] else varsKV t k v:=by
 have e:([0,1,2,3]:List Int).take (v+1)=([0,1,2,3]:List Int).take v++[(v:Int)]:=by
  have:v=0\/v=1\/v=2\/v=3:=by omega
  rcases this with rfl|rfl|rfl|rfl<;>rfl
 unfold varsKV
 rw [e,List.filter_append]
 cases h:(varT (v:Int)).toList==(t.extract k (k+1)).toList with
 | true=>rw [List.filter_cons,if_pos h];rfl
 | false=>rw [List.filter_cons,if_neg (by rw [h];decide)];simp
/-- the variables of the places 2 .. 2 + n - 1 -/
def varsTo2 (t:ByteArray):Nat->List Int
 | 0=>[]
 | n+1=>varsTo2 t n++varsK t (2+n)
theorem varsK_len (t:ByteArray) (k:Nat):(varsK t k).length<=4:=List.length_filter_le _ _
theorem varsKV_len (t:ByteArray) (k v:Nat):(varsKV t k v).length<=4:=Nat.le_trans (List.length_filter_le _ _) (by rw [List.length_take];simp;omega)
theorem varsTo2_len (t:ByteArray) (n:Nat):(varsTo2 t n).length<=4*n:=by
 induction n with
 | zero=>simp [varsTo2]
 | succ n ih=>simp only [varsTo2,List.length_append];have:=varsK_len t (2+n);omega
def vcOf (l:List Int):Int:=l.foldl (fun m v=>max m (v+1)) 0
theorem vcOf_snoc (l:List Int) (v:Int):vcOf (l++[v])=max (vcOf l) (v+1):=by unfold vcOf;rw [List.foldl_append];rfl
theorem vcOf_bd {l:List Int}(h:∀ v∈l,0<=v/\v<=3):0<=vcOf l/\vcOf l<=4:=by
 induction l using snocInd with
 | h0=>simp [vcOf]
 | h1 l v ih =>
  have h1:=ih fun x hx=>h x (List.mem_append_left _ hx)
  have h2:=h v (by simp)
  rw [vcOf_snoc];omega
theorem varsK_bd (t:ByteArray) (k:Nat):∀ v∈varsK t k,0<=v/\v<=3:=fun v hv=>by
 have:=(List.mem_filter.1 hv).1
 simp at this;omega
theorem varsKV_bd (t:ByteArray) (k j:Nat):∀ v∈varsKV t k j,0<=v/\v<=3:=fun v hv=>by
 have:=List.mem_of_mem_take (List.mem_filter.1 hv).1
 simp at this;omega
theorem varsTo2_bd (t:ByteArray) (n:Nat):∀ v∈varsTo2 t n,0<=v/\v<=3:=by
 induction n with
 | zero=>intro v hv;cases hv
 | succ n ih =>
  intro v hv
  rcases List.mem_append.1 hv with hv|hv
  ·exact ih v hv
  ·exact varsK_bd t _ v hv
def atomP (t:ByteArray):AtomD:=⟨t.extract 0 1,varsTo2 t (t.size - 3)⟩
def queryP (s:ByteArray):QueryD:=⟨vcOf (allVars ((cutB s 32).map atomP)),(cutB s 32).map atomP⟩
def namesT (l:List Int):ByteArray:=l.foldl (fun s v=>s++varT v) ⟨#[]⟩
theorem namesT_snoc {l:List Int}{k:Nat}{v:Int}(h:l[k]?=some v):namesT (l.take (k+1))=namesT (l.take k)++varT v:=by unfold namesT;rw [take_snoc h,List.foldl_append];rfl
theorem namesT_len (l:List Int):(namesT l).size<=l.length:=by
 induction l using snocInd with
 | h0=>exact Nat.le_refl _
 | h1 l v ih =>
  have e:namesT (l++[v])=namesT l++varT v:=by unfold namesT;rw [List.foldl_append];rfl
  rw [e,ByteArray.size_append];have:=varT_le v;simp;omega
/-- the text of the first k atoms -/
def fmtTo (l:List AtomD):Nat->ByteArray
 | 0=>⟨#[]⟩
 | k+1=>match l[k]? with
  | some a=>(if 0<k then fmtTo l k++⟨#[32]⟩ else fmtTo l k)++a.fName++⟨#[40]⟩++namesT a.fVars++⟨#[41]⟩
  | none=>fmtTo l k
def fmtQ (q:QueryD):ByteArray:=fmtTo q.fAtoms q.fAtoms.length
theorem fmtTo_len {l:List AtomD}(h:∀ a∈l,a.fName.size<=1/\a.fVars.length<=3) (k:Nat):(fmtTo l k).size<=7*k:=by
 induction k with
 | zero=>exact Nat.le_refl _
 | succ k ih =>
  unfold fmtTo
  cases ha:l[k]? with
  | none=>simp only;omega
  | some a =>
   obtain⟨h1,h2⟩:=h a (mem_of_at ha)
   have h3:=namesT_len a.fVars
   have e1:(⟨#[32]⟩:ByteArray).size=1:=rfl
   have e2:(⟨#[40]⟩:ByteArray).size=1:=rfl
   have e3:(⟨#[41]⟩:ByteArray).size=1:=rfl
   simp only [ByteArray.size_append]
   split<;>(try simp only [ByteArray.size_append])<;>omega
def tokOk (t:ByteArray):Bool:=decide (4<=t.size)&&decide (t.size<=6)
/-- a text that reads as a query -/
def parseOk (s:ByteArray):Bool:=decide (s.size<=100)&&decide ((cutB s 32).length<=4)&&(cutB s 32).all tokOk&&validQ (queryP s)&&decide ((fmtQ (queryP s)).toList=s.toList)
def knownQ:List ByteArray:=[⟨#[114,40,88,89,41]⟩,⟨#[114,40,88,89,41,32,115,40,89,90,41]⟩,⟨#[114,40,88,89,41,32,115,40,89,90,41,32,116,40,90,85,41]⟩,⟨#[114,40,88,89,41,32,115,40,89,90,41,32,116,40,90,88,41]⟩,⟨#[114,40,88,89,41,32,115,40,88,90,41,32,116,40,88,85,41]⟩,⟨#[114,40,88,89,41,32,115,40,89,90,41,32,118,40,89,41]⟩,⟨#[117,40,88,89,90,41,32,115,40,90,85,41]⟩,⟨#[117,40,88,89,90,41,32,114,40,88,89,41,32,118,40,90,41]⟩,⟨#[114,40,88,89,41,32,115,40,89,90,41,32,116,40,90,85,41,32,118,40,88,41]⟩,⟨#[114,40,88,89,41,32,114,40,89,90,41]⟩,⟨#[114,40,88,89,41,32,115,40,89,88,41]⟩,⟨#[118,40,88,41,32,114,40,88,89,41,32,115,40,89,90,41,32,116,40,90,85,41]⟩,⟨#[114,40,88,89,41,32,115,40,89,90,41,32,116,40,90,85,41,32,115,40,85,88,41]⟩]
theorem knownQ_ok:knownQ.all parseOk=true:=by decide +kernel
end Go.Proofs.Ytjckbnmbhgikjaa
