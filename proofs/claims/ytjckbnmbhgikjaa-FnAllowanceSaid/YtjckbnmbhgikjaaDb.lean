/-
  Tab, Db
-/
import Derived.Test.YtjckbnmbhgikjaaKeep
import Derived.Test.YtjckbnmbhgikjaaEqLib
import Derived.Test.YtjckbnmbhgikjaaStr
import Derived.Test.YtjckbnmbhgikjaaQi
namespace Go.Proofs.Ytjckbnmbhgikjaa
open Go.RowKit
set_option linter.unusedVariables false
set_option linter.unusedSimpArgs false
theorem Qt.tr {a b c:World}(h1:Qt a b) (h2:Qt b c):Qt a c:=by
 obtain⟨m,rfl⟩:=h1
 obtain⟨k,rfl⟩:=h2
 exact⟨_,World.drewN_drewN _ _ _⟩
/-- row i is above the one ahead of it -/
def ascAt (l:List (List Int)) (i:Nat):Bool:=match i with|0=>true|j+1=>match l[j]?,l[j+1]? with|some a,some b=>decide (cmpRows a b<0)|_,_=>true
def ascRows (l:List (List Int)):Bool:=(List.range l.length).all (ascAt l)
theorem ascAt_s {l:List (List Int)}{j:Nat}{a b:List Int}(ha:l[j]?=some a) (hb:l[j+1]?=some b):ascAt l (j+1)=decide (cmpRows a b<0):=by simp only [ascAt,ha,hb]
def validTable (t:TableD):Bool:=nameOk t.fName&&(inR t.fArity 1 3&&(decide (t.fRows.length<=8)&&(t.fRows.all (fun r=>rowOk r t.fArity)&&ascRows t.fRows)))
end Go.Proofs.Ytjckbnmbhgikjaa
namespace Go.Proofs.Ytjckbnmbhgikjaa
open Go.RowKit
set_option linter.unusedVariables false
set_option linter.unusedSimpArgs false
theorem RS.eTable {M M':Nat}{w:World}{A:Option Addr}{n cap:Nat}{l:List TableD}(h:RS M (rTable M') w A n cap l) {k:Nat}(hk:k<n) :
  ∃ b off x AR nR cR,A=some ⟨b,off,none⟩/\w.cell? ⟨b,off+k*3,none⟩=some (.string x.fName)/\w.cell? ⟨b,off+k*3+1,none⟩=some (.int .i64 x.fArity)/\w.cell? ⟨b,off+k*3+2,none⟩=some (.slice AR nR cR)/\(rTable M').rep w [.string x.fName,.int .i64 x.fArity,.slice AR nR cR] x/\Hid (l[k]?=some x):=by
 obtain⟨b,off,x,cs,e,hrep,hc,hx⟩:=h.at_ hk
 have hrep2:=hrep
 obtain⟨AR,nR,cR,rfl,_⟩:=rTable_rep.1 hrep
 exact⟨b,off,x,AR,nR,cR,e,hc 0 _ rfl,hc 1 _ rfl,hc 2 _ rfl,hrep2,hx⟩
/-- table i is above the one ahead of it -/
def dbAt (l:List TableD) (i:Nat):Bool:=match i with|0=>true|j+1=>match l[j]?,l[j+1]? with|some a,some b=>Op.bytesLess a.fName.toList b.fName.toList|_,_=>true
theorem dbAt_s {l:List TableD}{j:Nat}{a b:TableD}(ha:l[j]?=some a) (hb:l[j+1]?=some b):dbAt l (j+1)=Op.bytesLess a.fName.toList b.fName.toList:=by simp only [dbAt,ha,hb]
def validDb (d:DatabaseD):Bool:=d.fTables.all validTable&&((List.range d.fTables.length).all (dbAt d.fTables)&&decide (d.fTables.length<=6))
theorem validDb_t {d:DatabaseD}{k:Nat}{x:TableD}(hx:d.fTables[k]?=some x) (h:validTable x=false):validDb d=false:=by
 have:d.fTables.all validTable=false:=by
  rw [Bool.eq_false_iff];intro h2;rw [List.all_eq_true]at h2;rw [h2 x (mem_of_at hx)]at h;cases h
 simp [validDb,this]
theorem validDb_a {d:DatabaseD}{k:Nat}(hk:k<d.fTables.length) (h:dbAt d.fTables k=false):validDb d=false:=by
 simp [validDb,range_all_no hk h]
end Go.Proofs.Ytjckbnmbhgikjaa
