/-
  Rwp, Exe
-/
import Derived.Test.YtpodldagcnfhlaaGreatExp
import Derived.Test.YtpodldagcnfhlaaGreatRu
import Derived.Test.YtpodldagcnfhlaaGreatMop
import Derived.Test.YtpodldagcnfhlaaGreatKeep
import Derived.Test.YtpodldagcnfhlaaGreatCpr
import Derived.Test.YtpodldagcnfhlaaGreatPis
namespace Go.Proofs.YtpodldagcnfhlaaGreat
open Go.RowKit
set_option linter.unusedVariables false
set_option linter.unusedSimpArgs false
def sizesL (L:List StreamD):List Int:=L.map fun s=>(s.fRows.length:Int)
def nAt (n:List Int) (i:Int):Int:=(n[i.toNat]?).getD 0
def actL (y:StepInfoD) (n:List Int) (i:Int):Int:=if y.fLeft<0 then roundUp (nAt n i) else roundUp (nAt n y.fLeft)
def actR (y:StepInfoD) (n:List Int):Int:=if y.fRight<0 then 0 else roundUp (nAt n y.fRight)
/-- the actual cost of step i -/
def actCost (m:ModelD) (x:PlanStepD) (y:StepInfoD) (n:List Int) (i:Nat):Int:=opCostV (opOf m x.fKind) (actL y n i) (actR y n) (roundUp (nAt n i))
def actAt (m:ModelD) (p:List PlanStepD) (l:List StepInfoD) (n:List Int) (i:Nat):Int:=match p[i]?,l[i]? with
 | some x,some y=>actCost m x y n i
 | _,_=>0
def actSum (m:ModelD) (p:List PlanStepD) (l:List StepInfoD) (n:List Int) (k:Nat):Int:=((List.range k).map (actAt m p l n)).sum
theorem actSum_snoc (m:ModelD) (p:List PlanStepD) (l:List StepInfoD) (n:List Int) (k:Nat):actSum m p l n (k+1)=actSum m p l n k+actAt m p l n k:=by unfold actSum;rw [List.range_succ,List.map_append,List.sum_append];simp
theorem actAt_bd (m:ModelD) (p:List PlanStepD) (l:List StepInfoD) (n:List Int) (k:Nat):-2000000000<=actAt m p l n k/\actAt m p l n k<=2000000000:=by
 unfold actAt;split
 ·exact opCostV_bd
 ·omega
theorem actSum_bd (m:ModelD) (p:List PlanStepD) (l:List StepInfoD) (n:List Int) (k:Nat):-2000000000*(k:Int)<=actSum m p l n k/\actSum m p l n k<=2000000000*(k:Int):=by
 induction k with
 | zero=>simp [actSum]
 | succ k ih=>have:=actAt_bd m p l n k;rw [actSum_snoc];push_cast;omega
/-- what RunSizes hands back -/
def runSizes (d:DatabaseD) (q:QueryD) (p:PlanD):List Int:=match execD d q p with
 | some (_,L)=>sizesL L
 | none=>[]
def runPlan (d:DatabaseD) (q:QueryD) (p:PlanD):StreamD × Bool:=match execD d q p with
 | some (_,L)=>(strAt L ((L.length:Int) - 1),true)
 | none=>(⟨[],[]⟩,false)
def actualCost (m:ModelD) (d:DatabaseD) (q:QueryD) (p:PlanD):Int:=match execD d q p with
 | some (l,L)=>actSum m p.fSteps l (sizesL L) p.fSteps.length
 | none=>-1
theorem execD_yes {d:DatabaseD}{q:QueryD}{p:PlanD}{l:List StepInfoD}(h:planInfo q p=some l) (hd:queryFor d q=true):execD d q p=some (l,runSteps d q (p.fSteps.zip l)):=by unfold execD;rw [h];simp [hd]
theorem execD_no1 {d:DatabaseD}{q:QueryD}{p:PlanD}(h:planInfo q p=none):execD d q p=none:=by unfold execD;rw [h]
theorem execD_no2 {d:DatabaseD}{q:QueryD}{p:PlanD}(h:queryFor d q=false):execD d q p=none:=by unfold execD;cases planInfo q p<;>simp [h]
theorem execD_some {d:DatabaseD}{q:QueryD}{p:PlanD}{l:List StepInfoD}{L:List StreamD}(h:execD d q p=some (l,L)):Exec d q p.fSteps l L/\1<=p.fSteps.length/\p.fSteps.length<=14/\planInfo q p=some l/\queryFor d q=true:=by
 cases hp:planInfo q p with
 | none=>rw [execD_no1 hp]at h;cases h
 | some l' =>
  cases hd:queryFor d q with
  | false=>rw [execD_no2 hd]at h;cases h
  | true =>
   rw [execD_yes hp hd]at h
   injection h with h;injection h with h1 h2;subst h1;subst h2
   obtain⟨a,b,c⟩:=exec_parts hd hp
   exact⟨a,b,c,rfl,rfl⟩
theorem Exec.size {d:DatabaseD}{q:QueryD}{p:List PlanStepD}{l:List StepInfoD}{L:List StreamD}(E:Exec d q p l L) {i:Nat}{s:StreamD}(h:L[i]?=some s):s.fRows.length<=4096:=by
 have hi:i<l.length:=by rw [E.li,<- E.lL];exact lt_of_at h
 exact(validStream_parts (E.good i l[i] s (List.getElem?_eq_getElem hi) h).val).2.2
theorem nAt_sizes {L:List StreamD}{i:Nat}{s:StreamD}(h:L[i]?=some s):nAt (sizesL L) (i:Int)=s.fRows.length:=by
 unfold nAt sizesL;rw [Int.toNat_natCast,List.getElem?_map,h];rfl
end Go.Proofs.YtpodldagcnfhlaaGreat
namespace Go.Proofs.YtpodldagcnfhlaaGreat
open Go.RowKit
set_option linter.unusedVariables false
set_option linter.unusedSimpArgs false
theorem RS.eStream {M M':Nat}{w:World}{A:Option Addr}{n cap:Nat}{l:List StreamD}(h:RS M (rStream M') w A n cap l) {k:Nat}(hk:k<n) :
  ∃ b off x A1 n1 c1 A2 n2 c2,A=some ⟨b,off,none⟩/\w.cell? ⟨b,off+k*2,none⟩=some (.slice A1 n1 c1)/\w.cell? ⟨b,off+k*2+1,none⟩=some (.slice A2 n2 c2)/\(rStream M').rep w [.slice A1 n1 c1,.slice A2 n2 c2] x/\Hid (l[k]?=some x):=by
 obtain⟨b,off,x,cs,e,hrep,hc,hx⟩:=h.at_ hk
 have hrep2:=hrep
 obtain⟨A1,n1,c1,A2,n2,c2,rfl,_⟩:=rStream_rep.1 hrep
 exact⟨b,off,x,A1,n1,c1,A2,n2,c2,e,hc 0 _ rfl,hc 1 _ rfl,hrep2,hx⟩
theorem eiStream:Ei Tryz.prog 125 35 (.agg #[.slice none 0 0,.slice none 0 0]) (rStream NB).size 48:=⟨by kernel_rfl,by kernel_rfl,rfl⟩
/-- a stream stored in its box -/
theorem ex_store {wx wy wc:World}{A1 A2:Option Addr}{n1 c1 n2 c2:Nat}{fp:List Nat}{s:StreamD}{u v:Value}(hk:Bk wc wx.heap.size 35 [u,v]) (hgy:wx.heap.size<wy.heap.size) (hx:Below wx.heap.size wx wc) (ho:(rStream NB).own wc fp [.slice A1 n1 c1,.slice A2 n2 c2] s) (hf:Fr wy.heap.size fp) :
  ∃ W,W=(wc.setCell ⟨wx.heap.size,0,none⟩ (.slice A1 n1 c1)).setCell ⟨wx.heap.size,1,none⟩ (.slice A2 n2 c2)/\Bk W wx.heap.size 35 [.slice A1 n1 c1,.slice A2 n2 c2]/\(rStream NB).own W fp [.slice A1 n1 c1,.slice A2 n2 c2] s/\Below wx.heap.size wx W/\Fr wx.heap.size fp:=by
 have hs:∀ k,k≠wx.heap.size->((wc.setCell ⟨wx.heap.size,0,none⟩ (.slice A1 n1 c1)).setCell ⟨wx.heap.size,1,none⟩ (.slice A2 n2 c2)).heap[k]?=wc.heap[k]?:=fun k hk=>(heap_setCell_other _ ⟨wx.heap.size,1,none⟩ k _ (fun e=>hk e)).trans (heap_setCell_other _ ⟨wx.heap.size,0,none⟩ k _ (fun e=>hk e))
 exact⟨_,rfl,(hk.set 0 _).set 1 _,(rStream_ok NB).okeep ho (fun k hk=>hs k (by have:=hf.ge k hk;omega)),bls2 hx (Nat.le_refl _) _ _,hf.mono (Nat.le_of_lt hgy)⟩
theorem RetVB.pair {α:Type}{r:Rp α}{f:α × Bool}{x:α}{b:Bool}(h:f=(x,b)) {w w':World}{e:Ending}(g:RetVB r f.1 (.bool f.2) w e w'):RetVB r x (.bool b) w e w':=by subst h;exact g
/-- what is handed back: the infos, the streams, and whether all went well -/
def ExR (d:DatabaseD) (q:QueryD) (p:PlanD) (b:Bool) (li:List StepInfoD) (L:List StreamD):Prop:=match execD d q p with
 | some (l,M)=>b=true/\li=l/\L=M
 | none=>b=false/\L=[]
theorem ExR.yes {d:DatabaseD}{q:QueryD}{p:PlanD}{l:List StepInfoD}{L:List StreamD}(h:execD d q p=some (l,L)):ExR d q p true l L:=by unfold ExR;rw [h];exact⟨rfl,rfl,rfl⟩
theorem ExR.no {d:DatabaseD}{q:QueryD}{p:PlanD}(h:execD d q p=none) (li:List StepInfoD):ExR d q p false li []:=by unfold ExR;rw [h];exact⟨rfl,rfl⟩
def RetExI (d:DatabaseD) (q:QueryD) (p:PlanD) (w:World) (e:Ending) (w':World):Prop:=∃ (AI:Option Addr) (nI cI:Nat) (li:List StepInfoD) (AL:Option Addr) (nL cL:Nat) (L:List StreamD) (b:Bool),e=.returned (.tuple #[.slice AI nI cI,.slice AL nL cL,.bool b])/\ExR d q p b li L/\MS w.heap.size NB 150 (rStepInfo NB) w' AI nI cI li/\MS w.heap.size NB 35 (rStream NB) w' AL nL cL L/\Below w.heap.size w w'
def RetExS (d:DatabaseD) (q:QueryD) (p:PlanD) (w:World) (e:Ending) (w':World):Prop:=∃ (AI:Option Addr) (nI cI:Nat) (li:List StepInfoD) (AL:Option Addr) (nL cL:Nat) (L:List StreamD) (b:Bool),e=.returned (.tuple #[.slice AL nL cL,.slice AI nI cI,.bool b])/\ExR d q p b li L/\MS w.heap.size NB 150 (rStepInfo NB) w' AI nI cI li/\MS w.heap.size NB 35 (rStream NB) w' AL nL cL L/\Below w.heap.size w w'
section
variable {d:DatabaseD} {q:QueryD} {x:PlanStepD} {y:StepInfoD} {L:List StreamD} {i j:Nat} {a b:StreamD} {r:StreamD × Bool}
theorem run_scan (hr:stepRun d q x y L=r) (h:x.fKind=1):scan d q x.fAtom=r:=by rw [<- hr];unfold stepRun;rw [if_pos h]
theorem run_sort (hr:stepRun d q x y L=r) (h:x.fKind=2) (hl:y.fLeft=i) (ha:L[i]?=some a):sortStream a x.fOrder=r:=by rw [<- hr];unfold stepRun;rw [if_neg (by omega),if_pos h,hl,strAt_at ha]
theorem run_hash (hr:stepRun d q x y L=r) (h:x.fKind=3) (hl:y.fLeft=i) (hj:y.fRight=j) (ha:L[i]?=some a) (hb:L[j]?=some b):hashJoin a b=r:=by rw [<- hr];unfold stepRun;rw [if_neg (by omega),if_neg (by omega),if_pos h,hl,hj,strAt_at ha,strAt_at hb]
theorem run_merge (hr:stepRun d q x y L=r) (h:x.fKind=4) (hl:y.fLeft=i) (hj:y.fRight=j) (ha:L[i]?=some a) (hb:L[j]?=some b):mergeJoin a b x.fOrder=r:=by rw [<- hr];unfold stepRun;rw [if_neg (by omega),if_neg (by omega),if_neg (by omega),if_pos h,hl,hj,strAt_at ha,strAt_at hb]
theorem run_nest (hr:stepRun d q x y L=r) (h:x.fKind=5) (hl:y.fLeft=i) (hj:y.fRight=j) (ha:L[i]?=some a) (hb:L[j]?=some b):nestedJoin a b=r:=by rw [<- hr];unfold stepRun;rw [if_neg (by omega),if_neg (by omega),if_neg (by omega),if_neg (by omega),hl,hj,strAt_at ha,strAt_at hb]
end
end Go.Proofs.YtpodldagcnfhlaaGreat
