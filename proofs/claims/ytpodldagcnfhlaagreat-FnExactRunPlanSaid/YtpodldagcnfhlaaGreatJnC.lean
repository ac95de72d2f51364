/-
  JnC
-/
import Derived.Test.YtpodldagcnfhlaaGreatJnU
import Derived.Test.YtpodldagcnfhlaaGreatMarkC
import Derived.Test.YtpodldagcnfhlaaGreatExe
namespace Go.Proofs.YtpodldagcnfhlaaGreat
open Go.RowKit
set_option linter.unusedVariables false
theorem unionI_le (a b:List Int):(unionI a b).length<=4:=by
 unfold unionI
 refine Nat.le_trans (List.length_filter_le _ _) ?_
 simp
theorem cntS4 {R:List (List Int)}(h:∀ r∈R,r.length<=4):cnt_IntSS R<=4*R.length:=by
 unfold cnt_IntSS cntS
 induction R with
 | nil=>simp
 | cons r R ih =>
  have h1:=h r (List.mem_cons_self ..)
  have h2:=ih (fun q hq=>h q (List.mem_cons_of_mem _ hq))
  simp only [List.map_cons,List.sum_cons,List.length_cons,cnt_IntS]at h2 ⊢
  have:(List.map cnt_IntS R).sum=(List.map (fun l=>cnt_IntS l) R).sum:=rfl
  omega
theorem cnt_capS {V:List Int}{R:List (List Int)}(hV:V.length<=4) (hR:∀ r∈R,r.length<=4):cnt_Stream (capS V R).1<=1099511627776:=by
 unfold capS
 split
 ·have:=cntS4 hR
  show cnt_IntS V+cnt_IntSS R<=_
  unfold cnt_IntS;omega
 ·show cnt_IntS []+cnt_IntSS []<=_
  simp [cnt_IntS,cnt_IntSS,cntS]
theorem nest_mem {α β γ:Type}{f:α->β->Option γ}{xs:List α}{ys:List β}{r:γ}(h:r∈nestRows f xs ys):∃ x y,f x y=some r:=by
 unfold nestRows at h
 obtain⟨x,_,h⟩:=List.mem_flatMap.1 h
 obtain⟨y,_,h⟩:=List.mem_filterMap.1 h
 exact⟨x,y,h⟩
theorem joinBy_len {a b:StreamD}{x y r:List Int}(h:joinBy a b x y=some r):r.length<=4:=by
 unfold joinBy joinOpt at h
 split at h
 ·injection h with h;subst h;unfold joinRow;rw [List.length_map];exact unionI_le _ _
 ·cases h
theorem cnt_zero:cnt_Stream (⟨[],[]⟩:StreamD)<=1099511627776:=by
 show cnt_IntS []+cnt_IntSS []<=_
 simp [cnt_IntS,cnt_IntSS,cntS]
theorem cnt_hash (a b:StreamD):cnt_Stream (hashJoin a b).1<=1099511627776:=by
 unfold hashJoin
 split
 ·exact cnt_capS (unionI_le _ _) (fun r hr=>by obtain⟨x,y,h⟩:=nest_mem hr;exact joinBy_len h)
 ·exact cnt_zero
theorem cnt_nested (a b:StreamD):cnt_Stream (nestedJoin a b).1<=1099511627776:=by
 unfold nestedJoin
 split
 ·exact cnt_capS (unionI_le _ _) (fun r hr=>by obtain⟨x,y,h⟩:=nest_mem hr;exact joinBy_len h)
 ·exact cnt_zero
end Go.Proofs.YtpodldagcnfhlaaGreat
namespace Go.Proofs.YtpodldagcnfhlaaGreat
open Go.RowKit
theorem cnt_valid {x:StreamD}(h:validStream x=true):cnt_Stream x<=1099511627776:=by
 obtain⟨h1,h2,h3⟩:=validStream_parts h
 have hV:x.fVars.length<=4:=pw_len 0 4 (colsOk_pw h1) (fun c hc=>by have:=colsOk_mem h1 hc;omega)
 have h4:=cntS4 (R:=x.fRows) (fun r hr=>by rw [rowOk_len (h2 r hr)];exact hV)
 show cnt_IntS x.fVars+cnt_IntSS x.fRows<=_
 unfold cnt_IntS;omega
theorem cnt_runPlan (d:DatabaseD) (q:QueryD) (p:PlanD):cnt_Stream (runPlan d q p).1<=1099511627776:=by
 unfold runPlan
 cases h:execD d q p with
 | none=>exact cnt_zero
 | some z =>
  obtain⟨l,L⟩:=z
  obtain⟨E,h1,_⟩:=execD_some h
  have hL:=E.lL
  have hk:L.length - 1<L.length:=by omega
  have hl:L.length - 1<l.length:=by rw [E.li];omega
  have g:=E.good (L.length - 1) l[L.length - 1] L[L.length - 1] (List.getElem?_eq_getElem hl) (List.getElem?_eq_getElem hk)
  show cnt_Stream (strAt L ((L.length:Int) - 1))<=_
  rw [show((L.length:Int) - 1)=((L.length - 1:Nat):Int) by omega,strAt_at (List.getElem?_eq_getElem hk)]
  exact cnt_valid g.val
end Go.Proofs.YtpodldagcnfhlaaGreat
