/-
  JnI, Join
-/
import Derived.Test.YtiafklphblkpbaaGreatKeep
import Derived.Test.YtiafklphblkpbaaGreatSrt
import Derived.Test.YtiafklphblkpbaaGreatStr
import Derived.Test.YtiafklphblkpbaaGreatJnS
import Derived.Test.YtiafklphblkpbaaGreatTo
import Derived.Test.YtiafklphblkpbaaGreatCopy
import Derived.Test.YtiafklphblkpbaaGreatMarkB
import Derived.Deep.RegionHeld3
namespace Go.Proofs.YtiafklphblkpbaaGreat
open Go.RowKit
set_option linter.unusedVariables false
set_option linter.unusedSimpArgs false

theorem joinOpt_yes {vars a b x y:List Int}(h:vars.all (agreeAt a x b y)=true) (hm:∀ v,v∈vars↔v∈a\/v∈b):joinOpt vars a b x y=some (joinRow vars a x b y):=by
 unfold joinOpt;rw [<- agree_vars hm,h];rfl
theorem joinOpt_no {vars a b x y:List Int}{v:Int}(hv:v∈vars) (h:agreeAt a x b y v=false) (hm:∀ v,v∈vars↔v∈a\/v∈b):joinOpt vars a b x y=none:=by
 unfold joinOpt
 rw [<- agree_vars hm]
 have:vars.all (agreeAt a x b y)=false:=by
  rw [Bool.eq_false_iff];intro h2;rw [List.all_eq_true]at h2;rw [h2 v hv]at h;cases h
 rw [this];rfl
theorem slicesIndex_v {A:Option Addr}{n cap:Nat}{l:List Int}{x v:Int}{w:World}(hv:idxOf (fun b=>b==x) l=v) (hr:RS NB rInt w A n cap l) :
  Calls Tryz.prog 50 #[.slice A n cap,.int .i64 x] w fun e w'=>e=.returned (.int .i64 v)/\w'=w:=hv▸slicesIndex_q A n cap l x w hr
end Go.Proofs.YtiafklphblkpbaaGreat
namespace Go.Proofs.YtiafklphblkpbaaGreat
open Go.RowKit
set_option linter.unusedVariables false
set_option linter.unusedSimpArgs false

theorem union_iff {a b:List Int}(ha:colsOk a 4=true) (hb:colsOk b 4=true) (v:Int):v∈unionI a b↔v∈a\/v∈b:=by
 rw [unionI_mem]
 constructor
 ·exact fun h=>h.2
 ·intro h
  refine⟨?_,h⟩
  rcases h with h|h
  ·have:=colsOk_mem ha h;omega
  ·have:=colsOk_mem hb h;omega
theorem validStream_parts {x:StreamD}(h:validStream x=true):colsOk x.fVars 4=true/\(∀ r∈x.fRows,rowOk r x.fVars.length=true)/\x.fRows.length<=4096:=by
 unfold validStream at h
 simp only [Bool.and_eq_true,List.all_eq_true,decide_eq_true_eq]at h
 exact⟨h.1,h.2.1,h.2.2⟩
theorem rowOk_len {r:List Int}{n:Nat}(h:rowOk r n=true):r.length=n:=by
 unfold rowOk at h
 simp only [Bool.and_eq_true,decide_eq_true_eq]at h
 omega
theorem bset2 {B:Nat}{a w:World}(h:Below B a w) {Y:Nat}(hY:B<=Y) (u v:Value):Below B a ((w.setCell ⟨Y,0,none⟩ u).setCell ⟨Y,1,none⟩ v):=(h.setCell hY _).setCell hY _
theorem rows_len {α β γ:Type}(f:α->β->Option γ) (xs:List α) (ys:List β) (k:Nat) (x:α) (hx:xs[k]?=some x) (h:¬ (nestRows f (xs.take (k+1)) ys).length<=4096):¬ (nestRows f xs ys).length<=4096:=by
 have:=nest_le (f:=f) (xs:=xs) (ys:=ys) (k+1);omega
theorem capS_full {vars:List Int}{r r':List (List Int)}(h:¬ r.length<=4096) (h':¬ r'.length<=4096):capS vars r=capS vars r':=by unfold capS;rw [if_neg h,if_neg h']
theorem fmt_snoc {α γ:Type}{f:α->Option γ}{ys:List α}{k:Nat}{y:α}(r:List γ) (h:ys[k]?=some y):r++(ys.take (k+1)).filterMap f=(r++(ys.take k).filterMap f)++(f y).toList:=by rw [fm_snoc h,List.append_assoc]

end Go.Proofs.YtiafklphblkpbaaGreat
