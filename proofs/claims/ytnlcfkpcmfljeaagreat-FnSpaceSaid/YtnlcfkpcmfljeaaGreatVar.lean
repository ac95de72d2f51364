/-
  Var
-/
import Derived.Test.YtnlcfkpcmfljeaaGreatEqLib
set_option linter.unusedSimpArgs false
set_option linter.unusedVariables false
set_option maxHeartbeats 1600000
set_option maxRecDepth 100000
namespace Go.Proofs.YtnlcfkpcmfljeaaGreat
open Go.RowKit
def varT (v:Int):ByteArray:=if v=0 then ⟨#[88]⟩ else if v=1 then ⟨#[89]⟩ else if v=2 then ⟨#[90]⟩ else if v=3 then ⟨#[85]⟩ else ⟨#[]⟩
theorem varT_le (v:Int):(varT v).size<=1:=by
 unfold varT;repeat' split
 all_goals decide
theorem varT_out {v:Int}(h:inR v 0 3=false):varT v=⟨#[]⟩:=by
 have:=inR_f.1 h;unfold varT;rw [if_neg (by omega),if_neg (by omega),if_neg (by omega),if_neg (by omega)]
theorem sVariableName_c (v:Int) (w:World):Calls Tryz.prog 213 #[.int .i64 v] w fun e w'=>e=.returned (.string (varT v))/\w'=w:=by
 cases h:inR v 0 3
 ·have HN:=Lib.hid (varT_out h)
  have K:=Lib.hid (fun W=>l1In_v h W);clear h
  go_enter Tryz.func213,Tryz.ntmps213
  go_wp2_with (go_at_call 51;refine(K.out _).mono ?_;rintro e w' ⟨rfl,hww⟩;replace hww:=hww.symm;subst hww)
  go_ret;exact⟨by rw [HN.out];rfl,rfl⟩
 ·have h4:v=0\/v=1\/v=2\/v=3:=by have:=inR_t.1 h;omega
  have K:=Lib.hid (fun W=>l1In_v h W);clear h;rcases h4 with rfl|rfl|rfl|rfl
  all_goals
   go_enter Tryz.func213,Tryz.ntmps213
   go_wp2_with (go_at_call 51;refine(K.out _).mono ?_;rintro e w' ⟨rfl,hww⟩;replace hww:=hww.symm;subst hww)
   go_ret;exact⟨rfl,rfl⟩
end Go.Proofs.YtnlcfkpcmfljeaaGreat
