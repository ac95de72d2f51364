/-
  Slk
-/
import Derived.Test.YtnlcfkpcmfljeaaGreatLoc
set_option linter.unusedSimpArgs false
set_option linter.unusedVariables false
set_option maxHeartbeats 800000
namespace Go.Proofs.YtnlcfkpcmfljeaaGreat
open Go.RowKit
def slackOf (b s:Int):Int:=if inR b 0 1000000000000&&inR s 0 100 then b*(100+s) / 100 else -1
theorem slack_rng {b s:Int}(h1:inR b 0 1000000000000=true) (h2:inR s 0 100=true):0<=b/\0<=b*(100+s)/\b*(100+s)<=200000000000000/\b<=b*(100+s) / 100:=by
 have g1:=inR_t.1 h1;have g2:=inR_t.1 h2;have a1:b*100<=b*(100+s):=Int.mul_le_mul_of_nonneg_left (by omega) (by omega);have a2:b*(100+s)<=b*200:=Int.mul_le_mul_of_nonneg_left (by omega) (by omega);refine⟨by omega,by omega,by omega,?_⟩;omega
theorem sSlackBudget_c (b s:Int) (w:World):Calls Tryz.prog 170 #[.int .i64 b,.int .i64 s] w fun e w'=>e=.returned (.int .i64 (slackOf b s))/\w=w':=by
 cases h1:inR b 0 1000000000000
 ·go_enter Tryz.func170,Tryz.ntmps170
  go_wp2_with (go_at_call 51;refine(l1In_c _ _ _ _).mono ?_;rintro e w' ⟨rfl,rfl⟩)
  go_ret;exact⟨ret_int (a:=-1) (by simp [slackOf,h1]),rfl⟩
 cases h2:inR s 0 100
 ·go_enter Tryz.func170,Tryz.ntmps170
  go_wp2_with (go_at_call 51;refine(l1In_c _ _ _ _).mono ?_;rintro e w' ⟨rfl,rfl⟩)
  go_ret;exact⟨ret_int (a:=-1) (by simp [slackOf,h2]),rfl⟩
 obtain⟨g1,g2,g3,g4⟩:=slack_rng h1 h2;have k2:=inR_t.1 h2;have HE:Hid (slackOf b s=b*(100+s) / 100):=by show slackOf b s=_;simp [slackOf,h1,h2]
 go_enter Tryz.func170,Tryz.ntmps170
 go_wp2_with (go_at_call 51;refine(l1In_c _ _ _ _).mono ?_;rintro e w' ⟨rfl,rfl⟩)
 go_ret;exact⟨ret_int (by rw [HE.out]),rfl⟩
theorem iSlackBudget_c (b s:Int) (w:World):Calls Tryz.prog 112 #[.int .i64 b,.int .i64 s] w fun e w'=>e=.returned (.int .i64 (slackOf b s))/\w=w':=by
 cases h1:inR b 0 1000000000000
 ·go_enter Tryz.func112,Tryz.ntmps112
  go_wp2_with (go_at_call 89;refine(within_c _ _ _ _).mono ?_;rintro e w' ⟨rfl,rfl⟩)
  go_ret;exact⟨ret_int (a:=-1) (by simp [slackOf,h1]),rfl⟩
 cases h2:inR s 0 100
 ·go_enter Tryz.func112,Tryz.ntmps112
  go_wp2_with (go_at_call 89;refine(within_c _ _ _ _).mono ?_;rintro e w' ⟨rfl,rfl⟩)
  go_ret;exact⟨ret_int (a:=-1) (by simp [slackOf,h2]),rfl⟩
 obtain⟨g1,g2,g3,g4⟩:=slack_rng h1 h2;have k2:=inR_t.1 h2;have HE:Hid (slackOf b s=b*(100+s) / 100):=by show slackOf b s=_;simp [slackOf,h1,h2]
 go_enter Tryz.func112,Tryz.ntmps112
 go_wp2_with (go_at_call 89;refine(within_c _ _ _ _).mono ?_;rintro e w' ⟨rfl,rfl⟩)
 go_ret;exact⟨ret_int (by rw [HE.out]),rfl⟩
theorem sSlackBudget_w {b s m:Int}(h:slackOf b s=m) (w:World):Calls Tryz.prog 170 #[.int .i64 b,.int .i64 s] w fun e w'=>e=.returned (.int .i64 m)/\w'=w:=(h▸sSlackBudget_c b s w).mono fun e w' q=>⟨q.1,q.2.symm⟩
theorem iSlackBudget_w {b s m:Int}(h:slackOf b s=m) (w:World):Calls Tryz.prog 112 #[.int .i64 b,.int .i64 s] w fun e w'=>e=.returned (.int .i64 m)/\w'=w:=(h▸iSlackBudget_c b s w).mono fun e w' q=>⟨q.1,q.2.symm⟩
end Go.Proofs.YtnlcfkpcmfljeaaGreat
