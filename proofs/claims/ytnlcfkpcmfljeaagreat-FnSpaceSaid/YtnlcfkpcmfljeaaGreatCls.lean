/-
  Cls
-/
import Derived.Test.YtnlcfkpcmfljeaaGreatTypes
import Derived.Test.YtnlcfkpcmfljeaaGreatKeep
import Derived.IntWalk
set_option linter.unusedSimpArgs false
set_option linter.unusedVariables false
set_option maxHeartbeats 800000
namespace Go.Proofs.YtnlcfkpcmfljeaaGreat
open Go.RowKit
def clsSize (k:Int):Int:=if k=0 then 0 else if k=1 then 1 else if k=2 then 4 else if k=3 then 16 else if k=4 then 64 else if k=5 then 256 else if k=6 then 1024 else if k=7 then 4096 else -1
theorem clsSize_bd {k:Int}(h0:0<=k) (h1:k<=7):0<=clsSize k/\clsSize k<=4096:=by
 unfold clsSize;repeat' split
 all_goals omega
theorem clsSize_out {k:Int}(h:k<0\/7<k):clsSize k=-1:=by
 unfold clsSize;repeat' split
 all_goals omega
theorem clsSize_succ {i:Nat}(h:i<7):clsSize ((i:Int)+1)=max 1 (clsSize i*4):=by
 have:i=0\/i=1\/i=2\/i=3\/i=4\/i=5\/i=6:=by omega
 rcases this with rfl|rfl|rfl|rfl|rfl|rfl|rfl<;>decide
theorem iClassSize_q (k:Int) (w:World) :
  Calls Tryz.prog 143 #[.int .i64 k] w fun e w'=>e=.returned (.int .i64 (clsSize k))/\w'=w:=by
 cases h:inR k 0 7
 ·have HO:=Lib.hid (clsSize_out (by have:=inR_f.1 h;omega))
  go_enter Tryz.func143,Tryz.ntmps143
  go_wp2_with (go_at_call 89;refine(within_v h _).mono ?_;rintro e w' ⟨rfl,rfl⟩)
  go_ret;exact⟨ret_int (a:=-1) HO.out.symm,rfl⟩
 have h7:=inR_t.1 h;have:k=0\/k=1\/k=2\/k=3\/k=4\/k=5\/k=6\/k=7:=by omega
 rcases this with rfl|rfl|rfl|rfl|rfl|rfl|rfl|rfl
 all_goals
  clear h7;have K:=Lib.hid (fun W=>within_v h W);clear h
  go_enter Tryz.func143,Tryz.ntmps143
  go_wp2_with (go_at_call 89;refine(K.out _).mono ?_;rintro e w' ⟨rfl,rfl⟩)
  go_ret;exact⟨ret_int (by decide),rfl⟩
theorem sClassSize_q (k:Int) (w:World) :
  Calls Tryz.prog 131 #[.int .i64 k] w fun e w'=>e=.returned (.int .i64 (clsSize k))/\w'=w:=by
 cases h:inR k 0 7
 ·have HO:=Lib.hid (clsSize_out (by have:=inR_f.1 h;omega))
  go_enter Tryz.func131,Tryz.ntmps131
  go_wp2_with (go_at_call 51;refine(l1In_v h _).mono ?_;rintro e w' ⟨rfl,rfl⟩)
  go_ret;exact⟨ret_int (a:=-1) HO.out.symm,rfl⟩
 have h7:=inR_t.1 h;obtain⟨j,rfl⟩:∃ j:Nat,k=j:=⟨k.toNat,by omega⟩;have K:=Lib.hid (fun W=>l1In_v h W);clear h
 go_enter Tryz.func131,Tryz.ntmps131
 go_wp2_with (go_at_call 51;refine(K.out _).mono ?_;rintro e w' ⟨rfl,rfl⟩)
 go_loop [3,4] (fun n i=>∃ (q:Nat) (s:Int),q<=j/\i=.int .i64 q/\n=.int .i64 s/\s=clsSize q) (fun _ i=>j - (intOf i).toNat)
 case atStart=>exact⟨0,0,Nat.zero_le _,rfl,rfl,by decide⟩
 case round =>
  obtain⟨q,s,hq,rfl,rfl,hs⟩:=hrel;have hb:=clsSize_bd (k:=q) (by omega) (by omega);rw [<- hs]at hb;have HS:=Lib.hid hs;clear hs;by_cases hlt:q<j
  ·have HN:=Lib.hid (clsSize_succ (i:=q) (by omega))
   by_cases hm:s*4<1
   ·go_wp2
    go_round
    case rel=>exact⟨q+1,max 1 (s*4),by omega,by go_num,by congr 1;omega,by rw [HS.out,<- HN.out];rfl⟩
    case measure=>simp [intOf];omega
   ·go_wp2
    go_round
    case rel=>exact⟨q+1,max 1 (s*4),by omega,by go_num,by congr 1;omega,by rw [HS.out,<- HN.out];rfl⟩
    case measure=>simp [intOf];omega
  ·go_wp2
   go_ret;exact⟨ret_int (by rw [HS.out,show q=j by omega]),rfl⟩
end Go.Proofs.YtnlcfkpcmfljeaaGreat
