/-
  Ru
-/
import Derived.Test.YtpodldagcnfhlaaGreatCls
namespace Go.Proofs.YtpodldagcnfhlaaGreat
open Go.RowKit
set_option linter.unusedVariables false
set_option linter.unusedSimpArgs false
/-- the class of a size 0 .. 4096 -/
def sizeCls (n:Int):Int:=if n<=0 then 0 else if n<=1 then 1 else if n<=4 then 2 else if n<=16 then 3 else if n<=64 then 4 else if n<=256 then 5 else if n<=1024 then 6 else 7
def roundUp (n:Int):Int:=clsSize (sizeCls n)
theorem sizeCls_bd (n:Int):0<=sizeCls n/\sizeCls n<=7:=by
 unfold sizeCls;repeat' split
 all_goals omega
theorem roundUp_bd (n:Int):0<=roundUp n/\roundUp n<=4096:=clsSize_bd (sizeCls_bd n).1 (sizeCls_bd n).2
theorem cls_iff {n k:Int}(h:n<=4096) (h0:0<=k) (hk:k<=7):n<=clsSize k↔sizeCls n<=k:=by
 unfold clsSize sizeCls
 repeat' split
 all_goals omega
set_option maxHeartbeats 800000 in
theorem sSizeClass_q (n:Int) (w:World) (h0:0<=n) (h1:n<=4096) :
  Calls Tryz.prog 103 #[.int .i64 n] w fun e w'=>e=.returned (.int .i64 (sizeCls n))/\w'=w:=by
 have hb:=sizeCls_bd n
 have K:=Lib.hid (fun W=>within_v (inR_t.2 ⟨h0,h1⟩) W)
 have h00:¬ n<0:=by omega
 go_enter Tryz.func103,Tryz.ntmps103
 go_wp2_with (go_at_call 55;refine(K.out _).mono ?_;rintro e w' ⟨rfl,rfl⟩)
 go_loop [3] (fun i=>∃ k:Nat,(k:Int)<=sizeCls n/\i=.int .i64 k) (fun i=>8 - (intOf i).toNat)
 case atStart=>exact⟨0,by omega,rfl⟩
 case round =>
  obtain⟨k,hk,rfl⟩:=hrel
  have hi:=cls_iff (k:=(k:Int)) h1 (by omega) (by omega)
  have d7:(k:Int)<=7:=by omega
  by_cases hc:n<=clsSize k
  ·have HK:=Lib.hid (show sizeCls n=(k:Int) by have:=hi.1 hc;omega)
   have dc:decide (n<=clsSize k)=true:=decide_eq_true hc
   clear hi
   go_wp2_with (go_at_call 168;refine(sClassSize_q _ _).mono ?_;rintro e w' ⟨rfl,rfl⟩)
   go_ret
   exact⟨ret_int HK.out.symm,rfl⟩
  ·have HK:=Lib.hid (show((k+1:Nat):Int)<=sizeCls n by have:=fun h=>hc (hi.2 h);push_cast;omega)
   have dc:decide (n<=clsSize k)=false:=decide_eq_false hc
   have hk7:k<8:=by omega
   clear hi
   go_wp2_with (go_at_call 168;refine(sClassSize_q _ _).mono ?_;rintro e w' ⟨rfl,rfl⟩)
   go_round
   case rel=>exact⟨k+1,HK.out,by go_num⟩
   case measure=>simp [intOf];omega
set_option maxHeartbeats 800000 in
theorem iSizeClass_q (n:Int) (w:World) (h0:0<=n) (h1:n<=4096) :
  Calls Tryz.prog 109 #[.int .i64 n] w fun e w'=>e=.returned (.int .i64 (sizeCls n))/\w'=w:=by
 have hb:=sizeCls_bd n
 have K:=Lib.hid (fun W=>within_v (inR_t.2 ⟨h0,h1⟩) W)
 have h00:¬ n<0:=by omega
 go_enter Tryz.func109,Tryz.ntmps109
 go_wp2_with (go_at_call 55;refine(K.out _).mono ?_;rintro e w' ⟨rfl,rfl⟩)
 go_loop [3] (fun i=>∃ k:Nat,(k:Int)<=sizeCls n/\i=.int .i64 k) (fun i=>8 - (intOf i).toNat)
 case atStart=>exact⟨0,by omega,rfl⟩
 case round =>
  obtain⟨k,hk,rfl⟩:=hrel
  have hi:=cls_iff (k:=(k:Int)) h1 (by omega) (by omega)
  have d7:(k:Int)<=7:=by omega
  by_cases hc:n<=clsSize k
  ·have HK:=Lib.hid (show sizeCls n=(k:Int) by have:=hi.1 hc;omega)
   have dc:decide (n<=clsSize k)=true:=decide_eq_true hc
   clear hi
   go_wp2_with (go_at_call 173;refine(iClassSize_q _ _).mono ?_;rintro e w' ⟨rfl,rfl⟩)
   go_ret
   exact⟨ret_int HK.out.symm,rfl⟩
  ·have HK:=Lib.hid (show((k+1:Nat):Int)<=sizeCls n by have:=fun h=>hc (hi.2 h);push_cast;omega)
   have dc:decide (n<=clsSize k)=false:=decide_eq_false hc
   have hk7:k<8:=by omega
   clear hi
   go_wp2_with (go_at_call 173;refine(iClassSize_q _ _).mono ?_;rintro e w' ⟨rfl,rfl⟩)
   go_round
   case rel=>exact⟨k+1,HK.out,by go_num⟩
   case measure=>simp [intOf];omega
theorem sRoundUpSize_q (n:Int) (w:World) (h0:0<=n) (h1:n<=4096) :
  Calls Tryz.prog 102 #[.int .i64 n] w fun e w'=>e=.returned (.int .i64 (roundUp n))/\w'=w:=by
 have K1:=Lib.hid (fun W=>sSizeClass_q n W h0 h1)
 go_enter Tryz.func102,Tryz.ntmps102
 go_wp2_with (first|(go_at_call 103;refine(K1.out _).mono ?_;rintro e w' ⟨rfl,rfl⟩)|(go_at_call 168;refine(sClassSize_q _ _).mono ?_;rintro e w' ⟨rfl,rfl⟩))
 go_ret
 exact⟨rfl,rfl⟩
theorem iRoundUpSize_q (n:Int) (w:World) (h0:0<=n) (h1:n<=4096) :
  Calls Tryz.prog 171 #[.int .i64 n] w fun e w'=>e=.returned (.int .i64 (roundUp n))/\w'=w:=by
 have K1:=Lib.hid (fun W=>iSizeClass_q n W h0 h1)
 go_enter Tryz.func171,Tryz.ntmps171
 go_wp2_with (first|(go_at_call 109;refine(K1.out _).mono ?_;rintro e w' ⟨rfl,rfl⟩)|(go_at_call 173;refine(iClassSize_q _ _).mono ?_;rintro e w' ⟨rfl,rfl⟩))
 go_ret
 exact⟨rfl,rfl⟩
end Go.Proofs.YtpodldagcnfhlaaGreat
