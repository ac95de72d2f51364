/-
  Text
-/
import Derived.Test.YtcfmidbioecdcaaGreatKeep
namespace Go.Proofs.YtcfmidbioecdcaaGreat
open Go.RowKit
set_option linter.unusedVariables false
set_option linter.unusedSimpArgs false

def digB (k:Nat):UInt8:=UInt8.ofNat (48+k % 10)
/-- the digits of k, ahead of out -/
def digF:Nat->Nat->ByteArray->ByteArray
 | 0,_,out=>out
 | f+1,k,out=>if k=0 then out else digF f (k / 10) (⟨#[digB k]⟩++out)
theorem digF_le (f k:Nat) (out:ByteArray):(digF f k out).size<=out.size+f:=by
 induction f generalizing k out with
 | zero=>exact Nat.le_refl _
 | succ f ih =>
  rw [digF]
  split
  ·omega
  ·refine Nat.le_trans (ih _ _) ?_
   rw [ByteArray.size_append]
   show 1+out.size+f<=_
   omega
theorem digF_zero (f:Nat) (out:ByteArray):digF f 0 out=out:=by cases f<;>rfl
theorem digF_step {f k:Nat}{out:ByteArray}(h:k≠0):digF (f+1) k out=digF f (k / 10) (⟨#[digB k]⟩++out):=by
 rw [digF,if_neg h]
def mtext (k:Int):ByteArray:=if k<=0 then ⟨#[109,48]⟩ else ⟨#[109]⟩++digF 19 k.toNat ⟨#[]⟩
theorem mtext_le (k:Int):(mtext k).size<=NB:=by
 unfold mtext NB
 split
 ·show 2<=_;omega
 ·have:=digF_le 19 k.toNat ⟨#[]⟩
  rw [ByteArray.size_append]
  have e:(⟨#[]⟩:ByteArray).size=0:=rfl
  have e1:(⟨#[109]⟩:ByteArray).size=1:=rfl
  omega
set_option maxRecDepth 100000 in
set_option maxHeartbeats 1600000 in
theorem markText_c (k:Int) (w:World) (hk:k<=9223372036854775807):Calls Tryz.prog 108 #[.int .i64 k] w fun e w'=>e=.returned (.string (mtext k))/\Below w.heap.size w w':=by
 by_cases h0:k<=0
 ·have HM:Hid (mtext k=⟨#[109,48]⟩):=by show _=_;unfold mtext;rw [if_pos h0]
  go_enter Tryz.func108,Tryz.ntmps108
  go_wp2
  go_ret
  exact⟨by rw [HM.out];rfl,Below.refl _ _⟩
 obtain⟨j,rfl⟩:∃ j:Nat,k=j:=⟨k.toNat,by omega⟩
 have HM:Hid (mtext (j:Int)=⟨#[109]⟩++digF 19 j ⟨#[]⟩):=by show _=_;unfold mtext;rw [if_neg h0,Int.toNat_natCast]
 have hj0:0<j:=by omega
 go_enter Tryz.func108,Tryz.ntmps108
 go_wp2
 go_loopw [0,3] (fun vk vo wr=>∃ (f t:Nat) (out:ByteArray),vk=.int .i64 t/\vo=.string out/\t<10 ^ f/\t<=j/\out.size+f<=19/\digF f t out=digF 19 j ⟨#[]⟩/\Below w.heap.size w wr) (fun vk _ _=>(intOf vk).toNat)
 case atStart =>
  have h19:(10:Nat) ^ 19=10000000000000000000:=by decide
  exact⟨19,j,_,rfl,rfl,by omega,Nat.le_refl _,Nat.le_refl _,rfl,Below.refl _ _⟩
 case round =>
  obtain⟨f,t,out,rfl,rfl,hf,htj,hsz,hd,hB⟩:=hrel
  have HD:=Lib.hid hd;clear hd
  have HF:=Lib.hid hf;clear hf
  by_cases ht:0<t
  ·have hcv:(convert 174 9 (.slice (some ⟨wr.heap.size,0,none⟩) 1 1)).run Tryz.prog (wr.alloc (.cells #[.int .u8 (48+(t:Int) % 10)] 5))=.ok (.string ⟨#[digB t]⟩) (wr.alloc (.cells #[.int .u8 (48+(t:Int) % 10)] 5)):=by
    refine run_convert_bytes_back (P:=Tryz.prog) _ _ _ 5 ⟨wr.heap.size,0,none⟩ 1 [digB t] Tryz.underlying174 Tryz.underlying5 Tryz.underlying9 (fun i hi=>?_)
    match i,hi with
    | 0,_ =>
     have h1:=cells_new wr 5 [Value.int IntKind.u8 (48+(t:Int) % 10)] 0 (Value.int IntKind.u8 (48+(t:Int) % 10)) rfl
     have e:((digB t).toNat:Int)=48+(t:Int) % 10:=by
      unfold digB;rw [UInt8.toNat_ofNat'];omega
     show _=some (Value.int IntKind.u8 ((digB t).toNat:Int))
     rw [e];exact h1
   obtain⟨f',rfl⟩:∃ f',f=f'+1:=by
    cases f with
    | zero=>have:=HF.out;simp at this;omega
    | succ f=>exact⟨f,rfl⟩
   have HN:Hid (digF f' (t / 10) (⟨#[digB t]⟩++out)=digF 19 j ⟨#[]⟩):=by
    show _=_
    rw [<- HD.out,digF_step (by omega)]
   have HF2:Hid (t / 10<10 ^ f'):=by
    show _<_
    have:=HF.out
    rw [Nat.pow_succ]at this
    omega
   have hc1:¬ IntKind.i64.max<(((⟨#[digB t]⟩:ByteArray).size+out.size:Nat):Int):=by
    have e:(⟨#[digB t]⟩:ByteArray).size=1:=rfl
    rw [e,show IntKind.i64.max=9223372036854775807 from rfl];omega
   go_wp2
   go_roundw
   case rel=>exact⟨f',t / 10,_,by rw [show((t / 10:Nat):Int)=(t:Int) / 10 by omega],rfl,HF2.out,by omega,by rw [ByteArray.size_append];show 1+out.size+f'<=19;omega,HN.out,hB.alloc hB.size _⟩
   case measure=>simp [intOf];omega
  ·have hc1:¬ IntKind.i64.max<(((⟨#[109]⟩:ByteArray).size+out.size:Nat):Int):=by
    have e:(⟨#[109]⟩:ByteArray).size=1:=rfl
    rw [e,show IntKind.i64.max=9223372036854775807 from rfl];omega
   have HE:Hid (out=digF 19 j ⟨#[]⟩):=by
    show _=_
    rw [<- HD.out,show t=0 by omega,digF_zero]
   go_wp2
   go_ret
   exact⟨by rw [HM.out,<- HE.out];rfl,hB⟩
end Go.Proofs.YtcfmidbioecdcaaGreat
