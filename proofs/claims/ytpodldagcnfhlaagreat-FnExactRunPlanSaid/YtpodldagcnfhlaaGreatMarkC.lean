/-
  Text, Mark, MarkC
-/
import Derived.Test.YtpodldagcnfhlaaGreatKeep
import Derived.Test.YtpodldagcnfhlaaGreatMarkB
import Derived.Test.YtpodldagcnfhlaaGreatSz
namespace Go.Proofs.YtpodldagcnfhlaaGreat
open Go.RowKit
set_option linter.unusedVariables false
set_option linter.unusedSimpArgs false

def digB (k:Nat):UInt8:=UInt8.ofNat (48+k % 10)
def digF:Nat->Nat->ByteArray->ByteArray
 | 0,_,out=>out
 | f+1,k,out=>if k=0 then out else digF f (k / 10) (⟨#[digB k]⟩++out)
theorem digF_le (f k:Nat) (out:ByteArray):(digF f k out).size<=out.size+f:=by
 induction f generalizing k out with
 | zero=>exact Nat.le_refl _
 | succ f ih =>
  rw [digF]
  split
  ·omega
  ·refine Nat.le_trans (ih _ _) ?_
   rw [ByteArray.size_append]
   show 1+out.size+f<=_
   omega
theorem digF_zero (f:Nat) (out:ByteArray):digF f 0 out=out:=by cases f<;>rfl
theorem digF_step {f k:Nat}{out:ByteArray}(h:k≠0):digF (f+1) k out=digF f (k / 10) (⟨#[digB k]⟩++out):=by
 rw [digF,if_neg h]
def mtext (k:Int):ByteArray:=if k<=0 then ⟨#[109,48]⟩ else ⟨#[109]⟩++digF 19 k.toNat ⟨#[]⟩
theorem mtext_le (k:Int):(mtext k).size<=NB:=by
 unfold mtext NB
 split
 ·show 2<=_;omega
 ·have:=digF_le 19 k.toNat ⟨#[]⟩
  rw [ByteArray.size_append]
  have e:(⟨#[]⟩:ByteArray).size=0:=rfl
  have e1:(⟨#[109]⟩:ByteArray).size=1:=rfl
  omega
set_option maxRecDepth 100000 in
set_option maxHeartbeats 1600000 in
theorem markText_c (k:Int) (w:World) (hk:k<=9223372036854775807):Calls Tryz.prog 159 #[.int .i64 k] w fun e w'=>e=.returned (.string (mtext k))/\Below w.heap.size w w':=by
 by_cases h0:k<=0
 ·have HM:Hid (mtext k=⟨#[109,48]⟩):=by show _=_;unfold mtext;rw [if_pos h0]
  go_enter Tryz.func159,Tryz.ntmps159
  go_wp2
  go_ret
  exact⟨by rw [HM.out];rfl,Below.refl _ _⟩
 obtain⟨j,rfl⟩:∃ j:Nat,k=j:=⟨k.toNat,by omega⟩
 have HM:Hid (mtext (j:Int)=⟨#[109]⟩++digF 19 j ⟨#[]⟩):=by show _=_;unfold mtext;rw [if_neg h0,Int.toNat_natCast]
 have hj0:0<j:=by omega
 go_enter Tryz.func159,Tryz.ntmps159
 go_wp2
 go_loopw [0,3] (fun vk vo wr=>∃ (f t:Nat) (out:ByteArray),vk=.int .i64 t/\vo=.string out/\t<10 ^ f/\t<=j/\out.size+f<=19/\digF f t out=digF 19 j ⟨#[]⟩/\Below w.heap.size w wr) (fun vk _ _=>(intOf vk).toNat)
 case atStart =>
  have h19:(10:Nat) ^ 19=10000000000000000000:=by decide
  exact⟨19,j,_,rfl,rfl,by omega,Nat.le_refl _,Nat.le_refl _,rfl,Below.refl _ _⟩
 case round =>
  obtain⟨f,t,out,rfl,rfl,hf,htj,hsz,hd,hB⟩:=hrel
  have HD:=Lib.hid hd;clear hd
  have HF:=Lib.hid hf;clear hf
  by_cases ht:0<t
  ·have hcv:(convert 22 9 (.slice (some ⟨wr.heap.size,0,none⟩) 1 1)).run Tryz.prog (wr.alloc (.cells #[.int .u8 (48+(t:Int) % 10)] 5))=.ok (.string ⟨#[digB t]⟩) (wr.alloc (.cells #[.int .u8 (48+(t:Int) % 10)] 5)):=by
    refine run_convert_bytes_back (P:=Tryz.prog) _ _ _ 5 ⟨wr.heap.size,0,none⟩ 1 [digB t] Tryz.underlying22 Tryz.underlying5 Tryz.underlying9 (fun i hi=>?_)
    match i,hi with
    | 0,_ =>
     have h1:=cells_new wr 5 [Value.int IntKind.u8 (48+(t:Int) % 10)] 0 (Value.int IntKind.u8 (48+(t:Int) % 10)) rfl
     have e:((digB t).toNat:Int)=48+(t:Int) % 10:=by
      unfold digB;rw [UInt8.toNat_ofNat'];omega
     show _=some (Value.int IntKind.u8 ((digB t).toNat:Int))
     rw [e];exact h1
   obtain⟨f',rfl⟩:∃ f',f=f'+1:=by
    cases f with
    | zero=>have:=HF.out;simp at this;omega
    | succ f=>exact⟨f,rfl⟩
   have HN:Hid (digF f' (t / 10) (⟨#[digB t]⟩++out)=digF 19 j ⟨#[]⟩):=by
    show _=_
    rw [<- HD.out,digF_step (by omega)]
   have HF2:Hid (t / 10<10 ^ f'):=by
    show _<_
    have:=HF.out
    rw [Nat.pow_succ]at this
    omega
   have hc1:¬ IntKind.i64.max<(((⟨#[digB t]⟩:ByteArray).size+out.size:Nat):Int):=by
    have e:(⟨#[digB t]⟩:ByteArray).size=1:=rfl
    rw [e,show IntKind.i64.max=9223372036854775807 from rfl];omega
   go_wp2
   go_roundw
   case rel=>exact⟨f',t / 10,_,by rw [show((t / 10:Nat):Int)=(t:Int) / 10 by omega],rfl,HF2.out,by omega,by rw [ByteArray.size_append];show 1+out.size+f'<=19;omega,HN.out,hB.alloc hB.size _⟩
   case measure=>simp [intOf];omega
  ·have hc1:¬ IntKind.i64.max<(((⟨#[109]⟩:ByteArray).size+out.size:Nat):Int):=by
    have e:(⟨#[109]⟩:ByteArray).size=1:=rfl
    rw [e,show IntKind.i64.max=9223372036854775807 from rfl];omega
   have HE:Hid (out=digF 19 j ⟨#[]⟩):=by
    show _=_
    rw [<- HD.out,show t=0 by omega,digF_zero]
   go_wp2
   go_ret
   exact⟨by rw [HM.out,<- HE.out];rfl,hB⟩
end Go.Proofs.YtpodldagcnfhlaaGreat
namespace Go.Proofs.YtpodldagcnfhlaaGreat
open Go.RowKit
set_option linter.unusedVariables false
set_option linter.unusedSimpArgs false



def cnt_IntSS (l:List (List Int)):Nat:=cntS cnt_IntS l
def mk_IntSS (l:List (List Int)) (k:Int):List (List Int):=mkS mk_IntS cnt_IntS l k
set_option maxRecDepth 100000 in
set_option maxHeartbeats 1600000 in
theorem markIntSS_m (A:Option Addr) (n cap:Nat) (l:List (List Int)) (k:Int) (w:World) (fp:List Nat) (h:OS NB 32 (rSlice NB 3 rInt) w fp A n cap l) (nd:fp.Nodup) (h0:0<=k) (h1:k+(cnt_IntSS l:Nat)<=4611686018427387904) :
  Calls Tryz.prog 92 #[.slice A n cap,.int .i64 k] w fun e w'=>e=.returned (.int .i64 (k+(cnt_IntSS l:Nat)))/\OS NB 32 (rSlice NB 3 rInt) w' fp A n cap (mk_IntSS l k)/\Chg fp w w':=by
 have hn:n<=4294967296:=h.nb
 have HL:=Lib.hid h.len
 have H1:Hid (k+(cntS cnt_IntS l:Nat)<=4611686018427387904):=h1
 clear h1
 go_enter Tryz.func92,Tryz.ntmps92
 go_wp2
 go_loopw [1,5] (fun kv iv wr=>∃ (j:Nat) (kk:Int),j<=n/\iv=.int .i64 j/\kv=.int .i64 kk/\kk=k+(cntS cnt_IntS (l.take j):Nat)/\OS NB 32 (rSlice NB 3 rInt) wr fp A n cap (mkP mk_IntS cnt_IntS l k j)/\Chg fp w wr) (fun _ iv _=>n - (intOf iv).toNat)
 case atStart=>exact⟨0,k,Nat.zero_le _,rfl,rfl,by simp [cntS],by rw [mkP_zero];exact h,Chg.refl _ _⟩
 case round =>
  clear h
  obtain⟨j,kk,hj,rfl,rfl,hkk,hO,hC⟩:=hrel
  have HK:=Lib.hid hkk;clear hkk
  by_cases hlt:j<n
  ·obtain⟨g,f,c,x,xs,rfl,hx,ho,hfnd,hgf,hgfp,hsub,hE,hput⟩:=hO.elem (rSlice_ok NB _ rInt_ok) nd hlt
   have HX:Hid (l[j]?=some x):=by have:=hx.out;rwa [mkP_at]at this
   clear hx
   have hb1:cntS cnt_IntS (l.take j)+cnt_IntS x<=cntS cnt_IntS l:=by rw [<- cntS_snoc _ HX.out];exact cntS_take_le _ _ _
   have b0:0<=kk:=by have:=HK.out;omega
   have b1:kk+(cnt_IntS x:Nat)<=4611686018427387904:=by have:=HK.out;have:=H1.out;omega
   clear hb1
   obtain⟨Ae,ne,ce,rfl,he⟩:=ho
   clear hO
   have qa0:wr.cell? ⟨g,j,none⟩=some (.slice Ae ne ce):=by simpa [rSlice]using hE.cell hlt (t:=0) rfl
   have qfa:=hE.frozen
   have qga:=hE.lt
   go_wp2_with fail
   have hs1:=he
   have nd1:=hfnd
   refine(markIntS_m _ _ _ _ kk _ _ hs1 nd1 (by omega) (by omega)).mono ?_
   rintro e w1 ⟨rfl,ho1,hcc1⟩
   have hgn1:g∉f:=fun hk=>hgf (by simp [hk])
   have hE1:=ElemAt.keep hE (hcc1.block g hE.lt hgn1)
   have hG1:Chg (g::(f)) wr w1:=Chg.trans (Chg.refl (g::_) wr) (Chg.trans (Chg.refl _ _) (hcc1.mono (by intro k hk;simp [hk])))
   clear qa0 qfa qga hcc1
   have q10:w1.cell? ⟨g,j,none⟩=some (.slice Ae ne ce):=by simpa [rSlice]using hE1.cell hlt (t:=0) rfl
   have qf1:=hE1.frozen
   have qg1:=hE1.lt
   obtain⟨kk1,hkk1⟩:∃ q:Int,q=kk+((cnt_IntS x):Nat):=⟨_,rfl⟩
   rw [<- hkk1]
   have HK1:=Lib.hid hkk1
   have bk1:0<=kk1:=by omega
   have bb1:kk1<=4611686018427387904:=by omega
   have br1:kk1+((0:Nat):Int)<=4611686018427387904:=by omega
   clear hkk1
   clear b1
   go_wp2
   go_roundw
   case rel =>
    refine⟨j+1,kk1,by omega,by go_num,by go_num,?_,?_,?_⟩
    ·rw [cntS_snoc _ HX.out];have:=HK.out;have:=HK1.out;omega
    ·rw [<- mkP_set mk_IntS cnt_IntS k HX.out,<- HK.out]
     exact hput.out _ _ _ (hG1) hE1 (⟨Ae,ne,ce,rfl,ho1⟩)
    ·exact hC.trans (Chg.mono (fp:=g::(f)) (hG1) (by intro k hk;rcases List.mem_cons.1 hk with rfl|hk;exact hgfp;exact hsub k hk))
   case measure=>simp [intOf];omega
  ·go_wp2
   go_ret
   have hl:¬ j<l.length:=by rw [HL.out];exact hlt
   exact⟨ret_int (by rw [HK.out,List.take_of_length_le (by omega)];rfl),by rw [mkP_all mk_IntS cnt_IntS l k hl]at hO;exact hO,hC⟩

set_option maxRecDepth 100000 in
set_option maxHeartbeats 1600000 in
theorem heldIntSS_m (A:Option Addr) (n cap:Nat) (l:List (List Int)) (k:Int) (w:World) (hr:RS NB (rSlice NB 3 rInt) w A n cap (mk_IntSS l k)) (h0:0<=k) (h1:k+(cnt_IntSS l:Nat)<=4611686018427387904) :
  Calls Tryz.prog 93 #[.slice A n cap,.int .i64 k] w fun e w'=>e=.returned (.int .i64 (k+(cnt_IntSS l:Nat)))/\Below w.heap.size w w':=by
 have hn:=hr.bound
 have HL:Hid (l.length=n):=by have:=hr.len;rwa [mk_IntSS,mkS_length]at this
 have H1:Hid (k+(cntS cnt_IntS l:Nat)<=4611686018427387904):=h1
 clear h1
 go_enter Tryz.func93,Tryz.ntmps93
 go_wp2
 go_loopw [1,5] (fun kv iv wr=>∃ (j:Nat) (kk:Int),j<=n/\iv=.int .i64 j/\kv=.int .i64 kk/\kk=k+(cntS cnt_IntS (l.take j):Nat)/\Below w.heap.size w wr) (fun _ iv _=>n - (intOf iv).toNat)
 case atStart=>exact⟨0,k,Nat.zero_le _,rfl,rfl,by simp [cntS],Below.refl _ _⟩
 case round =>
  obtain⟨j,kk,hj,rfl,rfl,hkk,hB⟩:=hrel
  have HK:=Lib.hid hkk;clear hkk
  by_cases hlt:j<n
  ·have hx0:l[j]?=some (l[j]'(by rw [HL.out];exact hlt)):=List.getElem?_eq_getElem (by rw [HL.out];exact hlt)
   obtain⟨x,hx⟩:∃ x,l[j]?=some x:=⟨_,hx0⟩
   clear hx0
   have HX:=Lib.hid hx;clear hx
   have hb1:cntS cnt_IntS (l.take j)+cnt_IntS x<=cntS cnt_IntS l:=by rw [<- cntS_snoc _ HX.out];exact cntS_take_le _ _ _
   have b0:0<=kk:=by have:=HK.out;omega
   have b1:kk+(cnt_IntS x:Nat)<=4611686018427387904:=by have:=HK.out;have:=H1.out;omega
   clear hb1
   obtain⟨b,off,y,cs,rfl,hrep,hcell,hy⟩:=(hr.below (rSlice_ok NB _ rInt_ok) hB).at_ hlt
   obtain rfl:y=mk_IntS x kk:=by have h2:=hy.out;rw [mk_IntSS,mkS_at _ _ _ HX.out,<- HK.out]at h2;injection h2 with h2;exact h2.symm
   clear hy
   obtain⟨Ae,ne,ce,rfl,he⟩:=hrep
   have q0:wr.cell? ⟨b,off+j,none⟩=some (.slice Ae ne ce):=by simpa [rSlice]using hcell 0 _ rfl
   clear hcell
   have hB0:=hB
   go_wp2_with fail
   refine(heldIntS_m _ _ _ x kk _ he (by omega) (by omega)).mono ?_
   rintro e w1 ⟨rfl,hb1⟩
   have hB1:=hB0.trans (hb1.mono hB0.size)
   replace q0:=cells_below hb1 _ _ q0
   replace he:=he.below rInt_ok hb1
   clear hb1
   obtain⟨kk1,hkk1⟩:∃ q:Int,q=kk+((cnt_IntS x):Nat):=⟨_,rfl⟩
   rw [<- hkk1]
   have HK1:=Lib.hid hkk1
   have bk1:0<=kk1:=by omega
   have br1:kk1+((0:Nat):Int)<=4611686018427387904:=by omega
   clear hkk1
   clear b1
   go_wp2
   go_roundw
   case rel=>exact⟨j+1,kk1,by omega,by go_num,by go_num,by rw [cntS_snoc _ HX.out];have:=HK.out;have:=HK1.out;omega,hB1⟩
   case measure=>simp [intOf];omega
  ·go_wp2
   go_ret
   have hl:¬ j<l.length:=by rw [HL.out];exact hlt
   exact⟨ret_int (by rw [HK.out,List.take_of_length_le (by omega)];rfl),hB⟩



def cntE_Table (x:TableD):Nat:=1+1+(cnt_IntSS x.fRows)
def mkE_Table (x:TableD) (k:Int):TableD:=⟨mtext k,(k+1),(mk_IntSS x.fRows ((k+1)+1))⟩
def cnt_TableS (l:List TableD):Nat:=cntS cntE_Table l
def mk_TableS (l:List TableD) (k:Int):List TableD:=mkS mkE_Table cntE_Table l k
set_option maxRecDepth 100000 in
set_option maxHeartbeats 1600000 in
theorem markTableS_m (A:Option Addr) (n cap:Nat) (l:List TableD) (k:Int) (w:World) (fp:List Nat) (h:OS NB 108 (rTable NB) w fp A n cap l) (nd:fp.Nodup) (h0:0<=k) (h1:k+(cnt_TableS l:Nat)<=4611686018427387904) :
  Calls Tryz.prog 88 #[.slice A n cap,.int .i64 k] w fun e w'=>e=.returned (.int .i64 (k+(cnt_TableS l:Nat)))/\OS NB 108 (rTable NB) w' fp A n cap (mk_TableS l k)/\Chg fp w w':=by
 have hn:n<=4294967296:=h.nb
 have HL:=Lib.hid h.len
 have H1:Hid (k+(cntS cntE_Table l:Nat)<=4611686018427387904):=h1
 clear h1
 go_enter Tryz.func88,Tryz.ntmps88
 go_wp2
 go_loopw [1,5] (fun kv iv wr=>∃ (j:Nat) (kk:Int),j<=n/\iv=.int .i64 j/\kv=.int .i64 kk/\kk=k+(cntS cntE_Table (l.take j):Nat)/\OS NB 108 (rTable NB) wr fp A n cap (mkP mkE_Table cntE_Table l k j)/\Chg fp w wr) (fun _ iv _=>n - (intOf iv).toNat)
 case atStart=>exact⟨0,k,Nat.zero_le _,rfl,rfl,by simp [cntS],by rw [mkP_zero];exact h,Chg.refl _ _⟩
 case round =>
  clear h
  obtain⟨j,kk,hj,rfl,rfl,hkk,hO,hC⟩:=hrel
  have HK:=Lib.hid hkk;clear hkk
  by_cases hlt:j<n
  ·obtain⟨g,f,c,x,xs,rfl,hx,ho,hfnd,hgf,hgfp,hsub,hE,hput⟩:=hO.elem (rTable_ok NB) nd hlt
   have HX:Hid (l[j]?=some x):=by have:=hx.out;rwa [mkP_at]at this
   clear hx
   have hb1:cntS cntE_Table (l.take j)+cntE_Table x<=cntS cntE_Table l:=by rw [<- cntS_snoc _ HX.out];exact cntS_take_le _ _ _
   have b0:0<=kk:=by have:=HK.out;omega
   have b1:kk+(cntE_Table x:Nat)<=4611686018427387904:=by have:=HK.out;have:=H1.out;omega
   clear hb1
   obtain⟨ARows,nRows,cRows,fRows,rfl,hfp,hName,hArity,hRows⟩:=rTable_own.1 ho
   try simp only [List.append_nil,List.nil_append]at hfp
   replace hfp:=hfp.symm;subst hfp
   unfold cntE_Table at b1
   clear hO
   have qa0:wr.cell? ⟨g,j*3,none⟩=some (.string x.fName):=by simpa [rTable_size]using hE.cell hlt (t:=0) rfl
   have qa1:wr.cell? ⟨g,j*3+1,none⟩=some (.int .i64 x.fArity):=by simpa [rTable_size]using hE.cell hlt (t:=1) rfl
   have qa2:wr.cell? ⟨g,j*3+2,none⟩=some (.slice ARows nRows cRows):=by simpa [rTable_size]using hE.cell hlt (t:=2) rfl
   have qfa:=hE.frozen
   have qga:=hE.lt
   go_wp2_with fail
   refine(markText_c kk _ (by omega)).mono ?_
   rintro e w1 ⟨rfl,hbb1⟩
   have hcc1:Chg [g] wr w1:=Chg.trans (by repeat' (first|with_reducible exact Chg.refl _ _|with_reducible refine Chg.setCell ?_ ?_ _ _|with_reducible refine Chg.alloc ?_ _|(simp;done))) (Chg.ofBelow hbb1 _)
   have hE1:=ElemAt.keep hE (hbb1.block g hE.lt)
   have hRowsN1:=hRows.chg (rSlice_ok NB _ rInt_ok) hcc1 (fun k hk hk'=>by simp only [List.mem_singleton]at hk';subst hk';exact hgf (by simp [hk]))
   have hG1:Chg (g::(fRows)) wr w1:=Chg.trans (Chg.refl (g::(fRows)) wr) (hcc1.mono (by simp))
   clear qa0 qa1 qa2 qfa qga hcc1 hbb1
   have q10:w1.cell? ⟨g,j*3,none⟩=some (.string x.fName):=by simpa [rTable_size]using hE1.cell hlt (t:=0) rfl
   have q11:w1.cell? ⟨g,j*3+1,none⟩=some (.int .i64 x.fArity):=by simpa [rTable_size]using hE1.cell hlt (t:=1) rfl
   have q12:w1.cell? ⟨g,j*3+2,none⟩=some (.slice ARows nRows cRows):=by simpa [rTable_size]using hE1.cell hlt (t:=2) rfl
   have qf1:=hE1.frozen
   have qg1:=hE1.lt
   go_wp2_with fail
   have hs2:=hRowsN1
   have nd2:fRows.Nodup:=hfnd
   refine(markIntSS_m _ _ _ _ ((kk+1)+1) _ _ (hs2.chg (rSlice_ok NB _ rInt_ok) (fp:=[g]) (by repeat' (first|with_reducible exact Chg.refl _ _|with_reducible refine Chg.setCell ?_ ?_ _ _|with_reducible refine Chg.alloc ?_ _|(simp;done))) (fun k hk hk'=>by simp only [List.mem_singleton]at hk';subst hk';exact hgf (by simp [hk]))) nd2 (by omega) (by omega)).mono ?_
   rintro e w2 ⟨rfl,ho2,hcc2⟩
   have hgn2:g∉fRows:=fun hk=>hgf (by simp [hk])
   have hE2:=ElemAt.keep ((hE1.store 0 (by decide) (.string (mtext kk))).store 1 (by decide) (.int .i64 (kk+1))) (hcc2.block g ((hE1.store 0 (by decide) (.string (mtext kk))).store 1 (by decide) (.int .i64 (kk+1))).lt hgn2)
   have hG2:Chg (g::(fRows)) wr w2:=Chg.trans hG1 (Chg.trans (Chg.mono (fp:=[g]) ((by repeat' (first|with_reducible exact Chg.refl _ _|with_reducible refine Chg.setCell ?_ ?_ _ _|with_reducible refine Chg.alloc ?_ _|(simp;done))):Chg [g] w1 _) (by simp)) (hcc2.mono (by intro k hk;simp [hk])))
   clear q10 q11 q12 qf1 qg1 hcc2
   have q20:w2.cell? ⟨g,j*3,none⟩=some (.string (mtext kk)):=by simpa [rTable_size]using hE2.cell hlt (t:=0) rfl
   have q21:w2.cell? ⟨g,j*3+1,none⟩=some (.int .i64 (kk+1)):=by simpa [rTable_size]using hE2.cell hlt (t:=1) rfl
   have q22:w2.cell? ⟨g,j*3+2,none⟩=some (.slice ARows nRows cRows):=by simpa [rTable_size]using hE2.cell hlt (t:=2) rfl
   have qf2:=hE2.frozen
   have qg2:=hE2.lt
   obtain⟨kk2,hkk2⟩:∃ q:Int,q=((kk+1)+1)+((cnt_IntSS x.fRows):Nat):=⟨_,rfl⟩
   rw [<- hkk2]
   have HK2:=Lib.hid hkk2
   have bk2:0<=kk2:=by omega
   have bb2:kk2<=4611686018427387904:=by omega
   have br2:kk2+((0:Nat):Int)<=4611686018427387904:=by omega
   clear hkk2
   go_wp2
   go_roundw
   case rel =>
    refine⟨j+1,kk2,by omega,by go_num,by go_num,?_,?_,?_⟩
    ·rw [cntS_snoc _ HX.out];have:=HK.out;have:=HK2.out;have:cntE_Table x=1+1+(cnt_IntSS x.fRows):=rfl;omega
    ·rw [<- mkP_set mkE_Table cntE_Table k HX.out,<- HK.out]
     have hm:mkE_Table x kk=⟨mtext kk,(kk+1),(mk_IntSS x.fRows ((kk+1)+1))⟩:=by first|(unfold mkE_Table;rfl)|(unfold mkE_Table;rw [HK2.out];rfl)|(unfold mkE_Table;rw [HK2.out];done)
     rw [hm]
     exact hput.out _ _ _ (hG2) hE2 (rTable_own.2 ⟨ARows,nRows,cRows,fRows,rfl,(by simp),(mtext_le _),⟨by dsimp only;omega,by dsimp only;omega⟩,ho2⟩)
    ·exact hC.trans (Chg.mono (fp:=g::(fRows)) (hG2) (by intro k hk;rcases List.mem_cons.1 hk with rfl|hk;exact hgfp;exact hsub k hk))
   case measure=>simp [intOf];omega
  ·go_wp2
   go_ret
   have hl:¬ j<l.length:=by rw [HL.out];exact hlt
   exact⟨ret_int (by rw [HK.out,List.take_of_length_le (by omega)];rfl),by rw [mkP_all mkE_Table cntE_Table l k hl]at hO;exact hO,hC⟩


def cnt_Database (x:DatabaseD):Nat:=(cnt_TableS x.fTables)
def mk_Database (x:DatabaseD) (k:Int):DatabaseD:=⟨(mk_TableS x.fTables k)⟩
set_option maxRecDepth 100000 in
set_option maxHeartbeats 1600000 in
theorem markDatabase_m (cs:List Value) (x:DatabaseD) (k:Int) (w:World) (fp:List Nat) (h:(rDatabase NB).own w fp cs x) (nd:fp.Nodup) (h0:0<=k) (h1:k+(cnt_Database x:Nat)<=4611686018427387904) :
  Calls Tryz.prog 30 #[.agg cs.toArray,.int .i64 k] w fun e w'=>e=.returned (.int .i64 (k+(cnt_Database x:Nat)))/\(rDatabase NB).own w' fp cs (mk_Database x k)/\Chg fp w w':=by
 obtain⟨ATables,nTables,cTables,fTables,rfl,hfp,hTables⟩:=rDatabase_own.1 h
 clear h
 replace hfp:=hfp.symm;subst hfp
 unfold cnt_Database at h1 ⊢
 have hb0:=(Below.refl w.heap.size w).alloc (Nat.le_refl _) (.cells #[.slice ATables nTables cTables] 26)
 have bx:=Bx.new w [.slice ATables nTables cTables] 26
 have hC:Chg (fTables) w _:=Chg.ofBelow hb0 _
 have ltTables:=hTables.lt (rTable_ok NB)
 replace hTables:=hTables.belowS (rTable_ok NB) hb0
 have hbn:∀ q∈(fTables),q≠w.heap.size:=by
  intro q hq
  try simp only [List.mem_append,List.append_nil]at hq
  have:q<w.heap.size:=by grind
  omega
 have HN:=Lib.hid hbn;clear hbn hb0 ltTables
 have ND:=Lib.hid nd;clear nd
 go_enter Tryz.func30,Tryz.ntmps30
 go_wp2_with fail
 have nd1:fTables.Nodup:=by have:=ND.out;(try simp only [List.nodup_append,List.append_nil,List.nil_append]at this);grind
 refine(markTableS_m _ _ _ _ k _ _ hTables nd1 (by omega) (by omega)).mono ?_
 rintro e w1 ⟨rfl,o1,hc1⟩
 have hTables:=o1
 replace bx:=bx.chg hc1 (fun hq=>HN.out _ (by(try simp only [List.mem_append,List.append_nil,List.nil_append]at hq ⊢);grind) rfl)
 replace hC:=hC.trans (hc1.mono (by intro q hq;(try simp only [List.mem_append,List.append_nil,List.nil_append]at hq ⊢);grind))
 clear hc1 nd1
 obtain⟨kk1,hkk1⟩:∃ q:Int,q=k+((cnt_TableS x.fTables):Nat):=⟨_,rfl⟩
 rw [<- hkk1]
 have HK1:=Lib.hid hkk1
 have bk1:0<=kk1:=by omega
 have br1:kk1+((0:Nat):Int)<=4611686018427387904:=by omega
 clear hkk1
 clear h1
 go_wp2
 go_ret
 refine⟨ret_int (by have:=HK1.out;omega),?_,hC⟩
 have hm:mk_Database x k=⟨(mk_TableS x.fTables k)⟩:=by first|(unfold mk_Database;rfl)|(unfold mk_Database;done)
 rw [hm]
 exact⟨ATables,nTables,cTables,rfl,hTables⟩








def cntE_Atom (x:AtomD):Nat:=1+(cnt_IntS x.fVars)
def mkE_Atom (x:AtomD) (k:Int):AtomD:=⟨mtext k,(mk_IntS x.fVars (k+1))⟩
def cnt_AtomS (l:List AtomD):Nat:=cntS cntE_Atom l
def mk_AtomS (l:List AtomD) (k:Int):List AtomD:=mkS mkE_Atom cntE_Atom l k
set_option maxRecDepth 100000 in
set_option maxHeartbeats 1600000 in
theorem markAtomS_m (A:Option Addr) (n cap:Nat) (l:List AtomD) (k:Int) (w:World) (fp:List Nat) (h:OS NB 41 (rAtom NB) w fp A n cap l) (nd:fp.Nodup) (h0:0<=k) (h1:k+(cnt_AtomS l:Nat)<=4611686018427387904) :
  Calls Tryz.prog 89 #[.slice A n cap,.int .i64 k] w fun e w'=>e=.returned (.int .i64 (k+(cnt_AtomS l:Nat)))/\OS NB 41 (rAtom NB) w' fp A n cap (mk_AtomS l k)/\Chg fp w w':=by
 have hn:n<=4294967296:=h.nb
 have HL:=Lib.hid h.len
 have H1:Hid (k+(cntS cntE_Atom l:Nat)<=4611686018427387904):=h1
 clear h1
 go_enter Tryz.func89,Tryz.ntmps89
 go_wp2
 go_loopw [1,5] (fun kv iv wr=>∃ (j:Nat) (kk:Int),j<=n/\iv=.int .i64 j/\kv=.int .i64 kk/\kk=k+(cntS cntE_Atom (l.take j):Nat)/\OS NB 41 (rAtom NB) wr fp A n cap (mkP mkE_Atom cntE_Atom l k j)/\Chg fp w wr) (fun _ iv _=>n - (intOf iv).toNat)
 case atStart=>exact⟨0,k,Nat.zero_le _,rfl,rfl,by simp [cntS],by rw [mkP_zero];exact h,Chg.refl _ _⟩
 case round =>
  clear h
  obtain⟨j,kk,hj,rfl,rfl,hkk,hO,hC⟩:=hrel
  have HK:=Lib.hid hkk;clear hkk
  by_cases hlt:j<n
  ·obtain⟨g,f,c,x,xs,rfl,hx,ho,hfnd,hgf,hgfp,hsub,hE,hput⟩:=hO.elem (rAtom_ok NB) nd hlt
   have HX:Hid (l[j]?=some x):=by have:=hx.out;rwa [mkP_at]at this
   clear hx
   have hb1:cntS cntE_Atom (l.take j)+cntE_Atom x<=cntS cntE_Atom l:=by rw [<- cntS_snoc _ HX.out];exact cntS_take_le _ _ _
   have b0:0<=kk:=by have:=HK.out;omega
   have b1:kk+(cntE_Atom x:Nat)<=4611686018427387904:=by have:=HK.out;have:=H1.out;omega
   clear hb1
   obtain⟨AVars,nVars,cVars,fVars,rfl,hfp,hName,hVars⟩:=rAtom_own.1 ho
   try simp only [List.append_nil,List.nil_append]at hfp
   replace hfp:=hfp.symm;subst hfp
   unfold cntE_Atom at b1
   clear hO
   have qa0:wr.cell? ⟨g,j*2,none⟩=some (.string x.fName):=by simpa [rAtom_size]using hE.cell hlt (t:=0) rfl
   have qa1:wr.cell? ⟨g,j*2+1,none⟩=some (.slice AVars nVars cVars):=by simpa [rAtom_size]using hE.cell hlt (t:=1) rfl
   have qfa:=hE.frozen
   have qga:=hE.lt
   go_wp2_with fail
   refine(markText_c kk _ (by omega)).mono ?_
   rintro e w1 ⟨rfl,hbb1⟩
   have hcc1:Chg [g] wr w1:=Chg.trans (by repeat' (first|with_reducible exact Chg.refl _ _|with_reducible refine Chg.setCell ?_ ?_ _ _|with_reducible refine Chg.alloc ?_ _|(simp;done))) (Chg.ofBelow hbb1 _)
   have hE1:=ElemAt.keep hE (hbb1.block g hE.lt)
   have hVarsN1:=hVars.chg rInt_ok hcc1 (fun k hk hk'=>by simp only [List.mem_singleton]at hk';subst hk';exact hgf (by simp [hk]))
   have hG1:Chg (g::(fVars)) wr w1:=Chg.trans (Chg.refl (g::(fVars)) wr) (hcc1.mono (by simp))
   clear qa0 qa1 qfa qga hcc1 hbb1
   have q10:w1.cell? ⟨g,j*2,none⟩=some (.string x.fName):=by simpa [rAtom_size]using hE1.cell hlt (t:=0) rfl
   have q11:w1.cell? ⟨g,j*2+1,none⟩=some (.slice AVars nVars cVars):=by simpa [rAtom_size]using hE1.cell hlt (t:=1) rfl
   have qf1:=hE1.frozen
   have qg1:=hE1.lt
   go_wp2_with fail
   have hs2:=hVarsN1
   have nd2:fVars.Nodup:=hfnd
   refine(markIntS_m _ _ _ _ (kk+1) _ _ (hs2.chg rInt_ok (fp:=[g]) (by repeat' (first|with_reducible exact Chg.refl _ _|with_reducible refine Chg.setCell ?_ ?_ _ _|with_reducible refine Chg.alloc ?_ _|(simp;done))) (fun k hk hk'=>by simp only [List.mem_singleton]at hk';subst hk';exact hgf (by simp [hk]))) nd2 (by omega) (by omega)).mono ?_
   rintro e w2 ⟨rfl,ho2,hcc2⟩
   have hgn2:g∉fVars:=fun hk=>hgf (by simp [hk])
   have hE2:=ElemAt.keep (hE1.store 0 (by decide) (.string (mtext kk))) (hcc2.block g (hE1.store 0 (by decide) (.string (mtext kk))).lt hgn2)
   have hG2:Chg (g::(fVars)) wr w2:=Chg.trans hG1 (Chg.trans (Chg.mono (fp:=[g]) ((by repeat' (first|with_reducible exact Chg.refl _ _|with_reducible refine Chg.setCell ?_ ?_ _ _|with_reducible refine Chg.alloc ?_ _|(simp;done))):Chg [g] w1 _) (by simp)) (hcc2.mono (by intro k hk;simp [hk])))
   clear q10 q11 qf1 qg1 hcc2
   have q20:w2.cell? ⟨g,j*2,none⟩=some (.string (mtext kk)):=by simpa [rAtom_size]using hE2.cell hlt (t:=0) rfl
   have q21:w2.cell? ⟨g,j*2+1,none⟩=some (.slice AVars nVars cVars):=by simpa [rAtom_size]using hE2.cell hlt (t:=1) rfl
   have qf2:=hE2.frozen
   have qg2:=hE2.lt
   obtain⟨kk2,hkk2⟩:∃ q:Int,q=(kk+1)+((cnt_IntS x.fVars):Nat):=⟨_,rfl⟩
   rw [<- hkk2]
   have HK2:=Lib.hid hkk2
   have bk2:0<=kk2:=by omega
   have bb2:kk2<=4611686018427387904:=by omega
   have br2:kk2+((0:Nat):Int)<=4611686018427387904:=by omega
   clear hkk2
   go_wp2
   go_roundw
   case rel =>
    refine⟨j+1,kk2,by omega,by go_num,by go_num,?_,?_,?_⟩
    ·rw [cntS_snoc _ HX.out];have:=HK.out;have:=HK2.out;have:cntE_Atom x=1+(cnt_IntS x.fVars):=rfl;omega
    ·rw [<- mkP_set mkE_Atom cntE_Atom k HX.out,<- HK.out]
     have hm:mkE_Atom x kk=⟨mtext kk,(mk_IntS x.fVars (kk+1))⟩:=by first|(unfold mkE_Atom;rfl)|(unfold mkE_Atom;rw [HK2.out];rfl)|(unfold mkE_Atom;rw [HK2.out];done)
     rw [hm]
     exact hput.out _ _ _ (hG2) hE2 (rAtom_own.2 ⟨AVars,nVars,cVars,fVars,rfl,(by simp),(mtext_le _),ho2⟩)
    ·exact hC.trans (Chg.mono (fp:=g::(fVars)) (hG2) (by intro k hk;rcases List.mem_cons.1 hk with rfl|hk;exact hgfp;exact hsub k hk))
   case measure=>simp [intOf];omega
  ·go_wp2
   go_ret
   have hl:¬ j<l.length:=by rw [HL.out];exact hlt
   exact⟨ret_int (by rw [HK.out,List.take_of_length_le (by omega)];rfl),by rw [mkP_all mkE_Atom cntE_Atom l k hl]at hO;exact hO,hC⟩


def cnt_Query (x:QueryD):Nat:=(cnt_AtomS x.fAtoms)
def mk_Query (x:QueryD) (k:Int):QueryD:=⟨x.fVariableCount,(mk_AtomS x.fAtoms k)⟩
set_option maxRecDepth 100000 in
set_option maxHeartbeats 1600000 in
theorem markQuery_m (cs:List Value) (x:QueryD) (k:Int) (w:World) (fp:List Nat) (h:(rQuery NB).own w fp cs x) (nd:fp.Nodup) (h0:0<=k) (h1:k+(cnt_Query x:Nat)<=4611686018427387904) :
  Calls Tryz.prog 31 #[.agg cs.toArray,.int .i64 k] w fun e w'=>e=.returned (.int .i64 (k+(cnt_Query x:Nat)))/\(rQuery NB).own w' fp cs (mk_Query x k)/\Chg fp w w':=by
 obtain⟨AAtoms,nAtoms,cAtoms,fAtoms,rfl,hfp,hVariableCount,hAtoms⟩:=rQuery_own.1 h
 clear h
 replace hfp:=hfp.symm;subst hfp
 unfold cnt_Query at h1 ⊢
 have hb0:=(Below.refl w.heap.size w).alloc (Nat.le_refl _) (.cells #[.int .i64 x.fVariableCount,.slice AAtoms nAtoms cAtoms] 29)
 have bx:=Bx.new w [.int .i64 x.fVariableCount,.slice AAtoms nAtoms cAtoms] 29
 have hC:Chg (fAtoms) w _:=Chg.ofBelow hb0 _
 have ltAtoms:=hAtoms.lt (rAtom_ok NB)
 replace hAtoms:=hAtoms.belowS (rAtom_ok NB) hb0
 have hbn:∀ q∈(fAtoms),q≠w.heap.size:=by
  intro q hq
  try simp only [List.mem_append,List.append_nil]at hq
  have:q<w.heap.size:=by grind
  omega
 have HN:=Lib.hid hbn;clear hbn hb0 ltAtoms
 have ND:=Lib.hid nd;clear nd
 go_enter Tryz.func31,Tryz.ntmps31
 go_wp2_with fail
 have nd1:fAtoms.Nodup:=by have:=ND.out;(try simp only [List.nodup_append,List.append_nil,List.nil_append]at this);grind
 refine(markAtomS_m _ _ _ _ k _ _ hAtoms nd1 (by omega) (by omega)).mono ?_
 rintro e w1 ⟨rfl,o1,hc1⟩
 have hAtoms:=o1
 replace bx:=bx.chg hc1 (fun hq=>HN.out _ (by(try simp only [List.mem_append,List.append_nil,List.nil_append]at hq ⊢);grind) rfl)
 replace hC:=hC.trans (hc1.mono (by intro q hq;(try simp only [List.mem_append,List.append_nil,List.nil_append]at hq ⊢);grind))
 clear hc1 nd1
 obtain⟨kk1,hkk1⟩:∃ q:Int,q=k+((cnt_AtomS x.fAtoms):Nat):=⟨_,rfl⟩
 rw [<- hkk1]
 have HK1:=Lib.hid hkk1
 have bk1:0<=kk1:=by omega
 have br1:kk1+((0:Nat):Int)<=4611686018427387904:=by omega
 clear hkk1
 clear h1
 go_wp2
 go_ret
 refine⟨ret_int (by have:=HK1.out;omega),?_,hC⟩
 have hm:mk_Query x k=⟨x.fVariableCount,(mk_AtomS x.fAtoms k)⟩:=by first|(unfold mk_Query;rfl)|(unfold mk_Query;done)
 rw [hm]
 exact⟨[],_,[.int .i64 x.fVariableCount],_,rfl,rfl,⟨rfl,rfl,hVariableCount⟩,⟨AAtoms,nAtoms,cAtoms,rfl,hAtoms⟩⟩


def cntE_PlanStep (x:PlanStepD):Nat:=1+1+1
def mkE_PlanStep (x:PlanStepD) (k:Int):PlanStepD:=⟨k,(k+1),((k+1)+1)⟩
def cnt_PlanStepS (l:List PlanStepD):Nat:=cntS cntE_PlanStep l
def mk_PlanStepS (l:List PlanStepD) (k:Int):List PlanStepD:=mkS mkE_PlanStep cntE_PlanStep l k
set_option maxRecDepth 100000 in
set_option maxHeartbeats 1600000 in
theorem markPlanStepS_m (A:Option Addr) (n cap:Nat) (l:List PlanStepD) (k:Int) (w:World) (fp:List Nat) (h:OS NB 153 (rPlanStep NB) w fp A n cap l) (nd:fp.Nodup) (h0:0<=k) (h1:k+(cnt_PlanStepS l:Nat)<=4611686018427387904) :
  Calls Tryz.prog 90 #[.slice A n cap,.int .i64 k] w fun e w'=>e=.returned (.int .i64 (k+(cnt_PlanStepS l:Nat)))/\OS NB 153 (rPlanStep NB) w' fp A n cap (mk_PlanStepS l k)/\Chg fp w w':=by
 have hn:n<=4294967296:=h.nb
 have HL:=Lib.hid h.len
 have H1:Hid (k+(cntS cntE_PlanStep l:Nat)<=4611686018427387904):=h1
 clear h1
 go_enter Tryz.func90,Tryz.ntmps90
 go_wp2
 go_loopw [1,5] (fun kv iv wr=>∃ (j:Nat) (kk:Int),j<=n/\iv=.int .i64 j/\kv=.int .i64 kk/\kk=k+(cntS cntE_PlanStep (l.take j):Nat)/\OS NB 153 (rPlanStep NB) wr fp A n cap (mkP mkE_PlanStep cntE_PlanStep l k j)/\Chg fp w wr) (fun _ iv _=>n - (intOf iv).toNat)
 case atStart=>exact⟨0,k,Nat.zero_le _,rfl,rfl,by simp [cntS],by rw [mkP_zero];exact h,Chg.refl _ _⟩
 case round =>
  clear h
  obtain⟨j,kk,hj,rfl,rfl,hkk,hO,hC⟩:=hrel
  have HK:=Lib.hid hkk;clear hkk
  by_cases hlt:j<n
  ·obtain⟨g,f,c,x,xs,rfl,hx,ho,hfnd,hgf,hgfp,hsub,hE,hput⟩:=hO.elem (rPlanStep_ok NB) nd hlt
   have HX:Hid (l[j]?=some x):=by have:=hx.out;rwa [mkP_at]at this
   clear hx
   have hb1:cntS cntE_PlanStep (l.take j)+cntE_PlanStep x<=cntS cntE_PlanStep l:=by rw [<- cntS_snoc _ HX.out];exact cntS_take_le _ _ _
   have b0:0<=kk:=by have:=HK.out;omega
   have b1:kk+(cntE_PlanStep x:Nat)<=4611686018427387904:=by have:=HK.out;have:=H1.out;omega
   clear hb1
   obtain⟨rfl,hfp,hKind,hAtom,hOrder⟩:=rPlanStep_own.1 ho
   subst hfp
   unfold cntE_PlanStep at b1
   clear hO
   have qa0:wr.cell? ⟨g,j*3,none⟩=some (.int .i64 x.fKind):=by simpa [rPlanStep_size]using hE.cell hlt (t:=0) rfl
   have qa1:wr.cell? ⟨g,j*3+1,none⟩=some (.int .i64 x.fAtom):=by simpa [rPlanStep_size]using hE.cell hlt (t:=1) rfl
   have qa2:wr.cell? ⟨g,j*3+2,none⟩=some (.int .i64 x.fOrder):=by simpa [rPlanStep_size]using hE.cell hlt (t:=2) rfl
   have qfa:=hE.frozen
   have qga:=hE.lt
   go_wp2
   go_roundw
   case rel =>
    refine⟨j+1,(((kk+1)+1)+1),by omega,by go_num,by go_num,?_,?_,?_⟩
    ·rw [cntS_snoc _ HX.out];have:=HK.out;have:cntE_PlanStep x=1+1+1:=rfl;omega
    ·rw [<- mkP_set mkE_PlanStep cntE_PlanStep k HX.out,<- HK.out]
     have hm:mkE_PlanStep x kk=⟨kk,(kk+1),((kk+1)+1)⟩:=by first|(unfold mkE_PlanStep;rfl)|(unfold mkE_PlanStep;rfl)|(unfold mkE_PlanStep;done)
     rw [hm]
     exact hput.out _ _ _ (Chg.trans (Chg.refl (g::_) wr) (Chg.mono (fp:=[g]) (by repeat' (first|with_reducible exact Chg.refl _ _|with_reducible refine Chg.setCell ?_ ?_ _ _|with_reducible refine Chg.alloc ?_ _|(simp;done))) (by simp))) (((hE.store 0 (by decide) (.int .i64 kk)).store 1 (by decide) (.int .i64 (kk+1))).store 2 (by decide) (.int .i64 ((kk+1)+1))) (rPlanStep_own.2 ⟨rfl,(by simp),⟨by dsimp only;omega,by dsimp only;omega⟩,⟨by dsimp only;omega,by dsimp only;omega⟩,⟨by dsimp only;omega,by dsimp only;omega⟩⟩)
    ·exact hC.trans (Chg.mono (fp:=g::([])) (Chg.trans (Chg.refl (g::_) wr) (Chg.mono (fp:=[g]) (by repeat' (first|with_reducible exact Chg.refl _ _|with_reducible refine Chg.setCell ?_ ?_ _ _|with_reducible refine Chg.alloc ?_ _|(simp;done))) (by simp))) (by intro k hk;rcases List.mem_cons.1 hk with rfl|hk;exact hgfp;exact hsub k hk))
   case measure=>simp [intOf];omega
  ·go_wp2
   go_ret
   have hl:¬ j<l.length:=by rw [HL.out];exact hlt
   exact⟨ret_int (by rw [HK.out,List.take_of_length_le (by omega)];rfl),by rw [mkP_all mkE_PlanStep cntE_PlanStep l k hl]at hO;exact hO,hC⟩


def cnt_Plan (x:PlanD):Nat:=(cnt_PlanStepS x.fSteps)
def mk_Plan (x:PlanD) (k:Int):PlanD:=⟨(mk_PlanStepS x.fSteps k)⟩
set_option maxRecDepth 100000 in
set_option maxHeartbeats 1600000 in
theorem markPlan_m (cs:List Value) (x:PlanD) (k:Int) (w:World) (fp:List Nat) (h:(rPlan NB).own w fp cs x) (nd:fp.Nodup) (h0:0<=k) (h1:k+(cnt_Plan x:Nat)<=4611686018427387904) :
  Calls Tryz.prog 32 #[.agg cs.toArray,.int .i64 k] w fun e w'=>e=.returned (.int .i64 (k+(cnt_Plan x:Nat)))/\(rPlan NB).own w' fp cs (mk_Plan x k)/\Chg fp w w':=by
 obtain⟨ASteps,nSteps,cSteps,fSteps,rfl,hfp,hSteps⟩:=rPlan_own.1 h
 clear h
 replace hfp:=hfp.symm;subst hfp
 unfold cnt_Plan at h1 ⊢
 have hb0:=(Below.refl w.heap.size w).alloc (Nat.le_refl _) (.cells #[.slice ASteps nSteps cSteps] 62)
 have bx:=Bx.new w [.slice ASteps nSteps cSteps] 62
 have hC:Chg (fSteps) w _:=Chg.ofBelow hb0 _
 have ltSteps:=hSteps.lt (rPlanStep_ok NB)
 replace hSteps:=hSteps.belowS (rPlanStep_ok NB) hb0
 have hbn:∀ q∈(fSteps),q≠w.heap.size:=by
  intro q hq
  try simp only [List.mem_append,List.append_nil]at hq
  have:q<w.heap.size:=by grind
  omega
 have HN:=Lib.hid hbn;clear hbn hb0 ltSteps
 have ND:=Lib.hid nd;clear nd
 go_enter Tryz.func32,Tryz.ntmps32
 go_wp2_with fail
 have nd1:fSteps.Nodup:=by have:=ND.out;(try simp only [List.nodup_append,List.append_nil,List.nil_append]at this);grind
 refine(markPlanStepS_m _ _ _ _ k _ _ hSteps nd1 (by omega) (by omega)).mono ?_
 rintro e w1 ⟨rfl,o1,hc1⟩
 have hSteps:=o1
 replace bx:=bx.chg hc1 (fun hq=>HN.out _ (by(try simp only [List.mem_append,List.append_nil,List.nil_append]at hq ⊢);grind) rfl)
 replace hC:=hC.trans (hc1.mono (by intro q hq;(try simp only [List.mem_append,List.append_nil,List.nil_append]at hq ⊢);grind))
 clear hc1 nd1
 obtain⟨kk1,hkk1⟩:∃ q:Int,q=k+((cnt_PlanStepS x.fSteps):Nat):=⟨_,rfl⟩
 rw [<- hkk1]
 have HK1:=Lib.hid hkk1
 have bk1:0<=kk1:=by omega
 have br1:kk1+((0:Nat):Int)<=4611686018427387904:=by omega
 clear hkk1
 clear h1
 go_wp2
 go_ret
 refine⟨ret_int (by have:=HK1.out;omega),?_,hC⟩
 have hm:mk_Plan x k=⟨(mk_PlanStepS x.fSteps k)⟩:=by first|(unfold mk_Plan;rfl)|(unfold mk_Plan;done)
 rw [hm]
 exact⟨ASteps,nSteps,cSteps,rfl,hSteps⟩








def cnt_Stream (x:StreamD):Nat:=(cnt_IntS x.fVars)+(cnt_IntSS x.fRows)
def mk_Stream (x:StreamD) (k:Int):StreamD:=⟨(mk_IntS x.fVars k),(mk_IntSS x.fRows (k+((cnt_IntS x.fVars):Nat)))⟩
set_option maxRecDepth 100000 in
set_option maxHeartbeats 1600000 in
theorem markStream_m (cs:List Value) (x:StreamD) (k:Int) (w:World) (fp:List Nat) (h:(rStream NB).own w fp cs x) (nd:fp.Nodup) (h0:0<=k) (h1:k+(cnt_Stream x:Nat)<=4611686018427387904) :
  Calls Tryz.prog 38 #[.agg cs.toArray,.int .i64 k] w fun e w'=>e=.returned (.int .i64 (k+(cnt_Stream x:Nat)))/\(rStream NB).own w' fp cs (mk_Stream x k)/\Chg fp w w':=by
 obtain⟨AVars,nVars,cVars,ARows,nRows,cRows,fVars,fRows,rfl,hfp,hVars,hRows⟩:=rStream_own.1 h
 clear h
 subst hfp
 unfold cnt_Stream at h1 ⊢
 have hb0:=(Below.refl w.heap.size w).alloc (Nat.le_refl _) (.cells #[.slice AVars nVars cVars,.slice ARows nRows cRows] 35)
 have bx:=Bx.new w [.slice AVars nVars cVars,.slice ARows nRows cRows] 35
 have hC:Chg (fVars++(fRows)) w _:=Chg.ofBelow hb0 _
 have ltVars:=hVars.lt rInt_ok
 have ltRows:=hRows.lt (rSlice_ok NB _ rInt_ok)
 replace hVars:=hVars.belowS rInt_ok hb0
 replace hRows:=hRows.belowS (rSlice_ok NB _ rInt_ok) hb0
 have hbn:∀ q∈(fVars++(fRows)),q≠w.heap.size:=by
  intro q hq
  try simp only [List.mem_append,List.append_nil]at hq
  have:q<w.heap.size:=by grind
  omega
 have HN:=Lib.hid hbn;clear hbn hb0 ltVars ltRows
 have ND:=Lib.hid nd;clear nd
 go_enter Tryz.func38,Tryz.ntmps38
 go_wp2_with fail
 have nd1:fVars.Nodup:=by have:=ND.out;(try simp only [List.nodup_append,List.append_nil,List.nil_append]at this);grind
 refine(markIntS_m _ _ _ _ k _ _ hVars nd1 (by omega) (by omega)).mono ?_
 rintro e w1 ⟨rfl,o1,hc1⟩
 replace hRows:=hRows.chg (rSlice_ok NB _ rInt_ok) hc1 (fun q hq hq'=>by have:=ND.out;simp only [List.nodup_append,List.mem_append,List.append_nil,List.nil_append]at this hq';grind)
 have hVars:=o1
 replace bx:=bx.chg hc1 (fun hq=>HN.out _ (by(try simp only [List.mem_append,List.append_nil,List.nil_append]at hq ⊢);grind) rfl)
 replace hC:=hC.trans (hc1.mono (by intro q hq;(try simp only [List.mem_append,List.append_nil,List.nil_append]at hq ⊢);grind))
 clear hc1 nd1
 obtain⟨kk1,hkk1⟩:∃ q:Int,q=k+((cnt_IntS x.fVars):Nat):=⟨_,rfl⟩
 rw [<- hkk1]
 have HK1:=Lib.hid hkk1
 have bk1:0<=kk1:=by omega
 have br1:kk1+((0+(cnt_IntSS x.fRows):Nat):Int)<=4611686018427387904:=by omega
 clear hkk1
 clear h1
 have c2_0:=bx 0 _ rfl
 have c2_1:=bx 1 _ rfl
 go_wp2_with fail
 have nd2:fRows.Nodup:=by have:=ND.out;(try simp only [List.nodup_append,List.append_nil,List.nil_append]at this);grind
 refine(markIntSS_m _ _ _ _ kk1 _ _ hRows nd2 (by omega) (by omega)).mono ?_
 rintro e w2 ⟨rfl,o2,hc2⟩
 replace hVars:=hVars.chg rInt_ok hc2 (fun q hq hq'=>by have:=ND.out;simp only [List.nodup_append,List.mem_append,List.append_nil,List.nil_append]at this hq';grind)
 have hRows:=o2
 replace bx:=bx.chg hc2 (fun hq=>HN.out _ (by(try simp only [List.mem_append,List.append_nil,List.nil_append]at hq ⊢);grind) rfl)
 replace hC:=hC.trans (hc2.mono (by intro q hq;(try simp only [List.mem_append,List.append_nil,List.nil_append]at hq ⊢);grind))
 clear hc2 nd2 c2_0 c2_1
 obtain⟨kk2,hkk2⟩:∃ q:Int,q=kk1+((cnt_IntSS x.fRows):Nat):=⟨_,rfl⟩
 rw [<- hkk2]
 have HK2:=Lib.hid hkk2
 have bk2:0<=kk2:=by omega
 have br2:kk2+((0:Nat):Int)<=4611686018427387904:=by omega
 clear hkk2
 go_wp2
 go_ret
 refine⟨ret_int (by have:=HK1.out;have:=HK2.out;omega),?_,hC⟩
 have hm:mk_Stream x k=⟨(mk_IntS x.fVars k),(mk_IntSS x.fRows kk1)⟩:=by first|(unfold mk_Stream;rw [HK1.out];rfl)|(unfold mk_Stream;rw [HK1.out];done)
 rw [hm]
 exact⟨fVars,_,[.slice AVars nVars cVars],_,rfl,rfl,⟨AVars,nVars,cVars,rfl,hVars⟩,⟨ARows,nRows,cRows,rfl,hRows⟩⟩

set_option maxRecDepth 100000 in
set_option maxHeartbeats 1600000 in
theorem heldStream_m (cs:List Value) (x:StreamD) (k:Int) (w:World) (h:(rStream NB).rep w cs (mk_Stream x k)) (h0:0<=k) (h1:k+(cnt_Stream x:Nat)<=4611686018427387904) :
  Calls Tryz.prog 39 #[.agg cs.toArray,.int .i64 k] w fun e w'=>e=.returned (.int .i64 (k+(cnt_Stream x:Nat)))/\Below w.heap.size w w':=by
 obtain⟨y,hy⟩:∃ y,y=mk_Stream x k:=⟨_,rfl⟩
 rw [<- hy]at h
 obtain⟨AVars,nVars,cVars,ARows,nRows,cRows,rfl,hVars,hRows⟩:=rStream_rep.1 h
 have eyVars:y.fVars=(mk_IntS x.fVars k):=by rw [hy];rfl
 rw [eyVars]at hVars
 have eyRows:y.fRows=(mk_IntSS x.fRows (k+((cnt_IntS x.fVars):Nat))):=by rw [hy];rfl
 rw [eyRows]at hRows
 unfold cnt_Stream at h1 ⊢
 have hB:=(Below.refl w.heap.size w).alloc (Nat.le_refl _) (.cells #[.slice AVars nVars cVars,.slice ARows nRows cRows] 35)
 have bx:=Bx.new w [.slice AVars nVars cVars,.slice ARows nRows cRows] 35
 have HY:=Lib.hid hy;clear hy h
 go_enter Tryz.func39,Tryz.ntmps39
 go_wp2_with fail
 refine(heldIntS_m _ _ _ x.fVars k _ (hVars.below rInt_ok hB) (by omega) (by omega)).mono ?_
 rintro e w1 ⟨rfl,hb1⟩
 replace hB:=hB.trans (hb1.mono hB.size)
 replace bx:=bx.below hb1
 clear hb1
 obtain⟨kk1,hkk1⟩:∃ q:Int,q=k+((cnt_IntS x.fVars):Nat):=⟨_,rfl⟩
 rw [<- hkk1]
 rw [<- hkk1]at eyRows
 rw [<- hkk1]at hRows
 have HK1:=Lib.hid hkk1
 have bk1:0<=kk1:=by omega
 have br1:kk1+((0+(cnt_IntSS x.fRows):Nat):Int)<=4611686018427387904:=by omega
 clear hkk1
 clear h1
 have c2_0:=bx 0 _ rfl
 have c2_1:=bx 1 _ rfl
 go_wp2_with fail
 refine(heldIntSS_m _ _ _ x.fRows kk1 _ (hRows.below (rSlice_ok NB _ rInt_ok) hB) (by omega) (by omega)).mono ?_
 rintro e w2 ⟨rfl,hb2⟩
 replace hB:=hB.trans (hb2.mono hB.size)
 replace bx:=bx.below hb2
 clear hb2 c2_0 c2_1
 obtain⟨kk2,hkk2⟩:∃ q:Int,q=kk1+((cnt_IntSS x.fRows):Nat):=⟨_,rfl⟩
 rw [<- hkk2]
 have HK2:=Lib.hid hkk2
 have bk2:0<=kk2:=by omega
 have br2:kk2+((0:Nat):Int)<=4611686018427387904:=by omega
 clear hkk2
 go_wp2
 go_ret
 exact⟨ret_int (by have:=HK1.out;have:=HK2.out;omega),hB⟩

end Go.Proofs.YtpodldagcnfhlaaGreat
namespace Go.Proofs.YtpodldagcnfhlaaGreat
open Go.RowKit
set_option linter.unusedVariables false
set_option linter.unusedSimpArgs false

theorem cntS_le {α:Type}{c b:α->Nat}{l:List α}(h:∀ x,c x<=8*(1+b x)):cntS c l<=8*bulkS b l:=by
 unfold cntS bulkS
 induction l with
 | nil=>simp
 | cons x l ih=>simp only [List.map_cons,List.sum_cons,List.length_cons]at ih ⊢;have:=h x;omega
theorem cntS_len {α:Type}{c:α->Nat}{l:List α}{m:Nat}(h:∀ x,c x=m):cntS c l=m*l.length:=by
 unfold cntS
 induction l with
 | nil=>simp
 | cons x l ih=>simp only [List.map_cons,List.sum_cons,List.length_cons]at ih ⊢;rw [ih,h x,Nat.mul_add];omega
theorem cntb_IntS (l:List Int):cnt_IntS l<=8*l.length:=by unfold cnt_IntS;omega
theorem cntb_IntSS (l:List (List Int)):cnt_IntSS l<=8*(bulkS (fun x=>x.length) l):=by
 unfold cnt_IntSS;refine cntS_le fun x=>?_
 have:=cntb_IntS x
 omega
theorem cntb_TableS (l:List TableD):cnt_TableS l<=8*(bulkS (fun x=>bulkTable x) l):=by
 unfold cnt_TableS;refine cntS_le fun x=>?_
 have:=cntb_IntSS x.fRows
 unfold cntE_Table;simp only [bulkTable];omega
theorem cntb_Database (x:DatabaseD):cnt_Database x<=8*bulkDatabase x:=by
 have:=cntb_TableS x.fTables
 unfold cnt_Database bulkDatabase;omega
theorem cntb_AtomS (l:List AtomD):cnt_AtomS l<=8*(bulkS (fun x=>bulkAtom x) l):=by
 unfold cnt_AtomS;refine cntS_le fun x=>?_
 have:=cntb_IntS x.fVars
 unfold cntE_Atom;simp only [bulkAtom];omega
theorem cntb_Query (x:QueryD):cnt_Query x<=8*bulkQuery x:=by
 have:=cntb_AtomS x.fAtoms
 unfold cnt_Query bulkQuery;omega
theorem cntb_PlanStepS (l:List PlanStepD):cnt_PlanStepS l<=8*(l.length):=by
 unfold cnt_PlanStepS;rw [cntS_len (c:=cntE_PlanStep) (m:=3) (fun _=>rfl)];omega
theorem cntb_Plan (x:PlanD):cnt_Plan x<=8*bulkPlan x:=by
 have:=cntb_PlanStepS x.fSteps
 unfold cnt_Plan bulkPlan;omega
end Go.Proofs.YtpodldagcnfhlaaGreat
