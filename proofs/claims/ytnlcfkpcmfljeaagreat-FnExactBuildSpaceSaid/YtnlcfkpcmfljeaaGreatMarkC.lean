/-
  Text, Mark, MarkC
-/
import Derived.Test.YtnlcfkpcmfljeaaGreatKeep
import Derived.Test.YtnlcfkpcmfljeaaGreatMarkB
import Derived.Test.YtnlcfkpcmfljeaaGreatSz
namespace Go.Proofs.YtnlcfkpcmfljeaaGreat
open Go.RowKit
set_option linter.unusedVariables false
set_option linter.unusedSimpArgs false

def digB (k:Nat):UInt8:=UInt8.ofNat (48+k % 10)
def digF:Nat->Nat->ByteArray->ByteArray
 | 0,_,out=>out
 | f+1,k,out=>if k=0 then out else digF f (k / 10) (⟨#[digB k]⟩++out)
theorem digF_le (f k:Nat) (out:ByteArray):(digF f k out).size<=out.size+f:=by
 induction f generalizing k out with
 | zero=>exact Nat.le_refl _
 | succ f ih =>
  rw [digF]
  split
  ·omega
  ·refine Nat.le_trans (ih _ _) ?_
   rw [ByteArray.size_append]
   show 1+out.size+f<=_
   omega
theorem digF_zero (f:Nat) (out:ByteArray):digF f 0 out=out:=by cases f<;>rfl
theorem digF_step {f k:Nat}{out:ByteArray}(h:k≠0):digF (f+1) k out=digF f (k / 10) (⟨#[digB k]⟩++out):=by
 rw [digF,if_neg h]
def mtext (k:Int):ByteArray:=if k<=0 then ⟨#[109,48]⟩ else ⟨#[109]⟩++digF 19 k.toNat ⟨#[]⟩
theorem mtext_le (k:Int):(mtext k).size<=NB:=by
 unfold mtext NB
 split
 ·show 2<=_;omega
 ·have:=digF_le 19 k.toNat ⟨#[]⟩
  rw [ByteArray.size_append]
  have e:(⟨#[]⟩:ByteArray).size=0:=rfl
  have e1:(⟨#[109]⟩:ByteArray).size=1:=rfl
  omega
set_option maxRecDepth 100000 in
set_option maxHeartbeats 1600000 in
theorem markText_c (k:Int) (w:World) (hk:k<=9223372036854775807):Calls Tryz.prog 150 #[.int .i64 k] w fun e w'=>e=.returned (.string (mtext k))/\Below w.heap.size w w':=by
 by_cases h0:k<=0
 ·have HM:Hid (mtext k=⟨#[109,48]⟩):=by show _=_;unfold mtext;rw [if_pos h0]
  go_enter Tryz.func150,Tryz.ntmps150
  go_wp2
  go_ret
  exact⟨by rw [HM.out];rfl,Below.refl _ _⟩
 obtain⟨j,rfl⟩:∃ j:Nat,k=j:=⟨k.toNat,by omega⟩
 have HM:Hid (mtext (j:Int)=⟨#[109]⟩++digF 19 j ⟨#[]⟩):=by show _=_;unfold mtext;rw [if_neg h0,Int.toNat_natCast]
 have hj0:0<j:=by omega
 go_enter Tryz.func150,Tryz.ntmps150
 go_wp2
 go_loopw [0,3] (fun vk vo wr=>∃ (f t:Nat) (out:ByteArray),vk=.int .i64 t/\vo=.string out/\t<10 ^ f/\t<=j/\out.size+f<=19/\digF f t out=digF 19 j ⟨#[]⟩/\Below w.heap.size w wr) (fun vk _ _=>(intOf vk).toNat)
 case atStart =>
  have h19:(10:Nat) ^ 19=10000000000000000000:=by decide
  exact⟨19,j,_,rfl,rfl,by omega,Nat.le_refl _,Nat.le_refl _,rfl,Below.refl _ _⟩
 case round =>
  obtain⟨f,t,out,rfl,rfl,hf,htj,hsz,hd,hB⟩:=hrel
  have HD:=Lib.hid hd;clear hd
  have HF:=Lib.hid hf;clear hf
  by_cases ht:0<t
  ·have hcv:(convert 62 9 (.slice (some ⟨wr.heap.size,0,none⟩) 1 1)).run Tryz.prog (wr.alloc (.cells #[.int .u8 (48+(t:Int) % 10)] 5))=.ok (.string ⟨#[digB t]⟩) (wr.alloc (.cells #[.int .u8 (48+(t:Int) % 10)] 5)):=by
    refine run_convert_bytes_back (P:=Tryz.prog) _ _ _ 5 ⟨wr.heap.size,0,none⟩ 1 [digB t] Tryz.underlying62 Tryz.underlying5 Tryz.underlying9 (fun i hi=>?_)
    match i,hi with
    | 0,_ =>
     have h1:=cells_new wr 5 [Value.int IntKind.u8 (48+(t:Int) % 10)] 0 (Value.int IntKind.u8 (48+(t:Int) % 10)) rfl
     have e:((digB t).toNat:Int)=48+(t:Int) % 10:=by
      unfold digB;rw [UInt8.toNat_ofNat'];omega
     show _=some (Value.int IntKind.u8 ((digB t).toNat:Int))
     rw [e];exact h1
   obtain⟨f',rfl⟩:∃ f',f=f'+1:=by
    cases f with
    | zero=>have:=HF.out;simp at this;omega
    | succ f=>exact⟨f,rfl⟩
   have HN:Hid (digF f' (t / 10) (⟨#[digB t]⟩++out)=digF 19 j ⟨#[]⟩):=by
    show _=_
    rw [<- HD.out,digF_step (by omega)]
   have HF2:Hid (t / 10<10 ^ f'):=by
    show _<_
    have:=HF.out
    rw [Nat.pow_succ]at this
    omega
   have hc1:¬ IntKind.i64.max<(((⟨#[digB t]⟩:ByteArray).size+out.size:Nat):Int):=by
    have e:(⟨#[digB t]⟩:ByteArray).size=1:=rfl
    rw [e,show IntKind.i64.max=9223372036854775807 from rfl];omega
   go_wp2
   go_roundw
   case rel=>exact⟨f',t / 10,_,by rw [show((t / 10:Nat):Int)=(t:Int) / 10 by omega],rfl,HF2.out,by omega,by rw [ByteArray.size_append];show 1+out.size+f'<=19;omega,HN.out,hB.alloc hB.size _⟩
   case measure=>simp [intOf];omega
  ·have hc1:¬ IntKind.i64.max<(((⟨#[109]⟩:ByteArray).size+out.size:Nat):Int):=by
    have e:(⟨#[109]⟩:ByteArray).size=1:=rfl
    rw [e,show IntKind.i64.max=9223372036854775807 from rfl];omega
   have HE:Hid (out=digF 19 j ⟨#[]⟩):=by
    show _=_
    rw [<- HD.out,show t=0 by omega,digF_zero]
   go_wp2
   go_ret
   exact⟨by rw [HM.out,<- HE.out];rfl,hB⟩
end Go.Proofs.YtnlcfkpcmfljeaaGreat
namespace Go.Proofs.YtnlcfkpcmfljeaaGreat
open Go.RowKit
set_option linter.unusedVariables false
set_option linter.unusedSimpArgs false

















def cntE_Atom (x:AtomD):Nat:=1+(cnt_IntS x.fVars)
def mkE_Atom (x:AtomD) (k:Int):AtomD:=⟨mtext k,(mk_IntS x.fVars (k+1))⟩
def cnt_AtomS (l:List AtomD):Nat:=cntS cntE_Atom l
def mk_AtomS (l:List AtomD) (k:Int):List AtomD:=mkS mkE_Atom cntE_Atom l k
set_option maxRecDepth 100000 in
set_option maxHeartbeats 1600000 in
theorem markAtomS_m (A:Option Addr) (n cap:Nat) (l:List AtomD) (k:Int) (w:World) (fp:List Nat) (h:OS NB 162 (rAtom NB) w fp A n cap l) (nd:fp.Nodup) (h0:0<=k) (h1:k+(cnt_AtomS l:Nat)<=4611686018427387904) :
  Calls Tryz.prog 76 #[.slice A n cap,.int .i64 k] w fun e w'=>e=.returned (.int .i64 (k+(cnt_AtomS l:Nat)))/\OS NB 162 (rAtom NB) w' fp A n cap (mk_AtomS l k)/\Chg fp w w':=by
 have hn:n<=4294967296:=h.nb
 have HL:=Lib.hid h.len
 have H1:Hid (k+(cntS cntE_Atom l:Nat)<=4611686018427387904):=h1
 clear h1
 go_enter Tryz.func76,Tryz.ntmps76
 go_wp2
 go_loopw [1,5] (fun kv iv wr=>∃ (j:Nat) (kk:Int),j<=n/\iv=.int .i64 j/\kv=.int .i64 kk/\kk=k+(cntS cntE_Atom (l.take j):Nat)/\OS NB 162 (rAtom NB) wr fp A n cap (mkP mkE_Atom cntE_Atom l k j)/\Chg fp w wr) (fun _ iv _=>n - (intOf iv).toNat)
 case atStart=>exact⟨0,k,Nat.zero_le _,rfl,rfl,by simp [cntS],by rw [mkP_zero];exact h,Chg.refl _ _⟩
 case round =>
  clear h
  obtain⟨j,kk,hj,rfl,rfl,hkk,hO,hC⟩:=hrel
  have HK:=Lib.hid hkk;clear hkk
  by_cases hlt:j<n
  ·obtain⟨g,f,c,x,xs,rfl,hx,ho,hfnd,hgf,hgfp,hsub,hE,hput⟩:=hO.elem (rAtom_ok NB) nd hlt
   have HX:Hid (l[j]?=some x):=by have:=hx.out;rwa [mkP_at]at this
   clear hx
   have hb1:cntS cntE_Atom (l.take j)+cntE_Atom x<=cntS cntE_Atom l:=by rw [<- cntS_snoc _ HX.out];exact cntS_take_le _ _ _
   have b0:0<=kk:=by have:=HK.out;omega
   have b1:kk+(cntE_Atom x:Nat)<=4611686018427387904:=by have:=HK.out;have:=H1.out;omega
   clear hb1
   obtain⟨AVars,nVars,cVars,fVars,rfl,hfp,hName,hVars⟩:=rAtom_own.1 ho
   try simp only [List.append_nil,List.nil_append]at hfp
   replace hfp:=hfp.symm;subst hfp
   unfold cntE_Atom at b1
   clear hO
   have qa0:wr.cell? ⟨g,j*2,none⟩=some (.string x.fName):=by simpa [rAtom_size]using hE.cell hlt (t:=0) rfl
   have qa1:wr.cell? ⟨g,j*2+1,none⟩=some (.slice AVars nVars cVars):=by simpa [rAtom_size]using hE.cell hlt (t:=1) rfl
   have qfa:=hE.frozen
   have qga:=hE.lt
   go_wp2_with fail
   refine(markText_c kk _ (by omega)).mono ?_
   rintro e w1 ⟨rfl,hbb1⟩
   have hcc1:Chg [g] wr w1:=Chg.trans (by repeat' (first|with_reducible exact Chg.refl _ _|with_reducible refine Chg.setCell ?_ ?_ _ _|with_reducible refine Chg.alloc ?_ _|(simp;done))) (Chg.ofBelow hbb1 _)
   have hE1:=ElemAt.keep hE (hbb1.block g hE.lt)
   have hVarsN1:=hVars.chg rInt_ok hcc1 (fun k hk hk'=>by simp only [List.mem_singleton]at hk';subst hk';exact hgf (by simp [hk]))
   have hG1:Chg (g::(fVars)) wr w1:=Chg.trans (Chg.refl (g::(fVars)) wr) (hcc1.mono (by simp))
   clear qa0 qa1 qfa qga hcc1 hbb1
   have q10:w1.cell? ⟨g,j*2,none⟩=some (.string x.fName):=by simpa [rAtom_size]using hE1.cell hlt (t:=0) rfl
   have q11:w1.cell? ⟨g,j*2+1,none⟩=some (.slice AVars nVars cVars):=by simpa [rAtom_size]using hE1.cell hlt (t:=1) rfl
   have qf1:=hE1.frozen
   have qg1:=hE1.lt
   go_wp2_with fail
   have hs2:=hVarsN1
   have nd2:fVars.Nodup:=hfnd
   refine(markIntS_m _ _ _ _ (kk+1) _ _ (hs2.chg rInt_ok (fp:=[g]) (by repeat' (first|with_reducible exact Chg.refl _ _|with_reducible refine Chg.setCell ?_ ?_ _ _|with_reducible refine Chg.alloc ?_ _|(simp;done))) (fun k hk hk'=>by simp only [List.mem_singleton]at hk';subst hk';exact hgf (by simp [hk]))) nd2 (by omega) (by omega)).mono ?_
   rintro e w2 ⟨rfl,ho2,hcc2⟩
   have hgn2:g∉fVars:=fun hk=>hgf (by simp [hk])
   have hE2:=ElemAt.keep (hE1.store 0 (by decide) (.string (mtext kk))) (hcc2.block g (hE1.store 0 (by decide) (.string (mtext kk))).lt hgn2)
   have hG2:Chg (g::(fVars)) wr w2:=Chg.trans hG1 (Chg.trans (Chg.mono (fp:=[g]) ((by repeat' (first|with_reducible exact Chg.refl _ _|with_reducible refine Chg.setCell ?_ ?_ _ _|with_reducible refine Chg.alloc ?_ _|(simp;done))):Chg [g] w1 _) (by simp)) (hcc2.mono (by intro k hk;simp [hk])))
   clear q10 q11 qf1 qg1 hcc2
   have q20:w2.cell? ⟨g,j*2,none⟩=some (.string (mtext kk)):=by simpa [rAtom_size]using hE2.cell hlt (t:=0) rfl
   have q21:w2.cell? ⟨g,j*2+1,none⟩=some (.slice AVars nVars cVars):=by simpa [rAtom_size]using hE2.cell hlt (t:=1) rfl
   have qf2:=hE2.frozen
   have qg2:=hE2.lt
   obtain⟨kk2,hkk2⟩:∃ q:Int,q=(kk+1)+((cnt_IntS x.fVars):Nat):=⟨_,rfl⟩
   rw [<- hkk2]
   have HK2:=Lib.hid hkk2
   have bk2:0<=kk2:=by omega
   have bb2:kk2<=4611686018427387904:=by omega
   have br2:kk2+((0:Nat):Int)<=4611686018427387904:=by omega
   clear hkk2
   go_wp2
   go_roundw
   case rel =>
    refine⟨j+1,kk2,by omega,by go_num,by go_num,?_,?_,?_⟩
    ·rw [cntS_snoc _ HX.out];have:=HK.out;have:=HK2.out;have:cntE_Atom x=1+(cnt_IntS x.fVars):=rfl;omega
    ·rw [<- mkP_set mkE_Atom cntE_Atom k HX.out,<- HK.out]
     have hm:mkE_Atom x kk=⟨mtext kk,(mk_IntS x.fVars (kk+1))⟩:=by first|(unfold mkE_Atom;rfl)|(unfold mkE_Atom;rw [HK2.out];rfl)|(unfold mkE_Atom;rw [HK2.out];done)
     rw [hm]
     exact hput.out _ _ _ (hG2) hE2 (rAtom_own.2 ⟨AVars,nVars,cVars,fVars,rfl,(by simp),(mtext_le _),ho2⟩)
    ·exact hC.trans (Chg.mono (fp:=g::(fVars)) (hG2) (by intro k hk;rcases List.mem_cons.1 hk with rfl|hk;exact hgfp;exact hsub k hk))
   case measure=>simp [intOf];omega
  ·go_wp2
   go_ret
   have hl:¬ j<l.length:=by rw [HL.out];exact hlt
   exact⟨ret_int (by rw [HK.out,List.take_of_length_le (by omega)];rfl),by rw [mkP_all mkE_Atom cntE_Atom l k hl]at hO;exact hO,hC⟩


def cnt_Query (x:QueryD):Nat:=(cnt_AtomS x.fAtoms)
def mk_Query (x:QueryD) (k:Int):QueryD:=⟨x.fVariableCount,(mk_AtomS x.fAtoms k)⟩
set_option maxRecDepth 100000 in
set_option maxHeartbeats 1600000 in
theorem markQuery_m (cs:List Value) (x:QueryD) (k:Int) (w:World) (fp:List Nat) (h:(rQuery NB).own w fp cs x) (nd:fp.Nodup) (h0:0<=k) (h1:k+(cnt_Query x:Nat)<=4611686018427387904) :
  Calls Tryz.prog 20 #[.agg cs.toArray,.int .i64 k] w fun e w'=>e=.returned (.int .i64 (k+(cnt_Query x:Nat)))/\(rQuery NB).own w' fp cs (mk_Query x k)/\Chg fp w w':=by
 obtain⟨AAtoms,nAtoms,cAtoms,fAtoms,rfl,hfp,hVariableCount,hAtoms⟩:=rQuery_own.1 h
 clear h
 replace hfp:=hfp.symm;subst hfp
 unfold cnt_Query at h1 ⊢
 have hb0:=(Below.refl w.heap.size w).alloc (Nat.le_refl _) (.cells #[.int .i64 x.fVariableCount,.slice AAtoms nAtoms cAtoms] 50)
 have bx:=Bx.new w [.int .i64 x.fVariableCount,.slice AAtoms nAtoms cAtoms] 50
 have hC:Chg (fAtoms) w _:=Chg.ofBelow hb0 _
 have ltAtoms:=hAtoms.lt (rAtom_ok NB)
 replace hAtoms:=hAtoms.belowS (rAtom_ok NB) hb0
 have hbn:∀ q∈(fAtoms),q≠w.heap.size:=by
  intro q hq
  try simp only [List.mem_append,List.append_nil]at hq
  have:q<w.heap.size:=by grind
  omega
 have HN:=Lib.hid hbn;clear hbn hb0 ltAtoms
 have ND:=Lib.hid nd;clear nd
 go_enter Tryz.func20,Tryz.ntmps20
 go_wp2_with fail
 have nd1:fAtoms.Nodup:=by have:=ND.out;(try simp only [List.nodup_append,List.append_nil,List.nil_append]at this);grind
 refine(markAtomS_m _ _ _ _ k _ _ hAtoms nd1 (by omega) (by omega)).mono ?_
 rintro e w1 ⟨rfl,o1,hc1⟩
 have hAtoms:=o1
 replace bx:=bx.chg hc1 (fun hq=>HN.out _ (by(try simp only [List.mem_append,List.append_nil,List.nil_append]at hq ⊢);grind) rfl)
 replace hC:=hC.trans (hc1.mono (by intro q hq;(try simp only [List.mem_append,List.append_nil,List.nil_append]at hq ⊢);grind))
 clear hc1 nd1
 obtain⟨kk1,hkk1⟩:∃ q:Int,q=k+((cnt_AtomS x.fAtoms):Nat):=⟨_,rfl⟩
 rw [<- hkk1]
 have HK1:=Lib.hid hkk1
 have bk1:0<=kk1:=by omega
 have br1:kk1+((0:Nat):Int)<=4611686018427387904:=by omega
 clear hkk1
 clear h1
 go_wp2
 go_ret
 refine⟨ret_int (by have:=HK1.out;omega),?_,hC⟩
 have hm:mk_Query x k=⟨x.fVariableCount,(mk_AtomS x.fAtoms k)⟩:=by first|(unfold mk_Query;rfl)|(unfold mk_Query;done)
 rw [hm]
 exact⟨[],_,[.int .i64 x.fVariableCount],_,rfl,rfl,⟨rfl,rfl,hVariableCount⟩,⟨AAtoms,nAtoms,cAtoms,rfl,hAtoms⟩⟩






























def cnt_Box (x:BoxD):Nat:=(cnt_IntS x.fLow)+(cnt_IntS x.fHigh)
def mk_Box (x:BoxD) (k:Int):BoxD:=⟨(mk_IntS x.fLow k),(mk_IntS x.fHigh (k+((cnt_IntS x.fLow):Nat)))⟩
set_option maxRecDepth 100000 in
set_option maxHeartbeats 1600000 in
theorem markBox_m (cs:List Value) (x:BoxD) (k:Int) (w:World) (fp:List Nat) (h:(rBox NB).own w fp cs x) (nd:fp.Nodup) (h0:0<=k) (h1:k+(cnt_Box x:Nat)<=4611686018427387904) :
  Calls Tryz.prog 21 #[.agg cs.toArray,.int .i64 k] w fun e w'=>e=.returned (.int .i64 (k+(cnt_Box x:Nat)))/\(rBox NB).own w' fp cs (mk_Box x k)/\Chg fp w w':=by
 obtain⟨ALow,nLow,cLow,AHigh,nHigh,cHigh,fLow,fHigh,rfl,hfp,hLow,hHigh⟩:=rBox_own.1 h
 clear h
 subst hfp
 unfold cnt_Box at h1 ⊢
 have hb0:=(Below.refl w.heap.size w).alloc (Nat.le_refl _) (.cells #[.slice ALow nLow cLow,.slice AHigh nHigh cHigh] 36)
 have bx:=Bx.new w [.slice ALow nLow cLow,.slice AHigh nHigh cHigh] 36
 have hC:Chg (fLow++(fHigh)) w _:=Chg.ofBelow hb0 _
 have ltLow:=hLow.lt rInt_ok
 have ltHigh:=hHigh.lt rInt_ok
 replace hLow:=hLow.belowS rInt_ok hb0
 replace hHigh:=hHigh.belowS rInt_ok hb0
 have hbn:∀ q∈(fLow++(fHigh)),q≠w.heap.size:=by
  intro q hq
  try simp only [List.mem_append,List.append_nil]at hq
  have:q<w.heap.size:=by grind
  omega
 have HN:=Lib.hid hbn;clear hbn hb0 ltLow ltHigh
 have ND:=Lib.hid nd;clear nd
 go_enter Tryz.func21,Tryz.ntmps21
 go_wp2_with fail
 have nd1:fLow.Nodup:=by have:=ND.out;(try simp only [List.nodup_append,List.append_nil,List.nil_append]at this);grind
 refine(markIntS_m _ _ _ _ k _ _ hLow nd1 (by omega) (by omega)).mono ?_
 rintro e w1 ⟨rfl,o1,hc1⟩
 replace hHigh:=hHigh.chg rInt_ok hc1 (fun q hq hq'=>by have:=ND.out;simp only [List.nodup_append,List.mem_append,List.append_nil,List.nil_append]at this hq';grind)
 have hLow:=o1
 replace bx:=bx.chg hc1 (fun hq=>HN.out _ (by(try simp only [List.mem_append,List.append_nil,List.nil_append]at hq ⊢);grind) rfl)
 replace hC:=hC.trans (hc1.mono (by intro q hq;(try simp only [List.mem_append,List.append_nil,List.nil_append]at hq ⊢);grind))
 clear hc1 nd1
 obtain⟨kk1,hkk1⟩:∃ q:Int,q=k+((cnt_IntS x.fLow):Nat):=⟨_,rfl⟩
 rw [<- hkk1]
 have HK1:=Lib.hid hkk1
 have bk1:0<=kk1:=by omega
 have br1:kk1+((0+(cnt_IntS x.fHigh):Nat):Int)<=4611686018427387904:=by omega
 clear hkk1
 clear h1
 have c2_0:=bx 0 _ rfl
 have c2_1:=bx 1 _ rfl
 go_wp2_with fail
 have nd2:fHigh.Nodup:=by have:=ND.out;(try simp only [List.nodup_append,List.append_nil,List.nil_append]at this);grind
 refine(markIntS_m _ _ _ _ kk1 _ _ hHigh nd2 (by omega) (by omega)).mono ?_
 rintro e w2 ⟨rfl,o2,hc2⟩
 replace hLow:=hLow.chg rInt_ok hc2 (fun q hq hq'=>by have:=ND.out;simp only [List.nodup_append,List.mem_append,List.append_nil,List.nil_append]at this hq';grind)
 have hHigh:=o2
 replace bx:=bx.chg hc2 (fun hq=>HN.out _ (by(try simp only [List.mem_append,List.append_nil,List.nil_append]at hq ⊢);grind) rfl)
 replace hC:=hC.trans (hc2.mono (by intro q hq;(try simp only [List.mem_append,List.append_nil,List.nil_append]at hq ⊢);grind))
 clear hc2 nd2 c2_0 c2_1
 obtain⟨kk2,hkk2⟩:∃ q:Int,q=kk1+((cnt_IntS x.fHigh):Nat):=⟨_,rfl⟩
 rw [<- hkk2]
 have HK2:=Lib.hid hkk2
 have bk2:0<=kk2:=by omega
 have br2:kk2+((0:Nat):Int)<=4611686018427387904:=by omega
 clear hkk2
 go_wp2
 go_ret
 refine⟨ret_int (by have:=HK1.out;have:=HK2.out;omega),?_,hC⟩
 have hm:mk_Box x k=⟨(mk_IntS x.fLow k),(mk_IntS x.fHigh kk1)⟩:=by first|(unfold mk_Box;rw [HK1.out];rfl)|(unfold mk_Box;rw [HK1.out];done)
 rw [hm]
 exact⟨fLow,_,[.slice ALow nLow cLow],_,rfl,rfl,⟨ALow,nLow,cLow,rfl,hLow⟩,⟨AHigh,nHigh,cHigh,rfl,hHigh⟩⟩

set_option maxRecDepth 100000 in
set_option maxHeartbeats 1600000 in
theorem heldBox_m (cs:List Value) (x:BoxD) (k:Int) (w:World) (h:(rBox NB).rep w cs (mk_Box x k)) (h0:0<=k) (h1:k+(cnt_Box x:Nat)<=4611686018427387904) :
  Calls Tryz.prog 79 #[.agg cs.toArray,.int .i64 k] w fun e w'=>e=.returned (.int .i64 (k+(cnt_Box x:Nat)))/\Below w.heap.size w w':=by
 obtain⟨y,hy⟩:∃ y,y=mk_Box x k:=⟨_,rfl⟩
 rw [<- hy]at h
 obtain⟨ALow,nLow,cLow,AHigh,nHigh,cHigh,rfl,hLow,hHigh⟩:=rBox_rep.1 h
 have eyLow:y.fLow=(mk_IntS x.fLow k):=by rw [hy];rfl
 rw [eyLow]at hLow
 have eyHigh:y.fHigh=(mk_IntS x.fHigh (k+((cnt_IntS x.fLow):Nat))):=by rw [hy];rfl
 rw [eyHigh]at hHigh
 unfold cnt_Box at h1 ⊢
 have hB:=(Below.refl w.heap.size w).alloc (Nat.le_refl _) (.cells #[.slice ALow nLow cLow,.slice AHigh nHigh cHigh] 36)
 have bx:=Bx.new w [.slice ALow nLow cLow,.slice AHigh nHigh cHigh] 36
 have HY:=Lib.hid hy;clear hy h
 go_enter Tryz.func79,Tryz.ntmps79
 go_wp2_with fail
 refine(heldIntS_m _ _ _ x.fLow k _ (hLow.below rInt_ok hB) (by omega) (by omega)).mono ?_
 rintro e w1 ⟨rfl,hb1⟩
 replace hB:=hB.trans (hb1.mono hB.size)
 replace bx:=bx.below hb1
 clear hb1
 obtain⟨kk1,hkk1⟩:∃ q:Int,q=k+((cnt_IntS x.fLow):Nat):=⟨_,rfl⟩
 rw [<- hkk1]
 rw [<- hkk1]at eyHigh
 rw [<- hkk1]at hHigh
 have HK1:=Lib.hid hkk1
 have bk1:0<=kk1:=by omega
 have br1:kk1+((0+(cnt_IntS x.fHigh):Nat):Int)<=4611686018427387904:=by omega
 clear hkk1
 clear h1
 have c2_0:=bx 0 _ rfl
 have c2_1:=bx 1 _ rfl
 go_wp2_with fail
 refine(heldIntS_m _ _ _ x.fHigh kk1 _ (hHigh.below rInt_ok hB) (by omega) (by omega)).mono ?_
 rintro e w2 ⟨rfl,hb2⟩
 replace hB:=hB.trans (hb2.mono hB.size)
 replace bx:=bx.below hb2
 clear hb2 c2_0 c2_1
 obtain⟨kk2,hkk2⟩:∃ q:Int,q=kk1+((cnt_IntS x.fHigh):Nat):=⟨_,rfl⟩
 rw [<- hkk2]
 have HK2:=Lib.hid hkk2
 have bk2:0<=kk2:=by omega
 have br2:kk2+((0:Nat):Int)<=4611686018427387904:=by omega
 clear hkk2
 go_wp2
 go_ret
 exact⟨ret_int (by have:=HK1.out;have:=HK2.out;omega),hB⟩

def cntE_CostStep (x:CostStepD):Nat:=1+1
def mkE_CostStep (x:CostStepD) (k:Int):CostStepD:=⟨k,(k+1)⟩
def cnt_CostStepS (l:List CostStepD):Nat:=cntS cntE_CostStep l
def mk_CostStepS (l:List CostStepD) (k:Int):List CostStepD:=mkS mkE_CostStep cntE_CostStep l k
set_option maxRecDepth 100000 in
set_option maxHeartbeats 1600000 in
theorem markCostStepS_m (A:Option Addr) (n cap:Nat) (l:List CostStepD) (k:Int) (w:World) (fp:List Nat) (h:OS NB 205 (rCostStep NB) w fp A n cap l) (nd:fp.Nodup) (h0:0<=k) (h1:k+(cnt_CostStepS l:Nat)<=4611686018427387904) :
  Calls Tryz.prog 149 #[.slice A n cap,.int .i64 k] w fun e w'=>e=.returned (.int .i64 (k+(cnt_CostStepS l:Nat)))/\OS NB 205 (rCostStep NB) w' fp A n cap (mk_CostStepS l k)/\Chg fp w w':=by
 have hn:n<=4294967296:=h.nb
 have HL:=Lib.hid h.len
 have H1:Hid (k+(cntS cntE_CostStep l:Nat)<=4611686018427387904):=h1
 clear h1
 go_enter Tryz.func149,Tryz.ntmps149
 go_wp2
 go_loopw [1,5] (fun kv iv wr=>∃ (j:Nat) (kk:Int),j<=n/\iv=.int .i64 j/\kv=.int .i64 kk/\kk=k+(cntS cntE_CostStep (l.take j):Nat)/\OS NB 205 (rCostStep NB) wr fp A n cap (mkP mkE_CostStep cntE_CostStep l k j)/\Chg fp w wr) (fun _ iv _=>n - (intOf iv).toNat)
 case atStart=>exact⟨0,k,Nat.zero_le _,rfl,rfl,by simp [cntS],by rw [mkP_zero];exact h,Chg.refl _ _⟩
 case round =>
  clear h
  obtain⟨j,kk,hj,rfl,rfl,hkk,hO,hC⟩:=hrel
  have HK:=Lib.hid hkk;clear hkk
  by_cases hlt:j<n
  ·obtain⟨g,f,c,x,xs,rfl,hx,ho,hfnd,hgf,hgfp,hsub,hE,hput⟩:=hO.elem (rCostStep_ok NB) nd hlt
   have HX:Hid (l[j]?=some x):=by have:=hx.out;rwa [mkP_at]at this
   clear hx
   have hb1:cntS cntE_CostStep (l.take j)+cntE_CostStep x<=cntS cntE_CostStep l:=by rw [<- cntS_snoc _ HX.out];exact cntS_take_le _ _ _
   have b0:0<=kk:=by have:=HK.out;omega
   have b1:kk+(cntE_CostStep x:Nat)<=4611686018427387904:=by have:=HK.out;have:=H1.out;omega
   clear hb1
   obtain⟨rfl,hfp,hFrom,hAdd⟩:=rCostStep_own.1 ho
   subst hfp
   unfold cntE_CostStep at b1
   clear hO
   have qa0:wr.cell? ⟨g,j*2,none⟩=some (.int .i64 x.fFrom):=by simpa [rCostStep_size]using hE.cell hlt (t:=0) rfl
   have qa1:wr.cell? ⟨g,j*2+1,none⟩=some (.int .i64 x.fAdd):=by simpa [rCostStep_size]using hE.cell hlt (t:=1) rfl
   have qfa:=hE.frozen
   have qga:=hE.lt
   go_wp2
   go_roundw
   case rel =>
    refine⟨j+1,((kk+1)+1),by omega,by go_num,by go_num,?_,?_,?_⟩
    ·rw [cntS_snoc _ HX.out];have:=HK.out;have:cntE_CostStep x=1+1:=rfl;omega
    ·rw [<- mkP_set mkE_CostStep cntE_CostStep k HX.out,<- HK.out]
     have hm:mkE_CostStep x kk=⟨kk,(kk+1)⟩:=by first|(unfold mkE_CostStep;rfl)|(unfold mkE_CostStep;rfl)|(unfold mkE_CostStep;done)
     rw [hm]
     exact hput.out _ _ _ (Chg.trans (Chg.refl (g::_) wr) (Chg.mono (fp:=[g]) (by repeat' (first|with_reducible exact Chg.refl _ _|with_reducible refine Chg.setCell ?_ ?_ _ _|with_reducible refine Chg.alloc ?_ _|(simp;done))) (by simp))) ((hE.store 0 (by decide) (.int .i64 kk)).store 1 (by decide) (.int .i64 (kk+1))) (rCostStep_own.2 ⟨rfl,(by simp),⟨by dsimp only;omega,by dsimp only;omega⟩,⟨by dsimp only;omega,by dsimp only;omega⟩⟩)
    ·exact hC.trans (Chg.mono (fp:=g::([])) (Chg.trans (Chg.refl (g::_) wr) (Chg.mono (fp:=[g]) (by repeat' (first|with_reducible exact Chg.refl _ _|with_reducible refine Chg.setCell ?_ ?_ _ _|with_reducible refine Chg.alloc ?_ _|(simp;done))) (by simp))) (by intro k hk;rcases List.mem_cons.1 hk with rfl|hk;exact hgfp;exact hsub k hk))
   case measure=>simp [intOf];omega
  ·go_wp2
   go_ret
   have hl:¬ j<l.length:=by rw [HL.out];exact hlt
   exact⟨ret_int (by rw [HK.out,List.take_of_length_le (by omega)];rfl),by rw [mkP_all mkE_CostStep cntE_CostStep l k hl]at hO;exact hO,hC⟩


def cnt_Operator (x:OperatorD):Nat:=(cnt_CostStepS x.fSteps)
def mk_Operator (x:OperatorD) (k:Int):OperatorD:=⟨x.fFixed,x.fPerLeft,x.fPerRight,x.fPerOutput,x.fPerPair,(mk_CostStepS x.fSteps k)⟩
set_option maxRecDepth 100000 in
set_option maxHeartbeats 1600000 in
theorem markOperator_m (cs:List Value) (x:OperatorD) (k:Int) (w:World) (fp:List Nat) (h:(rOperator NB).own w fp cs x) (nd:fp.Nodup) (h0:0<=k) (h1:k+(cnt_Operator x:Nat)<=4611686018427387904) :
  Calls Tryz.prog 75 #[.agg cs.toArray,.int .i64 k] w fun e w'=>e=.returned (.int .i64 (k+(cnt_Operator x:Nat)))/\(rOperator NB).own w' fp cs (mk_Operator x k)/\Chg fp w w':=by
 obtain⟨ASteps,nSteps,cSteps,fSteps,rfl,hfp,hFixed,hPerLeft,hPerRight,hPerOutput,hPerPair,hSteps⟩:=rOperator_own.1 h
 clear h
 replace hfp:=hfp.symm;subst hfp
 unfold cnt_Operator at h1 ⊢
 have hb0:=(Below.refl w.heap.size w).alloc (Nat.le_refl _) (.cells #[.int .i64 x.fFixed,.int .i64 x.fPerLeft,.int .i64 x.fPerRight,.int .i64 x.fPerOutput,.int .i64 x.fPerPair,.slice ASteps nSteps cSteps] 44)
 have bx:=Bx.new w [.int .i64 x.fFixed,.int .i64 x.fPerLeft,.int .i64 x.fPerRight,.int .i64 x.fPerOutput,.int .i64 x.fPerPair,.slice ASteps nSteps cSteps] 44
 have hC:Chg (fSteps) w _:=Chg.ofBelow hb0 _
 have ltSteps:=hSteps.lt (rCostStep_ok NB)
 replace hSteps:=hSteps.belowS (rCostStep_ok NB) hb0
 have hbn:∀ q∈(fSteps),q≠w.heap.size:=by
  intro q hq
  try simp only [List.mem_append,List.append_nil]at hq
  have:q<w.heap.size:=by grind
  omega
 have HN:=Lib.hid hbn;clear hbn hb0 ltSteps
 have ND:=Lib.hid nd;clear nd
 go_enter Tryz.func75,Tryz.ntmps75
 go_wp2_with fail
 have nd1:fSteps.Nodup:=by have:=ND.out;(try simp only [List.nodup_append,List.append_nil,List.nil_append]at this);grind
 refine(markCostStepS_m _ _ _ _ k _ _ hSteps nd1 (by omega) (by omega)).mono ?_
 rintro e w1 ⟨rfl,o1,hc1⟩
 have hSteps:=o1
 replace bx:=bx.chg hc1 (fun hq=>HN.out _ (by(try simp only [List.mem_append,List.append_nil,List.nil_append]at hq ⊢);grind) rfl)
 replace hC:=hC.trans (hc1.mono (by intro q hq;(try simp only [List.mem_append,List.append_nil,List.nil_append]at hq ⊢);grind))
 clear hc1 nd1
 obtain⟨kk1,hkk1⟩:∃ q:Int,q=k+((cnt_CostStepS x.fSteps):Nat):=⟨_,rfl⟩
 rw [<- hkk1]
 have HK1:=Lib.hid hkk1
 have bk1:0<=kk1:=by omega
 have br1:kk1+((0:Nat):Int)<=4611686018427387904:=by omega
 clear hkk1
 clear h1
 go_wp2
 go_ret
 refine⟨ret_int (by have:=HK1.out;omega),?_,hC⟩
 have hm:mk_Operator x k=⟨x.fFixed,x.fPerLeft,x.fPerRight,x.fPerOutput,x.fPerPair,(mk_CostStepS x.fSteps k)⟩:=by first|(unfold mk_Operator;rfl)|(unfold mk_Operator;done)
 rw [hm]
 exact⟨[],_,[.int .i64 x.fFixed],_,rfl,rfl,⟨rfl,rfl,hFixed⟩,⟨[],_,[.int .i64 x.fPerLeft],_,rfl,rfl,⟨rfl,rfl,hPerLeft⟩,⟨[],_,[.int .i64 x.fPerRight],_,rfl,rfl,⟨rfl,rfl,hPerRight⟩,⟨[],_,[.int .i64 x.fPerOutput],_,rfl,rfl,⟨rfl,rfl,hPerOutput⟩,⟨[],_,[.int .i64 x.fPerPair],_,rfl,rfl,⟨rfl,rfl,hPerPair⟩,⟨ASteps,nSteps,cSteps,rfl,hSteps⟩⟩⟩⟩⟩⟩


def cnt_Model (x:ModelD):Nat:=(cnt_Operator x.fScan)+(cnt_Operator x.fSort)+(cnt_Operator x.fHash)+(cnt_Operator x.fMerge)+(cnt_Operator x.fNested)
def mk_Model (x:ModelD) (k:Int):ModelD:=⟨(mk_Operator x.fScan k),(mk_Operator x.fSort (k+((cnt_Operator x.fScan):Nat))),(mk_Operator x.fHash ((k+((cnt_Operator x.fScan):Nat))+((cnt_Operator x.fSort):Nat))),(mk_Operator x.fMerge (((k+((cnt_Operator x.fScan):Nat))+((cnt_Operator x.fSort):Nat))+((cnt_Operator x.fHash):Nat))),(mk_Operator x.fNested ((((k+((cnt_Operator x.fScan):Nat))+((cnt_Operator x.fSort):Nat))+((cnt_Operator x.fHash):Nat))+((cnt_Operator x.fMerge):Nat)))⟩
set_option maxRecDepth 100000 in
set_option maxHeartbeats 1600000 in
theorem markModel_m (cs:List Value) (x:ModelD) (k:Int) (w:World) (fp:List Nat) (h:(rModel NB).own w fp cs x) (nd:fp.Nodup) (h0:0<=k) (h1:k+(cnt_Model x:Nat)<=4611686018427387904) :
  Calls Tryz.prog 19 #[.agg cs.toArray,.int .i64 k] w fun e w'=>e=.returned (.int .i64 (k+(cnt_Model x:Nat)))/\(rModel NB).own w' fp cs (mk_Model x k)/\Chg fp w w':=by
 obtain⟨AScanSteps,nScanSteps,cScanSteps,ASortSteps,nSortSteps,cSortSteps,AHashSteps,nHashSteps,cHashSteps,AMergeSteps,nMergeSteps,cMergeSteps,ANestedSteps,nNestedSteps,cNestedSteps,fScanSteps,fSortSteps,fHashSteps,fMergeSteps,fNestedSteps,rfl,hfp,hScanFixed,hScanPerLeft,hScanPerRight,hScanPerOutput,hScanPerPair,hScanSteps,hSortFixed,hSortPerLeft,hSortPerRight,hSortPerOutput,hSortPerPair,hSortSteps,hHashFixed,hHashPerLeft,hHashPerRight,hHashPerOutput,hHashPerPair,hHashSteps,hMergeFixed,hMergePerLeft,hMergePerRight,hMergePerOutput,hMergePerPair,hMergeSteps,hNestedFixed,hNestedPerLeft,hNestedPerRight,hNestedPerOutput,hNestedPerPair,hNestedSteps⟩:=rModel_own.1 h
 clear h
 subst hfp
 unfold cnt_Model at h1 ⊢
 have hb0:=(Below.refl w.heap.size w).alloc (Nat.le_refl _) (.cells #[.int .i64 x.fScan.fFixed,.int .i64 x.fScan.fPerLeft,.int .i64 x.fScan.fPerRight,.int .i64 x.fScan.fPerOutput,.int .i64 x.fScan.fPerPair,.slice AScanSteps nScanSteps cScanSteps,.int .i64 x.fSort.fFixed,.int .i64 x.fSort.fPerLeft,.int .i64 x.fSort.fPerRight,.int .i64 x.fSort.fPerOutput,.int .i64 x.fSort.fPerPair,.slice ASortSteps nSortSteps cSortSteps,.int .i64 x.fHash.fFixed,.int .i64 x.fHash.fPerLeft,.int .i64 x.fHash.fPerRight,.int .i64 x.fHash.fPerOutput,.int .i64 x.fHash.fPerPair,.slice AHashSteps nHashSteps cHashSteps,.int .i64 x.fMerge.fFixed,.int .i64 x.fMerge.fPerLeft,.int .i64 x.fMerge.fPerRight,.int .i64 x.fMerge.fPerOutput,.int .i64 x.fMerge.fPerPair,.slice AMergeSteps nMergeSteps cMergeSteps,.int .i64 x.fNested.fFixed,.int .i64 x.fNested.fPerLeft,.int .i64 x.fNested.fPerRight,.int .i64 x.fNested.fPerOutput,.int .i64 x.fNested.fPerPair,.slice ANestedSteps nNestedSteps cNestedSteps] 46)
 have bx:=Bx.new w [.int .i64 x.fScan.fFixed,.int .i64 x.fScan.fPerLeft,.int .i64 x.fScan.fPerRight,.int .i64 x.fScan.fPerOutput,.int .i64 x.fScan.fPerPair,.slice AScanSteps nScanSteps cScanSteps,.int .i64 x.fSort.fFixed,.int .i64 x.fSort.fPerLeft,.int .i64 x.fSort.fPerRight,.int .i64 x.fSort.fPerOutput,.int .i64 x.fSort.fPerPair,.slice ASortSteps nSortSteps cSortSteps,.int .i64 x.fHash.fFixed,.int .i64 x.fHash.fPerLeft,.int .i64 x.fHash.fPerRight,.int .i64 x.fHash.fPerOutput,.int .i64 x.fHash.fPerPair,.slice AHashSteps nHashSteps cHashSteps,.int .i64 x.fMerge.fFixed,.int .i64 x.fMerge.fPerLeft,.int .i64 x.fMerge.fPerRight,.int .i64 x.fMerge.fPerOutput,.int .i64 x.fMerge.fPerPair,.slice AMergeSteps nMergeSteps cMergeSteps,.int .i64 x.fNested.fFixed,.int .i64 x.fNested.fPerLeft,.int .i64 x.fNested.fPerRight,.int .i64 x.fNested.fPerOutput,.int .i64 x.fNested.fPerPair,.slice ANestedSteps nNestedSteps cNestedSteps] 46
 have hC:Chg ((fScanSteps)++((fSortSteps)++((fHashSteps)++((fMergeSteps)++((fNestedSteps)))))) w _:=Chg.ofBelow hb0 _
 have ltScanSteps:=hScanSteps.lt (rCostStep_ok NB)
 have ltSortSteps:=hSortSteps.lt (rCostStep_ok NB)
 have ltHashSteps:=hHashSteps.lt (rCostStep_ok NB)
 have ltMergeSteps:=hMergeSteps.lt (rCostStep_ok NB)
 have ltNestedSteps:=hNestedSteps.lt (rCostStep_ok NB)
 replace hScanSteps:=hScanSteps.belowS (rCostStep_ok NB) hb0
 replace hSortSteps:=hSortSteps.belowS (rCostStep_ok NB) hb0
 replace hHashSteps:=hHashSteps.belowS (rCostStep_ok NB) hb0
 replace hMergeSteps:=hMergeSteps.belowS (rCostStep_ok NB) hb0
 replace hNestedSteps:=hNestedSteps.belowS (rCostStep_ok NB) hb0
 have hbn:∀ q∈((fScanSteps)++((fSortSteps)++((fHashSteps)++((fMergeSteps)++((fNestedSteps)))))),q≠w.heap.size:=by
  intro q hq
  try simp only [List.mem_append,List.append_nil]at hq
  have:q<w.heap.size:=by grind
  omega
 have HN:=Lib.hid hbn;clear hbn hb0 ltScanSteps ltSortSteps ltHashSteps ltMergeSteps ltNestedSteps
 have ND:=Lib.hid nd;clear nd
 go_enter Tryz.func19,Tryz.ntmps19
 go_wp2_with fail
 have nd1:(fScanSteps).Nodup:=by have:=ND.out;simp only [List.nodup_append,List.mem_append,List.append_nil,List.nil_append]at this ⊢;grind
 refine(markOperator_m _ x.fScan k _ (fScanSteps) (rOperator_own.2 ⟨AScanSteps,nScanSteps,cScanSteps,fScanSteps,rfl,rfl,hScanFixed,hScanPerLeft,hScanPerRight,hScanPerOutput,hScanPerPair,hScanSteps⟩) nd1 (by omega) (by omega)).mono ?_
 rintro e w1 ⟨rfl,o1,hc1⟩
 replace hSortSteps:=hSortSteps.chg (rCostStep_ok NB) hc1 (fun q hq hq'=>by have:=ND.out;simp only [List.nodup_append,List.mem_append,List.append_nil,List.nil_append]at this hq';grind)
 replace hHashSteps:=hHashSteps.chg (rCostStep_ok NB) hc1 (fun q hq hq'=>by have:=ND.out;simp only [List.nodup_append,List.mem_append,List.append_nil,List.nil_append]at this hq';grind)
 replace hMergeSteps:=hMergeSteps.chg (rCostStep_ok NB) hc1 (fun q hq hq'=>by have:=ND.out;simp only [List.nodup_append,List.mem_append,List.append_nil,List.nil_append]at this hq';grind)
 replace hNestedSteps:=hNestedSteps.chg (rCostStep_ok NB) hc1 (fun q hq hq'=>by have:=ND.out;simp only [List.nodup_append,List.mem_append,List.append_nil,List.nil_append]at this hq';grind)
 replace bx:=bx.chg hc1 (fun hq=>HN.out _ (by(try simp only [List.mem_append,List.append_nil,List.nil_append]at hq ⊢);grind) rfl)
 replace hC:=hC.trans (hc1.mono (by intro q hq;(try simp only [List.mem_append,List.append_nil,List.nil_append]at hq ⊢);grind))
 clear hc1 nd1
 obtain⟨kk1,hkk1⟩:∃ q:Int,q=k+((cnt_Operator x.fScan):Nat):=⟨_,rfl⟩
 rw [<- hkk1]
 have HK1:=Lib.hid hkk1
 have bk1:0<=kk1:=by omega
 have br1:kk1+((0+(cnt_Operator x.fSort)+(cnt_Operator x.fHash)+(cnt_Operator x.fMerge)+(cnt_Operator x.fNested):Nat):Int)<=4611686018427387904:=by omega
 clear hkk1
 clear h1
 have c2_0:=bx 0 _ rfl
 have c2_1:=bx 1 _ rfl
 have c2_2:=bx 2 _ rfl
 have c2_3:=bx 3 _ rfl
 have c2_4:=bx 4 _ rfl
 have c2_5:=bx 5 _ rfl
 have c2_6:=bx 6 _ rfl
 have c2_7:=bx 7 _ rfl
 have c2_8:=bx 8 _ rfl
 have c2_9:=bx 9 _ rfl
 have c2_10:=bx 10 _ rfl
 have c2_11:=bx 11 _ rfl
 have c2_12:=bx 12 _ rfl
 have c2_13:=bx 13 _ rfl
 have c2_14:=bx 14 _ rfl
 have c2_15:=bx 15 _ rfl
 have c2_16:=bx 16 _ rfl
 have c2_17:=bx 17 _ rfl
 have c2_18:=bx 18 _ rfl
 have c2_19:=bx 19 _ rfl
 have c2_20:=bx 20 _ rfl
 have c2_21:=bx 21 _ rfl
 have c2_22:=bx 22 _ rfl
 have c2_23:=bx 23 _ rfl
 have c2_24:=bx 24 _ rfl
 have c2_25:=bx 25 _ rfl
 have c2_26:=bx 26 _ rfl
 have c2_27:=bx 27 _ rfl
 have c2_28:=bx 28 _ rfl
 have c2_29:=bx 29 _ rfl
 go_wp2_with fail
 have nd2:(fSortSteps).Nodup:=by have:=ND.out;simp only [List.nodup_append,List.mem_append,List.append_nil,List.nil_append]at this ⊢;grind
 refine(markOperator_m _ x.fSort kk1 _ (fSortSteps) (rOperator_own.2 ⟨ASortSteps,nSortSteps,cSortSteps,fSortSteps,rfl,rfl,hSortFixed,hSortPerLeft,hSortPerRight,hSortPerOutput,hSortPerPair,hSortSteps⟩) nd2 (by omega) (by omega)).mono ?_
 rintro e w2 ⟨rfl,o2,hc2⟩
 replace o1:=(rOperator_ok NB).ownC o1 hc2 (fun q hq hq'=>by have:=ND.out;simp only [List.nodup_append,List.mem_append,List.append_nil,List.nil_append]at this hq hq';grind)
 replace hHashSteps:=hHashSteps.chg (rCostStep_ok NB) hc2 (fun q hq hq'=>by have:=ND.out;simp only [List.nodup_append,List.mem_append,List.append_nil,List.nil_append]at this hq';grind)
 replace hMergeSteps:=hMergeSteps.chg (rCostStep_ok NB) hc2 (fun q hq hq'=>by have:=ND.out;simp only [List.nodup_append,List.mem_append,List.append_nil,List.nil_append]at this hq';grind)
 replace hNestedSteps:=hNestedSteps.chg (rCostStep_ok NB) hc2 (fun q hq hq'=>by have:=ND.out;simp only [List.nodup_append,List.mem_append,List.append_nil,List.nil_append]at this hq';grind)
 replace bx:=bx.chg hc2 (fun hq=>HN.out _ (by(try simp only [List.mem_append,List.append_nil,List.nil_append]at hq ⊢);grind) rfl)
 replace hC:=hC.trans (hc2.mono (by intro q hq;(try simp only [List.mem_append,List.append_nil,List.nil_append]at hq ⊢);grind))
 clear hc2 nd2 c2_0 c2_1 c2_2 c2_3 c2_4 c2_5 c2_6 c2_7 c2_8 c2_9 c2_10 c2_11 c2_12 c2_13 c2_14 c2_15 c2_16 c2_17 c2_18 c2_19 c2_20 c2_21 c2_22 c2_23 c2_24 c2_25 c2_26 c2_27 c2_28 c2_29
 obtain⟨kk2,hkk2⟩:∃ q:Int,q=kk1+((cnt_Operator x.fSort):Nat):=⟨_,rfl⟩
 rw [<- hkk2]
 have HK2:=Lib.hid hkk2
 have bk2:0<=kk2:=by omega
 have br2:kk2+((0+(cnt_Operator x.fHash)+(cnt_Operator x.fMerge)+(cnt_Operator x.fNested):Nat):Int)<=4611686018427387904:=by omega
 clear hkk2
 have c3_0:=bx 0 _ rfl
 have c3_1:=bx 1 _ rfl
 have c3_2:=bx 2 _ rfl
 have c3_3:=bx 3 _ rfl
 have c3_4:=bx 4 _ rfl
 have c3_5:=bx 5 _ rfl
 have c3_6:=bx 6 _ rfl
 have c3_7:=bx 7 _ rfl
 have c3_8:=bx 8 _ rfl
 have c3_9:=bx 9 _ rfl
 have c3_10:=bx 10 _ rfl
 have c3_11:=bx 11 _ rfl
 have c3_12:=bx 12 _ rfl
 have c3_13:=bx 13 _ rfl
 have c3_14:=bx 14 _ rfl
 have c3_15:=bx 15 _ rfl
 have c3_16:=bx 16 _ rfl
 have c3_17:=bx 17 _ rfl
 have c3_18:=bx 18 _ rfl
 have c3_19:=bx 19 _ rfl
 have c3_20:=bx 20 _ rfl
 have c3_21:=bx 21 _ rfl
 have c3_22:=bx 22 _ rfl
 have c3_23:=bx 23 _ rfl
 have c3_24:=bx 24 _ rfl
 have c3_25:=bx 25 _ rfl
 have c3_26:=bx 26 _ rfl
 have c3_27:=bx 27 _ rfl
 have c3_28:=bx 28 _ rfl
 have c3_29:=bx 29 _ rfl
 go_wp2_with fail
 have nd3:(fHashSteps).Nodup:=by have:=ND.out;simp only [List.nodup_append,List.mem_append,List.append_nil,List.nil_append]at this ⊢;grind
 refine(markOperator_m _ x.fHash kk2 _ (fHashSteps) (rOperator_own.2 ⟨AHashSteps,nHashSteps,cHashSteps,fHashSteps,rfl,rfl,hHashFixed,hHashPerLeft,hHashPerRight,hHashPerOutput,hHashPerPair,hHashSteps⟩) nd3 (by omega) (by omega)).mono ?_
 rintro e w3 ⟨rfl,o3,hc3⟩
 replace o1:=(rOperator_ok NB).ownC o1 hc3 (fun q hq hq'=>by have:=ND.out;simp only [List.nodup_append,List.mem_append,List.append_nil,List.nil_append]at this hq hq';grind)
 replace o2:=(rOperator_ok NB).ownC o2 hc3 (fun q hq hq'=>by have:=ND.out;simp only [List.nodup_append,List.mem_append,List.append_nil,List.nil_append]at this hq hq';grind)
 replace hMergeSteps:=hMergeSteps.chg (rCostStep_ok NB) hc3 (fun q hq hq'=>by have:=ND.out;simp only [List.nodup_append,List.mem_append,List.append_nil,List.nil_append]at this hq';grind)
 replace hNestedSteps:=hNestedSteps.chg (rCostStep_ok NB) hc3 (fun q hq hq'=>by have:=ND.out;simp only [List.nodup_append,List.mem_append,List.append_nil,List.nil_append]at this hq';grind)
 replace bx:=bx.chg hc3 (fun hq=>HN.out _ (by(try simp only [List.mem_append,List.append_nil,List.nil_append]at hq ⊢);grind) rfl)
 replace hC:=hC.trans (hc3.mono (by intro q hq;(try simp only [List.mem_append,List.append_nil,List.nil_append]at hq ⊢);grind))
 clear hc3 nd3 c3_0 c3_1 c3_2 c3_3 c3_4 c3_5 c3_6 c3_7 c3_8 c3_9 c3_10 c3_11 c3_12 c3_13 c3_14 c3_15 c3_16 c3_17 c3_18 c3_19 c3_20 c3_21 c3_22 c3_23 c3_24 c3_25 c3_26 c3_27 c3_28 c3_29
 obtain⟨kk3,hkk3⟩:∃ q:Int,q=kk2+((cnt_Operator x.fHash):Nat):=⟨_,rfl⟩
 rw [<- hkk3]
 have HK3:=Lib.hid hkk3
 have bk3:0<=kk3:=by omega
 have br3:kk3+((0+(cnt_Operator x.fMerge)+(cnt_Operator x.fNested):Nat):Int)<=4611686018427387904:=by omega
 clear hkk3
 have c4_0:=bx 0 _ rfl
 have c4_1:=bx 1 _ rfl
 have c4_2:=bx 2 _ rfl
 have c4_3:=bx 3 _ rfl
 have c4_4:=bx 4 _ rfl
 have c4_5:=bx 5 _ rfl
 have c4_6:=bx 6 _ rfl
 have c4_7:=bx 7 _ rfl
 have c4_8:=bx 8 _ rfl
 have c4_9:=bx 9 _ rfl
 have c4_10:=bx 10 _ rfl
 have c4_11:=bx 11 _ rfl
 have c4_12:=bx 12 _ rfl
 have c4_13:=bx 13 _ rfl
 have c4_14:=bx 14 _ rfl
 have c4_15:=bx 15 _ rfl
 have c4_16:=bx 16 _ rfl
 have c4_17:=bx 17 _ rfl
 have c4_18:=bx 18 _ rfl
 have c4_19:=bx 19 _ rfl
 have c4_20:=bx 20 _ rfl
 have c4_21:=bx 21 _ rfl
 have c4_22:=bx 22 _ rfl
 have c4_23:=bx 23 _ rfl
 have c4_24:=bx 24 _ rfl
 have c4_25:=bx 25 _ rfl
 have c4_26:=bx 26 _ rfl
 have c4_27:=bx 27 _ rfl
 have c4_28:=bx 28 _ rfl
 have c4_29:=bx 29 _ rfl
 go_wp2_with fail
 have nd4:(fMergeSteps).Nodup:=by have:=ND.out;simp only [List.nodup_append,List.mem_append,List.append_nil,List.nil_append]at this ⊢;grind
 refine(markOperator_m _ x.fMerge kk3 _ (fMergeSteps) (rOperator_own.2 ⟨AMergeSteps,nMergeSteps,cMergeSteps,fMergeSteps,rfl,rfl,hMergeFixed,hMergePerLeft,hMergePerRight,hMergePerOutput,hMergePerPair,hMergeSteps⟩) nd4 (by omega) (by omega)).mono ?_
 rintro e w4 ⟨rfl,o4,hc4⟩
 replace o1:=(rOperator_ok NB).ownC o1 hc4 (fun q hq hq'=>by have:=ND.out;simp only [List.nodup_append,List.mem_append,List.append_nil,List.nil_append]at this hq hq';grind)
 replace o2:=(rOperator_ok NB).ownC o2 hc4 (fun q hq hq'=>by have:=ND.out;simp only [List.nodup_append,List.mem_append,List.append_nil,List.nil_append]at this hq hq';grind)
 replace o3:=(rOperator_ok NB).ownC o3 hc4 (fun q hq hq'=>by have:=ND.out;simp only [List.nodup_append,List.mem_append,List.append_nil,List.nil_append]at this hq hq';grind)
 replace hNestedSteps:=hNestedSteps.chg (rCostStep_ok NB) hc4 (fun q hq hq'=>by have:=ND.out;simp only [List.nodup_append,List.mem_append,List.append_nil,List.nil_append]at this hq';grind)
 replace bx:=bx.chg hc4 (fun hq=>HN.out _ (by(try simp only [List.mem_append,List.append_nil,List.nil_append]at hq ⊢);grind) rfl)
 replace hC:=hC.trans (hc4.mono (by intro q hq;(try simp only [List.mem_append,List.append_nil,List.nil_append]at hq ⊢);grind))
 clear hc4 nd4 c4_0 c4_1 c4_2 c4_3 c4_4 c4_5 c4_6 c4_7 c4_8 c4_9 c4_10 c4_11 c4_12 c4_13 c4_14 c4_15 c4_16 c4_17 c4_18 c4_19 c4_20 c4_21 c4_22 c4_23 c4_24 c4_25 c4_26 c4_27 c4_28 c4_29
 obtain⟨kk4,hkk4⟩:∃ q:Int,q=kk3+((cnt_Operator x.fMerge):Nat):=⟨_,rfl⟩
 rw [<- hkk4]
 have HK4:=Lib.hid hkk4
 have bk4:0<=kk4:=by omega
 have br4:kk4+((0+(cnt_Operator x.fNested):Nat):Int)<=4611686018427387904:=by omega
 clear hkk4
 have c5_0:=bx 0 _ rfl
 have c5_1:=bx 1 _ rfl
 have c5_2:=bx 2 _ rfl
 have c5_3:=bx 3 _ rfl
 have c5_4:=bx 4 _ rfl
 have c5_5:=bx 5 _ rfl
 have c5_6:=bx 6 _ rfl
 have c5_7:=bx 7 _ rfl
 have c5_8:=bx 8 _ rfl
 have c5_9:=bx 9 _ rfl
 have c5_10:=bx 10 _ rfl
 have c5_11:=bx 11 _ rfl
 have c5_12:=bx 12 _ rfl
 have c5_13:=bx 13 _ rfl
 have c5_14:=bx 14 _ rfl
 have c5_15:=bx 15 _ rfl
 have c5_16:=bx 16 _ rfl
 have c5_17:=bx 17 _ rfl
 have c5_18:=bx 18 _ rfl
 have c5_19:=bx 19 _ rfl
 have c5_20:=bx 20 _ rfl
 have c5_21:=bx 21 _ rfl
 have c5_22:=bx 22 _ rfl
 have c5_23:=bx 23 _ rfl
 have c5_24:=bx 24 _ rfl
 have c5_25:=bx 25 _ rfl
 have c5_26:=bx 26 _ rfl
 have c5_27:=bx 27 _ rfl
 have c5_28:=bx 28 _ rfl
 have c5_29:=bx 29 _ rfl
 go_wp2_with fail
 have nd5:(fNestedSteps).Nodup:=by have:=ND.out;simp only [List.nodup_append,List.mem_append,List.append_nil,List.nil_append]at this ⊢;grind
 refine(markOperator_m _ x.fNested kk4 _ (fNestedSteps) (rOperator_own.2 ⟨ANestedSteps,nNestedSteps,cNestedSteps,fNestedSteps,rfl,rfl,hNestedFixed,hNestedPerLeft,hNestedPerRight,hNestedPerOutput,hNestedPerPair,hNestedSteps⟩) nd5 (by omega) (by omega)).mono ?_
 rintro e w5 ⟨rfl,o5,hc5⟩
 replace o1:=(rOperator_ok NB).ownC o1 hc5 (fun q hq hq'=>by have:=ND.out;simp only [List.nodup_append,List.mem_append,List.append_nil,List.nil_append]at this hq hq';grind)
 replace o2:=(rOperator_ok NB).ownC o2 hc5 (fun q hq hq'=>by have:=ND.out;simp only [List.nodup_append,List.mem_append,List.append_nil,List.nil_append]at this hq hq';grind)
 replace o3:=(rOperator_ok NB).ownC o3 hc5 (fun q hq hq'=>by have:=ND.out;simp only [List.nodup_append,List.mem_append,List.append_nil,List.nil_append]at this hq hq';grind)
 replace o4:=(rOperator_ok NB).ownC o4 hc5 (fun q hq hq'=>by have:=ND.out;simp only [List.nodup_append,List.mem_append,List.append_nil,List.nil_append]at this hq hq';grind)
 replace bx:=bx.chg hc5 (fun hq=>HN.out _ (by(try simp only [List.mem_append,List.append_nil,List.nil_append]at hq ⊢);grind) rfl)
 replace hC:=hC.trans (hc5.mono (by intro q hq;(try simp only [List.mem_append,List.append_nil,List.nil_append]at hq ⊢);grind))
 clear hc5 nd5 c5_0 c5_1 c5_2 c5_3 c5_4 c5_5 c5_6 c5_7 c5_8 c5_9 c5_10 c5_11 c5_12 c5_13 c5_14 c5_15 c5_16 c5_17 c5_18 c5_19 c5_20 c5_21 c5_22 c5_23 c5_24 c5_25 c5_26 c5_27 c5_28 c5_29
 obtain⟨kk5,hkk5⟩:∃ q:Int,q=kk4+((cnt_Operator x.fNested):Nat):=⟨_,rfl⟩
 rw [<- hkk5]
 have HK5:=Lib.hid hkk5
 have bk5:0<=kk5:=by omega
 have br5:kk5+((0:Nat):Int)<=4611686018427387904:=by omega
 clear hkk5
 go_wp2
 go_ret
 refine⟨ret_int (by have:=HK1.out;have:=HK2.out;have:=HK3.out;have:=HK4.out;have:=HK5.out;omega),?_,hC⟩
 have hm:mk_Model x k=⟨(mk_Operator x.fScan k),(mk_Operator x.fSort kk1),(mk_Operator x.fHash kk2),(mk_Operator x.fMerge kk3),(mk_Operator x.fNested kk4)⟩:=by first|(unfold mk_Model;rw [HK4.out,HK3.out,HK2.out,HK1.out];rfl)|(unfold mk_Model;rw [HK4.out,HK3.out,HK2.out,HK1.out];done)
 rw [hm]
 exact⟨(fScanSteps),_,[.int .i64 x.fScan.fFixed,.int .i64 x.fScan.fPerLeft,.int .i64 x.fScan.fPerRight,.int .i64 x.fScan.fPerOutput,.int .i64 x.fScan.fPerPair,.slice AScanSteps nScanSteps cScanSteps],_,rfl,rfl,o1,⟨(fSortSteps),_,[.int .i64 x.fSort.fFixed,.int .i64 x.fSort.fPerLeft,.int .i64 x.fSort.fPerRight,.int .i64 x.fSort.fPerOutput,.int .i64 x.fSort.fPerPair,.slice ASortSteps nSortSteps cSortSteps],_,rfl,rfl,o2,⟨(fHashSteps),_,[.int .i64 x.fHash.fFixed,.int .i64 x.fHash.fPerLeft,.int .i64 x.fHash.fPerRight,.int .i64 x.fHash.fPerOutput,.int .i64 x.fHash.fPerPair,.slice AHashSteps nHashSteps cHashSteps],_,rfl,rfl,o3,⟨(fMergeSteps),_,[.int .i64 x.fMerge.fFixed,.int .i64 x.fMerge.fPerLeft,.int .i64 x.fMerge.fPerRight,.int .i64 x.fMerge.fPerOutput,.int .i64 x.fMerge.fPerPair,.slice AMergeSteps nMergeSteps cMergeSteps],_,rfl,rfl,o4,o5⟩⟩⟩⟩


def cntE_PlanStep (x:PlanStepD):Nat:=1+1+1
def mkE_PlanStep (x:PlanStepD) (k:Int):PlanStepD:=⟨k,(k+1),((k+1)+1)⟩
def cnt_PlanStepS (l:List PlanStepD):Nat:=cntS cntE_PlanStep l
def mk_PlanStepS (l:List PlanStepD) (k:Int):List PlanStepD:=mkS mkE_PlanStep cntE_PlanStep l k
set_option maxRecDepth 100000 in
set_option maxHeartbeats 1600000 in
theorem markPlanStepS_m (A:Option Addr) (n cap:Nat) (l:List PlanStepD) (k:Int) (w:World) (fp:List Nat) (h:OS NB 173 (rPlanStep NB) w fp A n cap l) (nd:fp.Nodup) (h0:0<=k) (h1:k+(cnt_PlanStepS l:Nat)<=4611686018427387904) :
  Calls Tryz.prog 151 #[.slice A n cap,.int .i64 k] w fun e w'=>e=.returned (.int .i64 (k+(cnt_PlanStepS l:Nat)))/\OS NB 173 (rPlanStep NB) w' fp A n cap (mk_PlanStepS l k)/\Chg fp w w':=by
 have hn:n<=4294967296:=h.nb
 have HL:=Lib.hid h.len
 have H1:Hid (k+(cntS cntE_PlanStep l:Nat)<=4611686018427387904):=h1
 clear h1
 go_enter Tryz.func151,Tryz.ntmps151
 go_wp2
 go_loopw [1,5] (fun kv iv wr=>∃ (j:Nat) (kk:Int),j<=n/\iv=.int .i64 j/\kv=.int .i64 kk/\kk=k+(cntS cntE_PlanStep (l.take j):Nat)/\OS NB 173 (rPlanStep NB) wr fp A n cap (mkP mkE_PlanStep cntE_PlanStep l k j)/\Chg fp w wr) (fun _ iv _=>n - (intOf iv).toNat)
 case atStart=>exact⟨0,k,Nat.zero_le _,rfl,rfl,by simp [cntS],by rw [mkP_zero];exact h,Chg.refl _ _⟩
 case round =>
  clear h
  obtain⟨j,kk,hj,rfl,rfl,hkk,hO,hC⟩:=hrel
  have HK:=Lib.hid hkk;clear hkk
  by_cases hlt:j<n
  ·obtain⟨g,f,c,x,xs,rfl,hx,ho,hfnd,hgf,hgfp,hsub,hE,hput⟩:=hO.elem (rPlanStep_ok NB) nd hlt
   have HX:Hid (l[j]?=some x):=by have:=hx.out;rwa [mkP_at]at this
   clear hx
   have hb1:cntS cntE_PlanStep (l.take j)+cntE_PlanStep x<=cntS cntE_PlanStep l:=by rw [<- cntS_snoc _ HX.out];exact cntS_take_le _ _ _
   have b0:0<=kk:=by have:=HK.out;omega
   have b1:kk+(cntE_PlanStep x:Nat)<=4611686018427387904:=by have:=HK.out;have:=H1.out;omega
   clear hb1
   obtain⟨rfl,hfp,hKind,hAtom,hOrder⟩:=rPlanStep_own.1 ho
   subst hfp
   unfold cntE_PlanStep at b1
   clear hO
   have qa0:wr.cell? ⟨g,j*3,none⟩=some (.int .i64 x.fKind):=by simpa [rPlanStep_size]using hE.cell hlt (t:=0) rfl
   have qa1:wr.cell? ⟨g,j*3+1,none⟩=some (.int .i64 x.fAtom):=by simpa [rPlanStep_size]using hE.cell hlt (t:=1) rfl
   have qa2:wr.cell? ⟨g,j*3+2,none⟩=some (.int .i64 x.fOrder):=by simpa [rPlanStep_size]using hE.cell hlt (t:=2) rfl
   have qfa:=hE.frozen
   have qga:=hE.lt
   go_wp2
   go_roundw
   case rel =>
    refine⟨j+1,(((kk+1)+1)+1),by omega,by go_num,by go_num,?_,?_,?_⟩
    ·rw [cntS_snoc _ HX.out];have:=HK.out;have:cntE_PlanStep x=1+1+1:=rfl;omega
    ·rw [<- mkP_set mkE_PlanStep cntE_PlanStep k HX.out,<- HK.out]
     have hm:mkE_PlanStep x kk=⟨kk,(kk+1),((kk+1)+1)⟩:=by first|(unfold mkE_PlanStep;rfl)|(unfold mkE_PlanStep;rfl)|(unfold mkE_PlanStep;done)
     rw [hm]
     exact hput.out _ _ _ (Chg.trans (Chg.refl (g::_) wr) (Chg.mono (fp:=[g]) (by repeat' (first|with_reducible exact Chg.refl _ _|with_reducible refine Chg.setCell ?_ ?_ _ _|with_reducible refine Chg.alloc ?_ _|(simp;done))) (by simp))) (((hE.store 0 (by decide) (.int .i64 kk)).store 1 (by decide) (.int .i64 (kk+1))).store 2 (by decide) (.int .i64 ((kk+1)+1))) (rPlanStep_own.2 ⟨rfl,(by simp),⟨by dsimp only;omega,by dsimp only;omega⟩,⟨by dsimp only;omega,by dsimp only;omega⟩,⟨by dsimp only;omega,by dsimp only;omega⟩⟩)
    ·exact hC.trans (Chg.mono (fp:=g::([])) (Chg.trans (Chg.refl (g::_) wr) (Chg.mono (fp:=[g]) (by repeat' (first|with_reducible exact Chg.refl _ _|with_reducible refine Chg.setCell ?_ ?_ _ _|with_reducible refine Chg.alloc ?_ _|(simp;done))) (by simp))) (by intro k hk;rcases List.mem_cons.1 hk with rfl|hk;exact hgfp;exact hsub k hk))
   case measure=>simp [intOf];omega
  ·go_wp2
   go_ret
   have hl:¬ j<l.length:=by rw [HL.out];exact hlt
   exact⟨ret_int (by rw [HK.out,List.take_of_length_le (by omega)];rfl),by rw [mkP_all mkE_PlanStep cntE_PlanStep l k hl]at hO;exact hO,hC⟩

set_option maxRecDepth 100000 in
set_option maxHeartbeats 1600000 in
theorem heldPlanStepS_m (A:Option Addr) (n cap:Nat) (l:List PlanStepD) (k:Int) (w:World) (hr:RS NB (rPlanStep NB) w A n cap (mk_PlanStepS l k)) (h0:0<=k) (h1:k+(cnt_PlanStepS l:Nat)<=4611686018427387904) :
  Calls Tryz.prog 152 #[.slice A n cap,.int .i64 k] w fun e w'=>e=.returned (.int .i64 (k+(cnt_PlanStepS l:Nat)))/\Below w.heap.size w w':=by
 have hn:=hr.bound
 have HL:Hid (l.length=n):=by have:=hr.len;rwa [mk_PlanStepS,mkS_length]at this
 have H1:Hid (k+(cntS cntE_PlanStep l:Nat)<=4611686018427387904):=h1
 clear h1
 go_enter Tryz.func152,Tryz.ntmps152
 go_wp2
 go_loopw [1,5] (fun kv iv wr=>∃ (j:Nat) (kk:Int),j<=n/\iv=.int .i64 j/\kv=.int .i64 kk/\kk=k+(cntS cntE_PlanStep (l.take j):Nat)/\Below w.heap.size w wr) (fun _ iv _=>n - (intOf iv).toNat)
 case atStart=>exact⟨0,k,Nat.zero_le _,rfl,rfl,by simp [cntS],Below.refl _ _⟩
 case round =>
  obtain⟨j,kk,hj,rfl,rfl,hkk,hB⟩:=hrel
  have HK:=Lib.hid hkk;clear hkk
  by_cases hlt:j<n
  ·have hx0:l[j]?=some (l[j]'(by rw [HL.out];exact hlt)):=List.getElem?_eq_getElem (by rw [HL.out];exact hlt)
   obtain⟨x,hx⟩:∃ x,l[j]?=some x:=⟨_,hx0⟩
   clear hx0
   have HX:=Lib.hid hx;clear hx
   have hb1:cntS cntE_PlanStep (l.take j)+cntE_PlanStep x<=cntS cntE_PlanStep l:=by rw [<- cntS_snoc _ HX.out];exact cntS_take_le _ _ _
   have b0:0<=kk:=by have:=HK.out;omega
   have b1:kk+(cntE_PlanStep x:Nat)<=4611686018427387904:=by have:=HK.out;have:=H1.out;omega
   clear hb1
   obtain⟨b,off,y,cs,rfl,hrep,hcell,hy⟩:=(hr.below (rPlanStep_ok NB) hB).at_ hlt
   obtain rfl:y=mkE_PlanStep x kk:=by have h2:=hy.out;rw [mk_PlanStepS,mkS_at _ _ _ HX.out,<- HK.out]at h2;injection h2 with h2;exact h2.symm
   clear hy
   obtain⟨y,hy⟩:∃ y,y=mkE_PlanStep x kk:=⟨_,rfl⟩
   rw [<- hy]at hrep
   obtain⟨rfl,hKind,hAtom,hOrder⟩:=rPlanStep_rep.1 hrep
   have ey0:y.fKind=kk:=by rw [hy];rfl
   have ey1:y.fAtom=(kk+1):=by rw [hy];rfl
   have ey2:y.fOrder=((kk+1)+1):=by rw [hy];rfl
   unfold cntE_PlanStep at b1
   clear hy hrep
   have q0:wr.cell? ⟨b,off+j*3,none⟩=some (.int .i64 y.fKind):=by simpa [rPlanStep_size]using hcell 0 _ rfl
   have q1:wr.cell? ⟨b,off+j*3+1,none⟩=some (.int .i64 y.fAtom):=by simpa [rPlanStep_size]using hcell 1 _ rfl
   have q2:wr.cell? ⟨b,off+j*3+2,none⟩=some (.int .i64 y.fOrder):=by simpa [rPlanStep_size]using hcell 2 _ rfl
   rw [ey0]at q0
   rw [ey1]at q1
   rw [ey2]at q2
   clear hcell ey0 ey1 ey2
   have hB0:=hB
   have d0:((kk) != (kk))=false:=by simp
   have d1:(((kk+1)) != ((kk+1)))=false:=by simp
   have d2:((((kk+1)+1)) != (((kk+1)+1)))=false:=by simp
   go_wp2
   go_roundw
   case rel=>exact⟨j+1,(((kk+1)+1)+1),by omega,by go_num,by go_num,by rw [cntS_snoc _ HX.out];have:=HK.out;have:cntE_PlanStep x=1+1+1:=rfl;omega,hB0⟩
   case measure=>simp [intOf];omega
  ·go_wp2
   go_ret
   have hl:¬ j<l.length:=by rw [HL.out];exact hlt
   exact⟨ret_int (by rw [HK.out,List.take_of_length_le (by omega)];rfl),hB⟩



def cntE_Plan (x:PlanD):Nat:=(cnt_PlanStepS x.fSteps)
def mkE_Plan (x:PlanD) (k:Int):PlanD:=⟨(mk_PlanStepS x.fSteps k)⟩
def cnt_PlanS (l:List PlanD):Nat:=cntS cntE_Plan l
def mk_PlanS (l:List PlanD) (k:Int):List PlanD:=mkS mkE_Plan cntE_Plan l k
set_option maxRecDepth 100000 in
set_option maxHeartbeats 1600000 in
theorem markPlanS_m (A:Option Addr) (n cap:Nat) (l:List PlanD) (k:Int) (w:World) (fp:List Nat) (h:OS NB 76 (rPlan NB) w fp A n cap l) (nd:fp.Nodup) (h0:0<=k) (h1:k+(cnt_PlanS l:Nat)<=4611686018427387904) :
  Calls Tryz.prog 78 #[.slice A n cap,.int .i64 k] w fun e w'=>e=.returned (.int .i64 (k+(cnt_PlanS l:Nat)))/\OS NB 76 (rPlan NB) w' fp A n cap (mk_PlanS l k)/\Chg fp w w':=by
 have hn:n<=4294967296:=h.nb
 have HL:=Lib.hid h.len
 have H1:Hid (k+(cntS cntE_Plan l:Nat)<=4611686018427387904):=h1
 clear h1
 go_enter Tryz.func78,Tryz.ntmps78
 go_wp2
 go_loopw [1,5] (fun kv iv wr=>∃ (j:Nat) (kk:Int),j<=n/\iv=.int .i64 j/\kv=.int .i64 kk/\kk=k+(cntS cntE_Plan (l.take j):Nat)/\OS NB 76 (rPlan NB) wr fp A n cap (mkP mkE_Plan cntE_Plan l k j)/\Chg fp w wr) (fun _ iv _=>n - (intOf iv).toNat)
 case atStart=>exact⟨0,k,Nat.zero_le _,rfl,rfl,by simp [cntS],by rw [mkP_zero];exact h,Chg.refl _ _⟩
 case round =>
  clear h
  obtain⟨j,kk,hj,rfl,rfl,hkk,hO,hC⟩:=hrel
  have HK:=Lib.hid hkk;clear hkk
  by_cases hlt:j<n
  ·obtain⟨g,f,c,x,xs,rfl,hx,ho,hfnd,hgf,hgfp,hsub,hE,hput⟩:=hO.elem (rPlan_ok NB) nd hlt
   have HX:Hid (l[j]?=some x):=by have:=hx.out;rwa [mkP_at]at this
   clear hx
   have hb1:cntS cntE_Plan (l.take j)+cntE_Plan x<=cntS cntE_Plan l:=by rw [<- cntS_snoc _ HX.out];exact cntS_take_le _ _ _
   have b0:0<=kk:=by have:=HK.out;omega
   have b1:kk+(cntE_Plan x:Nat)<=4611686018427387904:=by have:=HK.out;have:=H1.out;omega
   clear hb1
   obtain⟨ASteps,nSteps,cSteps,fSteps,rfl,hfp,hSteps⟩:=rPlan_own.1 ho
   try simp only [List.append_nil,List.nil_append]at hfp
   replace hfp:=hfp.symm;subst hfp
   unfold cntE_Plan at b1
   clear hO
   have qa0:wr.cell? ⟨g,j,none⟩=some (.slice ASteps nSteps cSteps):=by simpa [rPlan_size]using hE.cell hlt (t:=0) rfl
   have qfa:=hE.frozen
   have qga:=hE.lt
   go_wp2_with fail
   have hs1:=hSteps
   have nd1:fSteps.Nodup:=hfnd
   refine(markPlanStepS_m _ _ _ _ kk _ _ hs1 nd1 (by omega) (by omega)).mono ?_
   rintro e w1 ⟨rfl,ho1,hcc1⟩
   have hgn1:g∉fSteps:=fun hk=>hgf (by simp [hk])
   have hE1:=ElemAt.keep hE (hcc1.block g hE.lt hgn1)
   have hG1:Chg (g::(fSteps)) wr w1:=Chg.trans (Chg.refl (g::_) wr) (Chg.trans (Chg.refl _ _) (hcc1.mono (by intro k hk;simp [hk])))
   clear qa0 qfa qga hcc1
   have q10:w1.cell? ⟨g,j,none⟩=some (.slice ASteps nSteps cSteps):=by simpa [rPlan_size]using hE1.cell hlt (t:=0) rfl
   have qf1:=hE1.frozen
   have qg1:=hE1.lt
   obtain⟨kk1,hkk1⟩:∃ q:Int,q=kk+((cnt_PlanStepS x.fSteps):Nat):=⟨_,rfl⟩
   rw [<- hkk1]
   have HK1:=Lib.hid hkk1
   have bk1:0<=kk1:=by omega
   have bb1:kk1<=4611686018427387904:=by omega
   have br1:kk1+((0:Nat):Int)<=4611686018427387904:=by omega
   clear hkk1
   clear b1
   go_wp2
   go_roundw
   case rel =>
    refine⟨j+1,kk1,by omega,by go_num,by go_num,?_,?_,?_⟩
    ·rw [cntS_snoc _ HX.out];have:=HK.out;have:=HK1.out;have:cntE_Plan x=(cnt_PlanStepS x.fSteps):=rfl;omega
    ·rw [<- mkP_set mkE_Plan cntE_Plan k HX.out,<- HK.out]
     have hm:mkE_Plan x kk=⟨(mk_PlanStepS x.fSteps kk)⟩:=by first|(unfold mkE_Plan;rfl)|(unfold mkE_Plan;rw [HK1.out];rfl)|(unfold mkE_Plan;rw [HK1.out];done)
     rw [hm]
     exact hput.out _ _ _ (hG1) hE1 (rPlan_own.2 ⟨ASteps,nSteps,cSteps,fSteps,rfl,(by simp),ho1⟩)
    ·exact hC.trans (Chg.mono (fp:=g::(fSteps)) (hG1) (by intro k hk;rcases List.mem_cons.1 hk with rfl|hk;exact hgfp;exact hsub k hk))
   case measure=>simp [intOf];omega
  ·go_wp2
   go_ret
   have hl:¬ j<l.length:=by rw [HL.out];exact hlt
   exact⟨ret_int (by rw [HK.out,List.take_of_length_le (by omega)];rfl),by rw [mkP_all mkE_Plan cntE_Plan l k hl]at hO;exact hO,hC⟩

set_option maxRecDepth 100000 in
set_option maxHeartbeats 1600000 in
theorem heldPlanS_m (A:Option Addr) (n cap:Nat) (l:List PlanD) (k:Int) (w:World) (hr:RS NB (rPlan NB) w A n cap (mk_PlanS l k)) (h0:0<=k) (h1:k+(cnt_PlanS l:Nat)<=4611686018427387904) :
  Calls Tryz.prog 81 #[.slice A n cap,.int .i64 k] w fun e w'=>e=.returned (.int .i64 (k+(cnt_PlanS l:Nat)))/\Below w.heap.size w w':=by
 have hn:=hr.bound
 have HL:Hid (l.length=n):=by have:=hr.len;rwa [mk_PlanS,mkS_length]at this
 have H1:Hid (k+(cntS cntE_Plan l:Nat)<=4611686018427387904):=h1
 clear h1
 go_enter Tryz.func81,Tryz.ntmps81
 go_wp2
 go_loopw [1,5] (fun kv iv wr=>∃ (j:Nat) (kk:Int),j<=n/\iv=.int .i64 j/\kv=.int .i64 kk/\kk=k+(cntS cntE_Plan (l.take j):Nat)/\Below w.heap.size w wr) (fun _ iv _=>n - (intOf iv).toNat)
 case atStart=>exact⟨0,k,Nat.zero_le _,rfl,rfl,by simp [cntS],Below.refl _ _⟩
 case round =>
  obtain⟨j,kk,hj,rfl,rfl,hkk,hB⟩:=hrel
  have HK:=Lib.hid hkk;clear hkk
  by_cases hlt:j<n
  ·have hx0:l[j]?=some (l[j]'(by rw [HL.out];exact hlt)):=List.getElem?_eq_getElem (by rw [HL.out];exact hlt)
   obtain⟨x,hx⟩:∃ x,l[j]?=some x:=⟨_,hx0⟩
   clear hx0
   have HX:=Lib.hid hx;clear hx
   have hb1:cntS cntE_Plan (l.take j)+cntE_Plan x<=cntS cntE_Plan l:=by rw [<- cntS_snoc _ HX.out];exact cntS_take_le _ _ _
   have b0:0<=kk:=by have:=HK.out;omega
   have b1:kk+(cntE_Plan x:Nat)<=4611686018427387904:=by have:=HK.out;have:=H1.out;omega
   clear hb1
   obtain⟨b,off,y,cs,rfl,hrep,hcell,hy⟩:=(hr.below (rPlan_ok NB) hB).at_ hlt
   obtain rfl:y=mkE_Plan x kk:=by have h2:=hy.out;rw [mk_PlanS,mkS_at _ _ _ HX.out,<- HK.out]at h2;injection h2 with h2;exact h2.symm
   clear hy
   obtain⟨y,hy⟩:∃ y,y=mkE_Plan x kk:=⟨_,rfl⟩
   rw [<- hy]at hrep
   obtain⟨ASteps,nSteps,cSteps,rfl,hSteps⟩:=rPlan_rep.1 hrep
   have ey0:y.fSteps=(mk_PlanStepS x.fSteps kk):=by rw [hy];rfl
   unfold cntE_Plan at b1
   clear hy hrep
   have q0:wr.cell? ⟨b,off+j,none⟩=some (.slice ASteps nSteps cSteps):=by simpa [rPlan_size]using hcell 0 _ rfl
   rw [ey0]at hSteps
   clear hcell ey0
   have hB0:=hB
   go_wp2_with fail
   refine(heldPlanStepS_m _ _ _ x.fSteps kk _ hSteps (by omega) (by omega)).mono ?_
   rintro e w1 ⟨rfl,hb1⟩
   have hB1:=hB0.trans (hb1.mono hB0.size)
   replace q0:=cells_below hb1 _ _ q0
   replace hSteps:=hSteps.below (rPlanStep_ok NB) hb1
   clear hb1
   obtain⟨kk1,hkk1⟩:∃ q:Int,q=kk+((cnt_PlanStepS x.fSteps):Nat):=⟨_,rfl⟩
   rw [<- hkk1]
   have HK1:=Lib.hid hkk1
   have bk1:0<=kk1:=by omega
   have br1:kk1+((0:Nat):Int)<=4611686018427387904:=by omega
   clear hkk1
   clear b1
   go_wp2
   go_roundw
   case rel=>exact⟨j+1,kk1,by omega,by go_num,by go_num,by rw [cntS_snoc _ HX.out];have:=HK.out;have:=HK1.out;have:cntE_Plan x=(cnt_PlanStepS x.fSteps):=rfl;omega,hB1⟩
   case measure=>simp [intOf];omega
  ·go_wp2
   go_ret
   have hl:¬ j<l.length:=by rw [HL.out];exact hlt
   exact⟨ret_int (by rw [HK.out,List.take_of_length_le (by omega)];rfl),hB⟩











def cnt_Space (x:SpaceD):Nat:=(cnt_Box x.fBox)+(cnt_IntS x.fCosts)+(cnt_IntS x.fChoices)+(cnt_PlanS x.fPlans)
def mk_Space (x:SpaceD) (k:Int):SpaceD:=⟨(mk_Box x.fBox k),(mk_IntS x.fCosts (k+((cnt_Box x.fBox):Nat))),(mk_IntS x.fChoices ((k+((cnt_Box x.fBox):Nat))+((cnt_IntS x.fCosts):Nat))),(mk_PlanS x.fPlans (((k+((cnt_Box x.fBox):Nat))+((cnt_IntS x.fCosts):Nat))+((cnt_IntS x.fChoices):Nat)))⟩
set_option maxRecDepth 100000 in
set_option maxHeartbeats 1600000 in
theorem markSpace_m (cs:List Value) (x:SpaceD) (k:Int) (w:World) (fp:List Nat) (h:(rSpace NB).own w fp cs x) (nd:fp.Nodup) (h0:0<=k) (h1:k+(cnt_Space x:Nat)<=4611686018427387904) :
  Calls Tryz.prog 22 #[.agg cs.toArray,.int .i64 k] w fun e w'=>e=.returned (.int .i64 (k+(cnt_Space x:Nat)))/\(rSpace NB).own w' fp cs (mk_Space x k)/\Chg fp w w':=by
 obtain⟨ABoxLow,nBoxLow,cBoxLow,ABoxHigh,nBoxHigh,cBoxHigh,ACosts,nCosts,cCosts,AChoices,nChoices,cChoices,APlans,nPlans,cPlans,fBoxLow,fBoxHigh,fCosts,fChoices,fPlans,rfl,hfp,hBoxLow,hBoxHigh,hCosts,hChoices,hPlans⟩:=rSpace_own.1 h
 clear h
 subst hfp
 unfold cnt_Space at h1 ⊢
 have hb0:=(Below.refl w.heap.size w).alloc (Nat.le_refl _) (.cells #[.slice ABoxLow nBoxLow cBoxLow,.slice ABoxHigh nBoxHigh cBoxHigh,.slice ACosts nCosts cCosts,.slice AChoices nChoices cChoices,.slice APlans nPlans cPlans] 39)
 have bx:=Bx.new w [.slice ABoxLow nBoxLow cBoxLow,.slice ABoxHigh nBoxHigh cBoxHigh,.slice ACosts nCosts cCosts,.slice AChoices nChoices cChoices,.slice APlans nPlans cPlans] 39
 have hC:Chg ((fBoxLow++(fBoxHigh))++(fCosts++(fChoices++(fPlans)))) w _:=Chg.ofBelow hb0 _
 have ltBoxLow:=hBoxLow.lt rInt_ok
 have ltBoxHigh:=hBoxHigh.lt rInt_ok
 have ltCosts:=hCosts.lt rInt_ok
 have ltChoices:=hChoices.lt rInt_ok
 have ltPlans:=hPlans.lt (rPlan_ok NB)
 replace hBoxLow:=hBoxLow.belowS rInt_ok hb0
 replace hBoxHigh:=hBoxHigh.belowS rInt_ok hb0
 replace hCosts:=hCosts.belowS rInt_ok hb0
 replace hChoices:=hChoices.belowS rInt_ok hb0
 replace hPlans:=hPlans.belowS (rPlan_ok NB) hb0
 have hbn:∀ q∈((fBoxLow++(fBoxHigh))++(fCosts++(fChoices++(fPlans)))),q≠w.heap.size:=by
  intro q hq
  try simp only [List.mem_append,List.append_nil]at hq
  have:q<w.heap.size:=by grind
  omega
 have HN:=Lib.hid hbn;clear hbn hb0 ltBoxLow ltBoxHigh ltCosts ltChoices ltPlans
 have ND:=Lib.hid nd;clear nd
 go_enter Tryz.func22,Tryz.ntmps22
 go_wp2_with fail
 have nd1:(fBoxLow++(fBoxHigh)).Nodup:=by have:=ND.out;simp only [List.nodup_append,List.mem_append,List.append_nil,List.nil_append]at this ⊢;grind
 refine(markBox_m _ x.fBox k _ (fBoxLow++(fBoxHigh)) (rBox_own.2 ⟨ABoxLow,nBoxLow,cBoxLow,ABoxHigh,nBoxHigh,cBoxHigh,fBoxLow,fBoxHigh,rfl,rfl,hBoxLow,hBoxHigh⟩) nd1 (by omega) (by omega)).mono ?_
 rintro e w1 ⟨rfl,o1,hc1⟩
 replace hCosts:=hCosts.chg rInt_ok hc1 (fun q hq hq'=>by have:=ND.out;simp only [List.nodup_append,List.mem_append,List.append_nil,List.nil_append]at this hq';grind)
 replace hChoices:=hChoices.chg rInt_ok hc1 (fun q hq hq'=>by have:=ND.out;simp only [List.nodup_append,List.mem_append,List.append_nil,List.nil_append]at this hq';grind)
 replace hPlans:=hPlans.chg (rPlan_ok NB) hc1 (fun q hq hq'=>by have:=ND.out;simp only [List.nodup_append,List.mem_append,List.append_nil,List.nil_append]at this hq';grind)
 replace bx:=bx.chg hc1 (fun hq=>HN.out _ (by(try simp only [List.mem_append,List.append_nil,List.nil_append]at hq ⊢);grind) rfl)
 replace hC:=hC.trans (hc1.mono (by intro q hq;(try simp only [List.mem_append,List.append_nil,List.nil_append]at hq ⊢);grind))
 clear hc1 nd1
 obtain⟨kk1,hkk1⟩:∃ q:Int,q=k+((cnt_Box x.fBox):Nat):=⟨_,rfl⟩
 rw [<- hkk1]
 have HK1:=Lib.hid hkk1
 have bk1:0<=kk1:=by omega
 have br1:kk1+((0+(cnt_IntS x.fCosts)+(cnt_IntS x.fChoices)+(cnt_PlanS x.fPlans):Nat):Int)<=4611686018427387904:=by omega
 clear hkk1
 clear h1
 have c2_0:=bx 0 _ rfl
 have c2_1:=bx 1 _ rfl
 have c2_2:=bx 2 _ rfl
 have c2_3:=bx 3 _ rfl
 have c2_4:=bx 4 _ rfl
 go_wp2_with fail
 have nd2:fCosts.Nodup:=by have:=ND.out;(try simp only [List.nodup_append,List.append_nil,List.nil_append]at this);grind
 refine(markIntS_m _ _ _ _ kk1 _ _ hCosts nd2 (by omega) (by omega)).mono ?_
 rintro e w2 ⟨rfl,o2,hc2⟩
 replace o1:=(rBox_ok NB).ownC o1 hc2 (fun q hq hq'=>by have:=ND.out;simp only [List.nodup_append,List.mem_append,List.append_nil,List.nil_append]at this hq hq';grind)
 replace hChoices:=hChoices.chg rInt_ok hc2 (fun q hq hq'=>by have:=ND.out;simp only [List.nodup_append,List.mem_append,List.append_nil,List.nil_append]at this hq';grind)
 replace hPlans:=hPlans.chg (rPlan_ok NB) hc2 (fun q hq hq'=>by have:=ND.out;simp only [List.nodup_append,List.mem_append,List.append_nil,List.nil_append]at this hq';grind)
 have hCosts:=o2
 replace bx:=bx.chg hc2 (fun hq=>HN.out _ (by(try simp only [List.mem_append,List.append_nil,List.nil_append]at hq ⊢);grind) rfl)
 replace hC:=hC.trans (hc2.mono (by intro q hq;(try simp only [List.mem_append,List.append_nil,List.nil_append]at hq ⊢);grind))
 clear hc2 nd2 c2_0 c2_1 c2_2 c2_3 c2_4
 obtain⟨kk2,hkk2⟩:∃ q:Int,q=kk1+((cnt_IntS x.fCosts):Nat):=⟨_,rfl⟩
 rw [<- hkk2]
 have HK2:=Lib.hid hkk2
 have bk2:0<=kk2:=by omega
 have br2:kk2+((0+(cnt_IntS x.fChoices)+(cnt_PlanS x.fPlans):Nat):Int)<=4611686018427387904:=by omega
 clear hkk2
 have c3_0:=bx 0 _ rfl
 have c3_1:=bx 1 _ rfl
 have c3_2:=bx 2 _ rfl
 have c3_3:=bx 3 _ rfl
 have c3_4:=bx 4 _ rfl
 go_wp2_with fail
 have nd3:fChoices.Nodup:=by have:=ND.out;(try simp only [List.nodup_append,List.append_nil,List.nil_append]at this);grind
 refine(markIntS_m _ _ _ _ kk2 _ _ hChoices nd3 (by omega) (by omega)).mono ?_
 rintro e w3 ⟨rfl,o3,hc3⟩
 replace o1:=(rBox_ok NB).ownC o1 hc3 (fun q hq hq'=>by have:=ND.out;simp only [List.nodup_append,List.mem_append,List.append_nil,List.nil_append]at this hq hq';grind)
 replace hCosts:=hCosts.chg rInt_ok hc3 (fun q hq hq'=>by have:=ND.out;simp only [List.nodup_append,List.mem_append,List.append_nil,List.nil_append]at this hq';grind)
 replace hPlans:=hPlans.chg (rPlan_ok NB) hc3 (fun q hq hq'=>by have:=ND.out;simp only [List.nodup_append,List.mem_append,List.append_nil,List.nil_append]at this hq';grind)
 have hChoices:=o3
 replace bx:=bx.chg hc3 (fun hq=>HN.out _ (by(try simp only [List.mem_append,List.append_nil,List.nil_append]at hq ⊢);grind) rfl)
 replace hC:=hC.trans (hc3.mono (by intro q hq;(try simp only [List.mem_append,List.append_nil,List.nil_append]at hq ⊢);grind))
 clear hc3 nd3 c3_0 c3_1 c3_2 c3_3 c3_4
 obtain⟨kk3,hkk3⟩:∃ q:Int,q=kk2+((cnt_IntS x.fChoices):Nat):=⟨_,rfl⟩
 rw [<- hkk3]
 have HK3:=Lib.hid hkk3
 have bk3:0<=kk3:=by omega
 have br3:kk3+((0+(cnt_PlanS x.fPlans):Nat):Int)<=4611686018427387904:=by omega
 clear hkk3
 have c4_0:=bx 0 _ rfl
 have c4_1:=bx 1 _ rfl
 have c4_2:=bx 2 _ rfl
 have c4_3:=bx 3 _ rfl
 have c4_4:=bx 4 _ rfl
 go_wp2_with fail
 have nd4:fPlans.Nodup:=by have:=ND.out;(try simp only [List.nodup_append,List.append_nil,List.nil_append]at this);grind
 refine(markPlanS_m _ _ _ _ kk3 _ _ hPlans nd4 (by omega) (by omega)).mono ?_
 rintro e w4 ⟨rfl,o4,hc4⟩
 replace o1:=(rBox_ok NB).ownC o1 hc4 (fun q hq hq'=>by have:=ND.out;simp only [List.nodup_append,List.mem_append,List.append_nil,List.nil_append]at this hq hq';grind)
 replace hCosts:=hCosts.chg rInt_ok hc4 (fun q hq hq'=>by have:=ND.out;simp only [List.nodup_append,List.mem_append,List.append_nil,List.nil_append]at this hq';grind)
 replace hChoices:=hChoices.chg rInt_ok hc4 (fun q hq hq'=>by have:=ND.out;simp only [List.nodup_append,List.mem_append,List.append_nil,List.nil_append]at this hq';grind)
 have hPlans:=o4
 replace bx:=bx.chg hc4 (fun hq=>HN.out _ (by(try simp only [List.mem_append,List.append_nil,List.nil_append]at hq ⊢);grind) rfl)
 replace hC:=hC.trans (hc4.mono (by intro q hq;(try simp only [List.mem_append,List.append_nil,List.nil_append]at hq ⊢);grind))
 clear hc4 nd4 c4_0 c4_1 c4_2 c4_3 c4_4
 obtain⟨kk4,hkk4⟩:∃ q:Int,q=kk3+((cnt_PlanS x.fPlans):Nat):=⟨_,rfl⟩
 rw [<- hkk4]
 have HK4:=Lib.hid hkk4
 have bk4:0<=kk4:=by omega
 have br4:kk4+((0:Nat):Int)<=4611686018427387904:=by omega
 clear hkk4
 go_wp2
 go_ret
 refine⟨ret_int (by have:=HK1.out;have:=HK2.out;have:=HK3.out;have:=HK4.out;omega),?_,hC⟩
 have hm:mk_Space x k=⟨(mk_Box x.fBox k),(mk_IntS x.fCosts kk1),(mk_IntS x.fChoices kk2),(mk_PlanS x.fPlans kk3)⟩:=by first|(unfold mk_Space;rw [HK3.out,HK2.out,HK1.out];rfl)|(unfold mk_Space;rw [HK3.out,HK2.out,HK1.out];done)
 rw [hm]
 exact⟨(fBoxLow++(fBoxHigh)),_,[.slice ABoxLow nBoxLow cBoxLow,.slice ABoxHigh nBoxHigh cBoxHigh],_,rfl,rfl,o1,⟨fCosts,_,[.slice ACosts nCosts cCosts],_,rfl,rfl,⟨ACosts,nCosts,cCosts,rfl,hCosts⟩,⟨fChoices,_,[.slice AChoices nChoices cChoices],_,rfl,rfl,⟨AChoices,nChoices,cChoices,rfl,hChoices⟩,⟨APlans,nPlans,cPlans,rfl,hPlans⟩⟩⟩⟩

set_option maxRecDepth 100000 in
set_option maxHeartbeats 1600000 in
theorem heldSpace_m (cs:List Value) (x:SpaceD) (k:Int) (w:World) (h:(rSpace NB).rep w cs (mk_Space x k)) (h0:0<=k) (h1:k+(cnt_Space x:Nat)<=4611686018427387904) :
  Calls Tryz.prog 23 #[.agg cs.toArray,.int .i64 k] w fun e w'=>e=.returned (.int .i64 (k+(cnt_Space x:Nat)))/\Below w.heap.size w w':=by
 obtain⟨y,hy⟩:∃ y,y=mk_Space x k:=⟨_,rfl⟩
 rw [<- hy]at h
 obtain⟨ABoxLow,nBoxLow,cBoxLow,ABoxHigh,nBoxHigh,cBoxHigh,ACosts,nCosts,cCosts,AChoices,nChoices,cChoices,APlans,nPlans,cPlans,rfl,hBoxLow,hBoxHigh,hCosts,hChoices,hPlans⟩:=rSpace_rep.1 h
 have eyBox:y.fBox=(mk_Box x.fBox k):=by rw [hy];rfl
 have eyCosts:y.fCosts=(mk_IntS x.fCosts (k+((cnt_Box x.fBox):Nat))):=by rw [hy];rfl
 rw [eyCosts]at hCosts
 have eyChoices:y.fChoices=(mk_IntS x.fChoices ((k+((cnt_Box x.fBox):Nat))+((cnt_IntS x.fCosts):Nat))):=by rw [hy];rfl
 rw [eyChoices]at hChoices
 have eyPlans:y.fPlans=(mk_PlanS x.fPlans (((k+((cnt_Box x.fBox):Nat))+((cnt_IntS x.fCosts):Nat))+((cnt_IntS x.fChoices):Nat))):=by rw [hy];rfl
 rw [eyPlans]at hPlans
 unfold cnt_Space at h1 ⊢
 have hB:=(Below.refl w.heap.size w).alloc (Nat.le_refl _) (.cells #[.slice ABoxLow nBoxLow cBoxLow,.slice ABoxHigh nBoxHigh cBoxHigh,.slice ACosts nCosts cCosts,.slice AChoices nChoices cChoices,.slice APlans nPlans cPlans] 39)
 have bx:=Bx.new w [.slice ABoxLow nBoxLow cBoxLow,.slice ABoxHigh nBoxHigh cBoxHigh,.slice ACosts nCosts cCosts,.slice AChoices nChoices cChoices,.slice APlans nPlans cPlans] 39
 have HY:=Lib.hid hy;clear hy h
 go_enter Tryz.func23,Tryz.ntmps23
 go_wp2_with fail
 have rr1:(rBox NB).rep _ _ y.fBox:=rBox_rep.2 ⟨ABoxLow,nBoxLow,cBoxLow,ABoxHigh,nBoxHigh,cBoxHigh,rfl,hBoxLow.below rInt_ok hB,hBoxHigh.below rInt_ok hB⟩
 rw [eyBox]at rr1
 refine(heldBox_m _ x.fBox k _ rr1 (by omega) (by omega)).mono ?_
 rintro e w1 ⟨rfl,hb1⟩
 replace hB:=hB.trans (hb1.mono hB.size)
 replace bx:=bx.below hb1
 clear hb1
 obtain⟨kk1,hkk1⟩:∃ q:Int,q=k+((cnt_Box x.fBox):Nat):=⟨_,rfl⟩
 rw [<- hkk1]
 rw [<- hkk1]at eyCosts
 rw [<- hkk1]at hCosts
 rw [<- hkk1]at eyChoices
 rw [<- hkk1]at hChoices
 rw [<- hkk1]at eyPlans
 rw [<- hkk1]at hPlans
 have HK1:=Lib.hid hkk1
 have bk1:0<=kk1:=by omega
 have br1:kk1+((0+(cnt_IntS x.fCosts)+(cnt_IntS x.fChoices)+(cnt_PlanS x.fPlans):Nat):Int)<=4611686018427387904:=by omega
 clear hkk1
 clear h1
 have c2_0:=bx 0 _ rfl
 have c2_1:=bx 1 _ rfl
 have c2_2:=bx 2 _ rfl
 have c2_3:=bx 3 _ rfl
 have c2_4:=bx 4 _ rfl
 go_wp2_with fail
 refine(heldIntS_m _ _ _ x.fCosts kk1 _ (hCosts.below rInt_ok hB) (by omega) (by omega)).mono ?_
 rintro e w2 ⟨rfl,hb2⟩
 replace hB:=hB.trans (hb2.mono hB.size)
 replace bx:=bx.below hb2
 clear hb2 c2_0 c2_1 c2_2 c2_3 c2_4
 obtain⟨kk2,hkk2⟩:∃ q:Int,q=kk1+((cnt_IntS x.fCosts):Nat):=⟨_,rfl⟩
 rw [<- hkk2]
 rw [<- hkk2]at eyChoices
 rw [<- hkk2]at hChoices
 rw [<- hkk2]at eyPlans
 rw [<- hkk2]at hPlans
 have HK2:=Lib.hid hkk2
 have bk2:0<=kk2:=by omega
 have br2:kk2+((0+(cnt_IntS x.fChoices)+(cnt_PlanS x.fPlans):Nat):Int)<=4611686018427387904:=by omega
 clear hkk2
 have c3_0:=bx 0 _ rfl
 have c3_1:=bx 1 _ rfl
 have c3_2:=bx 2 _ rfl
 have c3_3:=bx 3 _ rfl
 have c3_4:=bx 4 _ rfl
 go_wp2_with fail
 refine(heldIntS_m _ _ _ x.fChoices kk2 _ (hChoices.below rInt_ok hB) (by omega) (by omega)).mono ?_
 rintro e w3 ⟨rfl,hb3⟩
 replace hB:=hB.trans (hb3.mono hB.size)
 replace bx:=bx.below hb3
 clear hb3 c3_0 c3_1 c3_2 c3_3 c3_4
 obtain⟨kk3,hkk3⟩:∃ q:Int,q=kk2+((cnt_IntS x.fChoices):Nat):=⟨_,rfl⟩
 rw [<- hkk3]
 rw [<- hkk3]at eyPlans
 rw [<- hkk3]at hPlans
 have HK3:=Lib.hid hkk3
 have bk3:0<=kk3:=by omega
 have br3:kk3+((0+(cnt_PlanS x.fPlans):Nat):Int)<=4611686018427387904:=by omega
 clear hkk3
 have c4_0:=bx 0 _ rfl
 have c4_1:=bx 1 _ rfl
 have c4_2:=bx 2 _ rfl
 have c4_3:=bx 3 _ rfl
 have c4_4:=bx 4 _ rfl
 go_wp2_with fail
 refine(heldPlanS_m _ _ _ x.fPlans kk3 _ (hPlans.below (rPlan_ok NB) hB) (by omega) (by omega)).mono ?_
 rintro e w4 ⟨rfl,hb4⟩
 replace hB:=hB.trans (hb4.mono hB.size)
 replace bx:=bx.below hb4
 clear hb4 c4_0 c4_1 c4_2 c4_3 c4_4
 obtain⟨kk4,hkk4⟩:∃ q:Int,q=kk3+((cnt_PlanS x.fPlans):Nat):=⟨_,rfl⟩
 rw [<- hkk4]
 have HK4:=Lib.hid hkk4
 have bk4:0<=kk4:=by omega
 have br4:kk4+((0:Nat):Int)<=4611686018427387904:=by omega
 clear hkk4
 go_wp2
 go_ret
 exact⟨ret_int (by have:=HK1.out;have:=HK2.out;have:=HK3.out;have:=HK4.out;omega),hB⟩



















end Go.Proofs.YtnlcfkpcmfljeaaGreat
namespace Go.Proofs.YtnlcfkpcmfljeaaGreat
open Go.RowKit
set_option linter.unusedVariables false
set_option linter.unusedSimpArgs false

theorem cntS_le {α:Type}{c b:α->Nat}{l:List α}(h:∀ x,c x<=8*(1+b x)):cntS c l<=8*bulkS b l:=by
 unfold cntS bulkS
 induction l with
 | nil=>simp
 | cons x l ih=>simp only [List.map_cons,List.sum_cons,List.length_cons]at ih ⊢;have:=h x;omega
theorem cntS_len {α:Type}{c:α->Nat}{l:List α}{m:Nat}(h:∀ x,c x=m):cntS c l=m*l.length:=by
 unfold cntS
 induction l with
 | nil=>simp
 | cons x l ih=>simp only [List.map_cons,List.sum_cons,List.length_cons]at ih ⊢;rw [ih,h x,Nat.mul_add];omega
theorem cntb_IntS (l:List Int):cnt_IntS l<=8*l.length:=by unfold cnt_IntS;omega
theorem cntb_AtomS (l:List AtomD):cnt_AtomS l<=8*(bulkS (fun x=>bulkAtom x) l):=by
 unfold cnt_AtomS;refine cntS_le fun x=>?_
 have:=cntb_IntS x.fVars
 unfold cntE_Atom;simp only [bulkAtom];omega
theorem cntb_Query (x:QueryD):cnt_Query x<=8*bulkQuery x:=by
 have:=cntb_AtomS x.fAtoms
 unfold cnt_Query bulkQuery;omega
theorem cntb_Box (x:BoxD):cnt_Box x<=8*bulkBox x:=by
 have:=cntb_IntS x.fLow
 have:=cntb_IntS x.fHigh
 unfold cnt_Box bulkBox;omega
theorem cntb_CostStepS (l:List CostStepD):cnt_CostStepS l<=8*(l.length):=by
 unfold cnt_CostStepS;rw [cntS_len (c:=cntE_CostStep) (m:=2) (fun _=>rfl)];omega
theorem cntb_Operator (x:OperatorD):cnt_Operator x<=8*bulkOperator x:=by
 have:=cntb_CostStepS x.fSteps
 unfold cnt_Operator bulkOperator;omega
theorem cntb_Model (x:ModelD):cnt_Model x<=8*bulkModel x:=by
 have:=cntb_Operator x.fScan
 have:=cntb_Operator x.fSort
 have:=cntb_Operator x.fHash
 have:=cntb_Operator x.fMerge
 have:=cntb_Operator x.fNested
 unfold cnt_Model bulkModel;omega
end Go.Proofs.YtnlcfkpcmfljeaaGreat
