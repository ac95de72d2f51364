/-
  Qry
-/
import Derived.Test.YtjckbnmbhgikjaaPqs
import Derived.Test.YtjckbnmbhgikjaaDrw
import Derived.Test.YtjckbnmbhgikjaaUpd
import Derived.Test.YtjckbnmbhgikjaaCpr
import Derived.Test.YtjckbnmbhgikjaaKeep
namespace Go.Proofs.Ytjckbnmbhgikjaa
open Go.RowKit
set_option linter.unusedVariables false
set_option linter.unusedSimpArgs false
theorem knownQ_size:∀ x∈knownQ,x.size<=NB:=by
 have h:=knownQ_ok
 rw [List.all_eq_true]at h
 intro x hx
 have:=(parse_parts (h x hx)).1
 unfold NB;omega
/-- a block that is younger than w does not show in what has changed since w -/
theorem chgW {g gX:Nat}{w w7 W:World}(h:Chg [g] w w7) (hc:Chg [g,gX] w7 W) (hX:w.heap.size<gX):Chg [g] w W :=
 ⟨hc.os.trans h.os,hc.tape.trans h.tape,hc.output.trans h.output,Nat.le_trans h.size hc.size,fun k hk hn=>(hc.block k (Nat.lt_of_lt_of_le hk h.size) (by simp at hn ⊢;omega)).trans (h.block k hk hn)⟩
theorem Ab.chg {gA g:Nat}{nm:ByteArray}{A:Option Addr}{n c:Nat}{V:List Int}{W W':World}(h:Ab gA nm A n c V W) (hc:Chg [g] W W') (hg:g<gA):Ab gA nm A n c V W':=by
 obtain⟨o,hB⟩:=h.mV.bI
 exact⟨(hc.block _ h.kA.lt (by simp;omega)).trans h.kA,h.mV.keepI (fun z hz=>hc.block z (hB z hz).2 (by have:=(hB z hz).1;simp;omega))⟩
set_option maxRecDepth 100000 in
set_option maxHeartbeats 3200000 in
theorem l7Query_c (g:Nat) (w:World) (hc:Cur w g):Calls Try.prog 46 #[.pointer (some ⟨g,0,none⟩)] w (DrawnV (rQuery NB) (fun q=>validQ q=true) g w):=by
 have hgw:=hc.lt
 obtain⟨w1,hw1⟩:∃ W,W=w.alloc (.cells #[.int .i64 0,.slice none 0 0] 43):=⟨_,rfl⟩
 obtain⟨w2,hw2⟩:∃ W,W=w1.alloc (.cells (knownQ.map Value.string).toArray 9):=⟨_,rfl⟩
 have hs1:w1.heap.size=w.heap.size+1:=by rw [hw1];simp
 have hs2:w2.heap.size=w.heap.size+1+1:=by rw [hw2];simp [hs1]
 have b1:Below w.heap.size w w1:=by rw [hw1];exact(Below.refl _ _).alloc (Nat.le_refl _) _
 have b2:Below w1.heap.size w1 w2:=by rw [hw2];exact(Below.refl _ _).alloc (Nat.le_refl _) _
 have kR:Bk w2 w.heap.size 43 [.int .i64 0,.slice none 0 0]:=by refine Bk.below ?_ b2;rw [hw1];exact Bk.new w _ _
 have rK:RS NB (rStr NB) w2 (some ⟨w.heap.size+1,0,none⟩) 13 13 knownQ:=by rw [hw2,<- hs1];exact RS.litS w1 knownQ _ (by decide) knownQ_size
 have C2:Chg [g] w w2:=Chg.ofBelow (b1.trans (b2.mono b1.size)) _
 have cu2:Cur w2 g:=(hc.below b1).below b2
 unfold knownQ at hw2
 simp only [List.map_cons,List.map_nil]at hw2
 clear b1 b2 hs1
 go_enter Try.func46,Try.ntmps46
 go_upto_region 2 with fail
 rw [<- hw1,<- hw2]
 clear hw1 hw2
 go_wp2_with fail
 refine(l1Pick_c g _ 13 13 knownQ _ rK (fun k hk=>by simp [blk]at hk;omega) (by decide) cu2).mono ?_
 rintro e w3 ⟨s,rfl,hsm,cu3,ch3⟩
 have hpo:parseOk s=true:=by have h:=knownQ_ok;rw [List.all_eq_true]at h;exact h s hsm
 have hval:=(parse_parts hpo).2.2.2.1
 have kR3:Bk w3 w.heap.size 43 [.int .i64 0,.slice none 0 0]:=(ch3.block _ kR.lt (by simp;omega)).trans kR
 have C3:=C2.trans ch3
 have hs3:w.heap.size+1+1<=w3.heap.size:=by have:=ch3.size;omega
 clear rK kR cu2 C2 ch3 hsm hs2
 go_wp2_with fail
 refine(sParseQuery_c s _ hpo).mono ?_
 rintro e w4 ⟨cs,fp,rfl,oQ,fQ,hb4⟩
 obtain⟨Aq,nq,cq,fA,rfl,rfl,hqv,oqA⟩:=rQuery_own.1 oQ
 have fQ2:Fr (w.heap.size+1) fp:=fQ.mono (by omega)
 obtain⟨q,hq⟩:∃ q,queryP s=q:=⟨_,rfl⟩
 rw [hq]at oQ hval hqv oqA ⊢
 clear hpo hq
 replace kR3:=kR3.below hb4
 replace cu3:=cu3.below hb4
 replace C3:=C3.trans (Chg.ofBelow hb4 _)
 replace hs3:=Nat.le_trans hs3 hb4.size
 obtain⟨w5,hw5⟩:∃ W,W=w4.alloc (.cells #[.int .i64 q.fVariableCount,.slice Aq nq cq] 43):=⟨_,rfl⟩
 have b5:Below w4.heap.size w4 w5:=by rw [hw5];exact(Below.refl _ _).alloc (Nat.le_refl _) _
 have hs5:w5.heap.size=w4.heap.size+1:=by rw [hw5];simp
 have kq:Bk w5 w4.heap.size 43 [.int .i64 q.fVariableCount,.slice Aq nq cq]:=by rw [hw5];exact Bk.new w4 _ _
 replace oQ:=(rQuery_ok NB).ownB oQ b5
 replace kR3:=kR3.below b5
 replace cu3:=cu3.below b5
 replace C3:=C3.trans (Chg.ofBelow b5 _)
 have hgq:w.heap.size+1<=w4.heap.size:=by omega
 obtain⟨gq,hgqe⟩:∃ z,z=w4.heap.size:=⟨_,rfl⟩
 rw [<- hgqe]at kq hgq hs5
 clear hb4 b5 fQ
 go_upto_region 3 with fail
 rw [<- hgqe,<- hw5]
 clear hw5 hgqe oqA
 have HFP:Hid (∀ k∈fp,k<w5.heap.size):=by show ∀ k∈fp,_;exact(rQuery_ok NB).lt oQ
 go_wp2_with fail
 refine(l1Once_c g 4 _ (by omega) cu3).mono ?_
 rintro e w6 ⟨b,rfl,cu6,ch6⟩
 have kR6:Bk w6 w.heap.size 43 [.int .i64 0,.slice none 0 0]:=(ch6.block _ kR3.lt (by simp;omega)).trans kR3
 have kq6:Bk w6 gq 43 [.int .i64 q.fVariableCount,.slice Aq nq cq]:=(ch6.block _ kq.lt (by simp;omega)).trans kq
 have oQ6:=Stb.low (rQuery_ok NB) oQ ch6 (fun k hk=>by have:=fQ2.ge k hk;simp;omega)
 have C6:=C3.trans ch6
 have hs6:gq<w6.heap.size:=kq6.lt
 have HFP6:Hid (∀ k∈fp,k<w6.heap.size):=by show ∀ k∈fp,_;exact(rQuery_ok NB).lt oQ6
 clear kR3 kq oQ C3 cu3 ch6 HFP
 cases b
 ·have ⟨q0,q1⟩:=kq6.bx.b2
  have ⟨r0,g0,r1,g1⟩:=kR6.r2
  have ⟨z0,z1⟩:=kR6.s2
  go_wp2
  refine bodyPost_ret (v:=.agg #[.int .i64 q.fVariableCount,.slice Aq nq cq]) (by simp [results,Try.results46,go_sem,z0,z1]) rfl ?_
  exact⟨q,[.int .i64 q.fVariableCount,.slice Aq nq cq],fp,rfl,own_set2 (rQuery_ok NB) oQ6 fQ2 _ _,fQ2.mono (by omega),hval,cu6.low hgw (bls2 (Below.refl _ _) (Nat.le_refl _) _ _),chgS C6 (bls2 (Below.refl _ _) (Nat.le_refl _) _ _) (Nat.le_refl _)⟩
 ·obtain⟨gX,hgX⟩:∃ z,z=w6.heap.size:=⟨_,rfl⟩
  obtain⟨w7,hw7⟩:∃ W,W=w6.alloc (.cells #[.int .i64 0,.slice none 0 0] 43):=⟨_,rfl⟩
  have b7:Below w6.heap.size w6 w7:=by rw [hw7];exact(Below.refl _ _).alloc (Nat.le_refl _) _
  have kX:Bk w7 gX 43 [.int .i64 0,.slice none 0 0]:=by rw [hw7,hgX];exact Bk.new w6 _ _
  have Q0:=Qb.new kX
  have HR:Hid (∀ W,Chg [g,gX] w7 W->Bk W w.heap.size 43 [.int .i64 0,.slice none 0 0]/\Bk W gq 43 [.int .i64 q.fVariableCount,.slice Aq nq cq]/\(rQuery NB).own W fp [.int .i64 q.fVariableCount,.slice Aq nq cq] q):=by
   show ∀ W,_->_
   intro W hW
   have k1:=kR6.below b7
   have k2:=kq6.below b7
   have o:=(rQuery_ok NB).ownB oQ6 b7
   exact⟨(hW.block _ k1.lt (by simp;omega)).trans k1,(hW.block _ k2.lt (by simp;omega)).trans k2,Stb.low (rQuery_ok NB) o hW (fun k hk=>by have:=fQ2.ge k hk;have:=HFP6.out k hk;simp;omega)⟩
  have cu7:=cu6.below b7
  have C7:=C6.trans (Chg.ofBelow b7 _)
  have hgg:g<gX:=by omega
  clear kR6 kq6 oQ6 C6 cu6 b7 HFP6 kX
  obtain⟨B,hBe⟩:∃ B,B=w7.heap.size:=⟨_,rfl⟩
  rw [<- hBe]at Q0
  have HBE:=Lib.hid hBe;clear hBe
  go_upto_region 6 with fail
  rw [<- hgX,<- hw7]
  have hgXw:w.heap.size<gX:=by omega
  clear hw7 hgX hs6
  go_wp2_with fail
  refine(l1Below_c g 4 _ (by omega) cu7).mono ?_
  rintro e w8 ⟨x,rfl,⟨hx0,_,hx1⟩,cu8,ch8⟩
  have hx2:=hx1 (by omega)
  clear hx1
  obtain⟨m,rfl⟩:∃ m:Nat,x=m:=⟨x.toNat,by omega⟩
  have Q8:=Q0.chg ch8 hgg
  have D8:Chg [g,gX] w7 w8:=ch8.mono (by simp)
  clear cu7 ch8 Q0
  go_wp2
  go_loopw [7] (fun i wr=>∃ (k T n c:Nat) (vc:Int) (A:Option Addr) (L:List AtomD),k<=4/\i=.int .i64 k/\n+k<=4/\0<=vc/\vc<=4/\Qb gX B T vc A n c L wr/\Chg [g,gX] w7 wr/\Cur wr g) (fun i _=>(intOf i).toNat)
  case atStart=>exact⟨m+1,B,0,0,0,none,[],by omega,by go_num,by omega,by omega,by omega,Q8,D8,cu8⟩
  case round =>
   clear Q8 D8 cu8
   obtain⟨k,T,n,c,vc,A,L,hk,rfl,hnk,hvc0,hvc4,hQ,hD,hcu⟩:=hrel
   by_cases hk0:0<k
   ·have hki:(0:Int)<k:=by omega
    obtain⟨k',rfl⟩:∃ j,k=j+1:=⟨k - 1,by omega⟩
    go_wp2_with fail
    refine(l1Below_c g 5 _ (by omega) hcu).mono ?_
    rintro e w9 ⟨y,rfl,⟨hy0,_,hy1⟩,cu9,ch9⟩
    have hy2:=hy1 (by omega)
    clear hy1
    obtain⟨y,rfl⟩:∃ j:Nat,y=j:=⟨y.toNat,by omega⟩
    have Q9:=hQ.chg ch9 hgg
    have D9:Chg [g,gX] w7 w9:=hD.trans (ch9.mono (by simp))
    clear hQ hD hcu ch9
    go_upto_region 10 with fail
    obtain⟨wl,hwl⟩:∃ W,W=w9.alloc (.cells #[.string ⟨#[114]⟩,.string ⟨#[115]⟩,.string ⟨#[116]⟩,.string ⟨#[117]⟩,.string ⟨#[118]⟩] 9):=⟨_,rfl⟩
    have bl:Below w9.heap.size w9 wl:=by rw [hwl];exact(Below.refl _ _).alloc (Nat.le_refl _) _
    obtain⟨nm,hnm,hnz⟩:∃ nm,wl.cell? ⟨w9.heap.size,y,none⟩=some (.string nm)/\nm.size<=NB:=by
     obtain⟨b,off,x,e,h1,h2,_⟩:=(RS.litS w9 [⟨#[114]⟩,⟨#[115]⟩,⟨#[116]⟩,⟨#[117]⟩,⟨#[118]⟩] 9 (by decide) (by decide)).atS (k:=y) (by show y<5;omega)
     injection e with e;injection e with e1 e2;subst e1;subst e2
     refine⟨x,?_,h2⟩
     rw [hwl];rw [Nat.zero_add]at h1;exact h1
    rw [hwl]at hnm
    obtain⟨gA,hgA⟩:∃ z,z=wl.heap.size:=⟨_,rfl⟩
    have hgA2:w9.heap.size+1=gA:=by rw [hgA,hwl];simp
    obtain⟨wa,hwa⟩:∃ W,W=wl.alloc (.cells #[.string nm,.slice none 0 0] 100):=⟨_,rfl⟩
    have ba:Below w9.heap.size w9 wa:=bl.trans (by rw [hwa];exact((Below.refl _ _).alloc (Nat.le_refl _) _).mono bl.size)
    have A0:Ab gA nm none 0 0 [] wa:=by rw [hwa];exact Ab.new wl gA hgA.symm nm
    have sza:wa.heap.size=gA+1:=by rw [hwa,hgA];simp
    have Q1:Qb gX B gA vc A n c L wa:=(Q9.low (ba.mono Q9.sz)).rise (by have:=Q9.sz;omega) (by omega)
    have D1:=D9.trans (Chg.ofBelow ba _)
    have cu1:=cu9.below ba
    have HWL:=Lib.hid hwl
    have HWA:=Lib.hid hwa
    have HGA:=Lib.hid hgA2
    clear Q9 D9 cu9 ba bl hwl hwa hgA2 hgA
    go_upto_region 11 with fail
    rw [<- HWL.out,HGA.out,<- HWA.out]
    obtain⟨wi,hwi⟩:∃ W,W=wa.alloc (.cells #[.int .i64 2,.int .i64 2,.int .i64 2,.int .i64 3,.int .i64 1] 3):=⟨_,rfl⟩
    have bi:Below wa.heap.size wa wi:=by rw [hwi];exact(Below.refl _ _).alloc (Nat.le_refl _) _
    obtain⟨mm,hmm,hm1,hm3⟩:∃ mm:Nat,wi.cell? ⟨wa.heap.size,y,none⟩=some (.int .i64 mm)/\1<=mm/\mm<=3:=by
     obtain⟨b,off,x,e,h1,h2,h3⟩:=(RS.lit wa [2,2,2,3,1] 3 (by decide) (by simp [I64])).ati (k:=y) (by show y<5;omega)
     injection e with e;injection e with e1 e2;subst e1;subst e2
     have hx:1<=x/\x<=3:=by have:=mem_of_at h3.out;simp at this;omega
     refine⟨x.toNat,?_,by omega,by omega⟩
     rw [hwi,show((x.toNat:Nat):Int)=x by omega];rw [Nat.zero_add]at h1;exact h1
    rw [hwi]at hmm
    have HWI:=Lib.hid hwi
    have A1:=A0.below bi
    have Q2:=Q1.low (bi.mono Q1.sz)
    have D2:=D1.trans (Chg.ofBelow bi _)
    have cu2:=cu1.below bi
    have szi:gA+1<=wi.heap.size:=by have:=bi.size;omega
    clear hwi A0 Q1 D1 cu1 bi sza hnm
    go_upto_region 12 with fail
    rw [<- HWI.out]
    clear hmm HWI HWL HWA
    go_wp2_with fail
    refine(l1Below_c g 4 _ (by omega) cu2).mono ?_
    rintro e w10 ⟨v0,rfl,⟨hv0,_,hv1⟩,cu3,ch3⟩
    have hv2:=hv1 (by omega)
    have hgA9:g<gA:=by have:=Q2.lt;have:=Q2.le;omega
    have Q3:=Q2.chg ch3 hgg
    have A2:Ab gA nm none 0 0 [] w10:=A1.chg ch3 hgA9
    have D3:=D2.trans (ch3.mono (fp':=[g,gX]) (by simp))
    have sz3:gA+1<=w10.heap.size:=by have:=ch3.size;omega
    have HGB:=Lib.hid Q2.le
    have HGX:Hid (gX<gA):=by show _<_;have:=Q2.lt;have:=Q2.le;omega
    have hwB:w7.heap.size<=gA:=by have:=HBE.out;have:=Q2.le;omega
    have H9:Hid (g<gA):=hgA9
    clear A1 Q2 D2 cu2 ch3 hv1 szi hgA9
    rename World=>wz
    go_wp2
    go_loopw [11,12] (fun vv i wr=>∃ (j cV:Nat) (v vc:Int) (AV:Option Addr) (V:List Int),j<=mm/\i=.int .i64 j/\vv=.int .i64 v/\0<=v/\v<4/\0<=vc/\vc<=4/\Qb gX B gA vc A n c L wr/\Ab gA nm AV j cV V wr/\Chg [g,gX] w7 wr/\Cur wr g/\gA+1<=wr.heap.size) (fun _ i _=>mm - (intOf i).toNat)
    case atStart=>exact⟨0,0,v0,vc,none,[],by omega,rfl,rfl,hv0,hv2,hvc0,hvc4,Q3,A2,D3,cu3,sz3⟩
    case round =>
     clear Q3 A2 D3 cu3 sz3 hvc0 hvc4
     obtain⟨j,cV,v,vc',AV,V,hj,rfl,rfl,hv0',hv4',hvc0,hvc4,hQ,hA,hD,hcu,hsz⟩:=hrel
     by_cases hlj:j<mm
     ·have hji:(j:Int)<mm:=by omega
      have ⟨x0,x1⟩:=hA.kA.bx.b2
      go_upto_region 17 with (at_builtin;refine wpList_appB (r:=rInt) rfl _ _ 51 rfl _ 8 eiInt rInt_ok rfl hA.mV ((Below.refl _ _).alloc (Nat.le_refl _) _) hsz ⟨wr.heap.size,0,none⟩ rfl [] [.int .i64 v] v ⟨rfl,rfl,⟨by omega,by omega⟩⟩ (Fr.nil _) (cell_one_new _ _ _) (by unfold NB;omega) (Nat.le_refl _) (by omega) ?_;intro A4 c4 w4 hM4 hb4 hg4 hA4;obtain⟨k4,A5⟩:=(hA.below ((Below.refl _ _).alloc (Nat.le_refl _) (.cells #[.int .i64 v] 3))).app hM4 hb4;have f4:=k4.frozen 1;have x4:=k4.bx 1 _ rfl)
      have b5:Below gA wr (w4.setCell ⟨gA,1,none⟩ (.slice A4 (j+1) c4)):=(((Below.refl gA wr).alloc (by omega) (.cells #[.int .i64 v] 3)).trans (hb4.mono (Nat.le_succ _))).setCell (p:=⟨gA,1,none⟩) (Nat.le_refl _) _
      have Q5:=hQ.low b5
      have D5:=chgS hD b5 hwB
      have cu5:=hcu.low H9.out b5
      have s5:gA+1<=(w4.setCell ⟨gA,1,none⟩ (.slice A4 (j+1) c4)).heap.size:=by rw [World.size_setCell];have:=hb4.size;simp at this;omega
      obtain⟨w5',hw5⟩:∃ W,W=w4.setCell ⟨gA,1,none⟩ (.slice A4 (j+1) c4):=⟨_,rfl⟩
      rw [<- hw5]at Q5 A5 D5 s5 cu5 ⊢
      clear hw5 b5 k4 f4 x4 hM4 hb4 hg4 hA4 hQ hA hD hcu x0 x1 hsz
      obtain⟨VN,hVN⟩:∃ VN,VN=max vc' (v+1):=⟨_,rfl⟩
      have hmx:(if vc'<v+1 then v+1 else vc')=VN:=by rw [hVN];split<;>omega
      have hVb:0<=VN/\VN<=4:=by omega
      have hm4:=tmod_bd (a:=v+1) (n:=4) (by omega) (by omega)
      clear hVN
      have hq0:=Q5.kQ.bx 0 _ rfl
      have fq0:=Q5.kQ.frozen 0
      go_wp2
      go_roundw
      case rel =>
       exact⟨j+1,c4,(v+1) % 4,VN,A4,V++[v],by omega,by go_num,rfl,hm4.1,hm4.2,hVb.1,hVb.2,Q5.setVc VN,A5.other HGX.out,D5.setCell (by simp) _ _,cu5.low hgg ((Below.refl _ _).setCell (p:=⟨gX,0,none⟩) (Nat.le_refl _) _),by rw [World.size_setCell];exact s5⟩
      case measure=>simp [intOf];omega
     ·have hji:¬ (j:Int)<mm:=by omega
      obtain⟨u0,hu0,hbu,hMu⟩:=hQ.base
      obtain⟨ho,hfr⟩:=hA.own hnz
      have ha1:Below wr.heap.size wr (wr.alloc (.cells #[.string nm,.slice AV j cV] 100)):=(Below.refl _ _).alloc (Nat.le_refl _) _
      have hbu2:=hbu.trans (ha1.mono hbu.size)
      have ho2:=(rAtom_ok NB).ownB ho ha1
      have hfr2:Fr u0.heap.size (blk AV):=hfr.mono (by omega)
      have hgB2:B<=u0.heap.size:=by have:=HGB.out;omega
      have QA:=hQ.low (ha1.mono hQ.sz)
      have ⟨x0,x1⟩:=hA.kA.bx.b2
      have y1:=hQ.kQ.bx 1 _ rfl
      have DA:=hD.trans (Chg.ofBelow ha1 _)
      have cuA:=hcu.below ha1
      have hgB:g<B:=by have:=hQ.lt;omega
      have hn4:n<=4:=by omega
      clear hQ hA hbu ho hfr hD hcu
      go_wp2_with (at_builtin;refine wpList_appB (r:=rAtom NB) rfl _ _ 41 rfl _ 40 eiAtomD (rAtom_ok NB) rfl hMu hbu2 hgB2 ⟨wr.heap.size,0,none⟩ rfl (blk AV) [.string nm,.slice AV j cV] ⟨nm,V⟩ ho2 hfr2 (cells_new _ _ _) (by unfold NB;omega) (Nat.le_refl _) (by omega) ?_;intro A9 c9 w9' hM9 hb9 hg9 hA9;obtain⟨k9,Q9⟩:=QA.app hM9 hb9;have f9:=k9.frozen 1;have x9:=k9.bx 1 _ rfl)
      go_roundw
      case rel =>
       refine⟨k',w9'.heap.size,n+1,c9,vc',A9,L++[⟨nm,V⟩],by omega,by go_num,by omega,hvc0,hvc4,Q9,?_,?_⟩
       ·exact(chgS DA hb9 (by rw [HBE.out];exact Nat.le_refl _)).setCell (by simp) _ _
       ·exact(cuA.low hgB hb9).low hgg ((Below.refl _ _).setCell (p:=⟨gX,1,none⟩) (Nat.le_refl _) _)
      case measure=>simp [intOf]
   ·have hk00:k=0:=by omega
    subst hk00
    obtain⟨kR,kq,oQ⟩:=HR.out wr hD
    have hIv:I64 vc:=⟨by omega,by omega⟩
    obtain⟨fx,ox,ffx⟩:=hQ.own hIv
    have ⟨x0,x1⟩:=hQ.kQ.bx.b2
    have hgX2:w.heap.size+1<=B:=by have:=hQ.lt;omega
    have kX:=hQ.kQ
    have E0:Chg [g] w wr:=chgW C7 hD hgXw
    clear hQ hD
    go_wp2_with fail
    refine(sIsValidQuery_c _ _ _ ((rQuery_ok NB).toRep ox)).mono ?_
    rintro e w9 ⟨rfl,hb9⟩
    replace ox:=(rQuery_ok NB).ownB ox hb9
    replace oQ:=(rQuery_ok NB).ownB oQ hb9
    replace kX:=kX.below hb9
    replace kq:=kq.below hb9
    replace kR:=kR.below hb9
    replace E0:=E0.trans (Chg.ofBelow hb9 _)
    replace hcu:=hcu.below hb9
    clear hb9 x0 x1
    have ⟨x0,x1⟩:=kX.bx.b2
    have ⟨q0,q1⟩:=kq.bx.b2
    have ⟨r0,g0,r1,g1⟩:=kR.r2
    have ⟨z0,z1⟩:=kR.s2
    cases hv:validQ ⟨vc,L⟩
    ·go_wp2
     refine bodyPost_ret (v:=.agg #[.int .i64 q.fVariableCount,.slice Aq nq cq]) (by simp [results,Try.results46,go_sem,z0,z1]) rfl ?_
     exact⟨q,[.int .i64 q.fVariableCount,.slice Aq nq cq],fp,rfl,own_set2 (rQuery_ok NB) oQ fQ2 _ _,fQ2.mono (by omega),hval,hcu.low hgw (bls2 (Below.refl _ _) (Nat.le_refl _) _ _),chgS E0 (bls2 (Below.refl _ _) (Nat.le_refl _) _ _) (Nat.le_refl _)⟩
    ·go_wp2
     refine bodyPost_ret (v:=.agg #[.int .i64 vc,.slice A n c]) (by simp [results,Try.results46,go_sem,z0,z1]) rfl ?_
     exact⟨⟨vc,L⟩,[.int .i64 vc,.slice A n c],fx,rfl,own_set2 (rQuery_ok NB) ox (ffx.mono hgX2) _ _,ffx.mono (by omega),hv,hcu.low hgw (bls2 (Below.refl _ _) (Nat.le_refl _) _ _),chgS E0 (bls2 (Below.refl _ _) (Nat.le_refl _) _ _) (Nat.le_refl _)⟩
end Go.Proofs.Ytjckbnmbhgikjaa
namespace Go.Proofs.Ytjckbnmbhgikjaa
open Go.RowKit
set_option linter.unusedVariables false
set_option linter.unusedSimpArgs false
theorem rAtom_nt {t:TypeId}(h:(3:TypeId)≠t):(rAtom NB).NT t:=rIso_nt (rPair_nt rStr_nt (rSlice_nt rInt_nt h)) _
theorem neAI:(3:TypeId)≠43:=by decide
theorem neAQ:(100:TypeId)≠43:=by decide
/-- what is handed back: the query's cells stored into the result's box -/
theorem any_fin {w W:World}{g:Nat}{vc:Int}{A:Option Addr}{n c:Nat}{L:List AtomD}(hg:g<w.heap.size) (m:MS (w.heap.size+1) NB 100 (rAtom NB) W A n c L) (hv:I64 vc) (cu:Cur W g) (hc:Chg [g] w W) (a b:Value) :
  DrawnR (rQuery NB) g w (.returned (.agg #[.int .i64 vc,.slice A n c])) (set2 W w.heap.size a b):=by
 obtain⟨fp,o,f⟩:=m
 have ho:(rQuery NB).own W fp [.int .i64 vc,.slice A n c] ⟨vc,L⟩:=rQuery_own.2 ⟨A,n,c,fp,rfl,rfl,hv,o⟩
 exact⟨⟨vc,L⟩,[.int .i64 vc,.slice A n c],rfl,Stb.ofOwn (rQuery_ok NB) (own_set2 (rQuery_ok NB) ho f a b) (fun k hk=>by have:=f.ge k hk;omega),cu.low hg (bls2 (Below.refl _ _) (Nat.le_refl _) _ _),chgS hc (bls2 (Below.refl _ _) (Nat.le_refl _) _ _) (Nat.le_refl _)⟩
theorem MS.chgS {α:Type}{r:Rp α}{B M:Nat}{e:TypeId}{w w':World}{A:Option Addr}{n cap:Nat}{l:List α}{S:List Nat}(h:MS B M e r w A n cap l) (hr:r.Ok) (hc:Chg S w w') (hS:∀ k,B<=k->k∉S):MS B M e r w' A n cap l:=by
 obtain⟨fp,o,f⟩:=h
 exact⟨fp,o.okeep hr (fun k hk=>hc.block k (o.lt hr k hk) (hS k (f.ge k hk))),f⟩
theorem cell_of_heap {w w':World}{g j:Nat}(h:w'.heap[g]?=w.heap[g]?):w'.cell? ⟨g,j,none⟩=w.cell? ⟨g,j,none⟩:=by unfold World.cell?;rw [h]
set_option maxRecDepth 100000 in
set_option maxHeartbeats 6400000 in
theorem l7Any_c (g:Nat) (w:World) (hc:Cur w g):Calls Try.prog 49 #[.pointer (some ⟨g,0,none⟩)] w (DrawnR (rQuery NB) g w):=by
 have hgw:=hc.lt
 obtain⟨w1,hw1⟩:∃ W,W=w.alloc (.cells #[.int .i64 0,.slice none 0 0] 43):=⟨_,rfl⟩
 have hs1:w1.heap.size=w.heap.size+1:=by rw [hw1];simp
 have b1:Below w.heap.size w w1:=by rw [hw1];exact(Below.refl _ _).alloc (Nat.le_refl _) _
 have kR:Bk w1 w.heap.size 43 [.int .i64 0,.slice none 0 0]:=by rw [hw1];exact Bk.new w _ _
 have cu1:=hc.below b1
 have C1:Chg [g] w w1:=Chg.ofBelow b1 _
 have HW1:=Lib.hid hw1
 clear b1 hw1
 go_enter Try.func49,Try.ntmps49
 go_upto_region 1 with fail
 rw [<- HW1.out]
 go_wp2_with fail
 refine(l7Query_c g _ cu1).mono ?_
 rintro e w2 ⟨q,cs,fp,rfl,oQ,fQ,hval,cu2,ch2⟩
 obtain⟨A,n,c,_,rfl,rfl,hqv,oA⟩:=rQuery_own.1 oQ
 obtain⟨v1,v2,v3,v4,v5,_⟩:=validQ_parts hval
 have hLn:=oA.len
 obtain⟨gq,hgq⟩:∃ z,z=w2.heap.size:=⟨_,rfl⟩
 obtain⟨w3,hw3⟩:∃ W,W=w2.alloc (.cells #[.int .i64 q.fVariableCount,.slice A n c] 43):=⟨_,rfl⟩
 have b3:Below w2.heap.size w2 w3:=by rw [hw3];exact(Below.refl _ _).alloc (Nat.le_refl _) _
 have kq:Bk w3 gq 43 [.int .i64 q.fVariableCount,.slice A n c]:=by rw [hw3,hgq];exact Bk.new w2 _ _
 have kR3:Bk w3 w.heap.size 43 [.int .i64 0,.slice none 0 0]:=Bk.below ((ch2.block _ kR.lt (by simp;omega)).trans kR) b3
 have mA:MS (w.heap.size+1) NB 100 (rAtom NB) w3 A n c q.fAtoms:=⟨fp,oA.belowS (rAtom_ok NB) b3,fQ.mono (by omega)⟩
 have cu3:=cu2.below b3
 have C3:=(C1.trans ch2).trans (Chg.ofBelow b3 _)
 have hgqw:w.heap.size+1<=gq:=by have:=ch2.size;omega
 clear kR cu1 C1 oQ fQ oA cu2 ch2 b3 hs1
 go_upto_region 2 with fail
 rw [<- hgq,<- hw3]
 clear hw3 hgq
 go_wp2_with fail
 refine(l1Below_c g 14 _ (by omega) cu3).mono ?_
 rintro e w4 ⟨x,rfl,⟨hx0,_,hx1⟩,cu4,ch4⟩
 have kq4:Bk w4 gq 43 [.int .i64 q.fVariableCount,.slice A n c]:=(ch4.block _ kq.lt (by simp;omega)).trans kq
 have kR4:Bk w4 w.heap.size 43 [.int .i64 0,.slice none 0 0]:=(ch4.block _ kR3.lt (by simp;omega)).trans kR3
 have mA4:=mA.chgS (rAtom_ok NB) ch4 (fun k hk=>by simp;omega)
 have C4:=C3.trans ch4
 have hgv:g<gq:=by omega
 have hg1:g<w.heap.size+1:=by omega
 clear kq kR3 mA cu3 C3 ch4 hx1
 obtain⟨gb,rfl,hgb1,hgb2⟩:=mA4.form (by omega)
 have hne:gb≠gq:=fun h=>by
  obtain⟨fp,o,f⟩:=mA4
  refine(o.nt (rAtom_nt neAI) neAQ).ne kq4 ?_
  obtain⟨_,fps,_,e,_⟩:=o.ex
  rw [e,<- h];simp [blk]
 have ⟨x0,f0,x1,f1⟩:=kq4.r2
 have ⟨r0,g0,r1,g1⟩:=kR4.r2
 by_cases e0:x=0
 ·have d0:(x==0)=true:=by simp [e0]
  have hw:IntKind.i64.wrap (q.fVariableCount+1)=q.fVariableCount+1:=IntWalk.i64_in _ (by omega)
  clear x1 f1 r0 g0 r1 g1
  subst e0
  go_wp2_with fail
  refine(l1PickInt_c g _ 4 4 [0,5,q.fVariableCount+1,9223372036854775807] _ (RS.lit w4 [0,5,q.fVariableCount+1,9223372036854775807] _ (by simp) (by simp [I64];omega)) cu4.ne (by omega) (cu4.alloc _)).mono ?_
  rintro e w5 ⟨z,rfl,hz,cu5,ch5⟩
  have hz2:I64 z:=by unfold I64;simp at hz;omega
  have D5:=ch5.al
  have kq5:Bk w5 gq 43 [.int .i64 q.fVariableCount,.slice (some ⟨gb,0,none⟩) n c]:=(D5.block _ kq4.lt (by simp;omega)).trans kq4
  have kR5:Bk w5 w.heap.size 43 [.int .i64 0,.slice none 0 0]:=(D5.block _ kR4.lt (by simp;omega)).trans kR4
  have mA5:=mA4.chgS (rAtom_ok NB) D5 (fun k hk=>by simp;omega)
  have C5:=C4.trans D5
  clear kq4 kR4 mA4 C4 ch5 D5 x0 f0 hz
  have f0:=kq5.frozen 0
  have y0:=kq5.bx 0 _ rfl
  go_upto_region 11 with fail
  obtain⟨w6,hw6⟩:∃ W,W=w5.setCell ⟨gq,0,none⟩ (.int .i64 z):=⟨_,rfl⟩
  have b6:Below gq w5 w6:=by rw [hw6];exact(Below.refl _ _).setCell (p:=⟨gq,0,none⟩) (Nat.le_refl _) _
  have kq6:Bk w6 gq 43 [.int .i64 z,.slice (some ⟨gb,0,none⟩) n c]:=by rw [hw6];exact kq5.set 0 _
  have kR6:Bk w6 w.heap.size 43 [.int .i64 0,.slice none 0 0]:=(b6.block _ (by omega)).trans kR5
  have mA6:MS (w.heap.size+1) NB 100 (rAtom NB) w6 (some ⟨gb,0,none⟩) n c q.fAtoms:=by
   obtain⟨fp,o,f⟩:=mA5
   have hn:=(o.nt (rAtom_nt neAI) neAQ).ne kq5
   exact⟨fp,o.okeep (rAtom_ok NB) (fun k hk=>by rw [hw6];exact heap_setCell_other _ ⟨gq,0,none⟩ k _ (fun e=>hn (by have e2:k=gq:=e;rw [<- e2];exact hk))),f⟩
  rw [<- hw6]
  clear hw6 y0 f0
  have ⟨x0,x1⟩:=kq6.bx.b2
  have ⟨r0,g0,r1,g1⟩:=kR6.r2
  have ⟨z0,z1⟩:=kR6.s2
  go_wp2
  refine bodyPost_ret (v:=.agg #[.int .i64 z,.slice (some ⟨gb,0,none⟩) n c]) (by simp [results,Try.results49,go_sem,z0,z1]) rfl ?_
  exact any_fin hgw mA6 hz2 (cu5.low hgv b6) (chgS C5 b6 (by omega)) _ _
 have d0:(x==0)=false:=by simp [e0]
 by_cases e1:x=1
 ·have d1:(x==1)=true:=by simp [e1]
  clear x0 f0 f1 r0 g0 r1 g1 d0
  subst e1
  have HSS:=Lib.hid (fun (w':World) (h:w'.heap[gq]?=w4.heap[gq]?)=>(Bk.bx (h.trans kq4:Bk w' gq 43 [.int .i64 q.fVariableCount,.slice (some ⟨gb,0,none⟩) n c]) 1 _ rfl:w'.cell? ⟨gq,1,none⟩=some (.slice (some ⟨gb,0,none⟩) n c)))
  have hgb:∀ (W:World),Chg [g] w4 W->W.heap[gq]?=w4.heap[gq]?:=fun W h=>h.block _ kq4.lt (by simp;omega)
  have HGB:=Lib.hid hgb
  have hd0:Chg [g] w4 w4.drew:=Chg.ofBelow (Below.refl _ _).drew _
  have HD0:=Lib.hid hd0
  clear x1 hgb hd0
  go_wp2
  refine hgg 10 HSS.out rfl (fun hHeld=>?_)
  refine tgk 0 19 hHeld ?_;simp only [putS]
  refine tgk 1 20 hHeld ?_;simp only [putS]
  refine tgk 2 21 hHeld ?_;simp only [putS]
  refine rg2 3 (some 22) 5 (some 24) (fun K hK=>?_) fun K hK=>?_
  all_goals clear hHeld
  focus
   have hA1:Below w4.heap.size w4 (w4.drew.alloc (.cells #[.string ⟨#[]⟩,.string ⟨#[119]⟩,.string ⟨#[114]⟩] 9)):=Below.alb (Below.refl _ _).drew _
   go_simp
   refine hK.out _ _ (fun _=>HSS.out _ (hA1.block _ kq4.lt)) fun hHeld=>?_
   replace hHeld:=hHeld (by decide)
   clear hK K
   try simp only [putS]
   refine rg2 4 (some 23) 5 (some 24) (fun K hK=>?_) fun K hK=>?_
   all_goals clear hHeld
   focus
    go_simp
    refine(l1Pick_c g _ 3 3 [⟨#[]⟩,⟨#[119]⟩,⟨#[114]⟩] _ (RS.litS w4.drew [⟨#[]⟩,⟨#[119]⟩,⟨#[114]⟩] 9 (by decide) (by decide)) (cu4.ne) (by omega) (cu4.below hA1)).mono ?_
    rintro e wA ⟨nm,rfl,hnm,cuA,chA⟩
    have hnz:nm.size<=NB:=by simp at hnm;rcases hnm with rfl|rfl|rfl<;>decide
    have CA1:Chg [g] w4 wA:=(Chg.ofBelow hA1 _).trans chA
    go_wp2_with fail
    refine hK.out _ _ (fun _=>HSS.out _ (HGB.out _ CA1)) fun hHeld=>?_
    replace hHeld:=hHeld (by decide)
    clear hK K
    try simp only [putS]
    have hA2:=(Below.refl wA.heap.size wA).alloc (Nat.le_refl _) (.cells #[.int .i64 0] 3)
    have CP:=CA1.trans (Chg.ofBelow hA2 _)
    have cuP:=cuA.below hA2
    have mI:=MS.one (B:=w4.heap.size) (M:=NB) (e:=3) wA (by have:=CA1.size;exact this) (by unfold NB;omega) (show I64 0 by unfold I64;omega)
    refine rg 5 (some 24) fun K hK=>?_
    clear hHeld
    go_simp
    refine hK.out _ _ (fun _=>HSS.out _ (HGB.out _ CP)) fun hHeld=>?_
    replace hHeld:=hHeld (by decide)
    clear hK K
    try simp only [putS]
    obtain⟨P,hP⟩:∃ W,W=wA.alloc (.cells #[.int .i64 0] 3):=⟨_,rfl⟩
    obtain⟨I,hI⟩:∃ z,z=wA.heap.size:=⟨_,rfl⟩
    rw [<- hP]at CP cuP mI hHeld ⊢
    rw [<- hI]at mI ⊢
    clear hP hI hA2 CA1
    have CP4:=C4.trans CP
    have kqP:Bk P gq 43 [.int .i64 q.fVariableCount,.slice (some ⟨gb,0,none⟩) n c]:=(HGB.out _ CP).trans kq4
    have kRP:Bk P w.heap.size 43 [.int .i64 0,.slice none 0 0]:=(CP.block _ kR4.lt (by simp;omega)).trans kR4
    obtain⟨v0,hv0,hbv,hMv⟩:=mA4.upto (rAtom_ok NB) CP hg1
    have ha1:Below P.heap.size P (P.alloc (.cells #[.string nm,.slice (some ⟨I,0,none⟩) 1 1] 100)):=(Below.refl _ _).alloc (Nat.le_refl _) _
    have hbv2:=hbv.trans (ha1.mono hbv.size)
    obtain⟨oI,gI⟩:=mI.blkI
    have ho2:(rAtom NB).own (P.alloc (.cells #[.string nm,.slice (some ⟨I,0,none⟩) 1 1] 100)) (blk (some ⟨I,0,none⟩)) [.string nm,.slice (some ⟨I,0,none⟩) 1 1] ⟨nm,[0]⟩:=rAtom_own.2 ⟨_,_,_,_,rfl,rfl,hnz,oI.belowS rInt_ok ha1⟩
    have hfr2:Fr v0.heap.size (blk (some ⟨I,0,none⟩)):=⟨by simp [blk],fun k hk=>by have:=gI k hk;omega⟩
    have hB2:w.heap.size+1<=v0.heap.size:=by omega
    have kqA:=kqP.below ha1
    have cuA2:=cuP.below ha1
    have CA:=CP4.trans (Chg.ofBelow ha1 _)
    have XA:(P.alloc (.cells #[.string nm,.slice (some ⟨I,0,none⟩) 1 1] 100)).heap[gq]?=w4.heap[gq]?:=(ha1.block _ kqP.lt).trans (HGB.out _ CP)
    refine tgk 6 25 hHeld ?_;simp only [putS]
    refine rg 7 (some 26) fun K hK=>?_
    clear hHeld
    go_simp
    refine hK.out _ _ (fun _=>HSS.out _ XA) fun hHeld=>?_
    replace hHeld:=hHeld (by decide)
    clear hK K
    try simp only [putS]
    refine rg 8 (some 27) fun K hK=>?_
    clear hHeld
    refine step_appR (r:=rAtom NB) (by rfl) _ _ 41 (by rfl) _ 40 eiAtomD (rAtom_ok NB) (by rfl) hMv hbv2 hB2 ⟨P.heap.size,0,none⟩ (by rfl) (f:=blk (some ⟨I,0,none⟩)) (cs:=[.string nm,.slice (some ⟨I,0,none⟩) 1 1]) (y:=⟨nm,[0]⟩) ho2 hfr2 (cells_new _ _ _) (by unfold NB;omega) (Nat.le_refl _) (by omega) ?_
    intro A9 c9 w9 hM9 hb9 hg9 hA9
    have k9:Bk w9 gq 43 [.int .i64 q.fVariableCount,.slice (some ⟨gb,0,none⟩) n c]:=kqA.grw hg9 (by simp [blk];exact fun e=>hne e.symm)
    have f9:=k9.frozen 1
    have y9:=k9.bx 1 _ rfl
    have X9:w9.heap[gq]?=w4.heap[gq]?:=k9.trans kq4.symm
    refine hK.out _ _ (fun _=>HSS.out _ X9) fun hHeld=>?_
    replace hHeld:=hHeld (by decide)
    clear hK K
    try simp only [putS]
    refine tgk 9 28 hHeld ?_;simp only [putS]
    refine rg 10 none fun K hK=>?_
    clear hHeld
    go_simp
    refine hK.out _ _ (fun h=>absurd rfl h) fun hHeld=>?_
    clear hK K
    try simp only [putS]
    refine wpG_done (by kernel_rfl) ?_ _
    clear hHeld
    have kR9:Bk w9 w.heap.size 43 [.int .i64 0,.slice none 0 0]:=(hb9.block _ (by omega)).trans (kRP.below ha1)
    have C9:=chgS CA hb9 (by omega)
    have cu9:=cuA2.low hg1 hb9
    clear X9 y9 f9 hA9 hg9 hb9 XA CA cuA2 kqA hfr2 ho2 oI gI hbv2 ha1 hMv hbv hv0 kRP kqP CP4
   rotate_left
   focus
    have hA2:Below w4.heap.size w4 ((w4.drew.alloc (.cells #[.string ⟨#[]⟩,.string ⟨#[119]⟩,.string ⟨#[114]⟩] 9)).alloc (.cells #[.int .i64 0] 3)):=Below.alb hA1 _
    go_simp
    refine hK.out _ _ (fun _=>HSS.out _ (hA2.block _ kq4.lt)) fun hHeld=>?_
    replace hHeld:=hHeld (by decide)
    clear hK K
    try simp only [putS]
    have mI0:=MS.one (B:=w4.heap.size) (M:=NB) (e:=3) (w4.drew.alloc (.cells #[.string ⟨#[]⟩,.string ⟨#[119]⟩,.string ⟨#[114]⟩] 9)) (by have:=hA1.size;exact this) (by unfold NB;omega) (show I64 0 by unfold I64;omega)
    refine rg 4 (some 23) fun K hK=>?_
    clear hHeld
    go_simp
    refine(l1Pick_c g _ 3 3 [⟨#[]⟩,⟨#[119]⟩,⟨#[114]⟩] _ ((RS.litS w4.drew [⟨#[]⟩,⟨#[119]⟩,⟨#[114]⟩] 9 (by decide) (by decide)).below (rStr_ok NB) (Below.alb (Below.refl _ _) _)) (fun k hk=>by have:=cu4.lt;simp [blk]at hk;omega) (by omega) (cu4.below hA2)).mono ?_
    rintro e wA ⟨nm,rfl,hnm,cuA,chA⟩
    have hnz:nm.size<=NB:=by simp at hnm;rcases hnm with rfl|rfl|rfl<;>decide
    have CP:Chg [g] w4 wA:=(Chg.ofBelow hA2 _).trans chA
    have cuP:=cuA
    have mI:=mI0.chgS rInt_ok chA (fun k hk=>by have:=cu4.lt;simp;omega)
    go_wp2_with fail
    refine hK.out _ _ (fun _=>HSS.out _ (HGB.out _ CP)) fun hHeld=>?_
    replace hHeld:=hHeld (by decide)
    clear hK K
    try simp only [putS]
    obtain⟨P,hP⟩:∃ W,W=wA:=⟨_,rfl⟩
    obtain⟨I,hI⟩:∃ z,z=w4.heap.size+1:=⟨_,rfl⟩
    have hI2:(w4.drew.alloc (.cells #[.string ⟨#[]⟩,.string ⟨#[119]⟩,.string ⟨#[114]⟩] 9)).heap.size=I:=by rw [hI];simp
    rw [<- hP]at CP cuP mI hHeld ⊢
    rw [hI2]at mI
    rw [<- hI]
    clear hP hI hI2 hA2 mI0
    have CP4:=C4.trans CP
    have kqP:Bk P gq 43 [.int .i64 q.fVariableCount,.slice (some ⟨gb,0,none⟩) n c]:=(HGB.out _ CP).trans kq4
    have kRP:Bk P w.heap.size 43 [.int .i64 0,.slice none 0 0]:=(CP.block _ kR4.lt (by simp;omega)).trans kR4
    obtain⟨v0,hv0,hbv,hMv⟩:=mA4.upto (rAtom_ok NB) CP hg1
    have ha1:Below P.heap.size P (P.alloc (.cells #[.string nm,.slice (some ⟨I,0,none⟩) 1 1] 100)):=(Below.refl _ _).alloc (Nat.le_refl _) _
    have hbv2:=hbv.trans (ha1.mono hbv.size)
    obtain⟨oI,gI⟩:=mI.blkI
    have ho2:(rAtom NB).own (P.alloc (.cells #[.string nm,.slice (some ⟨I,0,none⟩) 1 1] 100)) (blk (some ⟨I,0,none⟩)) [.string nm,.slice (some ⟨I,0,none⟩) 1 1] ⟨nm,[0]⟩:=rAtom_own.2 ⟨_,_,_,_,rfl,rfl,hnz,oI.belowS rInt_ok ha1⟩
    have hfr2:Fr v0.heap.size (blk (some ⟨I,0,none⟩)):=⟨by simp [blk],fun k hk=>by have:=gI k hk;omega⟩
    have hB2:w.heap.size+1<=v0.heap.size:=by omega
    have kqA:=kqP.below ha1
    have cuA2:=cuP.below ha1
    have CA:=CP4.trans (Chg.ofBelow ha1 _)
    have XA:(P.alloc (.cells #[.string nm,.slice (some ⟨I,0,none⟩) 1 1] 100)).heap[gq]?=w4.heap[gq]?:=(ha1.block _ kqP.lt).trans (HGB.out _ CP)
    refine tgk 6 25 hHeld ?_;simp only [putS]
    refine rg 7 (some 26) fun K hK=>?_
    clear hHeld
    go_simp
    refine hK.out _ _ (fun _=>HSS.out _ XA) fun hHeld=>?_
    replace hHeld:=hHeld (by decide)
    clear hK K
    try simp only [putS]
    refine rg 8 (some 27) fun K hK=>?_
    clear hHeld
    refine step_appR (r:=rAtom NB) (by rfl) _ _ 41 (by rfl) _ 40 eiAtomD (rAtom_ok NB) (by rfl) hMv hbv2 hB2 ⟨P.heap.size,0,none⟩ (by rfl) (f:=blk (some ⟨I,0,none⟩)) (cs:=[.string nm,.slice (some ⟨I,0,none⟩) 1 1]) (y:=⟨nm,[0]⟩) ho2 hfr2 (cells_new _ _ _) (by unfold NB;omega) (Nat.le_refl _) (by omega) ?_
    intro A9 c9 w9 hM9 hb9 hg9 hA9
    have k9:Bk w9 gq 43 [.int .i64 q.fVariableCount,.slice (some ⟨gb,0,none⟩) n c]:=kqA.grw hg9 (by simp [blk];exact fun e=>hne e.symm)
    have f9:=k9.frozen 1
    have y9:=k9.bx 1 _ rfl
    have X9:w9.heap[gq]?=w4.heap[gq]?:=k9.trans kq4.symm
    refine hK.out _ _ (fun _=>HSS.out _ X9) fun hHeld=>?_
    replace hHeld:=hHeld (by decide)
    clear hK K
    try simp only [putS]
    refine tgk 9 28 hHeld ?_;simp only [putS]
    refine rg 10 none fun K hK=>?_
    clear hHeld
    go_simp
    refine hK.out _ _ (fun h=>absurd rfl h) fun hHeld=>?_
    clear hK K
    try simp only [putS]
    refine wpG_done (by kernel_rfl) ?_ _
    clear hHeld
    have kR9:Bk w9 w.heap.size 43 [.int .i64 0,.slice none 0 0]:=(hb9.block _ (by omega)).trans (kRP.below ha1)
    have C9:=chgS CA hb9 (by omega)
    have cu9:=cuA2.low hg1 hb9
    clear X9 y9 f9 hA9 hg9 hb9 XA CA cuA2 kqA hfr2 ho2 oI gI hbv2 ha1 hMv hbv hv0 kRP kqP CP4
  rotate_left 2
  focus
   have hA1:Below w4.heap.size w4 (w4.drew.alloc (.cells #[.int .i64 0] 3)):=Below.alb (Below.refl _ _).drew _
   go_simp
   refine hK.out _ _ (fun _=>HSS.out _ (hA1.block _ kq4.lt)) fun hHeld=>?_
   replace hHeld:=hHeld (by decide)
   clear hK K
   try simp only [putS]
   have mI0:=MS.one (B:=w4.heap.size) (M:=NB) (e:=3) w4.drew (Nat.le_refl _) (by unfold NB;omega) (show I64 0 by unfold I64;omega)
   have hA2:Below w4.heap.size w4 ((w4.drew.alloc (.cells #[.int .i64 0] 3)).alloc (.cells #[.string ⟨#[]⟩,.string ⟨#[119]⟩,.string ⟨#[114]⟩] 9)):=Below.alb hA1 _
   refine rg 3 (some 22) fun K hK=>?_
   clear hHeld
   go_simp
   refine hK.out _ _ (fun _=>HSS.out _ (hA2.block _ kq4.lt)) fun hHeld=>?_
   replace hHeld:=hHeld (by decide)
   clear hK K
   try simp only [putS]
   have rL:=RS.litS (w4.drew.alloc (.cells #[.int .i64 0] 3)) [⟨#[]⟩,⟨#[119]⟩,⟨#[114]⟩] 9 (by decide) (by decide)
   rw [show(w4.drew.alloc (.cells #[.int .i64 0] 3)).heap.size=w4.heap.size+1 by simp]at rL
   refine rg 4 (some 23) fun K hK=>?_
   clear hHeld
   go_simp
   refine(l1Pick_c g _ 3 3 [⟨#[]⟩,⟨#[119]⟩,⟨#[114]⟩] _ (rL) (fun k hk=>by have:=cu4.lt;simp [blk]at hk;omega) (by omega) (cu4.below hA2)).mono ?_
   rintro e wA ⟨nm,rfl,hnm,cuA,chA⟩
   have hnz:nm.size<=NB:=by simp at hnm;rcases hnm with rfl|rfl|rfl<;>decide
   have CP:Chg [g] w4 wA:=(Chg.ofBelow hA2 _).trans chA
   have cuP:=cuA
   have mI:=(mI0.below rInt_ok (Below.alb (Below.refl _ _) _)).chgS rInt_ok chA (fun k hk=>by have:=cu4.lt;simp;omega)
   go_wp2_with fail
   refine hK.out _ _ (fun _=>HSS.out _ (HGB.out _ CP)) fun hHeld=>?_
   replace hHeld:=hHeld (by decide)
   clear hK K
   try simp only [putS]
   obtain⟨P,hP⟩:∃ W,W=wA:=⟨_,rfl⟩
   rw [<- hP]at CP cuP mI hHeld ⊢
   rw [show w4.drew.heap.size=w4.heap.size from rfl]at mI
   clear hP hA2 mI0 rL
   have CP4:=C4.trans CP
   have kqP:Bk P gq 43 [.int .i64 q.fVariableCount,.slice (some ⟨gb,0,none⟩) n c]:=(HGB.out _ CP).trans kq4
   have kRP:Bk P w.heap.size 43 [.int .i64 0,.slice none 0 0]:=(CP.block _ kR4.lt (by simp;omega)).trans kR4
   obtain⟨v0,hv0,hbv,hMv⟩:=mA4.upto (rAtom_ok NB) CP hg1
   have ha1:Below P.heap.size P (P.alloc (.cells #[.string nm,.slice (some ⟨w4.heap.size,0,none⟩) 1 1] 100)):=(Below.refl _ _).alloc (Nat.le_refl _) _
   have hbv2:=hbv.trans (ha1.mono hbv.size)
   obtain⟨oI,gI⟩:=mI.blkI
   have ho2:(rAtom NB).own (P.alloc (.cells #[.string nm,.slice (some ⟨w4.heap.size,0,none⟩) 1 1] 100)) (blk (some ⟨w4.heap.size,0,none⟩)) [.string nm,.slice (some ⟨w4.heap.size,0,none⟩) 1 1] ⟨nm,[0]⟩:=rAtom_own.2 ⟨_,_,_,_,rfl,rfl,hnz,oI.belowS rInt_ok ha1⟩
   have hfr2:Fr v0.heap.size (blk (some ⟨w4.heap.size,0,none⟩)):=⟨by simp [blk],fun k hk=>by have:=gI k hk;omega⟩
   have hB2:w.heap.size+1<=v0.heap.size:=by omega
   have kqA:=kqP.below ha1
   have cuA2:=cuP.below ha1
   have CA:=CP4.trans (Chg.ofBelow ha1 _)
   have XA:(P.alloc (.cells #[.string nm,.slice (some ⟨w4.heap.size,0,none⟩) 1 1] 100)).heap[gq]?=w4.heap[gq]?:=(ha1.block _ kqP.lt).trans (HGB.out _ CP)
   refine tgk 6 25 hHeld ?_;simp only [putS]
   refine rg 7 (some 26) fun K hK=>?_
   clear hHeld
   go_simp
   refine hK.out _ _ (fun _=>HSS.out _ XA) fun hHeld=>?_
   replace hHeld:=hHeld (by decide)
   clear hK K
   try simp only [putS]
   refine rg 8 (some 27) fun K hK=>?_
   clear hHeld
   refine step_appR (r:=rAtom NB) (by rfl) _ _ 41 (by rfl) _ 40 eiAtomD (rAtom_ok NB) (by rfl) hMv hbv2 hB2 ⟨P.heap.size,0,none⟩ (by rfl) (f:=blk (some ⟨w4.heap.size,0,none⟩)) (cs:=[.string nm,.slice (some ⟨w4.heap.size,0,none⟩) 1 1]) (y:=⟨nm,[0]⟩) ho2 hfr2 (cells_new _ _ _) (by unfold NB;omega) (Nat.le_refl _) (by omega) ?_
   intro A9 c9 w9 hM9 hb9 hg9 hA9
   have k9:Bk w9 gq 43 [.int .i64 q.fVariableCount,.slice (some ⟨gb,0,none⟩) n c]:=kqA.grw hg9 (by simp [blk];exact fun e=>hne e.symm)
   have f9:=k9.frozen 1
   have y9:=k9.bx 1 _ rfl
   have X9:w9.heap[gq]?=w4.heap[gq]?:=k9.trans kq4.symm
   refine hK.out _ _ (fun _=>HSS.out _ X9) fun hHeld=>?_
   replace hHeld:=hHeld (by decide)
   clear hK K
   try simp only [putS]
   refine tgk 9 28 hHeld ?_;simp only [putS]
   refine rg 10 none fun K hK=>?_
   clear hHeld
   go_simp
   refine hK.out _ _ (fun h=>absurd rfl h) fun hHeld=>?_
   clear hK K
   try simp only [putS]
   refine wpG_done (by kernel_rfl) ?_ _
   clear hHeld
   have kR9:Bk w9 w.heap.size 43 [.int .i64 0,.slice none 0 0]:=(hb9.block _ (by omega)).trans (kRP.below ha1)
   have C9:=chgS CA hb9 (by omega)
   have cu9:=cuA2.low hg1 hb9
   clear X9 y9 f9 hA9 hg9 hb9 XA CA cuA2 kqA hfr2 ho2 oI gI hbv2 ha1 hMv hbv hv0 kRP kqP CP4
  all_goals
   obtain⟨w10,hw10⟩:∃ W,W=w9.setCell ⟨gq,1,none⟩ (.slice A9 (n+1) c9):=⟨_,rfl⟩
   have b10:Below gq w9 w10:=by rw [hw10];exact(Below.refl _ _).setCell (p:=⟨gq,1,none⟩) (Nat.le_refl _) _
   have k10:Bk w10 gq 43 [.int .i64 q.fVariableCount,.slice A9 (n+1) c9]:=by rw [hw10];exact k9.set 1 _
   have kR10:Bk w10 w.heap.size 43 [.int .i64 0,.slice none 0 0]:=(b10.block _ (by omega)).trans kR9
   have m10:MS (w.heap.size+1) NB 100 (rAtom NB) w10 A9 (n+1) c9 (q.fAtoms++[⟨nm,[0]⟩]):=by
    obtain⟨fp,o,f⟩:=hM9
    have hn:=(o.nt (rAtom_nt neAI) neAQ).ne k9
    exact⟨fp,o.okeep (rAtom_ok NB) (fun k hk=>by rw [hw10];exact heap_setCell_other _ ⟨gq,1,none⟩ k _ (fun e=>hn (by have e2:k=gq:=e;rw [<- e2];exact hk))),f⟩
   rw [<- hw10]
   clear hw10
   have ⟨x0,x1⟩:=k10.bx.b2
   have ⟨r0,g0,r1,g1⟩:=kR10.r2
   have ⟨z0,z1⟩:=kR10.s2
   go_wp2
   refine bodyPost_ret (v:=.agg #[.int .i64 q.fVariableCount,.slice A9 (n+1) c9]) (by simp [results,Try.results49,go_sem,z0,z1]) rfl ?_
   exact any_fin hgw m10 hqv (cu9.low hgv b10) (chgS C9 b10 (by omega)) _ _
 have d1:(x==1)=false:=by simp [e1]
 obtain⟨a0,ha0⟩:∃ a,q.fAtoms[0]?=some a:=⟨_,List.getElem?_eq_getElem (by omega)⟩
 have HA0:=Lib.hid ha0;clear ha0
 by_cases e2:x=2
 ·have d2:(x==2)=true:=by simp [e2]
  obtain⟨u,hu⟩:=mA4.hasCell (j:=1) (by show 1<n*2;omega)
  have fu:=mA4.frozen 1
  clear x0 f0 f1 r0 g0 r1 g1
  subst e2
  go_upto_region 11 with fail
  obtain⟨w6,hw6⟩:∃ W,W=w4.setCell ⟨gb,1,none⟩ (.slice none 0 0):=⟨_,rfl⟩
  have b6:Below (w.heap.size+1) w4 w6:=by rw [hw6];exact(Below.refl _ _).setCell (p:=⟨gb,1,none⟩) hgb2 _
  have kq6:Bk w6 gq 43 [.int .i64 q.fVariableCount,.slice (some ⟨gb,0,none⟩) n c]:=by rw [hw6];exact(heap_setCell_other _ ⟨gb,1,none⟩ gq _ (fun e=>hne e.symm)).trans kq4
  have kR6:Bk w6 w.heap.size 43 [.int .i64 0,.slice none 0 0]:=(b6.block _ (by omega)).trans kR4
  have mA6:MS (w.heap.size+1) NB 100 (rAtom NB) w6 (some ⟨gb,0,none⟩) n c (q.fAtoms.set 0 ⟨a0.fName,[]⟩):=by
   obtain⟨fp,o,f⟩:=mA4
   obtain⟨fp',o',f',_⟩:=o.setH (rAtom_ok NB) f HA0.out (x':=⟨a0.fName,[]⟩) (j:=1) (by decide) (.slice none 0 0) (fun W f c h=>by
    obtain⟨AV,nV,cV,fV,rfl,rfl,h1,h2⟩:=rAtom_own.1 h
    exact .inr (rAtom_own.2 ⟨none,0,0,[],rfl,rfl,h1,⟨rfl,Nat.zero_le _,[],[],World.ownsRow_nil _ 0 _ _,rfl,trivial⟩⟩))
   rw [show 0*(rAtom NB).size+1=1 from rfl]at o'
   rw [hw6];exact⟨fp',o',f'⟩
  rw [<- hw6]
  clear hw6 hu fu
  have ⟨x0,x1⟩:=kq6.bx.b2
  have ⟨r0,g0,r1,g1⟩:=kR6.r2
  have ⟨z0,z1⟩:=kR6.s2
  go_wp2
  refine bodyPost_ret (v:=.agg #[.int .i64 q.fVariableCount,.slice (some ⟨gb,0,none⟩) n c]) (by simp [results,Try.results49,go_sem,z0,z1]) rfl ?_
  exact any_fin hgw mA6 hqv (cu4.low hg1 b6) (chgS C4 b6 (by omega)) _ _
 have d2:(x==2)=false:=by simp [e2]
 by_cases e3:x=3
 ·have d3:(x==3)=true:=by simp [e3]
  obtain⟨fp,o,f⟩:=mA4
  obtain⟨fv,cc,a1,h1,h2,h3,h4,h5⟩:=o.openE (rAtom_ok NB) f (k:=0) (by omega)
  obtain rfl:a0=a1:=by have:=HA0.out;rw [h1]at this;injection this with this;exact this.symm
  have hap:=atomOk_parts (v5 a0 (mem_of_at h1))
  obtain⟨AV,nV,cV,_,rfl,rfl,hz1,oV⟩:=rAtom_own.1 h2
  have hfv:=(osInt.1 oV).1
  have hVl:=oV.len
  have HZ1:=Lib.hid hz1
  have mV:MS (w.heap.size+1) NB 3 rInt w4 AV nV cV a0.fVars:=⟨fv,oV,by rw [hfv];cases AV<;>simp [blk],fun k hk=>f.ge k (h3 k hk).1⟩
  obtain⟨gV,rfl,hgV1,hgV2⟩:=mV.form (by omega)
  subst hfv
  have hgVf:=h3 gV (by simp [blk])
  have c1:w4.cell? ⟨gb,1,none⟩=some (.slice (some ⟨gV,0,none⟩) nV cV):=h4 1 _ rfl
  have HSS:=Lib.hid (fun (w':World) (h:w'.heap[gq]?=w4.heap[gq]?/\w'.heap[gb]?=w4.heap[gb]?)=>(⟨Bk.bx (h.1.trans kq4:Bk w' gq 43 [.int .i64 q.fVariableCount,.slice (some ⟨gb,0,none⟩) n c]) 1 _ rfl,(cell_of_heap h.2).trans c1⟩:w'.cell? ⟨gq,1,none⟩=some (.slice (some ⟨gb,0,none⟩) n c)/\w'.cell? ⟨gb,1,none⟩=some (.slice (some ⟨gV,0,none⟩) nV cV)))
  have hHB:∀ (W:World),Chg [g] w4 W->W.heap[gq]?=w4.heap[gq]?/\W.heap[gb]?=w4.heap[gb]?:=fun W h=>⟨h.block _ kq4.lt (by simp;omega),h.block _ hgb1 (by simp;omega)⟩
  have HB:=Lib.hid hHB
  have H5:=Lib.hid h5
  have hnV:0<nV:=by omega
  have hn0:0<n:=by omega
  have hA1:Below w4.heap.size w4 (w4.drew.alloc (.cells #[.int .i64 (-1),.int .i64 4,.int .i64 1] 3)):=Below.alb (Below.refl _ _).drew _
  clear x0 f0 x1 f1 r0 g0 r1 g1 h5 h4 h3 h2 h1 hHB c1 hap hz1
  subst e3
  go_wp2
  refine hgg 9 HSS.out ⟨rfl,rfl⟩ (fun hHeld=>?_)
  refine tgk 0 37 hHeld ?_;simp only [putS]
  refine tgk 1 38 hHeld ?_;simp only [putS]
  refine tgk 2 39 hHeld ?_;simp only [putS]
  refine tgk 3 40 hHeld ?_;simp only [putS]
  refine tgk 4 41 hHeld ?_;simp only [putS]
  refine tgk 5 42 hHeld ?_;simp only [putS]
  refine rg 6 (some 43) fun K hK=>?_
  clear hHeld
  go_simp
  refine hK.out _ _ (fun _=>HSS.out _ (HB.out _ (Chg.ofBelow hA1 _))) fun hHeld=>?_
  replace hHeld:=hHeld (by decide)
  clear hK K
  try simp only [putS]
  refine rg 7 (some 44) fun K hK=>?_
  clear hHeld
  go_simp
  refine(l1PickInt_c g _ 3 3 [-1,4,1] _ (RS.lit w4.drew [-1,4,1] _ (by simp) (by simp [I64])) cu4.ne (by omega) (cu4.below hA1)).mono ?_
  rintro e wA ⟨z,rfl,hz,cuA,chA⟩
  have CP:Chg [g] w4 wA:=(Chg.ofBelow hA1 _).trans chA
  have hz2:I64 z:=by unfold I64;simp at hz;omega
  have mVA:=mV.chgS rInt_ok CP (fun k hk=>by simp;omega)
  obtain⟨u,hu,_,_⟩:=mVA.celli (k:=0) hnV
  have fu:=mVA.frozen 0
  go_wp2_with fail
  refine hK.out _ _ (fun _=>HSS.out _ (HB.out _ CP)) fun hHeld=>?_
  replace hHeld:=hHeld (by decide)
  clear hK K
  try simp only [putS]
  refine tgk 8 45 hHeld ?_;simp only [putS]
  refine rg 9 none fun K hK=>?_
  clear hHeld
  go_simp
  refine hK.out _ _ (fun h=>absurd rfl h) fun hHeld=>?_
  clear hK K
  try simp only [putS]
  refine wpG_done (by kernel_rfl) ?_ _
  clear hHeld
  obtain⟨w6,hw6⟩:∃ W,W=wA.setCell ⟨gV,0,none⟩ (.int .i64 z):=⟨_,rfl⟩
  have b6:Below (w.heap.size+1) wA w6:=by rw [hw6];exact(Below.refl _ _).setCell (p:=⟨gV,0,none⟩) hgV2 _
  have hgVq:gV≠gq:=fun h=>(o.nt (rAtom_nt neAI) neAQ).ne kq4 (h▸hgVf.1)
  have hot:∀ k,k≠gV->w6.heap[k]?=wA.heap[k]?:=fun k hk=>by rw [hw6];exact heap_setCell_other _ ⟨gV,0,none⟩ k _ (fun e=>hk e)
  have kq6:Bk w6 gq 43 [.int .i64 q.fVariableCount,.slice (some ⟨gb,0,none⟩) n c]:=(hot gq hgVq.symm).trans ((HB.out _ CP).1.trans kq4)
  have kR6:Bk w6 w.heap.size 43 [.int .i64 0,.slice none 0 0]:=(b6.block _ (by omega)).trans ((CP.block _ kR4.lt (by simp;omega)).trans kR4)
  have mA6:MS (w.heap.size+1) NB 100 (rAtom NB) w6 (some ⟨gb,0,none⟩) n c (q.fAtoms.set 0 ⟨a0.fName,a0.fVars.set 0 z⟩):=by
   refine⟨fp,H5.out w6 ⟨a0.fName,a0.fVars.set 0 z⟩ (fun k hk hk2=>?_) (rAtom_own.2 ⟨some ⟨gV,0,none⟩,nV,cV,_,rfl,rfl,?_,?_⟩),f⟩
   ·exact(hot k (fun e=>hk2 (by rw [e];simp [blk]))).trans (CP.block k (o.lt (rAtom_ok NB) k hk) (by have:=f.ge k hk;simp;omega))
   ·exact HZ1.out
   ·rw [hw6];exact(mVA.set 0 hz2).bI.1
  have C6:=chgS (C4.trans CP) b6 (by omega)
  have cu6:=cuA.low hg1 b6
  rw [<- hw6]
  clear hw6 hu fu hot mVA
  have ⟨x0,x1⟩:=kq6.bx.b2
  have ⟨r0,g0,r1,g1⟩:=kR6.r2
  have ⟨z0,z1⟩:=kR6.s2
  go_wp2
  refine bodyPost_ret (v:=.agg #[.int .i64 q.fVariableCount,.slice (some ⟨gb,0,none⟩) n c]) (by simp [results,Try.results49,go_sem,z0,z1]) rfl ?_
  exact any_fin hgw mA6 hqv cu6 C6 _ _
 ·have d3:(x==3)=false:=by simp [e3]
  have ⟨z0,z1⟩:=kR4.s2
  go_wp2
  refine bodyPost_ret (v:=.agg #[.int .i64 q.fVariableCount,.slice (some ⟨gb,0,none⟩) n c]) (by simp [results,Try.results49,go_sem,z0,z1]) rfl ?_
  exact any_fin hgw mA4 hqv cu4 C4 _ _
end Go.Proofs.Ytjckbnmbhgikjaa
