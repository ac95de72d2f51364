/-
  Odr
-/
import Derived.Test.YtblbnbfghlkkfaaGreatTypes
import Derived.Test.YtblbnbfghlkkfaaGreatKeep
import Derived.Test.YtblbnbfghlkkfaaGreatUpd
import Derived.Test.YtblbnbfghlkkfaaGreatCpr
import Derived.Test.YtblbnbfghlkkfaaGreatTo
import Derived.Test.YtblbnbfghlkkfaaGreatMid
import Derived.Test.YtblbnbfghlkkfaaGreatCur
import Derived.Deep.Cut
import Derived.Deep.RegionHeld3
import Derived.Deep.DrawnRows
namespace Go.Proofs.YtblbnbfghlkkfaaGreat
open Go.RowKit
set_option linter.unusedVariables false
set_option linter.unusedSimpArgs false
attribute [local go_sem ↓] Go.wp_at_zero Go.wp_at_succ
theorem rCostStep_nt {t:TypeId}:(rCostStep NB).NT t:=rIso_nt (rPair_nt rInt_nt rInt_nt) _
theorem neOp:(142:TypeId)≠26:=by decide
abbrev set6 (w:World) (g:Nat) (a b c d e f:Value):World:=(((((w.setCell ⟨g,0,none⟩ a).setCell ⟨g,1,none⟩ b).setCell ⟨g,2,none⟩ c).setCell ⟨g,3,none⟩ d).setCell ⟨g,4,none⟩ e).setCell ⟨g,5,none⟩ f
section
variable {w W W':World} {g:Nat} {t:TypeId} {x0 x1 x2 x3 x4 x5:Value}
theorem set6_ne {k:Nat}(hk:k≠g) (a b c d e f:Value):(set6 w g a b c d e f).heap[k]?=w.heap[k]? :=
 (((((heap_setCell_other _ ⟨g,5,none⟩ k _ (fun e=>hk e)).trans (heap_setCell_other _ ⟨g,4,none⟩ k _ (fun e=>hk e))).trans (heap_setCell_other _ ⟨g,3,none⟩ k _ (fun e=>hk e))).trans (heap_setCell_other _ ⟨g,2,none⟩ k _ (fun e=>hk e))).trans (heap_setCell_other _ ⟨g,1,none⟩ k _ (fun e=>hk e))).trans (heap_setCell_other _ ⟨g,0,none⟩ k _ (fun e=>hk e))
theorem Bk.set6 (h:Bk w g t [x0,x1,x2,x3,x4,x5]) (a b c d e f:Value):Bk (set6 w g a b c d e f) g t [a,b,c,d,e,f]:=(((((h.set 0 a).set 1 b).set 2 c).set 3 d).set 4 e).set 5 f
theorem bls6 {B:Nat}{a:World}(h:Below B a w) (hg:B<=g) (x y z u v s:Value):Below B a (Proofs.YtblbnbfghlkkfaaGreat.set6 w g x y z u v s) :=
 (((((h.setCell (p:=⟨g,0,none⟩) hg _).setCell (p:=⟨g,1,none⟩) hg _).setCell (p:=⟨g,2,none⟩) hg _).setCell (p:=⟨g,3,none⟩) hg _).setCell (p:=⟨g,4,none⟩) hg _).setCell (p:=⟨g,5,none⟩) hg _
theorem Bk.r6 (h:Bk w g t [x0,x1,x2,x3,x4,x5]):w.cell? ⟨g,0,none⟩=some x0/\w.frozen? ⟨g,0,none⟩=false/\w.cell? ⟨g,1,none⟩=some x1/\w.frozen? ⟨g,1,none⟩=false/\w.cell? ⟨g,2,none⟩=some x2/\w.frozen? ⟨g,2,none⟩=false/\w.cell? ⟨g,3,none⟩=some x3/\w.frozen? ⟨g,3,none⟩=false/\w.cell? ⟨g,4,none⟩=some x4/\w.frozen? ⟨g,4,none⟩=false/\w.cell? ⟨g,5,none⟩=some x5/\w.frozen? ⟨g,5,none⟩=false :=
 ⟨h.bx 0 _ rfl,h.frozen 0,h.bx 1 _ rfl,h.frozen 1,h.bx 2 _ rfl,h.frozen 2,h.bx 3 _ rfl,h.frozen 3,h.bx 4 _ rfl,h.frozen 4,h.bx 5 _ rfl,h.frozen 5⟩
end
structure Ob (w:World) (g gO:Nat) (o:OperatorD) (A:Option Addr) (n c:Nat) (W:World):Prop where
 cu:Cur W g
 ch:Chg [g] w W
 kR:Bk W w.heap.size 26 [.int .i64 0,.int .i64 0,.int .i64 0,.int .i64 0,.int .i64 0,.slice none 0 0]
 kO:Bk W gO 26 [.int .i64 o.fFixed,.int .i64 o.fPerLeft,.int .i64 o.fPerRight,.int .i64 o.fPerOutput,.int .i64 o.fPerPair,.slice A n c]
 ms:MS (w.heap.size+1) NB 142 (rCostStep NB) W A n c o.fSteps
 rg:I64 o.fFixed/\I64 o.fPerLeft/\I64 o.fPerRight/\I64 o.fPerOutput/\I64 o.fPerPair
 lt:w.heap.size<gO
 hg:g<w.heap.size
section
variable {w W W':World} {g gO:Nat} {o:OperatorD} {A A':Option Addr} {n c n' c':Nat}
theorem Ob.step (H:Ob w g gO o A n c W) (h:Chg [g] W W') (cu:Cur W' g):Ob w g gO o A n c W':=by
 have hl:=H.lt
 have hg:=H.hg
 refine⟨cu,H.ch.trans h,(h.block _ H.kR.lt (by simp;omega)).trans H.kR,(h.block _ H.kO.lt (by simp;omega)).trans H.kO,?_,H.rg,hl,hg⟩
 obtain⟨fp,q,f⟩:=H.ms
 exact⟨fp,q.okeep (rCostStep_ok NB) (fun k hk=>h.block k (q.lt (rCostStep_ok NB) k hk) (by have:=f.ge k hk;simp;omega)),f⟩
theorem chgX {w0 a b:World}(h:Chg [g] w0 a) (hb:Below (w0.heap.size+1) a b):Chg [g] w0 b :=
 ⟨hb.os.trans h.os,hb.tape.trans h.tape,hb.output.trans h.output,Nat.le_trans h.size hb.size,fun k hk hn=>(hb.block k (by omega)).trans (h.block k hk hn)⟩
theorem steps_box {B g':Nat}{cs:List Value}{L:List CostStepD}(k:Bk W g' 26 cs) (m:MS B NB 142 (rCostStep NB) W A n c L) (j:Nat) (v:Value):MS B NB 142 (rCostStep NB) (W.setCell ⟨g',j,none⟩ v) A n c L:=by
 obtain⟨fp,o,f⟩:=m
 have hn:=(o.nt rCostStep_nt neOp).ne k
 exact⟨fp,o.okeep (rCostStep_ok NB) (fun q hq=>heap_setCell_other _ ⟨g',j,none⟩ q _ (fun e=>hn (by have e2:q=g':=e;rw [<- e2];exact hq))),f⟩
theorem steps_ne {B g':Nat}{cs:List Value}{L:List CostStepD}(m:MS B NB 142 (rCostStep NB) W A n c L) (k:Bk W g' 26 cs):g'∉blk A:=fun h=>by
 obtain⟨fp,o,f⟩:=m
 obtain⟨_,fps,_,e,_⟩:=o.ex
 exact(o.nt rCostStep_nt neOp).ne k (by rw [e];exact List.mem_append_left _ h)
theorem Ob.put (H:Ob w g gO o A n c W) (j:Nat) (v:Value) {o':OperatorD}{A2:Option Addr}{n2 c2:Nat}(m:MS (w.heap.size+1) NB 142 (rCostStep NB) W A2 n2 c2 o'.fSteps)
  (hk:Bk (W.setCell ⟨gO,j,none⟩ v) gO 26 [.int .i64 o'.fFixed,.int .i64 o'.fPerLeft,.int .i64 o'.fPerRight,.int .i64 o'.fPerOutput,.int .i64 o'.fPerPair,.slice A2 n2 c2])
  (hr:I64 o'.fFixed/\I64 o'.fPerLeft/\I64 o'.fPerRight/\I64 o'.fPerOutput/\I64 o'.fPerPair):Ob w g gO o' A2 n2 c2 (W.setCell ⟨gO,j,none⟩ v):=by
 have hl:=H.lt
 have hg:=H.hg
 have b:Below gO W (W.setCell ⟨gO,j,none⟩ v):=(Below.refl _ _).setCell (p:=⟨gO,j,none⟩) (Nat.le_refl _) _
 exact⟨H.cu.low (by omega) b,chgS H.ch b (by omega),(b.block _ hl).trans H.kR,hk,steps_box H.kO m j v,hr,hl,hg⟩
theorem Ob.app (H:Ob w g gO o A n c W) {L2:List CostStepD}(k9:Bk W' gO 26 [.int .i64 o.fFixed,.int .i64 o.fPerLeft,.int .i64 o.fPerRight,.int .i64 o.fPerOutput,.int .i64 o.fPerPair,.slice A n c]) (r9:Bk W' w.heap.size 26 [.int .i64 0,.int .i64 0,.int .i64 0,.int .i64 0,.int .i64 0,.slice none 0 0])
  (hb:Below (w.heap.size+1) W W') (m:MS (w.heap.size+1) NB 142 (rCostStep NB) W' A' n' c' L2):Ob w g gO ⟨o.fFixed,o.fPerLeft,o.fPerRight,o.fPerOutput,o.fPerPair,L2⟩ A' n' c' (W'.setCell ⟨gO,5,none⟩ (.slice A' n' c')):=by
 have hl:=H.lt
 have hg:=H.hg
 have b:Below gO W' (W'.setCell ⟨gO,5,none⟩ (.slice A' n' c')):=(Below.refl _ _).setCell (p:=⟨gO,5,none⟩) (Nat.le_refl _) _
 exact⟨(H.cu.low (by omega) hb).low (by omega) b,(chgX (chgX H.ch hb) (b.mono (by omega))),(b.block _ hl).trans r9,k9.set 5 _,steps_box k9 m 5 _,H.rg,hl,hg⟩
theorem Ob.fin (H:Ob w g gO o A n c W) {P:OperatorD->Prop}(hP:P o):DrawnV (rOperator NB) P g w (.returned (.agg #[.int .i64 o.fFixed,.int .i64 o.fPerLeft,.int .i64 o.fPerRight,.int .i64 o.fPerOutput,.int .i64 o.fPerPair,.slice A n c])) (set6 W w.heap.size (.int .i64 o.fFixed) (.int .i64 o.fPerLeft) (.int .i64 o.fPerRight) (.int .i64 o.fPerOutput) (.int .i64 o.fPerPair) (.slice A n c)):=by
 have hg:=H.hg
 obtain⟨fp,q,f⟩:=H.ms
 obtain⟨i1,i2,i3,i4,i5⟩:=H.rg
 have b:=bls6 (Below.refl w.heap.size W) (Nat.le_refl _) (.int .i64 o.fFixed) (.int .i64 o.fPerLeft) (.int .i64 o.fPerRight) (.int .i64 o.fPerOutput) (.int .i64 o.fPerPair) (.slice A n c)
 exact⟨o,_,fp,rfl,rOperator_own.2 ⟨A,n,c,fp,rfl,rfl,i1,i2,i3,i4,i5,q.okeep (rCostStep_ok NB) (fun k hk=>set6_ne (by have:=f.ge k hk;omega) _ _ _ _ _ _)⟩,f.mono (Nat.le_succ _),hP,H.cu.low hg b,chgS H.ch b (Nat.le_refl _)⟩
end
set_option maxRecDepth 100000 in
set_option maxHeartbeats 3200000 in
theorem l21Op_c (g:Nat) (w:World) (hc:Cur w g):Calls Tryz.prog 87 #[.pointer (some ⟨g,0,none⟩)] w (DrawnV (rOperator NB) (fun o=>o.fSteps.length<=1) g w):=by
 have hgw:=hc.lt
 obtain⟨w1,hw1⟩:∃ W,W=w.alloc (.cells #[.int .i64 0,.int .i64 0,.int .i64 0,.int .i64 0,.int .i64 0,.slice none 0 0] 26):=⟨_,rfl⟩
 have b1:Below w.heap.size w w1:=by rw [hw1];exact(Below.refl _ _).alloc (Nat.le_refl _) _
 have kR:Bk w1 w.heap.size 26 [.int .i64 0,.int .i64 0,.int .i64 0,.int .i64 0,.int .i64 0,.slice none 0 0]:=by rw [hw1];exact Bk.new w _ _
 have C1:Chg [g] w w1:=Chg.ofBelow b1 _
 have cu1:=hc.below b1
 clear b1
 go_enter Tryz.func87,Tryz.ntmps87
 go_upto_region 1 with fail
 rw [<- hw1]
 clear hw1
 go_wp2_with fail
 refine(l1Below_c g 5 _ (by omega) cu1).mono ?_
 rintro e w2 ⟨v1,rfl,⟨a1,_,z1⟩,cu2,ch2⟩
 have e1:=z1 (by omega)
 clear z1 cu1
 go_wp2_with fail
 refine(l1Below_c g 4 _ (by omega) cu2).mono ?_
 rintro e w3 ⟨v2,rfl,⟨a2,_,z2⟩,cu3,ch3⟩
 have e2:=z2 (by omega)
 clear z2 cu2
 go_wp2_with fail
 refine(l1Below_c g 4 _ (by omega) cu3).mono ?_
 rintro e w4 ⟨v3,rfl,⟨a3,_,z3⟩,cu4,ch4⟩
 have e3:=z3 (by omega)
 clear z3 cu3
 go_wp2_with fail
 refine(l1Below_c g 3 _ (by omega) cu4).mono ?_
 rintro e w5 ⟨v4,rfl,⟨a4,_,z4⟩,cu5,ch5⟩
 have e4:=z4 (by omega)
 clear z4 cu4
 obtain⟨w6,hw6⟩:∃ W,W=w5.alloc (.cells #[.int .i64 (1+v1),.int .i64 v2,.int .i64 v3,.int .i64 v4,.int .i64 0,.slice none 0 0] 26):=⟨_,rfl⟩
 have b6:Below w5.heap.size w5 w6:=by rw [hw6];exact(Below.refl _ _).alloc (Nat.le_refl _) _
 have hz1:=kR.lt
 have hz5:w.heap.size<w5.heap.size:=by have:=ch2.size;have:=ch3.size;have:=ch4.size;have:=ch5.size;omega
 have D5:=((ch2.trans ch3).trans ch4).trans ch5
 have H:Ob w g w5.heap.size ⟨1+v1,v2,v3,v4,0,[]⟩ none 0 0 w6 :=
  ⟨cu5.below b6,(C1.trans D5).trans (Chg.ofBelow b6 _),Bk.below (w:=w5) ((D5.block _ kR.lt (by simp;omega)).trans kR) b6,by rw [hw6];exact Bk.new w5 _ _,MS.nil _ (Nat.zero_le _),⟨by dsimp only;unfold I64;omega,by dsimp only;unfold I64;omega,by dsimp only;unfold I64;omega,by dsimp only;unfold I64;omega,I64_zero⟩,hz5,hgw⟩
 obtain⟨gO,hgO⟩:∃ z,z=w5.heap.size:=⟨_,rfl⟩
 obtain⟨o,ho⟩:∃ o:OperatorD,o=⟨1+v1,v2,v3,v4,0,[]⟩:=⟨_,rfl⟩
 have hst:o.fSteps=[]:=by rw [ho]
 rw [<- hgO,<- ho]at H
 clear D5 ch2 ch3 ch4 ch5 C1 kR cu5 b6 ho hz1 hz5
 go_upto_region 2 with fail
 rw [<- hgO,<- hw6]
 clear hgO hw6
 go_wp2_with fail
 refine(l1Once_c g 3 _ (by omega) H.cu).mono ?_
 rintro e w7 ⟨b,rfl,cu7,ch7⟩
 replace H:=H.step ch7 cu7
 clear cu7 ch7
 cases b
 focus
  go_upto_region 4 with fail
  obtain⟨wr,rfl⟩:∃ z,z=w7:=⟨_,rfl⟩
 rotate_left
 focus
  go_wp2_with fail
  refine(l1Below_c g 3 _ (by omega) H.cu).mono ?_
  rintro e w8 ⟨v5,rfl,⟨a5,_,z5⟩,cu8,ch8⟩
  have e5:=z5 (by omega)
  replace H:=H.step ch8 cu8
  have f4:=H.kO.frozen 4
  have c4:=H.kO.bx 4 _ rfl
  have H9:=H.put 4 (.int .i64 v5) (o':=⟨o.fFixed,o.fPerLeft,o.fPerRight,o.fPerOutput,v5,o.fSteps⟩) H.ms (H.kO.set 4 _) ⟨H.rg.1,H.rg.2.1,H.rg.2.2.1,H.rg.2.2.2.1,by dsimp only;unfold I64;omega⟩
  clear cu8 ch8 z5
  go_upto_region 4 with fail
  obtain⟨wr,hwr⟩:∃ W,W=w8.setCell ⟨gO,4,none⟩ (.int .i64 v5):=⟨_,rfl⟩
  rw [<- hwr]at H9 ⊢
  obtain⟨o2,ho2⟩:∃ o2:OperatorD,o2=⟨o.fFixed,o.fPerLeft,o.fPerRight,o.fPerOutput,v5,o.fSteps⟩:=⟨_,rfl⟩
  have hst2:o2.fSteps=[]:=by rw [ho2];exact hst
  rw [<- ho2]at H9
  clear H hwr ho2 hst f4 c4
  obtain⟨o,rfl⟩:∃ z,z=o2:=⟨_,rfl⟩
  have H:=H9
  have hst:=hst2
  clear H9 hst2
 all_goals
  go_wp2_with fail
  refine(l1Once_c g 3 _ (by omega) H.cu).mono ?_
  rintro e w10 ⟨b,rfl,cu10,ch10⟩
  replace H:=H.step ch10 cu10
  clear cu10 ch10
  cases b
  ·have hlen:o.fSteps.length<=1:=by rw [hst];decide
   obtain⟨A,hA⟩:∃ A:Option Addr,A=none:=⟨_,rfl⟩
   have ⟨x0,_,x1,_,x2,_,x3,_,x4,_,x5,_⟩:=H.kO.r6
   have ⟨r0,f0,r1,f1,r2,f2,r3,f3,r4,f4,r5,f5⟩:=H.kR.r6
   go_wp2
   have ⟨q0,_,q1,_,q2,_,q3,_,q4,_,q5,_⟩:=H.kR.set6 (.int .i64 o.fFixed) (.int .i64 o.fPerLeft) (.int .i64 o.fPerRight) (.int .i64 o.fPerOutput) (.int .i64 o.fPerPair) (.slice none 0 0) |>.r6
   refine bodyPost_ret (v:=.agg #[.int .i64 o.fFixed,.int .i64 o.fPerLeft,.int .i64 o.fPerRight,.int .i64 o.fPerOutput,.int .i64 o.fPerPair,.slice none 0 0]) (by simp [results,Tryz.results87,go_sem,q0,q1,q2,q3,q4,q5]) rfl ?_
   exact H.fin (by simpa using hlen)
  ·have h0:True:=trivial
   have HD:=H.step (Chg.ofBelow ((Below.refl w10.heap.size w10).drew) [g]) (H.cu.below (Below.refl _ _).drew)
   have HSS:=Lib.hid (fun (w':World) (hh:Bk w' gO 26 [.int .i64 o.fFixed,.int .i64 o.fPerLeft,.int .i64 o.fPerRight,.int .i64 o.fPerOutput,.int .i64 o.fPerPair,.slice none 0 0])=>(hh.bx 5 _ rfl:w'.cell? ⟨gO,5,none⟩=some (.slice none 0 0)))
   have x5:=H.kO.bx 5 _ rfl
   have f5:=H.kO.frozen 5
   go_wp2_with fail
   refine hgg 11 HSS.out HD.kO (fun hHeld=>?_)
   refine tgk 0 21 hHeld ?_;simp only [putS]
   refine tgk 1 22 hHeld ?_;simp only [putS]
   refine tgk 2 23 hHeld ?_;simp only [putS]
   refine tgk 5 26 hHeld ?_;simp only [putS]
   have HA:=HD.step (Chg.ofBelow ((Below.refl _ _).alloc (Nat.le_refl _) (.cells #[.int .i64 1,.int .i64 5,.int .i64 17,.int .i64 32] 3)) [g]) (HD.cu.alloc _)
   refine rg 3 (some 24) fun K hK=>?_
   clear hHeld
   go_simp
   refine hK.out _ _ (fun _=>HSS.out _ HA.kO) fun hHeld=>?_
   replace hHeld:=hHeld (by decide)
   clear hK K
   try simp only [putS]
   refine rg 4 (some 25) fun K hK=>?_
   clear hHeld
   go_simp
   refine(l1PickInt_c g _ 4 4 [1,5,17,32] _ (RS.lit w10.drew [1,5,17,32] _ (by simp) (by simp [I64])) HD.cu.ne (by omega) HA.cu).mono ?_
   rintro e wB ⟨x,rfl,hx,cuP,chP⟩
   have HB:=HA.step chP cuP
   go_wp2_with fail
   refine hK.out _ _ (fun _=>HSS.out _ HB.kO) fun hHeld=>?_
   replace hHeld:=hHeld (by decide)
   clear hK K
   try simp only [putS]
   refine rg 6 (some 27) fun K hK=>?_
   clear hHeld
   go_simp
   refine(l1Below_c g 20 _ (by omega) HB.cu).mono ?_
   rintro e wE ⟨y,rfl,⟨y0,_,y1⟩,cuQ,chQ⟩
   have HE:=HB.step chQ cuQ
   go_wp2_with fail
   refine hK.out _ _ (fun _=>HSS.out _ HE.kO) fun hHeld=>?_
   replace hHeld:=hHeld (by decide)
   clear hK K
   try simp only [putS]

   have hxI:I64 x:=by rcases mem4 hx with rfl|rfl|rfl|rfl<;>(unfold I64;omega)
   have hy20:=y1 (by omega)
   have hyI:I64 y:=by unfold I64;omega
   refine tgk 7 28 hHeld ?_;simp only [putS]
   have hAl:=(Below.refl wE.heap.size wE).alloc (Nat.le_refl _) (.cells #[.int .i64 x,.int .i64 y] 142)
   have HF:=HE.step (Chg.ofBelow hAl [g]) (HE.cu.alloc _)
   have hze:w.heap.size+1<=wE.heap.size:=HE.kR.lt
   refine rg 8 (some 29) fun K hK=>?_
   clear hHeld
   go_simp
   refine hK.out _ _ (fun _=>HSS.out _ HF.kO) fun hHeld=>?_
   replace hHeld:=hHeld (by decide)
   clear hK K
   try simp only [putS]
   refine rg 9 (some 30) fun K hK=>?_
   clear hHeld
   refine step_appR (r:=rCostStep NB) (by rfl) _ _ 24 (by rfl) _ 16 eiCostStep (rCostStep_ok NB) (by rfl) HE.ms hAl hze ⟨wE.heap.size,0,none⟩ (by rfl) (f:=[]) (cs:=[.int .i64 x,.int .i64 y]) (y:=⟨x,y⟩) (rCostStep_own.2 ⟨rfl,rfl,hxI,hyI⟩) (Fr.nil _) (cells_new _ _ _) (by unfold NB;omega) (Nat.le_refl _) (by omega) ?_
   intro A9 c9 w9 hM9 hb9 hg9 hA9
   have k9:=HF.kO.grw hg9 (steps_ne HF.ms HF.kO)
   have r9:=HF.kR.grw hg9 (steps_ne HF.ms HF.kR)
   refine hK.out _ _ (fun _=>HSS.out _ k9) fun hHeld=>?_
   replace hHeld:=hHeld (by decide)
   clear hK K
   try simp only [putS]
   refine tgk 10 31 hHeld ?_;simp only [putS]
   have f9:=k9.frozen 5
   have x9:=k9.bx 5 _ rfl
   refine rg 11 none fun K hK=>?_
   clear hHeld
   go_simp
   refine hK.out _ _ (fun h=>absurd rfl h) fun hHeld=>?_
   clear hK K
   try simp only [putS]
   refine wpG_done (by kernel_rfl) ?_ _
   clear hHeld
   have HG:=HF.app k9 r9 hb9 hM9
   clear k9 f9 x9 r9 HF HE hAl HD HSS
   obtain⟨wz,hwz⟩:∃ W,W=w9.setCell ⟨gO,5,none⟩ (.slice A9 1 c9):=⟨_,rfl⟩
   rw [Nat.zero_add,<- hwz]at HG
   rw [<- hwz]
   obtain⟨o2,ho2⟩:∃ o2:OperatorD,o2=⟨o.fFixed,o.fPerLeft,o.fPerRight,o.fPerOutput,o.fPerPair,o.fSteps++[⟨x,y⟩]⟩:=⟨_,rfl⟩
   have hlen:o2.fSteps.length<=1:=by rw [ho2];simp [hst]
   rw [<- ho2]at HG
   clear hwz ho2
   have ⟨x0,_,x1,_,x2,_,x3,_,x4,_,x5,_⟩:=HG.kO.r6
   have ⟨r0,f0,r1,f1,r2,f2,r3,f3,r4,f4,r5,f5⟩:=HG.kR.r6
   go_wp2
   have ⟨q0,_,q1,_,q2,_,q3,_,q4,_,q5,_⟩:=HG.kR.set6 (.int .i64 o2.fFixed) (.int .i64 o2.fPerLeft) (.int .i64 o2.fPerRight) (.int .i64 o2.fPerOutput) (.int .i64 o2.fPerPair) (.slice A9 1 c9) |>.r6
   refine bodyPost_ret (v:=.agg #[.int .i64 o2.fFixed,.int .i64 o2.fPerLeft,.int .i64 o2.fPerRight,.int .i64 o2.fPerOutput,.int .i64 o2.fPerPair,.slice A9 1 c9]) (by simp [results,Tryz.results87,go_sem,q0,q1,q2,q3,q4,q5]) rfl ?_
   exact HG.fin hlen
end Go.Proofs.YtblbnbfghlkkfaaGreat
namespace Go.Proofs.YtblbnbfghlkkfaaGreat
open Go.RowKit
set_option linter.unusedVariables false
set_option linter.unusedSimpArgs false
attribute [local go_sem ↓] Go.wp_at_zero Go.wp_at_succ
end Go.Proofs.YtblbnbfghlkkfaaGreat
namespace Go.Proofs.YtblbnbfghlkkfaaGreat
open Go.RowKit
set_option linter.unusedVariables false
set_option linter.unusedSimpArgs false
attribute [local go_sem ↓] Go.wp_at_zero Go.wp_at_succ
theorem model_rep {w:World}{c1 c2 c3 c4 c5:List Value}{o1 o2 o3 o4 o5:OperatorD}(h1:(rOperator NB).rep w c1 o1) (h2:(rOperator NB).rep w c2 o2) (h3:(rOperator NB).rep w c3 o3) (h4:(rOperator NB).rep w c4 o4) (h5:(rOperator NB).rep w c5 o5) :
  (rModel NB).rep w (c1++(c2++(c3++(c4++c5)))) ⟨o1,o2,o3,o4,o5⟩:=⟨c1,_,rfl,h1,c2,_,rfl,h2,c3,_,rfl,h3,c4,_,rfl,h4,h5⟩
theorem Stb.set1 {α:Type}{r:Rp α}{T:Nat}{w:World}{cs:List Value}{x:α}(h:Stb r T w cs x) {g:Nat}(hg:g<T) (i:Nat) (vs:List Value):Stb r T (setCells w g i vs) cs x:=h.out ((Out.refl _ _).setCells hg i vs)
def defModel:ModelD:=⟨⟨1,1,0,0,0,[]⟩,⟨2,3,0,0,0,[⟨17,20⟩]⟩,⟨4,2,1,1,0,[]⟩,⟨1,1,1,1,0,[]⟩,⟨1,0,0,1,1,[]⟩⟩
theorem op_flat (T:Nat) (W:World) (a b c d e:Int) (h:I64 a/\I64 b/\I64 c/\I64 d/\I64 e):Stb (rOperator NB) T W [.int .i64 a,.int .i64 b,.int .i64 c,.int .i64 d,.int .i64 e,.slice none 0 0] ⟨a,b,c,d,e,[]⟩ :=
 fun W' _=>rOperator_rep.2 ⟨none,0,0,rfl,h.1,h.2.1,h.2.2.1,h.2.2.2.1,h.2.2.2.2,RS.nil _ _ _ _ _⟩
set_option maxRecDepth 100000 in
set_option maxHeartbeats 1600000 in
theorem sDefaultModel_c (w:World):Calls Tryz.prog 86 #[] w fun e w'=>∃ cs,e=.returned (.agg cs.toArray)/\Stb (rModel NB) w.heap.size w' cs defModel/\Below w.heap.size w w':=by
 obtain⟨w1,hw1⟩:∃ W,W=w.alloc (.cells #[.int .i64 0,.int .i64 0,.int .i64 0,.int .i64 0,.int .i64 0,.slice none 0 0,.int .i64 0,.int .i64 0,.int .i64 0,.int .i64 0,.int .i64 0,.slice none 0 0,.int .i64 0,.int .i64 0,.int .i64 0,.int .i64 0,.int .i64 0,.slice none 0 0,.int .i64 0,.int .i64 0,.int .i64 0,.int .i64 0,.int .i64 0,.slice none 0 0,.int .i64 0,.int .i64 0,.int .i64 0,.int .i64 0,.int .i64 0,.slice none 0 0] 28):=⟨_,rfl⟩
 have b1:Below w.heap.size w w1:=by rw [hw1];exact(Below.refl _ _).alloc (Nat.le_refl _) _
 have kR:Bk w1 w.heap.size 28 [.int .i64 0,.int .i64 0,.int .i64 0,.int .i64 0,.int .i64 0,.slice none 0 0,.int .i64 0,.int .i64 0,.int .i64 0,.int .i64 0,.int .i64 0,.slice none 0 0,.int .i64 0,.int .i64 0,.int .i64 0,.int .i64 0,.int .i64 0,.slice none 0 0,.int .i64 0,.int .i64 0,.int .i64 0,.int .i64 0,.int .i64 0,.slice none 0 0,.int .i64 0,.int .i64 0,.int .i64 0,.int .i64 0,.int .i64 0,.slice none 0 0]:=by rw [hw1];exact Bk.new w _ _
 have hs1:w1.heap.size=w.heap.size+1:=by rw [hw1];simp
 obtain⟨w2,hw2⟩:∃ W,W=w1.alloc (.cells #[.int .i64 17,.int .i64 20] 142):=⟨_,rfl⟩
 have b2:Below w1.heap.size w1 w2:=by rw [hw2];exact(Below.refl _ _).alloc (Nat.le_refl _) _
 have kR2:=kR.below b2
 have oS:OS NB 142 (rCostStep NB) w2 [w.heap.size+1] (some ⟨w.heap.size+1,0,none⟩) 1 1 [⟨17,20⟩]:=by
  rw [<- hs1]
  refine⟨rfl,by unfold NB;omega,[[.int .i64 17,.int .i64 20]],[[]],⟨by simp [rCostStep_size],.inr ⟨w1.heap.size,1,#[.int .i64 17,.int .i64 20],rfl,Nat.zero_le _,by rw [hw2];exact heap_alloc_new w1 _,Nat.le_refl _,by unfold maxLen;omega,by simp [rCostStep_size],by simp [rCostStep_size]⟩⟩,by simp [blk],⟨rCostStep_own.2 ⟨rfl,rfl,by simp [I64],by simp [I64]⟩,trivial⟩⟩
 obtain⟨A,hA⟩:∃ A,A=some (⟨w.heap.size+1,0,none⟩:Addr):=⟨_,rfl⟩
 have hs2:w.heap.size+1=w1.heap.size:=hs1.symm
 have TH:w2.there w.heap.size 0 30:=kR2.there
 have S2:Stb (rOperator NB) (w.heap.size+1) w2 [.int .i64 2,.int .i64 3,.int .i64 0,.int .i64 0,.int .i64 0,.slice (some ⟨w.heap.size+1,0,none⟩) 1 1] ⟨2,3,0,0,0,[⟨17,20⟩]⟩ :=
  Stb.ofOwn (rOperator_ok NB) (rOperator_own.2 ⟨_,_,_,_,rfl,rfl,by simp [I64],by simp [I64],by simp [I64],by simp [I64],by simp [I64],oS⟩) (by simp)
 have hi:∀ a b c d e:Int,I64 a->I64 b->I64 c->I64 d->I64 e->I64 a/\I64 b/\I64 c/\I64 d/\I64 e:=fun a b c d e h1 h2 h3 h4 h5=>⟨h1,h2,h3,h4,h5⟩
 have SM:Stb (rModel NB) (w.heap.size+1) w2 [.int .i64 1,.int .i64 1,.int .i64 0,.int .i64 0,.int .i64 0,.slice none 0 0,.int .i64 2,.int .i64 3,.int .i64 0,.int .i64 0,.int .i64 0,.slice (some ⟨w.heap.size+1,0,none⟩) 1 1,.int .i64 4,.int .i64 2,.int .i64 1,.int .i64 1,.int .i64 0,.slice none 0 0,.int .i64 1,.int .i64 1,.int .i64 1,.int .i64 1,.int .i64 0,.slice none 0 0,.int .i64 1,.int .i64 0,.int .i64 0,.int .i64 1,.int .i64 1,.slice none 0 0] defModel:=fun W hW=>by
  have q:=fun a b c d e h=>op_flat (w.heap.size+1) w2 a b c d e h W hW
  exact model_rep (q 1 1 0 0 0 (by simp [I64])) (S2 W hW) (q 4 2 1 1 0 (by simp [I64])) (q 1 1 1 1 0 (by simp [I64])) (q 1 0 0 1 1 (by simp [I64]))
 have ON:=one_rep (rModel_ok NB) SM.rep
 have bb:=b1.trans (b2.mono b1.size)
 clear S2 oS hi hs1 b1 b2 kR
 go_enter Tryz.func86,Tryz.ntmps86
 go_upto_region 1 with fail
 rw [<- hw1]
 clear hw1
 go_wp2_with (refine wpList_store_mid rfl 28 _ _ rfl w.heap.size 0 #[.int .i64 1,.int .i64 1,.int .i64 0,.int .i64 0,.int .i64 0,.slice none 0 0,.int .i64 2,.int .i64 3,.int .i64 0,.int .i64 0,.int .i64 0,.slice (some ⟨w1.heap.size,0,none⟩) 1 1,.int .i64 4,.int .i64 2,.int .i64 1,.int .i64 1,.int .i64 0,.slice none 0 0,.int .i64 1,.int .i64 1,.int .i64 1,.int .i64 1,.int .i64 0,.slice none 0 0,.int .i64 1,.int .i64 0,.int .i64 0,.int .i64 1,.int .i64 1,.slice none 0 0] rfl rfl (by rw [<- hs2,<- hw2];exact TH) sizeModelT (by rw [<- hs2];exact ON) ?_)
 rw [<- hs2,<- hw2,setCells_kit]
 clear hw2 ON TH
 have bF:=kR2.fill (c:=[.int .i64 1,.int .i64 1,.int .i64 0,.int .i64 0,.int .i64 0,.slice none 0 0,.int .i64 2,.int .i64 3,.int .i64 0,.int .i64 0,.int .i64 0,.slice (some ⟨w.heap.size+1,0,none⟩) 1 1,.int .i64 4,.int .i64 2,.int .i64 1,.int .i64 1,.int .i64 0,.slice none 0 0,.int .i64 1,.int .i64 1,.int .i64 1,.int .i64 1,.int .i64 0,.slice none 0 0,.int .i64 1,.int .i64 0,.int .i64 0,.int .i64 1,.int .i64 1,.slice none 0 0]) rfl
 go_wp2
 refine bodyPost_ret (results_cell1 Tryz.results86 rfl bF.rangeAt Tryz.underlying28 rfl sizeModelT) rfl ?_
 exact⟨_,rfl,(SM.set1 (Nat.lt_succ_self _) 0 _).mono (Nat.le_succ _),Below.setCells bb (Nat.le_refl _) 0 _⟩
theorem drawnOp {w W:World}{g T:Nat}{e:Ending}{P:OperatorD->Prop}(h:DrawnV (rOperator NB) P g w e W) (hT:T<=w.heap.size):∃ o A n c,e=.returned (.agg #[.int .i64 o.fFixed,.int .i64 o.fPerLeft,.int .i64 o.fPerRight,.int .i64 o.fPerOutput,.int .i64 o.fPerPair,.slice A n c])/\Stb (rOperator NB) T W [.int .i64 o.fFixed,.int .i64 o.fPerLeft,.int .i64 o.fPerRight,.int .i64 o.fPerOutput,.int .i64 o.fPerPair,.slice A n c] o/\Cur W g/\Chg [g] w W:=by
 obtain⟨o,cs,fp,rfl,oO,fO,_,cu,ch⟩:=h
 have hS:=Stb.ofOwn (rOperator_ok NB) (T:=T) oO (fun k hk=>Nat.le_trans hT (fO.ge k hk))
 obtain⟨A,n,c,_,rfl,rfl,_⟩:=rOperator_own.1 oO
 exact⟨o,A,n,c,rfl,hS,cu,ch⟩
theorem drawnOp_call {w:World}{g T f:Nat}{a:Array Value}{P:OperatorD->Prop}(h:Calls Tryz.prog f a w (DrawnV (rOperator NB) P g w)) (hT:T<=w.heap.size) :
  Calls Tryz.prog f a w fun e W=>∃ o A n c,e=.returned (.agg #[.int .i64 o.fFixed,.int .i64 o.fPerLeft,.int .i64 o.fPerRight,.int .i64 o.fPerOutput,.int .i64 o.fPerPair,.slice A n c])/\Stb (rOperator NB) T W [.int .i64 o.fFixed,.int .i64 o.fPerLeft,.int .i64 o.fPerRight,.int .i64 o.fPerOutput,.int .i64 o.fPerPair,.slice A n c] o/\Cur W g/\Chg [g] w W:=h.mono fun e W h=>drawnOp h hT
set_option maxRecDepth 100000 in
set_option maxHeartbeats 3200000 in
theorem l22Model_c (g:Nat) (w:World) (hc:Cur w g):Calls Tryz.prog 66 #[.pointer (some ⟨g,0,none⟩)] w (DrawnR (rModel NB) g w):=by
 have hgw:=hc.lt
 obtain⟨w1,hw1⟩:∃ W,W=w.alloc (.cells #[.int .i64 0,.int .i64 0,.int .i64 0,.int .i64 0,.int .i64 0,.slice none 0 0,.int .i64 0,.int .i64 0,.int .i64 0,.int .i64 0,.int .i64 0,.slice none 0 0,.int .i64 0,.int .i64 0,.int .i64 0,.int .i64 0,.int .i64 0,.slice none 0 0,.int .i64 0,.int .i64 0,.int .i64 0,.int .i64 0,.int .i64 0,.slice none 0 0,.int .i64 0,.int .i64 0,.int .i64 0,.int .i64 0,.int .i64 0,.slice none 0 0] 28):=⟨_,rfl⟩
 have b1:Below w.heap.size w w1:=by rw [hw1];exact(Below.refl _ _).alloc (Nat.le_refl _) _
 have kR:Bk w1 w.heap.size 28 [.int .i64 0,.int .i64 0,.int .i64 0,.int .i64 0,.int .i64 0,.slice none 0 0,.int .i64 0,.int .i64 0,.int .i64 0,.int .i64 0,.int .i64 0,.slice none 0 0,.int .i64 0,.int .i64 0,.int .i64 0,.int .i64 0,.int .i64 0,.slice none 0 0,.int .i64 0,.int .i64 0,.int .i64 0,.int .i64 0,.int .i64 0,.slice none 0 0,.int .i64 0,.int .i64 0,.int .i64 0,.int .i64 0,.int .i64 0,.slice none 0 0]:=by rw [hw1];exact Bk.new w _ _
 have C1:Chg [g] w w1:=Chg.ofBelow b1 _
 have cu1:=hc.below b1
 clear b1
 go_enter Tryz.func66,Tryz.ntmps66
 go_upto_region 1 with fail
 rw [<- hw1]
 clear hw1
 go_wp2_with fail
 refine(l1Once_c g 3 _ (by omega) cu1).mono ?_
 rintro e w2 ⟨b,rfl,cu2,ch2⟩
 have kR2:Bk w2 w.heap.size 28 [.int .i64 0,.int .i64 0,.int .i64 0,.int .i64 0,.int .i64 0,.slice none 0 0,.int .i64 0,.int .i64 0,.int .i64 0,.int .i64 0,.int .i64 0,.slice none 0 0,.int .i64 0,.int .i64 0,.int .i64 0,.int .i64 0,.int .i64 0,.slice none 0 0,.int .i64 0,.int .i64 0,.int .i64 0,.int .i64 0,.int .i64 0,.slice none 0 0,.int .i64 0,.int .i64 0,.int .i64 0,.int .i64 0,.int .i64 0,.slice none 0 0]:=(ch2.block _ kR.lt (by simp;omega)).trans kR
 have C2:=C1.trans ch2
 clear kR C1 cu1 ch2
 cases b
 ·have hz2:w.heap.size+1<=w2.heap.size:=kR2.lt
  go_wp2_with fail
  have C1':=drawnOp_call (l21Op_c g w2 cu2) (T:=w.heap.size+1) (by omega)
  refine C1'.mono ?_
  clear C1'
  rintro e v1 ⟨o1,A1,n1,c1,rfl,S1,cv1,ch1⟩
  have hz1':w.heap.size+1<=v1.heap.size:=Nat.le_trans (by omega) ch1.size
  have X1:Out (w.heap.size+1) w2 v1:=Out.chg ch1 (by simp;omega)
  go_wp2_with fail
  have C2':=drawnOp_call (l21Op_c g v1 cv1) (T:=w.heap.size+1) (by omega)
  refine C2'.mono ?_
  clear C2'
  rintro e v2 ⟨o2,A2,n2,c2,rfl,S2,cv2,ch2⟩
  have hz2':w.heap.size+1<=v2.heap.size:=Nat.le_trans (by omega) ch2.size
  have X2:Out (w.heap.size+1) v1 v2:=Out.chg ch2 (by simp;omega)
  replace S1:=S1.out X2
  go_wp2_with fail
  have C3':=drawnOp_call (l21Op_c g v2 cv2) (T:=w.heap.size+1) (by omega)
  refine C3'.mono ?_
  clear C3'
  rintro e v3 ⟨o3,A3,n3,c3,rfl,S3,cv3,ch3⟩
  have hz3':w.heap.size+1<=v3.heap.size:=Nat.le_trans (by omega) ch3.size
  have X3:Out (w.heap.size+1) v2 v3:=Out.chg ch3 (by simp;omega)
  replace S1:=S1.out X3
  replace S2:=S2.out X3
  go_wp2_with fail
  have C4':=drawnOp_call (l21Op_c g v3 cv3) (T:=w.heap.size+1) (by omega)
  refine C4'.mono ?_
  clear C4'
  rintro e v4 ⟨o4,A4,n4,c4,rfl,S4,cv4,ch4⟩
  have hz4':w.heap.size+1<=v4.heap.size:=Nat.le_trans (by omega) ch4.size
  have X4:Out (w.heap.size+1) v3 v4:=Out.chg ch4 (by simp;omega)
  replace S1:=S1.out X4
  replace S2:=S2.out X4
  replace S3:=S3.out X4
  go_wp2_with fail
  have C5':=drawnOp_call (l21Op_c g v4 cv4) (T:=w.heap.size+1) (by omega)
  refine C5'.mono ?_
  clear C5'
  rintro e v5 ⟨o5,A5,n5,c5,rfl,S5,cv5,ch5⟩
  have hz5':w.heap.size+1<=v5.heap.size:=Nat.le_trans (by omega) ch5.size
  have X5:Out (w.heap.size+1) v4 v5:=Out.chg ch5 (by simp;omega)
  replace S1:=S1.out X5
  replace S2:=S2.out X5
  replace S3:=S3.out X5
  replace S4:=S4.out X5
  have DD:=(((ch1.trans ch2).trans ch3).trans ch4).trans ch5
  have kR7:Bk v5 w.heap.size 28 [.int .i64 0,.int .i64 0,.int .i64 0,.int .i64 0,.int .i64 0,.slice none 0 0,.int .i64 0,.int .i64 0,.int .i64 0,.int .i64 0,.int .i64 0,.slice none 0 0,.int .i64 0,.int .i64 0,.int .i64 0,.int .i64 0,.int .i64 0,.slice none 0 0,.int .i64 0,.int .i64 0,.int .i64 0,.int .i64 0,.int .i64 0,.slice none 0 0,.int .i64 0,.int .i64 0,.int .i64 0,.int .i64 0,.int .i64 0,.slice none 0 0]:=(DD.block _ kR2.lt (by simp;omega)).trans kR2
  have SM:Stb (rModel NB) (w.heap.size+1) v5 [.int .i64 o1.fFixed,.int .i64 o1.fPerLeft,.int .i64 o1.fPerRight,.int .i64 o1.fPerOutput,.int .i64 o1.fPerPair,.slice A1 n1 c1,.int .i64 o2.fFixed,.int .i64 o2.fPerLeft,.int .i64 o2.fPerRight,.int .i64 o2.fPerOutput,.int .i64 o2.fPerPair,.slice A2 n2 c2,.int .i64 o3.fFixed,.int .i64 o3.fPerLeft,.int .i64 o3.fPerRight,.int .i64 o3.fPerOutput,.int .i64 o3.fPerPair,.slice A3 n3 c3,.int .i64 o4.fFixed,.int .i64 o4.fPerLeft,.int .i64 o4.fPerRight,.int .i64 o4.fPerOutput,.int .i64 o4.fPerPair,.slice A4 n4 c4,.int .i64 o5.fFixed,.int .i64 o5.fPerLeft,.int .i64 o5.fPerRight,.int .i64 o5.fPerOutput,.int .i64 o5.fPerPair,.slice A5 n5 c5] ⟨o1,o2,o3,o4,o5⟩:=fun W hW=>model_rep (S1 W hW) (S2 W hW) (S3 W hW) (S4 W hW) (S5 W hW)
  have TH:=kR7.there
  have ON:=one_rep (rModel_ok NB) SM.rep
  have CC:=C2.trans DD
  clear ch1 ch2 ch3 ch4 ch5 S1 S2 S3 S4 S5 X1 X2 X3 X4 X5 C2 DD kR2 cv1 cv2 cv3 cv4
  go_wp2_with (refine wpList_store_mid rfl 28 _ _ rfl w.heap.size 0 #[.int .i64 o1.fFixed,.int .i64 o1.fPerLeft,.int .i64 o1.fPerRight,.int .i64 o1.fPerOutput,.int .i64 o1.fPerPair,.slice A1 n1 c1,.int .i64 o2.fFixed,.int .i64 o2.fPerLeft,.int .i64 o2.fPerRight,.int .i64 o2.fPerOutput,.int .i64 o2.fPerPair,.slice A2 n2 c2,.int .i64 o3.fFixed,.int .i64 o3.fPerLeft,.int .i64 o3.fPerRight,.int .i64 o3.fPerOutput,.int .i64 o3.fPerPair,.slice A3 n3 c3,.int .i64 o4.fFixed,.int .i64 o4.fPerLeft,.int .i64 o4.fPerRight,.int .i64 o4.fPerOutput,.int .i64 o4.fPerPair,.slice A4 n4 c4,.int .i64 o5.fFixed,.int .i64 o5.fPerLeft,.int .i64 o5.fPerRight,.int .i64 o5.fPerOutput,.int .i64 o5.fPerPair,.slice A5 n5 c5] rfl rfl TH sizeModelT ON ?_)
  rw [setCells_kit]
  clear ON TH
  have bF:=kR7.fill (c:=[.int .i64 o1.fFixed,.int .i64 o1.fPerLeft,.int .i64 o1.fPerRight,.int .i64 o1.fPerOutput,.int .i64 o1.fPerPair,.slice A1 n1 c1,.int .i64 o2.fFixed,.int .i64 o2.fPerLeft,.int .i64 o2.fPerRight,.int .i64 o2.fPerOutput,.int .i64 o2.fPerPair,.slice A2 n2 c2,.int .i64 o3.fFixed,.int .i64 o3.fPerLeft,.int .i64 o3.fPerRight,.int .i64 o3.fPerOutput,.int .i64 o3.fPerPair,.slice A3 n3 c3,.int .i64 o4.fFixed,.int .i64 o4.fPerLeft,.int .i64 o4.fPerRight,.int .i64 o4.fPerOutput,.int .i64 o4.fPerPair,.slice A4 n4 c4,.int .i64 o5.fFixed,.int .i64 o5.fPerLeft,.int .i64 o5.fPerRight,.int .i64 o5.fPerOutput,.int .i64 o5.fPerPair,.slice A5 n5 c5]) rfl
  go_wp2
  refine bodyPost_ret (results_cell1 Tryz.results66 rfl bF.rangeAt Tryz.underlying28 rfl sizeModelT) rfl ?_
  have bs:Below w.heap.size v5 (setCells v5 w.heap.size 0 [.int .i64 o1.fFixed,.int .i64 o1.fPerLeft,.int .i64 o1.fPerRight,.int .i64 o1.fPerOutput,.int .i64 o1.fPerPair,.slice A1 n1 c1,.int .i64 o2.fFixed,.int .i64 o2.fPerLeft,.int .i64 o2.fPerRight,.int .i64 o2.fPerOutput,.int .i64 o2.fPerPair,.slice A2 n2 c2,.int .i64 o3.fFixed,.int .i64 o3.fPerLeft,.int .i64 o3.fPerRight,.int .i64 o3.fPerOutput,.int .i64 o3.fPerPair,.slice A3 n3 c3,.int .i64 o4.fFixed,.int .i64 o4.fPerLeft,.int .i64 o4.fPerRight,.int .i64 o4.fPerOutput,.int .i64 o4.fPerPair,.slice A4 n4 c4,.int .i64 o5.fFixed,.int .i64 o5.fPerLeft,.int .i64 o5.fPerRight,.int .i64 o5.fPerOutput,.int .i64 o5.fPerPair,.slice A5 n5 c5]):=Below.setCells (Below.refl _ _) (Nat.le_refl _) 0 _
  exact⟨_,_,rfl,(SM.set1 (Nat.lt_succ_self _) 0 _).mono (Nat.le_succ _),cv5.low hgw bs,chgS CC bs (Nat.le_refl _)⟩
 ·go_wp2_with fail
  refine(sDefaultModel_c _).mono ?_
  rintro e w3 ⟨cs,rfl,SM,hb3⟩
  have SM1:Stb (rModel NB) (w.heap.size+1) w3 cs defModel:=fun W hW=>SM W (hW.mono kR2.lt)
  have kR3:=kR2.below hb3
  have lenm:=(rModel_ok NB).len SM.rep
  have ON:=one_rep (rModel_ok NB) SM.rep
  have hcz:cs.toArray.size=30:=List.size_toArray.trans lenm
  have TH:w3.there w.heap.size 0 cs.toArray.size:=by rw [hcz];exact kR3.there
  clear SM
  go_wp2_with (refine wpList_store_mid rfl 28 _ _ rfl w.heap.size 0 cs.toArray rfl rfl TH (by rw [hcz];exact sizeModelT) ON ?_)
  rw [setCells_kit]
  clear ON TH
  have bF:=kR3.fill (c:=cs) (by rw [lenm];rfl)
  go_wp2
  refine bodyPost_ret (results_cell1 Tryz.results66 rfl bF.rangeAt Tryz.underlying28 rfl (by rw [lenm];exact sizeModelT)) rfl ?_
  have bs:Below w.heap.size w3 (setCells w3 w.heap.size 0 cs):=Below.setCells (Below.refl _ _) (Nat.le_refl _) 0 _
  exact⟨_,_,rfl,(SM1.set1 (Nat.lt_succ_self _) 0 _).mono (Nat.le_succ _),(cu2.below hb3).low hgw bs,chgS (C2.trans (Chg.ofBelow hb3 _)) bs (Nat.le_refl _)⟩
end Go.Proofs.YtblbnbfghlkkfaaGreat
