/-
  Odr
-/
import Derived.Test.YtadgmjdafkihfaaGreatTypes
import Derived.Test.YtadgmjdafkihfaaGreatKeep
import Derived.Test.YtadgmjdafkihfaaGreatUpd
import Derived.Test.YtadgmjdafkihfaaGreatCpr
import Derived.Test.YtadgmjdafkihfaaGreatTo
import Derived.Test.YtadgmjdafkihfaaGreatMid
import Derived.Test.YtadgmjdafkihfaaGreatDrw
import Derived.Deep.Cut
import Derived.Deep.RegionHeld3
import Derived.Deep.DrawnRows
namespace Go.Proofs.YtadgmjdafkihfaaGreat
open Go.RowKit
set_option linter.unusedVariables false
set_option linter.unusedSimpArgs false
attribute [local go_sem ↓] Go.wp_at_zero Go.wp_at_succ
theorem rCostStep_flt (M:Nat):(rCostStep M).Flat:=rIso_flat (rPair_flat rInt_flat rInt_flat) _
theorem rCostStep_nt {t:TypeId}:(rCostStep NB).NT t:=rIso_nt (rPair_nt rInt_nt rInt_nt) _
theorem neOp:(216:TypeId)≠57:=by decide
/-- an operator's six cells written -/
abbrev set6 (w:World) (g:Nat) (a b c d e f:Value):World:=(((((w.setCell ⟨g,0,none⟩ a).setCell ⟨g,1,none⟩ b).setCell ⟨g,2,none⟩ c).setCell ⟨g,3,none⟩ d).setCell ⟨g,4,none⟩ e).setCell ⟨g,5,none⟩ f
section
variable {w W W':World} {g:Nat} {t:TypeId} {x0 x1 x2 x3 x4 x5:Value}
theorem set6_ne {k:Nat}(hk:k≠g) (a b c d e f:Value):(set6 w g a b c d e f).heap[k]?=w.heap[k]? :=
 (((((heap_setCell_other _ ⟨g,5,none⟩ k _ (fun e=>hk e)).trans (heap_setCell_other _ ⟨g,4,none⟩ k _ (fun e=>hk e))).trans (heap_setCell_other _ ⟨g,3,none⟩ k _ (fun e=>hk e))).trans (heap_setCell_other _ ⟨g,2,none⟩ k _ (fun e=>hk e))).trans (heap_setCell_other _ ⟨g,1,none⟩ k _ (fun e=>hk e))).trans (heap_setCell_other _ ⟨g,0,none⟩ k _ (fun e=>hk e))
theorem Bk.set6 (h:Bk w g t [x0,x1,x2,x3,x4,x5]) (a b c d e f:Value):Bk (set6 w g a b c d e f) g t [a,b,c,d,e,f]:=(((((h.set 0 a).set 1 b).set 2 c).set 3 d).set 4 e).set 5 f
theorem bls6 {B:Nat}{a:World}(h:Below B a w) (hg:B<=g) (x y z u v s:Value):Below B a (Proofs.YtadgmjdafkihfaaGreat.set6 w g x y z u v s) :=
 (((((h.setCell (p:=⟨g,0,none⟩) hg _).setCell (p:=⟨g,1,none⟩) hg _).setCell (p:=⟨g,2,none⟩) hg _).setCell (p:=⟨g,3,none⟩) hg _).setCell (p:=⟨g,4,none⟩) hg _).setCell (p:=⟨g,5,none⟩) hg _
theorem Bk.r6 (h:Bk w g t [x0,x1,x2,x3,x4,x5]):w.cell? ⟨g,0,none⟩=some x0/\w.frozen? ⟨g,0,none⟩=false/\w.cell? ⟨g,1,none⟩=some x1/\w.frozen? ⟨g,1,none⟩=false/\w.cell? ⟨g,2,none⟩=some x2/\w.frozen? ⟨g,2,none⟩=false/\w.cell? ⟨g,3,none⟩=some x3/\w.frozen? ⟨g,3,none⟩=false/\w.cell? ⟨g,4,none⟩=some x4/\w.frozen? ⟨g,4,none⟩=false/\w.cell? ⟨g,5,none⟩=some x5/\w.frozen? ⟨g,5,none⟩=false :=
 ⟨h.bx 0 _ rfl,h.frozen 0,h.bx 1 _ rfl,h.frozen 1,h.bx 2 _ rfl,h.frozen 2,h.bx 3 _ rfl,h.frozen 3,h.bx 4 _ rfl,h.frozen 4,h.bx 5 _ rfl,h.frozen 5⟩
end
theorem RS.ofBk {W:World}{z:Nat}{t:TypeId}{l:List Int}(k:Bk W z t (l.map (Value.int .i64))) (hl:l.length<=1000) (hI:∀ x∈l,I64 x):RS NB rInt W (some ⟨z,0,none⟩) l.length l.length l :=
 ⟨rfl,by unfold NB;omega,Nat.le_refl _,fun _=>⟨z,0,rfl,fun j x hj=>⟨[.int .i64 x],⟨rfl,hI x (mem_of_at hj)⟩,fun i v hi=>by
  match i,hi with
  | 0,hi =>
   simp at hi;subst hi
   have:=k.bx j (.int .i64 x) (by rw [List.getElem?_map,hj];rfl)
   have e:rInt.size=1:=rfl
   simpa [e]using this⟩⟩⟩
/-- an operator under way: cursor g, the result's box, the operator's box gO -/
structure Ob (w:World) (g gO:Nat) (o:OperatorD) (A:Option Addr) (n c:Nat) (W:World):Prop where
 cu:Cur W g
 ch:Chg [g] w W
 kR:Bk W w.heap.size 57 [.int .i64 0,.int .i64 0,.int .i64 0,.int .i64 0,.int .i64 0,.slice none 0 0]
 kO:Bk W gO 57 [.int .i64 o.fFixed,.int .i64 o.fPerLeft,.int .i64 o.fPerRight,.int .i64 o.fPerOutput,.int .i64 o.fPerPair,.slice A n c]
 ms:MS (w.heap.size+1) NB 216 (rCostStep NB) W A n c o.fSteps
 rg:I64 o.fFixed/\I64 o.fPerLeft/\I64 o.fPerRight/\I64 o.fPerOutput/\I64 o.fPerPair
 lt:w.heap.size<gO
 hg:g<w.heap.size
section
variable {w W W':World} {g gO:Nat} {o:OperatorD} {A A':Option Addr} {n c n' c':Nat}
theorem Ob.step (H:Ob w g gO o A n c W) (h:Chg [g] W W') (cu:Cur W' g):Ob w g gO o A n c W':=by
 have hl:=H.lt
 have hg:=H.hg
 refine⟨cu,H.ch.trans h,(h.block _ H.kR.lt (by simp;omega)).trans H.kR,(h.block _ H.kO.lt (by simp;omega)).trans H.kO,?_,H.rg,hl,hg⟩
 obtain⟨fp,q,f⟩:=H.ms
 exact⟨fp,q.okeep (rCostStep_ok NB) (fun k hk=>h.block k (q.lt (rCostStep_ok NB) k hk) (by have:=f.ge k hk;simp;omega)),f⟩
theorem chgX {w0 a b:World}(h:Chg [g] w0 a) (hb:Below (w0.heap.size+1) a b):Chg [g] w0 b :=
 ⟨hb.os.trans h.os,hb.tape.trans h.tape,hb.output.trans h.output,Nat.le_trans h.size hb.size,fun k hk hn=>(hb.block k (by omega)).trans (h.block k hk hn)⟩
theorem steps_box {B g':Nat}{cs:List Value}{L:List CostStepD}(k:Bk W g' 57 cs) (m:MS B NB 216 (rCostStep NB) W A n c L) (j:Nat) (v:Value):MS B NB 216 (rCostStep NB) (W.setCell ⟨g',j,none⟩ v) A n c L:=by
 obtain⟨fp,o,f⟩:=m
 have hn:=(o.nt rCostStep_nt neOp).ne k
 exact⟨fp,o.okeep (rCostStep_ok NB) (fun q hq=>heap_setCell_other _ ⟨g',j,none⟩ q _ (fun e=>hn (by have e2:q=g':=e;rw [<- e2];exact hq))),f⟩
theorem steps_ne {B g':Nat}{cs:List Value}{L:List CostStepD}(m:MS B NB 216 (rCostStep NB) W A n c L) (k:Bk W g' 57 cs):g'∉blk A:=fun h=>by
 obtain⟨fp,o,f⟩:=m
 obtain⟨_,fps,_,e,_⟩:=o.ex
 exact(o.nt rCostStep_nt neOp).ne k (by rw [e];exact List.mem_append_left _ h)
/-- one number of the operator written -/
theorem Ob.put (H:Ob w g gO o A n c W) (j:Nat) (v:Value) {o':OperatorD}{A2:Option Addr}{n2 c2:Nat}(m:MS (w.heap.size+1) NB 216 (rCostStep NB) W A2 n2 c2 o'.fSteps)
  (hk:Bk (W.setCell ⟨gO,j,none⟩ v) gO 57 [.int .i64 o'.fFixed,.int .i64 o'.fPerLeft,.int .i64 o'.fPerRight,.int .i64 o'.fPerOutput,.int .i64 o'.fPerPair,.slice A2 n2 c2])
  (hr:I64 o'.fFixed/\I64 o'.fPerLeft/\I64 o'.fPerRight/\I64 o'.fPerOutput/\I64 o'.fPerPair):Ob w g gO o' A2 n2 c2 (W.setCell ⟨gO,j,none⟩ v):=by
 have hl:=H.lt
 have hg:=H.hg
 have b:Below gO W (W.setCell ⟨gO,j,none⟩ v):=(Below.refl _ _).setCell (p:=⟨gO,j,none⟩) (Nat.le_refl _) _
 exact⟨H.cu.low (by omega) b,chgS H.ch b (by omega),(b.block _ hl).trans H.kR,hk,steps_box H.kO m j v,hr,hl,hg⟩
theorem Ob.app (H:Ob w g gO o A n c W) {L2:List CostStepD}(k9:Bk W' gO 57 [.int .i64 o.fFixed,.int .i64 o.fPerLeft,.int .i64 o.fPerRight,.int .i64 o.fPerOutput,.int .i64 o.fPerPair,.slice A n c]) (r9:Bk W' w.heap.size 57 [.int .i64 0,.int .i64 0,.int .i64 0,.int .i64 0,.int .i64 0,.slice none 0 0])
  (hb:Below (w.heap.size+1) W W') (m:MS (w.heap.size+1) NB 216 (rCostStep NB) W' A' n' c' L2):Ob w g gO ⟨o.fFixed,o.fPerLeft,o.fPerRight,o.fPerOutput,o.fPerPair,L2⟩ A' n' c' (W'.setCell ⟨gO,5,none⟩ (.slice A' n' c')):=by
 have hl:=H.lt
 have hg:=H.hg
 have b:Below gO W' (W'.setCell ⟨gO,5,none⟩ (.slice A' n' c')):=(Below.refl _ _).setCell (p:=⟨gO,5,none⟩) (Nat.le_refl _) _
 exact⟨(H.cu.low (by omega) hb).low (by omega) b,(chgX (chgX H.ch hb) (b.mono (by omega))),(b.block _ hl).trans r9,k9.set 5 _,steps_box k9 m 5 _,H.rg,hl,hg⟩
theorem Ob.fin (H:Ob w g gO o A n c W) {P:OperatorD->Prop}(hP:P o):DrawnV (rOperator NB) P g w (.returned (.agg #[.int .i64 o.fFixed,.int .i64 o.fPerLeft,.int .i64 o.fPerRight,.int .i64 o.fPerOutput,.int .i64 o.fPerPair,.slice A n c])) (set6 W w.heap.size (.int .i64 o.fFixed) (.int .i64 o.fPerLeft) (.int .i64 o.fPerRight) (.int .i64 o.fPerOutput) (.int .i64 o.fPerPair) (.slice A n c)):=by
 have hg:=H.hg
 obtain⟨fp,q,f⟩:=H.ms
 obtain⟨i1,i2,i3,i4,i5⟩:=H.rg
 have b:=bls6 (Below.refl w.heap.size W) (Nat.le_refl _) (.int .i64 o.fFixed) (.int .i64 o.fPerLeft) (.int .i64 o.fPerRight) (.int .i64 o.fPerOutput) (.int .i64 o.fPerPair) (.slice A n c)
 exact⟨o,_,fp,rfl,rOperator_own.2 ⟨A,n,c,fp,rfl,rfl,i1,i2,i3,i4,i5,q.okeep (rCostStep_ok NB) (fun k hk=>set6_ne (by have:=f.ge k hk;omega) _ _ _ _ _ _)⟩,f.mono (Nat.le_succ _),hP,H.cu.low hg b,chgS H.ch b (Nat.le_refl _)⟩
end
set_option maxRecDepth 100000 in
set_option maxHeartbeats 3200000 in
theorem l21Op_c (g:Nat) (w:World) (hc:Cur w g):Calls Tryz.prog 234 #[.pointer (some ⟨g,0,none⟩)] w (DrawnV (rOperator NB) (fun o=>o.fSteps.length<=1) g w):=by
 have hgw:=hc.lt
 obtain⟨w1,hw1⟩:∃ W,W=w.alloc (.cells #[.int .i64 0,.int .i64 0,.int .i64 0,.int .i64 0,.int .i64 0,.slice none 0 0] 57):=⟨_,rfl⟩
 have b1:Below w.heap.size w w1:=by rw [hw1];exact(Below.refl _ _).alloc (Nat.le_refl _) _
 have kR:Bk w1 w.heap.size 57 [.int .i64 0,.int .i64 0,.int .i64 0,.int .i64 0,.int .i64 0,.slice none 0 0]:=by rw [hw1];exact Bk.new w _ _
 have C1:Chg [g] w w1:=Chg.ofBelow b1 _
 have cu1:=hc.below b1
 clear b1
 go_enter Tryz.func234,Tryz.ntmps234
 go_upto_region 1 with fail
 rw [<- hw1]
 clear hw1
 go_wp2_with fail
 refine(l1Below_c g 5 _ (by omega) cu1).mono ?_
 rintro e w2 ⟨v1,rfl,⟨a1,_,z1⟩,cu2,ch2⟩
 have e1:=z1 (by omega)
 clear z1 cu1
 go_wp2_with fail
 refine(l1Below_c g 4 _ (by omega) cu2).mono ?_
 rintro e w3 ⟨v2,rfl,⟨a2,_,z2⟩,cu3,ch3⟩
 have e2:=z2 (by omega)
 clear z2 cu2
 go_wp2_with fail
 refine(l1Below_c g 4 _ (by omega) cu3).mono ?_
 rintro e w4 ⟨v3,rfl,⟨a3,_,z3⟩,cu4,ch4⟩
 have e3:=z3 (by omega)
 clear z3 cu3
 go_wp2_with fail
 refine(l1Below_c g 3 _ (by omega) cu4).mono ?_
 rintro e w5 ⟨v4,rfl,⟨a4,_,z4⟩,cu5,ch5⟩
 have e4:=z4 (by omega)
 clear z4 cu4
 obtain⟨w6,hw6⟩:∃ W,W=w5.alloc (.cells #[.int .i64 (1+v1),.int .i64 v2,.int .i64 v3,.int .i64 v4,.int .i64 0,.slice none 0 0] 57):=⟨_,rfl⟩
 have b6:Below w5.heap.size w5 w6:=by rw [hw6];exact(Below.refl _ _).alloc (Nat.le_refl _) _
 have hz1:=kR.lt
 have hz5:w.heap.size<w5.heap.size:=by have:=ch2.size;have:=ch3.size;have:=ch4.size;have:=ch5.size;omega
 have D5:=((ch2.trans ch3).trans ch4).trans ch5
 have H:Ob w g w5.heap.size ⟨1+v1,v2,v3,v4,0,[]⟩ none 0 0 w6 :=
  ⟨cu5.below b6,(C1.trans D5).trans (Chg.ofBelow b6 _),Bk.below (w:=w5) ((D5.block _ kR.lt (by simp;omega)).trans kR) b6,by rw [hw6];exact Bk.new w5 _ _,MS.nil _ (Nat.zero_le _),⟨by dsimp only;unfold I64;omega,by dsimp only;unfold I64;omega,by dsimp only;unfold I64;omega,by dsimp only;unfold I64;omega,I64_zero⟩,hz5,hgw⟩
 obtain⟨gO,hgO⟩:∃ z,z=w5.heap.size:=⟨_,rfl⟩
 obtain⟨o,ho⟩:∃ o:OperatorD,o=⟨1+v1,v2,v3,v4,0,[]⟩:=⟨_,rfl⟩
 have hst:o.fSteps=[]:=by rw [ho]
 rw [<- hgO,<- ho]at H
 clear D5 ch2 ch3 ch4 ch5 C1 kR cu5 b6 ho hz1 hz5
 go_upto_region 2 with fail
 rw [<- hgO,<- hw6]
 clear hgO hw6
 go_wp2_with fail
 refine(l1Once_c g 3 _ (by omega) H.cu).mono ?_
 rintro e w7 ⟨b,rfl,cu7,ch7⟩
 replace H:=H.step ch7 cu7
 clear cu7 ch7
 cases b
 focus
  go_upto_region 4 with fail
  obtain⟨wr,rfl⟩:∃ z,z=w7:=⟨_,rfl⟩
 rotate_left
 focus
  go_wp2_with fail
  refine(l1Below_c g 3 _ (by omega) H.cu).mono ?_
  rintro e w8 ⟨v5,rfl,⟨a5,_,z5⟩,cu8,ch8⟩
  have e5:=z5 (by omega)
  replace H:=H.step ch8 cu8
  have f4:=H.kO.frozen 4
  have c4:=H.kO.bx 4 _ rfl
  have H9:=H.put 4 (.int .i64 v5) (o':=⟨o.fFixed,o.fPerLeft,o.fPerRight,o.fPerOutput,v5,o.fSteps⟩) H.ms (H.kO.set 4 _) ⟨H.rg.1,H.rg.2.1,H.rg.2.2.1,H.rg.2.2.2.1,by dsimp only;unfold I64;omega⟩
  clear cu8 ch8 z5
  go_upto_region 4 with fail
  obtain⟨wr,hwr⟩:∃ W,W=w8.setCell ⟨gO,4,none⟩ (.int .i64 v5):=⟨_,rfl⟩
  rw [<- hwr]at H9 ⊢
  obtain⟨o2,ho2⟩:∃ o2:OperatorD,o2=⟨o.fFixed,o.fPerLeft,o.fPerRight,o.fPerOutput,v5,o.fSteps⟩:=⟨_,rfl⟩
  have hst2:o2.fSteps=[]:=by rw [ho2];exact hst
  rw [<- ho2]at H9
  clear H hwr ho2 hst f4 c4
  obtain⟨o,rfl⟩:∃ z,z=o2:=⟨_,rfl⟩
  have H:=H9
  have hst:=hst2
  clear H9 hst2
 all_goals
  go_wp2_with fail
  refine(l1Once_c g 3 _ (by omega) H.cu).mono ?_
  rintro e w10 ⟨b,rfl,cu10,ch10⟩
  replace H:=H.step ch10 cu10
  clear cu10 ch10
  cases b
  ·have hlen:o.fSteps.length<=1:=by rw [hst];decide
   obtain⟨A,hA⟩:∃ A:Option Addr,A=none:=⟨_,rfl⟩
   have ⟨x0,_,x1,_,x2,_,x3,_,x4,_,x5,_⟩:=H.kO.r6
   have ⟨r0,f0,r1,f1,r2,f2,r3,f3,r4,f4,r5,f5⟩:=H.kR.r6
   go_wp2
   have ⟨q0,_,q1,_,q2,_,q3,_,q4,_,q5,_⟩:=H.kR.set6 (.int .i64 o.fFixed) (.int .i64 o.fPerLeft) (.int .i64 o.fPerRight) (.int .i64 o.fPerOutput) (.int .i64 o.fPerPair) (.slice none 0 0) |>.r6
   refine bodyPost_ret (v:=.agg #[.int .i64 o.fFixed,.int .i64 o.fPerLeft,.int .i64 o.fPerRight,.int .i64 o.fPerOutput,.int .i64 o.fPerPair,.slice none 0 0]) (by simp [results,Tryz.results234,go_sem,q0,q1,q2,q3,q4,q5]) rfl ?_
   exact H.fin (by simpa using hlen)
  ·have h0:True:=trivial
   have HD:=H.step (Chg.ofBelow ((Below.refl w10.heap.size w10).drew) [g]) (H.cu.below (Below.refl _ _).drew)
   have HSS:=Lib.hid (fun (w':World) (hh:Bk w' gO 57 [.int .i64 o.fFixed,.int .i64 o.fPerLeft,.int .i64 o.fPerRight,.int .i64 o.fPerOutput,.int .i64 o.fPerPair,.slice none 0 0])=>(hh.bx 5 _ rfl:w'.cell? ⟨gO,5,none⟩=some (.slice none 0 0)))
   have x5:=H.kO.bx 5 _ rfl
   have f5:=H.kO.frozen 5
   go_wp2_with fail
   refine hgg 11 HSS.out HD.kO (fun hHeld=>?_)
   refine tgk 0 21 hHeld ?_;simp only [putS]
   refine tgk 1 22 hHeld ?_;simp only [putS]
   refine tgk 2 23 hHeld ?_;simp only [putS]
   refine tgk 5 26 hHeld ?_;simp only [putS]
   have HA:=HD.step (Chg.ofBelow ((Below.refl _ _).alloc (Nat.le_refl _) (.cells #[.int .i64 1,.int .i64 5,.int .i64 17,.int .i64 32] 3)) [g]) (HD.cu.alloc _)
   refine rg 3 (some 24) fun K hK=>?_
   clear hHeld
   go_simp
   refine hK.out _ _ (fun _=>HSS.out _ HA.kO) fun hHeld=>?_
   replace hHeld:=hHeld (by decide)
   clear hK K
   try simp only [putS]
   refine rg 4 (some 25) fun K hK=>?_
   clear hHeld
   go_simp
   refine(l1PickInt_c g _ 4 4 [1,5,17,32] _ (RS.lit w10.drew [1,5,17,32] _ (by simp) (by simp [I64])) HD.cu.ne (by omega) HA.cu).mono ?_
   rintro e wB ⟨x,rfl,hx,cuP,chP⟩
   have HB:=HA.step chP cuP
   go_wp2_with fail
   refine hK.out _ _ (fun _=>HSS.out _ HB.kO) fun hHeld=>?_
   replace hHeld:=hHeld (by decide)
   clear hK K
   try simp only [putS]
   refine rg 6 (some 27) fun K hK=>?_
   clear hHeld
   go_simp
   refine(l1Below_c g 20 _ (by omega) HB.cu).mono ?_
   rintro e wE ⟨y,rfl,⟨y0,_,y1⟩,cuQ,chQ⟩
   have HE:=HB.step chQ cuQ
   go_wp2_with fail
   refine hK.out _ _ (fun _=>HSS.out _ HE.kO) fun hHeld=>?_
   replace hHeld:=hHeld (by decide)
   clear hK K
   try simp only [putS]

   have hxI:I64 x:=by rcases mem4 hx with rfl|rfl|rfl|rfl<;>(unfold I64;omega)
   have hy20:=y1 (by omega)
   have hyI:I64 y:=by unfold I64;omega
   refine tgk 7 28 hHeld ?_;simp only [putS]
   have hAl:=(Below.refl wE.heap.size wE).alloc (Nat.le_refl _) (.cells #[.int .i64 x,.int .i64 y] 216)
   have HF:=HE.step (Chg.ofBelow hAl [g]) (HE.cu.alloc _)
   have hze:w.heap.size+1<=wE.heap.size:=HE.kR.lt
   refine rg 8 (some 29) fun K hK=>?_
   clear hHeld
   go_simp
   refine hK.out _ _ (fun _=>HSS.out _ HF.kO) fun hHeld=>?_
   replace hHeld:=hHeld (by decide)
   clear hK K
   try simp only [putS]
   refine rg 9 (some 30) fun K hK=>?_
   clear hHeld
   refine step_appR (r:=rCostStep NB) (by rfl) _ _ 55 (by rfl) _ 16 eiCostStep (rCostStep_ok NB) (by rfl) HE.ms hAl hze ⟨wE.heap.size,0,none⟩ (by rfl) (f:=[]) (cs:=[.int .i64 x,.int .i64 y]) (y:=⟨x,y⟩) (rCostStep_own.2 ⟨rfl,rfl,hxI,hyI⟩) (Fr.nil _) (cells_new _ _ _) (by unfold NB;omega) (Nat.le_refl _) (by omega) ?_
   intro A9 c9 w9 hM9 hb9 hg9 hA9
   have k9:=HF.kO.grw hg9 (steps_ne HF.ms HF.kO)
   have r9:=HF.kR.grw hg9 (steps_ne HF.ms HF.kR)
   refine hK.out _ _ (fun _=>HSS.out _ k9) fun hHeld=>?_
   replace hHeld:=hHeld (by decide)
   clear hK K
   try simp only [putS]
   refine tgk 10 31 hHeld ?_;simp only [putS]
   have f9:=k9.frozen 5
   have x9:=k9.bx 5 _ rfl
   refine rg 11 none fun K hK=>?_
   clear hHeld
   go_simp
   refine hK.out _ _ (fun h=>absurd rfl h) fun hHeld=>?_
   clear hK K
   try simp only [putS]
   refine wpG_done (by kernel_rfl) ?_ _
   clear hHeld
   have HG:=HF.app k9 r9 hb9 hM9
   clear k9 f9 x9 r9 HF HE hAl HD HSS
   obtain⟨wz,hwz⟩:∃ W,W=w9.setCell ⟨gO,5,none⟩ (.slice A9 1 c9):=⟨_,rfl⟩
   rw [Nat.zero_add,<- hwz]at HG
   rw [<- hwz]
   obtain⟨o2,ho2⟩:∃ o2:OperatorD,o2=⟨o.fFixed,o.fPerLeft,o.fPerRight,o.fPerOutput,o.fPerPair,o.fSteps++[⟨x,y⟩]⟩:=⟨_,rfl⟩
   have hlen:o2.fSteps.length<=1:=by rw [ho2];simp [hst]
   rw [<- ho2]at HG
   clear hwz ho2
   have ⟨x0,_,x1,_,x2,_,x3,_,x4,_,x5,_⟩:=HG.kO.r6
   have ⟨r0,f0,r1,f1,r2,f2,r3,f3,r4,f4,r5,f5⟩:=HG.kR.r6
   go_wp2
   have ⟨q0,_,q1,_,q2,_,q3,_,q4,_,q5,_⟩:=HG.kR.set6 (.int .i64 o2.fFixed) (.int .i64 o2.fPerLeft) (.int .i64 o2.fPerRight) (.int .i64 o2.fPerOutput) (.int .i64 o2.fPerPair) (.slice A9 1 c9) |>.r6
   refine bodyPost_ret (v:=.agg #[.int .i64 o2.fFixed,.int .i64 o2.fPerLeft,.int .i64 o2.fPerRight,.int .i64 o2.fPerOutput,.int .i64 o2.fPerPair,.slice A9 1 c9]) (by simp [results,Tryz.results234,go_sem,q0,q1,q2,q3,q4,q5]) rfl ?_
   exact HG.fin hlen
end Go.Proofs.YtadgmjdafkihfaaGreat
namespace Go.Proofs.YtadgmjdafkihfaaGreat
open Go.RowKit
set_option linter.unusedVariables false
set_option linter.unusedSimpArgs false
attribute [local go_sem ↓] Go.wp_at_zero Go.wp_at_succ
set_option maxRecDepth 100000 in
set_option maxHeartbeats 12800000 in
theorem l21Any_c (g:Nat) (w:World) (hc:Cur w g):Calls Tryz.prog 183 #[.pointer (some ⟨g,0,none⟩)] w (DrawnV (rOperator NB) (fun o=>o.fSteps.length<=2) g w):=by
 have hgw:=hc.lt
 obtain⟨w1,hw1⟩:∃ W,W=w.alloc (.cells #[.int .i64 0,.int .i64 0,.int .i64 0,.int .i64 0,.int .i64 0,.slice none 0 0] 57):=⟨_,rfl⟩
 have b1:Below w.heap.size w w1:=by rw [hw1];exact(Below.refl _ _).alloc (Nat.le_refl _) _
 have hs1:w1.heap.size=w.heap.size+1:=by rw [hw1];simp
 have kR:Bk w1 w.heap.size 57 [.int .i64 0,.int .i64 0,.int .i64 0,.int .i64 0,.int .i64 0,.slice none 0 0]:=by rw [hw1];exact Bk.new w _ _
 have C1:Chg [g] w w1:=Chg.ofBelow b1 _
 have cu1:=hc.below b1
 have HS1:=Lib.hid hs1
 clear b1 hs1
 go_enter Tryz.func183,Tryz.ntmps183
 go_upto_region 1 with fail
 rw [<- hw1]
 clear hw1
 go_wp2_with fail
 refine(l21Op_c g _ cu1).mono ?_
 rintro e w2 ⟨o,cs,fp,rfl,oO,fO,hst,cu2,ch2⟩
 obtain⟨A,n,c,_,rfl,rfl,i1,i2,i3,i4,i5,oS⟩:=rOperator_own.1 oO
 obtain⟨w3,hw3⟩:∃ W,W=w2.alloc (.cells #[.int .i64 o.fFixed,.int .i64 o.fPerLeft,.int .i64 o.fPerRight,.int .i64 o.fPerOutput,.int .i64 o.fPerPair,.slice A n c] 57):=⟨_,rfl⟩
 have b3:Below w2.heap.size w2 w3:=by rw [hw3];exact(Below.refl _ _).alloc (Nat.le_refl _) _
 have hz2:w.heap.size<w2.heap.size:=by have:=ch2.size;have:=HS1.out;omega
 have H:Ob w g w2.heap.size o A n c w3 :=
  ⟨cu2.below b3,(C1.trans ch2).trans (Chg.ofBelow b3 _),Bk.below (w:=w2) ((ch2.block _ kR.lt (by simp;omega)).trans kR) b3,by rw [hw3];exact Bk.new w2 _ _,⟨_,oS.belowS (rCostStep_ok NB) b3,fO.mono (by have:=HS1.out;omega)⟩,⟨i1,i2,i3,i4,i5⟩,hz2,hgw⟩
 obtain⟨gO,hgO⟩:∃ z,z=w2.heap.size:=⟨_,rfl⟩
 rw [<- hgO]at H
 have hnl:=oS.len
 clear oO oS fO cu2 ch2 C1 kR cu1 b3 hz2 HS1 i1 i2 i3 i4 i5
 go_upto_region 2 with fail
 rw [<- hgO,<- hw3]
 clear hgO hw3
 go_wp2_with fail
 refine(l1Below_c g 10 _ (by omega) H.cu).mono ?_
 rintro e w4 ⟨k,rfl,⟨k0,_,k1⟩,cu4,ch4⟩
 replace H:=H.step ch4 cu4
 clear cu4 ch4 k1
 by_cases e0:k=0
 ·subst e0
  go_wp2_with fail
  refine(l1PickInt_c g _ 4 4 [-1,99,100,-100] _ (RS.lit w4 [-1,99,100,-100] _ (by simp) (by simp [I64])) H.cu.ne (by omega) (H.cu.alloc _)).mono ?_
  rintro e w5 ⟨x,rfl,hx,cu5,ch5⟩
  have hxI:I64 x:=by simp at hx;unfold I64;omega
  have HA:=H.step (Chg.ofBelow ((Below.refl _ _).alloc (Nat.le_refl _) (.cells #[.int .i64 (-1),.int .i64 99,.int .i64 100,.int .i64 (-100)] 3)) [g]) (H.cu.alloc _)
  have HB:=HA.step ch5 cu5
  have fz:=HB.kO.frozen 1
  have cz:=HB.kO.bx 1 _ rfl
  have H9:=HB.put 1 (.int .i64 x) (o':=⟨o.fFixed,x,o.fPerRight,o.fPerOutput,o.fPerPair,o.fSteps⟩) HB.ms (HB.kO.set 1 _) ⟨HB.rg.1,hxI,HB.rg.2.2.1,HB.rg.2.2.2.1,HB.rg.2.2.2.2⟩
  clear H HA HB cu5 ch5
  go_upto_region 9 with fail
  obtain⟨wr,hwr⟩:∃ W,W=w5.setCell ⟨gO,1,none⟩ (.int .i64 x):=⟨_,rfl⟩
  rw [<- hwr]at H9 ⊢
  obtain⟨o2,ho2⟩:∃ o2:OperatorD,o2=⟨o.fFixed,x,o.fPerRight,o.fPerOutput,o.fPerPair,o.fSteps⟩:=⟨_,rfl⟩
  have hlen:o2.fSteps.length<=2:=by rw [ho2];exact Nat.le_succ_of_le hst
  rw [<- ho2]at H9
  clear hwr ho2 fz cz
  have ⟨x0,_,x1,_,x2,_,x3,_,x4,_,x5,_⟩:=H9.kO.r6
  have ⟨r0,f0,r1,f1,r2,f2,r3,f3,r4,f4,r5,f5⟩:=H9.kR.r6
  go_wp2
  have ⟨q0,_,q1,_,q2,_,q3,_,q4,_,q5,_⟩:=H9.kR.set6 (.int .i64 o2.fFixed) (.int .i64 o2.fPerLeft) (.int .i64 o2.fPerRight) (.int .i64 o2.fPerOutput) (.int .i64 o2.fPerPair) (.slice A n c) |>.r6
  refine bodyPost_ret (v:=.agg #[.int .i64 o2.fFixed,.int .i64 o2.fPerLeft,.int .i64 o2.fPerRight,.int .i64 o2.fPerOutput,.int .i64 o2.fPerPair,.slice A n c]) (by simp [results,Tryz.results183,go_sem,q0,q1,q2,q3,q4,q5]) rfl ?_
  exact H9.fin hlen
 by_cases e2:k=2
 ·subst e2
  go_wp2_with fail
  refine(l1PickInt_c g _ 4 4 [0,-5,99,9223372036854775807] _ (RS.lit w4 [0,-5,99,9223372036854775807] _ (by simp) (by simp [I64])) H.cu.ne (by omega) (H.cu.alloc _)).mono ?_
  rintro e w5 ⟨x,rfl,hx,cu5,ch5⟩
  have hxI:I64 x:=by simp at hx;unfold I64;omega
  have HA:=H.step (Chg.ofBelow ((Below.refl _ _).alloc (Nat.le_refl _) (.cells #[.int .i64 0,.int .i64 (-5),.int .i64 99,.int .i64 9223372036854775807] 3)) [g]) (H.cu.alloc _)
  have HB:=HA.step ch5 cu5
  have fz:=HB.kO.frozen 0
  have cz:=HB.kO.bx 0 _ rfl
  have H9:=HB.put 0 (.int .i64 x) (o':=⟨x,o.fPerLeft,o.fPerRight,o.fPerOutput,o.fPerPair,o.fSteps⟩) HB.ms (HB.kO.set 0 _) ⟨hxI,HB.rg.2.1,HB.rg.2.2.1,HB.rg.2.2.2.1,HB.rg.2.2.2.2⟩
  clear H HA HB cu5 ch5
  go_upto_region 9 with fail
  obtain⟨wr,hwr⟩:∃ W,W=w5.setCell ⟨gO,0,none⟩ (.int .i64 x):=⟨_,rfl⟩
  rw [<- hwr]at H9 ⊢
  obtain⟨o2,ho2⟩:∃ o2:OperatorD,o2=⟨x,o.fPerLeft,o.fPerRight,o.fPerOutput,o.fPerPair,o.fSteps⟩:=⟨_,rfl⟩
  have hlen:o2.fSteps.length<=2:=by rw [ho2];exact Nat.le_succ_of_le hst
  rw [<- ho2]at H9
  clear hwr ho2 fz cz
  have ⟨x0,_,x1,_,x2,_,x3,_,x4,_,x5,_⟩:=H9.kO.r6
  have ⟨r0,f0,r1,f1,r2,f2,r3,f3,r4,f4,r5,f5⟩:=H9.kR.r6
  go_wp2
  have ⟨q0,_,q1,_,q2,_,q3,_,q4,_,q5,_⟩:=H9.kR.set6 (.int .i64 o2.fFixed) (.int .i64 o2.fPerLeft) (.int .i64 o2.fPerRight) (.int .i64 o2.fPerOutput) (.int .i64 o2.fPerPair) (.slice A n c) |>.r6
  refine bodyPost_ret (v:=.agg #[.int .i64 o2.fFixed,.int .i64 o2.fPerLeft,.int .i64 o2.fPerRight,.int .i64 o2.fPerOutput,.int .i64 o2.fPerPair,.slice A n c]) (by simp [results,Tryz.results183,go_sem,q0,q1,q2,q3,q4,q5]) rfl ?_
  exact H9.fin hlen
 by_cases e1:k=1
 rotate_left
 ·have hlen:o.fSteps.length<=2:=Nat.le_succ_of_le hst
  have ⟨x0,_,x1,_,x2,_,x3,_,x4,_,x5,_⟩:=H.kO.r6
  have ⟨r0,f0,r1,f1,r2,f2,r3,f3,r4,f4,r5,f5⟩:=H.kR.r6
  go_wp2
  have ⟨q0,_,q1,_,q2,_,q3,_,q4,_,q5,_⟩:=H.kR.set6 (.int .i64 o.fFixed) (.int .i64 o.fPerLeft) (.int .i64 o.fPerRight) (.int .i64 o.fPerOutput) (.int .i64 o.fPerPair) (.slice A n c) |>.r6
  refine bodyPost_ret (v:=.agg #[.int .i64 o.fFixed,.int .i64 o.fPerLeft,.int .i64 o.fPerRight,.int .i64 o.fPerOutput,.int .i64 o.fPerPair,.slice A n c]) (by simp [results,Tryz.results183,go_sem,q0,q1,q2,q3,q4,q5]) rfl ?_
  exact H.fin hlen
 ·subst e1
  have hn2:n<=1:=by rw [<- hnl];exact hst
  have HD:=H.step (Chg.ofBelow ((Below.refl w4.heap.size w4).drew) [g]) (H.cu.below (Below.refl _ _).drew)
  have HSS:=Lib.hid (fun (w':World) (hh:Bk w' gO 57 [.int .i64 o.fFixed,.int .i64 o.fPerLeft,.int .i64 o.fPerRight,.int .i64 o.fPerOutput,.int .i64 o.fPerPair,.slice A n c])=>(hh.bx 5 _ rfl:w'.cell? ⟨gO,5,none⟩=some (.slice A n c)))
  have x5:=H.kO.bx 5 _ rfl
  have f5:=H.kO.frozen 5
  go_upto_region 6 with fail
  refine hgg 12 HSS.out HD.kO (fun hHeld=>?_)
  refine tgk 0 16 hHeld ?_;simp only [putS]
  refine tgk 1 17 hHeld ?_;simp only [putS]
  refine tgk 2 18 hHeld ?_;simp only [putS]
  refine tgk 5 21 hHeld ?_;simp only [putS]
  refine rg2 3 (some 19) 6 (some 22) (fun K hK=>?_) fun K hK=>?_
  all_goals clear hHeld
  ·have HA:=HD.step (Chg.ofBelow ((Below.refl _ _).alloc (Nat.le_refl _) (.cells #[.int .i64 0,.int .i64 1,.int .i64 64,.int .i64 8192,.int .i64 8193] 3)) [g]) (HD.cu.alloc _)
   have rA:=(RS.lit w4.drew [0,1,64,8192,8193] 3 (by simp) (by simp [I64]))
   go_simp
   refine hK.out _ _ (fun _=>HSS.out _ HA.kO) fun hHeld=>?_
   replace hHeld:=hHeld (by decide)
   clear hK K
   try simp only [putS]
   refine rg2 4 (some 20) 6 (some 22) (fun K hK=>?_) fun K hK=>?_
   all_goals clear hHeld
   ·go_simp
    refine(l1PickInt_c g _ 5 5 [0,1,64,8192,8193] _ rA HD.cu.ne (by omega) HA.cu).mono ?_
    rintro e wB ⟨x,rfl,hx,cux,chx⟩
    have HB:=HA.step chx cux
    go_wp2_with fail
    refine hK.out _ _ (fun _=>HSS.out _ HB.kO) fun hHeld=>?_
    replace hHeld:=hHeld (by decide)
    clear hK K
    try simp only [putS]
    have HC:=HB.step (Chg.ofBelow ((Below.refl _ _).alloc (Nat.le_refl _) (.cells #[.int .i64 (-3),.int .i64 (-99),.int .i64 4,.int .i64 100] 3)) [g]) (HB.cu.alloc _)
    refine rg 6 (some 22) fun K hK=>?_
    clear hHeld
    go_simp
    refine hK.out _ _ (fun _=>HSS.out _ HC.kO) fun hHeld=>?_
    replace hHeld:=hHeld (by decide)
    clear hK K
    try simp only [putS]
    refine rg 7 (some 23) fun K hK=>?_
    clear hHeld
    go_simp
    refine(l1PickInt_c g _ 4 4 [-3,-99,4,100] _ (RS.lit wB [-3,-99,4,100] _ (by simp) (by simp [I64])) HB.cu.ne (by omega) HC.cu).mono ?_
    rintro e wE ⟨y,rfl,hy,cuy,chy⟩
    have HE:=HC.step chy cuy
    go_wp2_with fail
    refine hK.out _ _ (fun _=>HSS.out _ HE.kO) fun hHeld=>?_
    replace hHeld:=hHeld (by decide)
    clear hK K
    try simp only [putS]
    have hxI:I64 x:=by simp at hx;unfold I64;omega
    have hyI:I64 y:=by simp at hy;unfold I64;omega
    refine tgk 8 24 hHeld ?_;simp only [putS]
    have hAl:=(Below.refl wE.heap.size wE).alloc (Nat.le_refl _) (.cells #[.int .i64 x,.int .i64 y] 216)
    have HF:=HE.step (Chg.ofBelow hAl [g]) (HE.cu.alloc _)
    have hze:w.heap.size+1<=wE.heap.size:=HE.kR.lt
    refine rg 9 (some 25) fun K hK=>?_
    clear hHeld
    go_simp
    refine hK.out _ _ (fun _=>HSS.out _ HF.kO) fun hHeld=>?_
    replace hHeld:=hHeld (by decide)
    clear hK K
    try simp only [putS]
    refine rg 10 (some 26) fun K hK=>?_
    clear hHeld
    refine step_appR (r:=rCostStep NB) (by rfl) _ _ 55 (by rfl) _ 16 eiCostStep (rCostStep_ok NB) (by rfl) HE.ms hAl hze ⟨wE.heap.size,0,none⟩ (by rfl) (f:=[]) (cs:=[.int .i64 x,.int .i64 y]) (y:=⟨x,y⟩) (rCostStep_own.2 ⟨rfl,rfl,hxI,hyI⟩) (Fr.nil _) (cells_new _ _ _) (by unfold NB;omega) (Nat.le_refl _) (by omega) ?_
    intro A9 c9 w9 hM9 hb9 hg9 hA9
    have k9:=HF.kO.grw hg9 (steps_ne HF.ms HF.kO)
    have r9:=HF.kR.grw hg9 (steps_ne HF.ms HF.kR)
    refine hK.out _ _ (fun _=>HSS.out _ k9) fun hHeld=>?_
    replace hHeld:=hHeld (by decide)
    clear hK K
    try simp only [putS]
    refine tgk 11 27 hHeld ?_;simp only [putS]
    have f9:=k9.frozen 5
    have x9:=k9.bx 5 _ rfl
    refine rg 12 none fun K hK=>?_
    clear hHeld
    go_simp
    refine hK.out _ _ (fun h=>absurd rfl h) fun hHeld=>?_
    clear hK K
    try simp only [putS]
    refine wpG_done (by kernel_rfl) ?_ _
    clear hHeld
    have HG:=HF.app k9 r9 hb9 hM9
    clear k9 f9 x9 r9 HF HE hAl HD HSS
    obtain⟨wz,hwz⟩:∃ W,W=w9.setCell ⟨gO,5,none⟩ (.slice A9 (n+1) c9):=⟨_,rfl⟩
    rw [<- hwz]at HG
    obtain⟨o2,ho2⟩:∃ o2:OperatorD,o2=⟨o.fFixed,o.fPerLeft,o.fPerRight,o.fPerOutput,o.fPerPair,o.fSteps++[⟨x,y⟩]⟩:=⟨_,rfl⟩
    have hlen:o2.fSteps.length<=2:=by rw [ho2];simp;omega
    rw [<- ho2]at HG
    go_upto_region 9 with fail
    rw [<- hwz]
    clear hwz ho2
    have ⟨x0,_,x1,_,x2,_,x3,_,x4,_,x5,_⟩:=HG.kO.r6
    have ⟨r0,f0,r1,f1,r2,f2,r3,f3,r4,f4,r5,f5⟩:=HG.kR.r6
    go_wp2
    have ⟨q0,_,q1,_,q2,_,q3,_,q4,_,q5,_⟩:=HG.kR.set6 (.int .i64 o2.fFixed) (.int .i64 o2.fPerLeft) (.int .i64 o2.fPerRight) (.int .i64 o2.fPerOutput) (.int .i64 o2.fPerPair) (.slice A9 (n+1) c9) |>.r6
    refine bodyPost_ret (v:=.agg #[.int .i64 o2.fFixed,.int .i64 o2.fPerLeft,.int .i64 o2.fPerRight,.int .i64 o2.fPerOutput,.int .i64 o2.fPerPair,.slice A9 (n+1) c9]) (by simp [results,Tryz.results183,go_sem,q0,q1,q2,q3,q4,q5]) rfl ?_
    exact HG.fin hlen
   ·have hw:True:=trivial
    obtain⟨wC,hwC⟩:∃ W,W=((w4.alloc (.cells #[.int .i64 0,.int .i64 1,.int .i64 64,.int .i64 8192,.int .i64 8193] 3)).alloc (.cells #[.int .i64 (-3),.int .i64 (-99),.int .i64 4,.int .i64 100] 3)).drew:=⟨_,rfl⟩
    have HC0:=HA.step (Chg.ofBelow ((Below.refl _ _).alloc (Nat.le_refl _) (.cells #[.int .i64 (-3),.int .i64 (-99),.int .i64 4,.int .i64 100] 3)) [g]) (HA.cu.alloc _)
    have HC:Ob w g gO o A n c wC:=by rw [hwC];exact HC0
    have bA:=(Below.refl (w4.drew.alloc (.cells #[.int .i64 0,.int .i64 1,.int .i64 64,.int .i64 8192,.int .i64 8193] 3)).heap.size (w4.drew.alloc (.cells #[.int .i64 0,.int .i64 1,.int .i64 64,.int .i64 8192,.int .i64 8193] 3))).alloc (Nat.le_refl _) (.cells #[.int .i64 (-3),.int .i64 (-99),.int .i64 4,.int .i64 100] 3)
    have kL0:=Bk.new (w4.drew.alloc (.cells #[.int .i64 0,.int .i64 1,.int .i64 64,.int .i64 8192,.int .i64 8193] 3)) ([-3,-99,4,100].map (Value.int .i64)) 3
    have eL:(w4.drew.alloc (.cells #[.int .i64 0,.int .i64 1,.int .i64 64,.int .i64 8192,.int .i64 8193] 3)).heap.size=w4.heap.size+1:=by simp
    rw [eL]at kL0
    have kL:Bk wC (w4.heap.size+1) 3 ([-3,-99,4,100].map (Value.int .i64)):=by rw [hwC];exact kL0
    have rA2:RS NB rInt wC (some ⟨w4.heap.size,0,none⟩) 5 5 [0,1,64,8192,8193]:=by rw [hwC];exact rA.below rInt_ok bA
    have gA:g<w4.heap.size:=HD.cu.lt
    clear kL0 eL bA rA
    go_simp
    refine hK.out _ _ (fun _=>HSS.out _ HC0.kO) fun hHeld=>?_
    replace hHeld:=hHeld (by decide)
    clear hK K
    try simp only [putS]
    rw [<- hwC]
    clear hwC HC0
    refine rg 4 (some 20) fun K hK=>?_
    clear hHeld
    go_simp
    refine(l1PickInt_c g _ 5 5 [0,1,64,8192,8193] _ rA2 HD.cu.ne (by omega) HC.cu).mono ?_
    rintro e wB ⟨x,rfl,hx,cux,chx⟩
    have HB:=HC.step chx cux
    go_wp2_with fail
    refine hK.out _ _ (fun _=>HSS.out _ HB.kO) fun hHeld=>?_
    replace hHeld:=hHeld (by decide)
    clear hK K
    try simp only [putS]
    have rL:=RS.ofBk (l:=[-3,-99,4,100]) ((chx.block _ kL.lt (by simp;omega)).trans kL) (by simp) (by simp [I64])
    have neL:∀ k∈blk (some ⟨w4.heap.size+1,0,none⟩),k≠g:=fun k hk=>by simp [blk]at hk;omega
    refine rg 7 (some 23) fun K hK=>?_
    clear hHeld
    go_simp
    refine(l1PickInt_c g _ 4 4 [-3,-99,4,100] _ rL neL (by omega) HB.cu).mono ?_
    rintro e wE ⟨y,rfl,hy,cuy,chy⟩
    have HE:=HB.step chy cuy
    go_wp2_with fail
    refine hK.out _ _ (fun _=>HSS.out _ HE.kO) fun hHeld=>?_
    replace hHeld:=hHeld (by decide)
    clear hK K
    try simp only [putS]
    have hxI:I64 x:=by simp at hx;unfold I64;omega
    have hyI:I64 y:=by simp at hy;unfold I64;omega
    refine tgk 8 24 hHeld ?_;simp only [putS]
    have hAl:=(Below.refl wE.heap.size wE).alloc (Nat.le_refl _) (.cells #[.int .i64 x,.int .i64 y] 216)
    have HF:=HE.step (Chg.ofBelow hAl [g]) (HE.cu.alloc _)
    have hze:w.heap.size+1<=wE.heap.size:=HE.kR.lt
    refine rg 9 (some 25) fun K hK=>?_
    clear hHeld
    go_simp
    refine hK.out _ _ (fun _=>HSS.out _ HF.kO) fun hHeld=>?_
    replace hHeld:=hHeld (by decide)
    clear hK K
    try simp only [putS]
    refine rg 10 (some 26) fun K hK=>?_
    clear hHeld
    refine step_appR (r:=rCostStep NB) (by rfl) _ _ 55 (by rfl) _ 16 eiCostStep (rCostStep_ok NB) (by rfl) HE.ms hAl hze ⟨wE.heap.size,0,none⟩ (by rfl) (f:=[]) (cs:=[.int .i64 x,.int .i64 y]) (y:=⟨x,y⟩) (rCostStep_own.2 ⟨rfl,rfl,hxI,hyI⟩) (Fr.nil _) (cells_new _ _ _) (by unfold NB;omega) (Nat.le_refl _) (by omega) ?_
    intro A9 c9 w9 hM9 hb9 hg9 hA9
    have k9:=HF.kO.grw hg9 (steps_ne HF.ms HF.kO)
    have r9:=HF.kR.grw hg9 (steps_ne HF.ms HF.kR)
    refine hK.out _ _ (fun _=>HSS.out _ k9) fun hHeld=>?_
    replace hHeld:=hHeld (by decide)
    clear hK K
    try simp only [putS]
    refine tgk 11 27 hHeld ?_;simp only [putS]
    have f9:=k9.frozen 5
    have x9:=k9.bx 5 _ rfl
    refine rg 12 none fun K hK=>?_
    clear hHeld
    go_simp
    refine hK.out _ _ (fun h=>absurd rfl h) fun hHeld=>?_
    clear hK K
    try simp only [putS]
    refine wpG_done (by kernel_rfl) ?_ _
    clear hHeld
    have HG:=HF.app k9 r9 hb9 hM9
    clear k9 f9 x9 r9 HF HE hAl HD HSS
    obtain⟨wz,hwz⟩:∃ W,W=w9.setCell ⟨gO,5,none⟩ (.slice A9 (n+1) c9):=⟨_,rfl⟩
    rw [<- hwz]at HG
    obtain⟨o2,ho2⟩:∃ o2:OperatorD,o2=⟨o.fFixed,o.fPerLeft,o.fPerRight,o.fPerOutput,o.fPerPair,o.fSteps++[⟨x,y⟩]⟩:=⟨_,rfl⟩
    have hlen:o2.fSteps.length<=2:=by rw [ho2];simp;omega
    rw [<- ho2]at HG
    go_upto_region 9 with fail
    rw [<- hwz]
    clear hwz ho2
    have ⟨x0,_,x1,_,x2,_,x3,_,x4,_,x5,_⟩:=HG.kO.r6
    have ⟨r0,f0,r1,f1,r2,f2,r3,f3,r4,f4,r5,f5⟩:=HG.kR.r6
    go_wp2
    have ⟨q0,_,q1,_,q2,_,q3,_,q4,_,q5,_⟩:=HG.kR.set6 (.int .i64 o2.fFixed) (.int .i64 o2.fPerLeft) (.int .i64 o2.fPerRight) (.int .i64 o2.fPerOutput) (.int .i64 o2.fPerPair) (.slice A9 (n+1) c9) |>.r6
    refine bodyPost_ret (v:=.agg #[.int .i64 o2.fFixed,.int .i64 o2.fPerLeft,.int .i64 o2.fPerRight,.int .i64 o2.fPerOutput,.int .i64 o2.fPerPair,.slice A9 (n+1) c9]) (by simp [results,Tryz.results183,go_sem,q0,q1,q2,q3,q4,q5]) rfl ?_
    exact HG.fin hlen
  ·have hw:True:=trivial
   obtain⟨wC,hwC⟩:∃ W,W=((w4.alloc (.cells #[.int .i64 (-3),.int .i64 (-99),.int .i64 4,.int .i64 100] 3)).alloc (.cells #[.int .i64 0,.int .i64 1,.int .i64 64,.int .i64 8192,.int .i64 8193] 3)).drew:=⟨_,rfl⟩
   have HA:=HD.step (Chg.ofBelow ((Below.refl _ _).alloc (Nat.le_refl _) (.cells #[.int .i64 (-3),.int .i64 (-99),.int .i64 4,.int .i64 100] 3)) [g]) (HD.cu.alloc _)
   have HC0:=HA.step (Chg.ofBelow ((Below.refl _ _).alloc (Nat.le_refl _) (.cells #[.int .i64 0,.int .i64 1,.int .i64 64,.int .i64 8192,.int .i64 8193] 3)) [g]) (HA.cu.alloc _)
   have HC:Ob w g gO o A n c wC:=by rw [hwC];exact HC0
   have bA:=(Below.refl (w4.drew.alloc (.cells #[.int .i64 (-3),.int .i64 (-99),.int .i64 4,.int .i64 100] 3)).heap.size (w4.drew.alloc (.cells #[.int .i64 (-3),.int .i64 (-99),.int .i64 4,.int .i64 100] 3))).alloc (Nat.le_refl _) (.cells #[.int .i64 0,.int .i64 1,.int .i64 64,.int .i64 8192,.int .i64 8193] 3)
   have kL:Bk wC w4.heap.size 3 ([-3,-99,4,100].map (Value.int .i64)):=by rw [hwC];exact(Bk.new w4.drew ([-3,-99,4,100].map (Value.int .i64)) 3).below bA
   have eL:(w4.drew.alloc (.cells #[.int .i64 (-3),.int .i64 (-99),.int .i64 4,.int .i64 100] 3)).heap.size=w4.heap.size+1:=by simp
   have rA:=RS.lit (w4.drew.alloc (.cells #[.int .i64 (-3),.int .i64 (-99),.int .i64 4,.int .i64 100] 3)) [0,1,64,8192,8193] 3 (by simp) (by simp [I64])
   rw [eL]at rA
   replace rA:RS NB rInt wC (some ⟨w4.heap.size+1,0,none⟩) 5 5 [0,1,64,8192,8193]:=by rw [hwC];exact rA
   have gA:g<w4.heap.size:=HD.cu.lt
   clear eL bA
   go_simp
   refine hK.out _ _ (fun _=>HSS.out _ HA.kO) fun hHeld=>?_
   replace hHeld:=hHeld (by decide)
   clear hK K
   try simp only [putS]
   refine rg 3 (some 19) fun K hK=>?_
   clear hHeld
   go_simp
   refine hK.out _ _ (fun _=>HSS.out _ HC0.kO) fun hHeld=>?_
   replace hHeld:=hHeld (by decide)
   clear hK K
   try simp only [putS]
   rw [<- hwC]
   clear hwC HC0 HA
   have neA:∀ k∈blk (some ⟨w4.heap.size+1,0,none⟩),k≠g:=fun k hk=>by simp [blk]at hk;omega
   refine rg 4 (some 20) fun K hK=>?_
   clear hHeld
   go_simp
   refine(l1PickInt_c g _ 5 5 [0,1,64,8192,8193] _ rA neA (by omega) HC.cu).mono ?_
   rintro e wB ⟨x,rfl,hx,cux,chx⟩
   have HB:=HC.step chx cux
   go_wp2_with fail
   refine hK.out _ _ (fun _=>HSS.out _ HB.kO) fun hHeld=>?_
   replace hHeld:=hHeld (by decide)
   clear hK K
   try simp only [putS]
   have rL:=RS.ofBk (l:=[-3,-99,4,100]) ((chx.block _ kL.lt (by simp;omega)).trans kL) (by simp) (by simp [I64])
   refine rg 7 (some 23) fun K hK=>?_
   clear hHeld
   go_simp
   refine(l1PickInt_c g _ 4 4 [-3,-99,4,100] _ rL HD.cu.ne (by omega) HB.cu).mono ?_
   rintro e wE ⟨y,rfl,hy,cuy,chy⟩
   have HE:=HB.step chy cuy
   go_wp2_with fail
   refine hK.out _ _ (fun _=>HSS.out _ HE.kO) fun hHeld=>?_
   replace hHeld:=hHeld (by decide)
   clear hK K
   try simp only [putS]
   have hxI:I64 x:=by simp at hx;unfold I64;omega
   have hyI:I64 y:=by simp at hy;unfold I64;omega
   refine tgk 8 24 hHeld ?_;simp only [putS]
   have hAl:=(Below.refl wE.heap.size wE).alloc (Nat.le_refl _) (.cells #[.int .i64 x,.int .i64 y] 216)
   have HF:=HE.step (Chg.ofBelow hAl [g]) (HE.cu.alloc _)
   have hze:w.heap.size+1<=wE.heap.size:=HE.kR.lt
   refine rg 9 (some 25) fun K hK=>?_
   clear hHeld
   go_simp
   refine hK.out _ _ (fun _=>HSS.out _ HF.kO) fun hHeld=>?_
   replace hHeld:=hHeld (by decide)
   clear hK K
   try simp only [putS]
   refine rg 10 (some 26) fun K hK=>?_
   clear hHeld
   refine step_appR (r:=rCostStep NB) (by rfl) _ _ 55 (by rfl) _ 16 eiCostStep (rCostStep_ok NB) (by rfl) HE.ms hAl hze ⟨wE.heap.size,0,none⟩ (by rfl) (f:=[]) (cs:=[.int .i64 x,.int .i64 y]) (y:=⟨x,y⟩) (rCostStep_own.2 ⟨rfl,rfl,hxI,hyI⟩) (Fr.nil _) (cells_new _ _ _) (by unfold NB;omega) (Nat.le_refl _) (by omega) ?_
   intro A9 c9 w9 hM9 hb9 hg9 hA9
   have k9:=HF.kO.grw hg9 (steps_ne HF.ms HF.kO)
   have r9:=HF.kR.grw hg9 (steps_ne HF.ms HF.kR)
   refine hK.out _ _ (fun _=>HSS.out _ k9) fun hHeld=>?_
   replace hHeld:=hHeld (by decide)
   clear hK K
   try simp only [putS]
   refine tgk 11 27 hHeld ?_;simp only [putS]
   have f9:=k9.frozen 5
   have x9:=k9.bx 5 _ rfl
   refine rg 12 none fun K hK=>?_
   clear hHeld
   go_simp
   refine hK.out _ _ (fun h=>absurd rfl h) fun hHeld=>?_
   clear hK K
   try simp only [putS]
   refine wpG_done (by kernel_rfl) ?_ _
   clear hHeld
   have HG:=HF.app k9 r9 hb9 hM9
   clear k9 f9 x9 r9 HF HE hAl HD HSS
   obtain⟨wz,hwz⟩:∃ W,W=w9.setCell ⟨gO,5,none⟩ (.slice A9 (n+1) c9):=⟨_,rfl⟩
   rw [<- hwz]at HG
   obtain⟨o2,ho2⟩:∃ o2:OperatorD,o2=⟨o.fFixed,o.fPerLeft,o.fPerRight,o.fPerOutput,o.fPerPair,o.fSteps++[⟨x,y⟩]⟩:=⟨_,rfl⟩
   have hlen:o2.fSteps.length<=2:=by rw [ho2];simp;omega
   rw [<- ho2]at HG
   go_upto_region 9 with fail
   rw [<- hwz]
   clear hwz ho2
   have ⟨x0,_,x1,_,x2,_,x3,_,x4,_,x5,_⟩:=HG.kO.r6
   have ⟨r0,f0,r1,f1,r2,f2,r3,f3,r4,f4,r5,f5⟩:=HG.kR.r6
   go_wp2
   have ⟨q0,_,q1,_,q2,_,q3,_,q4,_,q5,_⟩:=HG.kR.set6 (.int .i64 o2.fFixed) (.int .i64 o2.fPerLeft) (.int .i64 o2.fPerRight) (.int .i64 o2.fPerOutput) (.int .i64 o2.fPerPair) (.slice A9 (n+1) c9) |>.r6
   refine bodyPost_ret (v:=.agg #[.int .i64 o2.fFixed,.int .i64 o2.fPerLeft,.int .i64 o2.fPerRight,.int .i64 o2.fPerOutput,.int .i64 o2.fPerPair,.slice A9 (n+1) c9]) (by simp [results,Tryz.results183,go_sem,q0,q1,q2,q3,q4,q5]) rfl ?_
   exact HG.fin hlen
end Go.Proofs.YtadgmjdafkihfaaGreat
namespace Go.Proofs.YtadgmjdafkihfaaGreat
open Go.RowKit
set_option linter.unusedVariables false
set_option linter.unusedSimpArgs false
attribute [local go_sem ↓] Go.wp_at_zero Go.wp_at_succ
/-- a model's parts, side by side -/
theorem model_rep {w:World}{c1 c2 c3 c4 c5:List Value}{o1 o2 o3 o4 o5:OperatorD}(h1:(rOperator NB).rep w c1 o1) (h2:(rOperator NB).rep w c2 o2) (h3:(rOperator NB).rep w c3 o3) (h4:(rOperator NB).rep w c4 o4) (h5:(rOperator NB).rep w c5 o5) :
  (rModel NB).rep w (c1++(c2++(c3++(c4++c5)))) ⟨o1,o2,o3,o4,o5⟩:=⟨c1,_,rfl,h1,c2,_,rfl,h2,c3,_,rfl,h3,c4,_,rfl,h4,h5⟩
theorem model_parts {w:World}{cs:List Value}{x:ModelD}(h:(rModel NB).rep w cs x):∃ c1 c2 c3 c4 c5,cs=c1++(c2++(c3++(c4++c5)))/\(rOperator NB).rep w c1 x.fScan/\(rOperator NB).rep w c2 x.fSort/\(rOperator NB).rep w c3 x.fHash/\(rOperator NB).rep w c4 x.fMerge/\(rOperator NB).rep w c5 x.fNested:=by
 obtain⟨c1,_,rfl,h1,c2,_,rfl,h2,c3,_,rfl,h3,c4,c5,rfl,h4,h5⟩:=h
 exact⟨c1,c2,c3,c4,c5,rfl,h1,h2,h3,h4,h5⟩
theorem Stb.set1 {α:Type}{r:Rp α}{T:Nat}{w:World}{cs:List Value}{x:α}(h:Stb r T w cs x) {g:Nat}(hg:g<T) (i:Nat) (vs:List Value):Stb r T (setCells w g i vs) cs x:=h.out ((Out.refl _ _).setCells hg i vs)
theorem op_len {w:World}{c:List Value}{o:OperatorD}(h:(rOperator NB).rep w c o):c.length=6:=(rOperator_ok NB).len h
def defModel:ModelD:=⟨⟨1,1,0,0,0,[]⟩,⟨2,3,0,0,0,[⟨17,20⟩]⟩,⟨4,2,1,1,0,[]⟩,⟨1,1,1,1,0,[]⟩,⟨1,0,0,1,1,[]⟩⟩
theorem op_flat (T:Nat) (W:World) (a b c d e:Int) (h:I64 a/\I64 b/\I64 c/\I64 d/\I64 e):Stb (rOperator NB) T W [.int .i64 a,.int .i64 b,.int .i64 c,.int .i64 d,.int .i64 e,.slice none 0 0] ⟨a,b,c,d,e,[]⟩ :=
 fun W' _=>rOperator_rep.2 ⟨none,0,0,rfl,h.1,h.2.1,h.2.2.1,h.2.2.2.1,h.2.2.2.2,RS.nil _ _ _ _ _⟩
set_option maxRecDepth 100000 in
set_option maxHeartbeats 1600000 in
theorem sDefaultModel_c (w:World):Calls Tryz.prog 233 #[] w fun e w'=>∃ cs,e=.returned (.agg cs.toArray)/\Stb (rModel NB) w.heap.size w' cs defModel/\Below w.heap.size w w':=by
 obtain⟨w1,hw1⟩:∃ W,W=w.alloc (.cells #[.int .i64 0,.int .i64 0,.int .i64 0,.int .i64 0,.int .i64 0,.slice none 0 0,.int .i64 0,.int .i64 0,.int .i64 0,.int .i64 0,.int .i64 0,.slice none 0 0,.int .i64 0,.int .i64 0,.int .i64 0,.int .i64 0,.int .i64 0,.slice none 0 0,.int .i64 0,.int .i64 0,.int .i64 0,.int .i64 0,.int .i64 0,.slice none 0 0,.int .i64 0,.int .i64 0,.int .i64 0,.int .i64 0,.int .i64 0,.slice none 0 0] 59):=⟨_,rfl⟩
 have b1:Below w.heap.size w w1:=by rw [hw1];exact(Below.refl _ _).alloc (Nat.le_refl _) _
 have kR:Bk w1 w.heap.size 59 [.int .i64 0,.int .i64 0,.int .i64 0,.int .i64 0,.int .i64 0,.slice none 0 0,.int .i64 0,.int .i64 0,.int .i64 0,.int .i64 0,.int .i64 0,.slice none 0 0,.int .i64 0,.int .i64 0,.int .i64 0,.int .i64 0,.int .i64 0,.slice none 0 0,.int .i64 0,.int .i64 0,.int .i64 0,.int .i64 0,.int .i64 0,.slice none 0 0,.int .i64 0,.int .i64 0,.int .i64 0,.int .i64 0,.int .i64 0,.slice none 0 0]:=by rw [hw1];exact Bk.new w _ _
 have hs1:w1.heap.size=w.heap.size+1:=by rw [hw1];simp
 obtain⟨w2,hw2⟩:∃ W,W=w1.alloc (.cells #[.int .i64 17,.int .i64 20] 216):=⟨_,rfl⟩
 have b2:Below w1.heap.size w1 w2:=by rw [hw2];exact(Below.refl _ _).alloc (Nat.le_refl _) _
 have kR2:=kR.below b2
 have oS:OS NB 216 (rCostStep NB) w2 [w.heap.size+1] (some ⟨w.heap.size+1,0,none⟩) 1 1 [⟨17,20⟩]:=by
  rw [<- hs1]
  refine⟨rfl,by unfold NB;omega,[[.int .i64 17,.int .i64 20]],[[]],⟨by simp [rCostStep_size],.inr ⟨w1.heap.size,1,#[.int .i64 17,.int .i64 20],rfl,Nat.zero_le _,by rw [hw2];exact heap_alloc_new w1 _,Nat.le_refl _,by unfold maxLen;omega,by simp [rCostStep_size],by simp [rCostStep_size]⟩⟩,by simp [blk],⟨rCostStep_own.2 ⟨rfl,rfl,by simp [I64],by simp [I64]⟩,trivial⟩⟩
 obtain⟨A,hA⟩:∃ A,A=some (⟨w.heap.size+1,0,none⟩:Addr):=⟨_,rfl⟩
 have hs2:w.heap.size+1=w1.heap.size:=hs1.symm
 have TH:w2.there w.heap.size 0 30:=kR2.there
 have S2:Stb (rOperator NB) (w.heap.size+1) w2 [.int .i64 2,.int .i64 3,.int .i64 0,.int .i64 0,.int .i64 0,.slice (some ⟨w.heap.size+1,0,none⟩) 1 1] ⟨2,3,0,0,0,[⟨17,20⟩]⟩ :=
  Stb.ofOwn (rOperator_ok NB) (rOperator_own.2 ⟨_,_,_,_,rfl,rfl,by simp [I64],by simp [I64],by simp [I64],by simp [I64],by simp [I64],oS⟩) (by simp)
 have hi:∀ a b c d e:Int,I64 a->I64 b->I64 c->I64 d->I64 e->I64 a/\I64 b/\I64 c/\I64 d/\I64 e:=fun a b c d e h1 h2 h3 h4 h5=>⟨h1,h2,h3,h4,h5⟩
 have SM:Stb (rModel NB) (w.heap.size+1) w2 [.int .i64 1,.int .i64 1,.int .i64 0,.int .i64 0,.int .i64 0,.slice none 0 0,.int .i64 2,.int .i64 3,.int .i64 0,.int .i64 0,.int .i64 0,.slice (some ⟨w.heap.size+1,0,none⟩) 1 1,.int .i64 4,.int .i64 2,.int .i64 1,.int .i64 1,.int .i64 0,.slice none 0 0,.int .i64 1,.int .i64 1,.int .i64 1,.int .i64 1,.int .i64 0,.slice none 0 0,.int .i64 1,.int .i64 0,.int .i64 0,.int .i64 1,.int .i64 1,.slice none 0 0] defModel:=fun W hW=>by
  have q:=fun a b c d e h=>op_flat (w.heap.size+1) w2 a b c d e h W hW
  exact model_rep (q 1 1 0 0 0 (by simp [I64])) (S2 W hW) (q 4 2 1 1 0 (by simp [I64])) (q 1 1 1 1 0 (by simp [I64])) (q 1 0 0 1 1 (by simp [I64]))
 have ON:=one_rep (rModel_ok NB) SM.rep
 have bb:=b1.trans (b2.mono b1.size)
 clear S2 oS hi hs1 b1 b2 kR
 go_enter Tryz.func233,Tryz.ntmps233
 go_upto_region 1 with fail
 rw [<- hw1]
 clear hw1
 go_wp2_with (refine wpList_store_mid rfl 59 _ _ rfl w.heap.size 0 #[.int .i64 1,.int .i64 1,.int .i64 0,.int .i64 0,.int .i64 0,.slice none 0 0,.int .i64 2,.int .i64 3,.int .i64 0,.int .i64 0,.int .i64 0,.slice (some ⟨w1.heap.size,0,none⟩) 1 1,.int .i64 4,.int .i64 2,.int .i64 1,.int .i64 1,.int .i64 0,.slice none 0 0,.int .i64 1,.int .i64 1,.int .i64 1,.int .i64 1,.int .i64 0,.slice none 0 0,.int .i64 1,.int .i64 0,.int .i64 0,.int .i64 1,.int .i64 1,.slice none 0 0] rfl rfl (by rw [<- hs2,<- hw2];exact TH) sizeModelT (by rw [<- hs2];exact ON) ?_)
 rw [<- hs2,<- hw2,setCells_kit]
 clear hw2 ON TH
 have bF:=kR2.fill (c:=[.int .i64 1,.int .i64 1,.int .i64 0,.int .i64 0,.int .i64 0,.slice none 0 0,.int .i64 2,.int .i64 3,.int .i64 0,.int .i64 0,.int .i64 0,.slice (some ⟨w.heap.size+1,0,none⟩) 1 1,.int .i64 4,.int .i64 2,.int .i64 1,.int .i64 1,.int .i64 0,.slice none 0 0,.int .i64 1,.int .i64 1,.int .i64 1,.int .i64 1,.int .i64 0,.slice none 0 0,.int .i64 1,.int .i64 0,.int .i64 0,.int .i64 1,.int .i64 1,.slice none 0 0]) rfl
 go_wp2
 refine bodyPost_ret (results_cell1 Tryz.results233 rfl bF.rangeAt Tryz.underlying59 rfl sizeModelT) rfl ?_
 exact⟨_,rfl,(SM.set1 (Nat.lt_succ_self _) 0 _).mono (Nat.le_succ _),Below.setCells bb (Nat.le_refl _) 0 _⟩
/-- an operator drawn, held -/
theorem drawnOp {w W:World}{g T:Nat}{e:Ending}{P:OperatorD->Prop}(h:DrawnV (rOperator NB) P g w e W) (hT:T<=w.heap.size):∃ o A n c,e=.returned (.agg #[.int .i64 o.fFixed,.int .i64 o.fPerLeft,.int .i64 o.fPerRight,.int .i64 o.fPerOutput,.int .i64 o.fPerPair,.slice A n c])/\Stb (rOperator NB) T W [.int .i64 o.fFixed,.int .i64 o.fPerLeft,.int .i64 o.fPerRight,.int .i64 o.fPerOutput,.int .i64 o.fPerPair,.slice A n c] o/\Cur W g/\Chg [g] w W:=by
 obtain⟨o,cs,fp,rfl,oO,fO,_,cu,ch⟩:=h
 have hS:=Stb.ofOwn (rOperator_ok NB) (T:=T) oO (fun k hk=>Nat.le_trans hT (fO.ge k hk))
 obtain⟨A,n,c,_,rfl,rfl,_⟩:=rOperator_own.1 oO
 exact⟨o,A,n,c,rfl,hS,cu,ch⟩
theorem drawnOp_call {w:World}{g T f:Nat}{a:Array Value}{P:OperatorD->Prop}(h:Calls Tryz.prog f a w (DrawnV (rOperator NB) P g w)) (hT:T<=w.heap.size) :
  Calls Tryz.prog f a w fun e W=>∃ o A n c,e=.returned (.agg #[.int .i64 o.fFixed,.int .i64 o.fPerLeft,.int .i64 o.fPerRight,.int .i64 o.fPerOutput,.int .i64 o.fPerPair,.slice A n c])/\Stb (rOperator NB) T W [.int .i64 o.fFixed,.int .i64 o.fPerLeft,.int .i64 o.fPerRight,.int .i64 o.fPerOutput,.int .i64 o.fPerPair,.slice A n c] o/\Cur W g/\Chg [g] w W:=h.mono fun e W h=>drawnOp h hT
set_option maxRecDepth 100000 in
set_option maxHeartbeats 3200000 in
theorem l22Model_c (g:Nat) (w:World) (hc:Cur w g):Calls Tryz.prog 182 #[.pointer (some ⟨g,0,none⟩)] w (DrawnR (rModel NB) g w):=by
 have hgw:=hc.lt
 obtain⟨w1,hw1⟩:∃ W,W=w.alloc (.cells #[.int .i64 0,.int .i64 0,.int .i64 0,.int .i64 0,.int .i64 0,.slice none 0 0,.int .i64 0,.int .i64 0,.int .i64 0,.int .i64 0,.int .i64 0,.slice none 0 0,.int .i64 0,.int .i64 0,.int .i64 0,.int .i64 0,.int .i64 0,.slice none 0 0,.int .i64 0,.int .i64 0,.int .i64 0,.int .i64 0,.int .i64 0,.slice none 0 0,.int .i64 0,.int .i64 0,.int .i64 0,.int .i64 0,.int .i64 0,.slice none 0 0] 59):=⟨_,rfl⟩
 have b1:Below w.heap.size w w1:=by rw [hw1];exact(Below.refl _ _).alloc (Nat.le_refl _) _
 have kR:Bk w1 w.heap.size 59 [.int .i64 0,.int .i64 0,.int .i64 0,.int .i64 0,.int .i64 0,.slice none 0 0,.int .i64 0,.int .i64 0,.int .i64 0,.int .i64 0,.int .i64 0,.slice none 0 0,.int .i64 0,.int .i64 0,.int .i64 0,.int .i64 0,.int .i64 0,.slice none 0 0,.int .i64 0,.int .i64 0,.int .i64 0,.int .i64 0,.int .i64 0,.slice none 0 0,.int .i64 0,.int .i64 0,.int .i64 0,.int .i64 0,.int .i64 0,.slice none 0 0]:=by rw [hw1];exact Bk.new w _ _
 have C1:Chg [g] w w1:=Chg.ofBelow b1 _
 have cu1:=hc.below b1
 clear b1
 go_enter Tryz.func182,Tryz.ntmps182
 go_upto_region 1 with fail
 rw [<- hw1]
 clear hw1
 go_wp2_with fail
 refine(l1Once_c g 3 _ (by omega) cu1).mono ?_
 rintro e w2 ⟨b,rfl,cu2,ch2⟩
 have kR2:Bk w2 w.heap.size 59 [.int .i64 0,.int .i64 0,.int .i64 0,.int .i64 0,.int .i64 0,.slice none 0 0,.int .i64 0,.int .i64 0,.int .i64 0,.int .i64 0,.int .i64 0,.slice none 0 0,.int .i64 0,.int .i64 0,.int .i64 0,.int .i64 0,.int .i64 0,.slice none 0 0,.int .i64 0,.int .i64 0,.int .i64 0,.int .i64 0,.int .i64 0,.slice none 0 0,.int .i64 0,.int .i64 0,.int .i64 0,.int .i64 0,.int .i64 0,.slice none 0 0]:=(ch2.block _ kR.lt (by simp;omega)).trans kR
 have C2:=C1.trans ch2
 clear kR C1 cu1 ch2
 cases b
 ·have hz2:w.heap.size+1<=w2.heap.size:=kR2.lt
  go_wp2_with fail
  have C1':=drawnOp_call (l21Op_c g w2 cu2) (T:=w.heap.size+1) (by omega)
  refine C1'.mono ?_
  clear C1'
  rintro e v1 ⟨o1,A1,n1,c1,rfl,S1,cv1,ch1⟩
  have hz1':w.heap.size+1<=v1.heap.size:=Nat.le_trans (by omega) ch1.size
  have X1:Out (w.heap.size+1) w2 v1:=Out.chg ch1 (by simp;omega)
  go_wp2_with fail
  have C2':=drawnOp_call (l21Op_c g v1 cv1) (T:=w.heap.size+1) (by omega)
  refine C2'.mono ?_
  clear C2'
  rintro e v2 ⟨o2,A2,n2,c2,rfl,S2,cv2,ch2⟩
  have hz2':w.heap.size+1<=v2.heap.size:=Nat.le_trans (by omega) ch2.size
  have X2:Out (w.heap.size+1) v1 v2:=Out.chg ch2 (by simp;omega)
  replace S1:=S1.out X2
  go_wp2_with fail
  have C3':=drawnOp_call (l21Op_c g v2 cv2) (T:=w.heap.size+1) (by omega)
  refine C3'.mono ?_
  clear C3'
  rintro e v3 ⟨o3,A3,n3,c3,rfl,S3,cv3,ch3⟩
  have hz3':w.heap.size+1<=v3.heap.size:=Nat.le_trans (by omega) ch3.size
  have X3:Out (w.heap.size+1) v2 v3:=Out.chg ch3 (by simp;omega)
  replace S1:=S1.out X3
  replace S2:=S2.out X3
  go_wp2_with fail
  have C4':=drawnOp_call (l21Op_c g v3 cv3) (T:=w.heap.size+1) (by omega)
  refine C4'.mono ?_
  clear C4'
  rintro e v4 ⟨o4,A4,n4,c4,rfl,S4,cv4,ch4⟩
  have hz4':w.heap.size+1<=v4.heap.size:=Nat.le_trans (by omega) ch4.size
  have X4:Out (w.heap.size+1) v3 v4:=Out.chg ch4 (by simp;omega)
  replace S1:=S1.out X4
  replace S2:=S2.out X4
  replace S3:=S3.out X4
  go_wp2_with fail
  have C5':=drawnOp_call (l21Op_c g v4 cv4) (T:=w.heap.size+1) (by omega)
  refine C5'.mono ?_
  clear C5'
  rintro e v5 ⟨o5,A5,n5,c5,rfl,S5,cv5,ch5⟩
  have hz5':w.heap.size+1<=v5.heap.size:=Nat.le_trans (by omega) ch5.size
  have X5:Out (w.heap.size+1) v4 v5:=Out.chg ch5 (by simp;omega)
  replace S1:=S1.out X5
  replace S2:=S2.out X5
  replace S3:=S3.out X5
  replace S4:=S4.out X5
  have DD:=(((ch1.trans ch2).trans ch3).trans ch4).trans ch5
  have kR7:Bk v5 w.heap.size 59 [.int .i64 0,.int .i64 0,.int .i64 0,.int .i64 0,.int .i64 0,.slice none 0 0,.int .i64 0,.int .i64 0,.int .i64 0,.int .i64 0,.int .i64 0,.slice none 0 0,.int .i64 0,.int .i64 0,.int .i64 0,.int .i64 0,.int .i64 0,.slice none 0 0,.int .i64 0,.int .i64 0,.int .i64 0,.int .i64 0,.int .i64 0,.slice none 0 0,.int .i64 0,.int .i64 0,.int .i64 0,.int .i64 0,.int .i64 0,.slice none 0 0]:=(DD.block _ kR2.lt (by simp;omega)).trans kR2
  have SM:Stb (rModel NB) (w.heap.size+1) v5 [.int .i64 o1.fFixed,.int .i64 o1.fPerLeft,.int .i64 o1.fPerRight,.int .i64 o1.fPerOutput,.int .i64 o1.fPerPair,.slice A1 n1 c1,.int .i64 o2.fFixed,.int .i64 o2.fPerLeft,.int .i64 o2.fPerRight,.int .i64 o2.fPerOutput,.int .i64 o2.fPerPair,.slice A2 n2 c2,.int .i64 o3.fFixed,.int .i64 o3.fPerLeft,.int .i64 o3.fPerRight,.int .i64 o3.fPerOutput,.int .i64 o3.fPerPair,.slice A3 n3 c3,.int .i64 o4.fFixed,.int .i64 o4.fPerLeft,.int .i64 o4.fPerRight,.int .i64 o4.fPerOutput,.int .i64 o4.fPerPair,.slice A4 n4 c4,.int .i64 o5.fFixed,.int .i64 o5.fPerLeft,.int .i64 o5.fPerRight,.int .i64 o5.fPerOutput,.int .i64 o5.fPerPair,.slice A5 n5 c5] ⟨o1,o2,o3,o4,o5⟩:=fun W hW=>model_rep (S1 W hW) (S2 W hW) (S3 W hW) (S4 W hW) (S5 W hW)
  have TH:=kR7.there
  have ON:=one_rep (rModel_ok NB) SM.rep
  have CC:=C2.trans DD
  clear ch1 ch2 ch3 ch4 ch5 S1 S2 S3 S4 S5 X1 X2 X3 X4 X5 C2 DD kR2 cv1 cv2 cv3 cv4
  go_wp2_with (refine wpList_store_mid rfl 59 _ _ rfl w.heap.size 0 #[.int .i64 o1.fFixed,.int .i64 o1.fPerLeft,.int .i64 o1.fPerRight,.int .i64 o1.fPerOutput,.int .i64 o1.fPerPair,.slice A1 n1 c1,.int .i64 o2.fFixed,.int .i64 o2.fPerLeft,.int .i64 o2.fPerRight,.int .i64 o2.fPerOutput,.int .i64 o2.fPerPair,.slice A2 n2 c2,.int .i64 o3.fFixed,.int .i64 o3.fPerLeft,.int .i64 o3.fPerRight,.int .i64 o3.fPerOutput,.int .i64 o3.fPerPair,.slice A3 n3 c3,.int .i64 o4.fFixed,.int .i64 o4.fPerLeft,.int .i64 o4.fPerRight,.int .i64 o4.fPerOutput,.int .i64 o4.fPerPair,.slice A4 n4 c4,.int .i64 o5.fFixed,.int .i64 o5.fPerLeft,.int .i64 o5.fPerRight,.int .i64 o5.fPerOutput,.int .i64 o5.fPerPair,.slice A5 n5 c5] rfl rfl TH sizeModelT ON ?_)
  rw [setCells_kit]
  clear ON TH
  have bF:=kR7.fill (c:=[.int .i64 o1.fFixed,.int .i64 o1.fPerLeft,.int .i64 o1.fPerRight,.int .i64 o1.fPerOutput,.int .i64 o1.fPerPair,.slice A1 n1 c1,.int .i64 o2.fFixed,.int .i64 o2.fPerLeft,.int .i64 o2.fPerRight,.int .i64 o2.fPerOutput,.int .i64 o2.fPerPair,.slice A2 n2 c2,.int .i64 o3.fFixed,.int .i64 o3.fPerLeft,.int .i64 o3.fPerRight,.int .i64 o3.fPerOutput,.int .i64 o3.fPerPair,.slice A3 n3 c3,.int .i64 o4.fFixed,.int .i64 o4.fPerLeft,.int .i64 o4.fPerRight,.int .i64 o4.fPerOutput,.int .i64 o4.fPerPair,.slice A4 n4 c4,.int .i64 o5.fFixed,.int .i64 o5.fPerLeft,.int .i64 o5.fPerRight,.int .i64 o5.fPerOutput,.int .i64 o5.fPerPair,.slice A5 n5 c5]) rfl
  go_wp2
  refine bodyPost_ret (results_cell1 Tryz.results182 rfl bF.rangeAt Tryz.underlying59 rfl sizeModelT) rfl ?_
  have bs:Below w.heap.size v5 (setCells v5 w.heap.size 0 [.int .i64 o1.fFixed,.int .i64 o1.fPerLeft,.int .i64 o1.fPerRight,.int .i64 o1.fPerOutput,.int .i64 o1.fPerPair,.slice A1 n1 c1,.int .i64 o2.fFixed,.int .i64 o2.fPerLeft,.int .i64 o2.fPerRight,.int .i64 o2.fPerOutput,.int .i64 o2.fPerPair,.slice A2 n2 c2,.int .i64 o3.fFixed,.int .i64 o3.fPerLeft,.int .i64 o3.fPerRight,.int .i64 o3.fPerOutput,.int .i64 o3.fPerPair,.slice A3 n3 c3,.int .i64 o4.fFixed,.int .i64 o4.fPerLeft,.int .i64 o4.fPerRight,.int .i64 o4.fPerOutput,.int .i64 o4.fPerPair,.slice A4 n4 c4,.int .i64 o5.fFixed,.int .i64 o5.fPerLeft,.int .i64 o5.fPerRight,.int .i64 o5.fPerOutput,.int .i64 o5.fPerPair,.slice A5 n5 c5]):=Below.setCells (Below.refl _ _) (Nat.le_refl _) 0 _
  exact⟨_,_,rfl,(SM.set1 (Nat.lt_succ_self _) 0 _).mono (Nat.le_succ _),cv5.low hgw bs,chgS CC bs (Nat.le_refl _)⟩
 ·go_wp2_with fail
  refine(sDefaultModel_c _).mono ?_
  rintro e w3 ⟨cs,rfl,SM,hb3⟩
  have SM1:Stb (rModel NB) (w.heap.size+1) w3 cs defModel:=fun W hW=>SM W (hW.mono kR2.lt)
  have kR3:=kR2.below hb3
  have lenm:=(rModel_ok NB).len SM.rep
  have ON:=one_rep (rModel_ok NB) SM.rep
  have hcz:cs.toArray.size=30:=List.size_toArray.trans lenm
  have TH:w3.there w.heap.size 0 cs.toArray.size:=by rw [hcz];exact kR3.there
  clear SM
  go_wp2_with (refine wpList_store_mid rfl 59 _ _ rfl w.heap.size 0 cs.toArray rfl rfl TH (by rw [hcz];exact sizeModelT) ON ?_)
  rw [setCells_kit]
  clear ON TH
  have bF:=kR3.fill (c:=cs) (by rw [lenm];rfl)
  go_wp2
  refine bodyPost_ret (results_cell1 Tryz.results182 rfl bF.rangeAt Tryz.underlying59 rfl (by rw [lenm];exact sizeModelT)) rfl ?_
  have bs:Below w.heap.size w3 (setCells w3 w.heap.size 0 cs):=Below.setCells (Below.refl _ _) (Nat.le_refl _) 0 _
  exact⟨_,_,rfl,(SM1.set1 (Nat.lt_succ_self _) 0 _).mono (Nat.le_succ _),(cu2.below hb3).low hgw bs,chgS (C2.trans (Chg.ofBelow hb3 _)) bs (Nat.le_refl _)⟩
/-- a model's box under way -/
structure Mb (w:World) (g gM:Nat) (c1 c2 c3 c4 c5:List Value) (m:ModelD) (W:World):Prop where
 cu:Cur W g
 ch:Chg [g] w W
 kR:Bk W w.heap.size 59 [.int .i64 0,.int .i64 0,.int .i64 0,.int .i64 0,.int .i64 0,.slice none 0 0,.int .i64 0,.int .i64 0,.int .i64 0,.int .i64 0,.int .i64 0,.slice none 0 0,.int .i64 0,.int .i64 0,.int .i64 0,.int .i64 0,.int .i64 0,.slice none 0 0,.int .i64 0,.int .i64 0,.int .i64 0,.int .i64 0,.int .i64 0,.slice none 0 0,.int .i64 0,.int .i64 0,.int .i64 0,.int .i64 0,.int .i64 0,.slice none 0 0]
 kM:Bk W gM 59 (c1++(c2++(c3++(c4++c5))))
 s1:StX (rOperator NB) (w.heap.size+1) gM W c1 m.fScan
 s2:StX (rOperator NB) (w.heap.size+1) gM W c2 m.fSort
 s3:StX (rOperator NB) (w.heap.size+1) gM W c3 m.fHash
 s4:StX (rOperator NB) (w.heap.size+1) gM W c4 m.fMerge
 s5:StX (rOperator NB) (w.heap.size+1) gM W c5 m.fNested
 lt:w.heap.size<gM
 hg:g<w.heap.size
section
variable {w W W':World} {g gM:Nat} {c1 c2 c3 c4 c5 c:List Value} {m:ModelD} {o:OperatorD}
theorem OutX.chg {T z:Nat}(h:Chg [g] W W') (hg:g<T):OutX T z W W':=⟨h.size,fun k h1 _ h3=>h.block k h3 (by simp;omega)⟩
theorem Mb.step (H:Mb w g gM c1 c2 c3 c4 c5 m W) (h:Chg [g] W W') (cu:Cur W' g):Mb w g gM c1 c2 c3 c4 c5 m W':=by
 have hl:=H.lt
 have hg:=H.hg
 have X:OutX (w.heap.size+1) gM W W':=OutX.chg h (by omega)
 exact⟨cu,H.ch.trans h,(h.block _ H.kR.lt (by simp;omega)).trans H.kR,(h.block _ H.kM.lt (by simp;omega)).trans H.kM,H.s1.step X,H.s2.step X,H.s3.step X,H.s4.step X,H.s5.step X,hl,hg⟩
theorem Mb.lens (H:Mb w g gM c1 c2 c3 c4 c5 m W):c1.length=6/\c2.length=6/\c3.length=6/\c4.length=6/\c5.length=6:=⟨op_len H.s1.rep,op_len H.s2.rep,op_len H.s3.rep,op_len H.s4.rep,op_len H.s5.rep⟩
theorem Mb.thr (H:Mb w g gM c1 c2 c3 c4 c5 m W) (i n:Nat) (h:i+n<=30):W.there gM i n:=H.kM.thr i n (by have:=H.lens;simp;omega)
theorem over_mid {a b c d:List Value}(h:c.length=b.length):over (a++(b++d)) a.length c=a++(c++d):=by
 have:=over_append_left a (b++d) 0 c
 rw [Nat.add_zero]at this
 rw [this,over_head c b h]
/-- the hash operator written anew -/
theorem Mb.put3 (H:Mb w g gM c1 c2 c3 c4 c5 m W) (hs:StX (rOperator NB) (w.heap.size+1) gM W c o):Mb w g gM c1 c2 c c4 c5 ⟨m.fScan,m.fSort,o,m.fMerge,m.fNested⟩ (setCells W gM 12 c):=by
 have hl:=H.lt
 have hg:=H.hg
 obtain⟨l1,l2,l3,l4,l5⟩:=H.lens
 have lc:=op_len hs.rep
 have X:OutX (w.heap.size+1) gM W (setCells W gM 12 c):=OutX.cells _ _ _ _ _
 have b:Below gM W (setCells W gM 12 c):=Below.setCells (Below.refl _ _) (Nat.le_refl _) _ _
 have k:=H.kM.setCells 12 c
 have e:over (c1++(c2++(c3++(c4++c5)))) 12 c=c1++(c2++(c++(c4++c5))):=by
  have:=over_mid (a:=c1++c2) (b:=c3) (c:=c) (d:=c4++c5) (by omega)
  rw [List.length_append,l1,l2,List.append_assoc,List.append_assoc]at this
  exact this
 rw [e]at k
 exact⟨H.cu.low (by omega) b,chgS H.ch b (by omega),(b.block _ hl).trans H.kR,k,H.s1.step X,H.s2.step X,hs.step X,H.s4.step X,H.s5.step X,hl,hg⟩
theorem Mb.put2 (H:Mb w g gM c1 c2 c3 c4 c5 m W) (hs:StX (rOperator NB) (w.heap.size+1) gM W c o):Mb w g gM c1 c c3 c4 c5 ⟨m.fScan,o,m.fHash,m.fMerge,m.fNested⟩ (setCells W gM 6 c):=by
 have hl:=H.lt
 have hg:=H.hg
 obtain⟨l1,l2,l3,l4,l5⟩:=H.lens
 have lc:=op_len hs.rep
 have X:OutX (w.heap.size+1) gM W (setCells W gM 6 c):=OutX.cells _ _ _ _ _
 have b:Below gM W (setCells W gM 6 c):=Below.setCells (Below.refl _ _) (Nat.le_refl _) _ _
 have k:=H.kM.setCells 6 c
 have e:over (c1++(c2++(c3++(c4++c5)))) 6 c=c1++(c++(c3++(c4++c5))):=by
  have:=over_mid (a:=c1) (b:=c2) (c:=c) (d:=c3++(c4++c5)) (by omega)
  rw [l1]at this
  exact this
 rw [e]at k
 exact⟨H.cu.low (by omega) b,chgS H.ch b (by omega),(b.block _ hl).trans H.kR,k,H.s1.step X,hs.step X,H.s3.step X,H.s4.step X,H.s5.step X,hl,hg⟩
theorem Mb.fin (H:Mb w g gM c1 c2 c3 c4 c5 m W):DrawnR (rModel NB) g w (.returned (.agg (c1++(c2++(c3++(c4++c5)))).toArray)) (setCells W w.heap.size 0 (c1++(c2++(c3++(c4++c5))))):=by
 have hg:=H.hg
 have bs:Below w.heap.size W (setCells W w.heap.size 0 (c1++(c2++(c3++(c4++c5))))):=Below.setCells (Below.refl _ _) (Nat.le_refl _) 0 _
 refine⟨m,_,rfl,fun V hV=>?_,H.cu.low hg bs,chgS H.ch bs (Nat.le_refl _)⟩
 have X:OutX (w.heap.size+1) gM W V:=(OutX.cellsLow (Nat.lt_succ_self _) W 0 _).trans (OutX.ofOut (hV.mono (Nat.le_succ _)))
 exact model_rep (H.s1 V X) (H.s2 V X) (H.s3 V X) (H.s4 V X) (H.s5 V X)
theorem Mb.out (H:Mb w g gM c1 c2 c3 c4 c5 m W):∃ cs:List Value,cs.length=30/\cs.toArray.size=30/\Bk W gM 59 cs/\cs.toArray.all (·.oneCell')=true/\DrawnR (rModel NB) g w (.returned (.agg cs.toArray)) (setCells W w.heap.size 0 cs):=by
 have hr:=model_rep H.s1.rep H.s2.rep H.s3.rep H.s4.rep H.s5.rep
 have hl:=(rModel_ok NB).len hr
 exact⟨_,hl,List.size_toArray.trans hl,H.kM,one_rep (rModel_ok NB) hr,H.fin⟩
end
theorem sizeOpT:(Tryz.prog.info? 57).map (·.size)=some 6:=by kernel_rfl
set_option maxRecDepth 100000 in
set_option maxHeartbeats 3200000 in
theorem l22Any_c (g:Nat) (w:World) (hc:Cur w g):Calls Tryz.prog 106 #[.pointer (some ⟨g,0,none⟩)] w (DrawnR (rModel NB) g w):=by
 have hgw:=hc.lt
 obtain⟨w1,hw1⟩:∃ W,W=w.alloc (.cells #[.int .i64 0,.int .i64 0,.int .i64 0,.int .i64 0,.int .i64 0,.slice none 0 0,.int .i64 0,.int .i64 0,.int .i64 0,.int .i64 0,.int .i64 0,.slice none 0 0,.int .i64 0,.int .i64 0,.int .i64 0,.int .i64 0,.int .i64 0,.slice none 0 0,.int .i64 0,.int .i64 0,.int .i64 0,.int .i64 0,.int .i64 0,.slice none 0 0,.int .i64 0,.int .i64 0,.int .i64 0,.int .i64 0,.int .i64 0,.slice none 0 0] 59):=⟨_,rfl⟩
 have b1:Below w.heap.size w w1:=by rw [hw1];exact(Below.refl _ _).alloc (Nat.le_refl _) _
 have kR:Bk w1 w.heap.size 59 [.int .i64 0,.int .i64 0,.int .i64 0,.int .i64 0,.int .i64 0,.slice none 0 0,.int .i64 0,.int .i64 0,.int .i64 0,.int .i64 0,.int .i64 0,.slice none 0 0,.int .i64 0,.int .i64 0,.int .i64 0,.int .i64 0,.int .i64 0,.slice none 0 0,.int .i64 0,.int .i64 0,.int .i64 0,.int .i64 0,.int .i64 0,.slice none 0 0,.int .i64 0,.int .i64 0,.int .i64 0,.int .i64 0,.int .i64 0,.slice none 0 0]:=by rw [hw1];exact Bk.new w _ _
 have C1:Chg [g] w w1:=Chg.ofBelow b1 _
 have cu1:=hc.below b1
 clear b1
 go_enter Tryz.func106,Tryz.ntmps106
 go_upto_region 1 with fail
 rw [<- hw1]
 clear hw1
 go_wp2_with fail
 refine(l22Model_c g w1 cu1).mono ?_
 rintro e w2 ⟨m,cs,rfl,SM,cu2,ch2⟩
 obtain⟨c1,c2,c3,c4,c5,rfl,r1,r2,r3,r4,r5⟩:=model_parts SM.rep
 have lenm:=(rModel_ok NB).len SM.rep
 have ON:=one_rep (rModel_ok NB) SM.rep
 have hz1:w.heap.size+1<=w1.heap.size:=kR.lt
 have hz2:w1.heap.size<=w2.heap.size:=ch2.size
 obtain⟨w3,hw3⟩:∃ W,W=w2.alloc (.cells #[.int .i64 0,.int .i64 0,.int .i64 0,.int .i64 0,.int .i64 0,.slice none 0 0,.int .i64 0,.int .i64 0,.int .i64 0,.int .i64 0,.int .i64 0,.slice none 0 0,.int .i64 0,.int .i64 0,.int .i64 0,.int .i64 0,.int .i64 0,.slice none 0 0,.int .i64 0,.int .i64 0,.int .i64 0,.int .i64 0,.int .i64 0,.slice none 0 0,.int .i64 0,.int .i64 0,.int .i64 0,.int .i64 0,.int .i64 0,.slice none 0 0] 59):=⟨_,rfl⟩
 have b3:Below w2.heap.size w2 w3:=by rw [hw3];exact(Below.refl _ _).alloc (Nat.le_refl _) _
 have kM:Bk w3 w2.heap.size 59 [.int .i64 0,.int .i64 0,.int .i64 0,.int .i64 0,.int .i64 0,.slice none 0 0,.int .i64 0,.int .i64 0,.int .i64 0,.int .i64 0,.int .i64 0,.slice none 0 0,.int .i64 0,.int .i64 0,.int .i64 0,.int .i64 0,.int .i64 0,.slice none 0 0,.int .i64 0,.int .i64 0,.int .i64 0,.int .i64 0,.int .i64 0,.slice none 0 0,.int .i64 0,.int .i64 0,.int .i64 0,.int .i64 0,.int .i64 0,.slice none 0 0]:=by rw [hw3];exact Bk.new w2 _ _
 have hcz:(c1++(c2++(c3++(c4++c5)))).toArray.size=30:=List.size_toArray.trans lenm
 have TH:w3.there w2.heap.size 0 (c1++(c2++(c3++(c4++c5)))).toArray.size:=by rw [hcz];exact kM.there
 go_wp2_with (refine wpList_store_mid rfl 59 _ _ rfl w2.heap.size 0 (c1++(c2++(c3++(c4++c5)))).toArray rfl rfl (by rw [<- hw3];exact TH) (by rw [hcz];exact sizeModelT) ON ?_)
 rw [<- hw3,setCells_kit]
 clear hw3 ON TH
 have H:Mb w g w2.heap.size c1 c2 c3 c4 c5 m (setCells w3 w2.heap.size 0 (c1++(c2++(c3++(c4++c5))))):=by
  have b:Below w2.heap.size w2 (setCells w3 w2.heap.size 0 (c1++(c2++(c3++(c4++c5))))):=Below.setCells b3 (Nat.le_refl _) _ _
  have hs:∀ W,OutX (w.heap.size+1) w2.heap.size (setCells w3 w2.heap.size 0 (c1++(c2++(c3++(c4++c5))))) W->Out w1.heap.size w2 W:=fun W hW=>⟨Nat.le_trans b.size hW.1,fun k h1 h2=>(hW.2 k (by omega) (by omega) (Nat.lt_of_lt_of_le h2 b.size)).trans (b.block k h2)⟩
  have hp:∀ W,OutX (w.heap.size+1) w2.heap.size (setCells w3 w2.heap.size 0 (c1++(c2++(c3++(c4++c5))))) W->_:=fun W hW=>SM W (hs W hW)
  have hq:∀ W,OutX (w.heap.size+1) w2.heap.size (setCells w3 w2.heap.size 0 (c1++(c2++(c3++(c4++c5))))) W->(rOperator NB).rep W c1 m.fScan/\(rOperator NB).rep W c2 m.fSort/\(rOperator NB).rep W c3 m.fHash/\(rOperator NB).rep W c4 m.fMerge/\(rOperator NB).rep W c5 m.fNested:=fun W hW=>by
   obtain⟨d1,d2,d3,d4,d5,e,q1,q2,q3,q4,q5⟩:=model_parts (hp W hW)
   have e1:=List.append_inj e (by rw [op_len r1,op_len q1])
   have e2:=List.append_inj e1.2 (by rw [op_len r2,op_len q2])
   have e3:=List.append_inj e2.2 (by rw [op_len r3,op_len q3])
   have e4:=List.append_inj e3.2 (by rw [op_len r4,op_len q4])
   rw [e1.1,e2.1,e3.1,e4.1,e4.2]
   exact⟨q1,q2,q3,q4,q5⟩
  exact⟨(cu2.below b),(C1.trans ch2).trans (Chg.ofBelow b _),Bk.below (w:=w2) ((ch2.block _ kR.lt (by simp;omega)).trans kR) b,kM.fill (by rw [lenm];rfl),fun W hW=>(hq W hW).1,fun W hW=>(hq W hW).2.1,fun W hW=>(hq W hW).2.2.1,fun W hW=>(hq W hW).2.2.2.1,fun W hW=>(hq W hW).2.2.2.2,by omega,hgw⟩
 obtain⟨gM,hgM⟩:∃ z,z=w2.heap.size:=⟨_,rfl⟩
 obtain⟨w4,hw4⟩:∃ W,W=setCells w3 w2.heap.size 0 (c1++(c2++(c3++(c4++c5)))):=⟨_,rfl⟩
 rw [<- hw4,<- hgM]at H
 rw [<- hw4]
 clear hw4 kM b3 cu2 ch2 SM r1 r2 r3 r4 r5 lenm hz1 hz2 hcz kR C1 cu1
 go_upto_region 2 with fail
 rw [<- hgM]
 clear hgM
 go_wp2_with fail
 refine(l1Once_c g 6 _ (by omega) H.cu).mono ?_
 rintro e w5 ⟨b,rfl,cu5,ch5⟩
 replace H:=H.step ch5 cu5
 clear cu5 ch5
 cases b
 focus
  go_upto_region 4 with fail
  obtain⟨wr,rfl⟩:∃ z,z=w5:=⟨_,rfl⟩
 rotate_left
 focus
  go_wp2_with fail
  refine(l21Any_c g _ H.cu).mono ?_
  rintro e w6 ⟨o,c,fp,rfl,oO,fO,_,cu6,ch6⟩
  have hMl:=H.kM.lt
  have hlt:=H.lt
  have hs:StX (rOperator NB) (w.heap.size+1) gM w6 c o:=StX.ofOwn (rOperator_ok NB) oO (fun k hk=>by have:=fO.ge k hk;omega)
  replace H:=H.step ch6 cu6
  have hcz:c.toArray.size=6:=List.size_toArray.trans (op_len hs.rep)
  have ON:=one_rep (rOperator_ok NB) hs.rep
  have TH:w6.there gM 12 c.toArray.size:=by rw [hcz];exact H.thr 12 6 (by omega)
  have H2:=H.put3 hs
  clear cu6 ch6 oO fO
  go_wp2_with (refine wpList_store_mid rfl 57 _ _ rfl gM 12 c.toArray rfl rfl TH (by rw [hcz];exact sizeOpT) ON ?_)
  rw [setCells_kit]
  obtain⟨w7,hw7⟩:∃ W,W=setCells w6 gM 12 c:=⟨_,rfl⟩
  rw [<- hw7]at H2
  have hw7':setCells w6 gM 12 c.toArray.toList=w7:=hw7.symm
  rw [hw7']
  clear hw7 hw7' ON TH hs H hcz hMl hlt
  go_upto_region 4 with fail
  obtain⟨wr,rfl⟩:∃ z,z=w7:=⟨_,rfl⟩
  obtain⟨c3,rfl⟩:∃ z,z=c:=⟨_,rfl⟩
  obtain⟨m2,hm2⟩:∃ m2:ModelD,m2=⟨m.fScan,m.fSort,o,m.fMerge,m.fNested⟩:=⟨_,rfl⟩
  rw [<- hm2]at H2
  clear hm2
  obtain⟨m,rfl⟩:∃ z,z=m2:=⟨_,rfl⟩
  have H:=H2
  clear H2
 all_goals
  go_wp2_with fail
  refine(l1Once_c g 12 _ (by omega) H.cu).mono ?_
  rintro e w8 ⟨b,rfl,cu8,ch8⟩
  replace H:=H.step ch8 cu8
  clear cu8 ch8
  cases b
  ·have h0:True:=trivial
   obtain⟨cs,hl,hcz,kM,ON,HF⟩:=H.out
   have TH:w8.there w.heap.size 0 cs.toArray.size:=by rw [hcz];exact H.kR.there
   have bF:=H.kR.fill (c:=cs) (by rw [hl];rfl)
   clear H
   go_wp2_with (first|(refine wpList_load_mid rfl 59 _ rfl gM 0 rfl cs _ kM.rangeAt Tryz.underlying59 rfl (by rw [hl];exact sizeModelT) ?_)|(refine wpList_store_mid rfl 59 _ _ rfl w.heap.size 0 cs.toArray rfl rfl TH (by rw [hcz];exact sizeModelT) ON ?_))
   rw [setCells_kit]
   go_wp2
   refine bodyPost_ret (results_cell1 Tryz.results106 rfl bF.rangeAt Tryz.underlying59 rfl (by rw [hl];exact sizeModelT)) rfl ?_
   exact HF
  ·have h0:True:=trivial
   go_wp2_with fail
   refine(l21Any_c g _ H.cu).mono ?_
   rintro e w9 ⟨o,c,fp,rfl,oO,fO,_,cu9,ch9⟩
   have hMl:=H.kM.lt
   have hlt:=H.lt
   have hs:StX (rOperator NB) (w.heap.size+1) gM w9 c o:=StX.ofOwn (rOperator_ok NB) oO (fun k hk=>by have:=fO.ge k hk;omega)
   replace H:=H.step ch9 cu9
   have hcz2:c.toArray.size=6:=List.size_toArray.trans (op_len hs.rep)
   have ON:=one_rep (rOperator_ok NB) hs.rep
   have TH:w9.there gM 6 c.toArray.size:=by rw [hcz2];exact H.thr 6 6 (by omega)
   have H2:=H.put2 hs
   clear cu9 ch9 oO fO
   obtain⟨w10,hw10⟩:∃ W,W=setCells w9 gM 6 c:=⟨_,rfl⟩
   rw [<- hw10]at H2
   have HWK:Hid (w9.setCells gM 6 c.toArray.toList=w10):=by show _=_;rw [setCells_kit,hw10]
   have ON2:=ON
   have TH2:=TH
   clear hw10 hs H hMl hlt ON TH
   obtain⟨cs,hl,hcz,kM,ON,HF⟩:=H2.out
   have TH:w10.there w.heap.size 0 cs.toArray.size:=by rw [hcz];exact H2.kR.there
   have bF:=H2.kR.fill (c:=cs) (by rw [hl];rfl)
   clear H2
   go_wp2_with (first|(refine wpList_store_mid rfl 57 _ _ rfl gM 6 c.toArray rfl rfl TH2 (by rw [hcz2];exact sizeOpT) ON2 ?_;rw [HWK.out])|(refine wpList_load_mid rfl 59 _ rfl gM 0 rfl cs _ kM.rangeAt Tryz.underlying59 rfl (by rw [hl];exact sizeModelT) ?_)|(refine wpList_store_mid rfl 59 _ _ rfl w.heap.size 0 cs.toArray rfl rfl TH (by rw [hcz];exact sizeModelT) ON ?_))
   rw [setCells_kit]
   go_wp2
   refine bodyPost_ret (results_cell1 Tryz.results106 rfl bF.rangeAt Tryz.underlying59 rfl (by rw [hl];exact sizeModelT)) rfl ?_
   exact HF
end Go.Proofs.YtadgmjdafkihfaaGreat
