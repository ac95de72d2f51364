/-
  Odr
-/
import Derived.Test.YtnlcfkpcmfljeaaGreatUpd
import Derived.Test.YtnlcfkpcmfljeaaGreatTo
import Derived.Deep.Cut
import Derived.Deep.RegionHeld3
import Derived.Deep.DrawnRows
import Derived.Test.YtnlcfkpcmfljeaaGreatPqp
import Derived.Test.YtnlcfkpcmfljeaaGreatBxw
set_option linter.unusedSimpArgs false
set_option linter.unusedVariables false
set_option maxHeartbeats 12800000
set_option maxRecDepth 100000
namespace Go.Proofs.YtnlcfkpcmfljeaaGreat
open Go.RowKit
attribute [local go_sem ↓] Go.wp_at_zero Go.wp_at_succ
theorem rCostStep_flt (M:Nat):(rCostStep M).Flat:=rIso_flat (rPair_flat rInt_flat rInt_flat) _
theorem rCostStep_nt {t:TypeId}:(rCostStep NB).NT t:=rIso_nt (rPair_nt rInt_nt rInt_nt) _
theorem neOp:(205:TypeId)≠44:=by decide
abbrev set6 (w:World) (g:Nat) (a b c d e f:Value):World:=(((((w.setCell ⟨g,0,none⟩ a).setCell ⟨g,1,none⟩ b).setCell ⟨g,2,none⟩ c).setCell ⟨g,3,none⟩ d).setCell ⟨g,4,none⟩ e).setCell ⟨g,5,none⟩ f
section
variable {w W W':World} {g:Nat} {t:TypeId} {x0 x1 x2 x3 x4 x5:Value}
theorem set6_ne {k:Nat}(hk:k≠g) (a b c d e f:Value):(set6 w g a b c d e f).heap[k]?=w.heap[k]? :=
 (((((heap_setCell_other _ ⟨g,5,none⟩ k _ (fun e=>hk e)).trans (heap_setCell_other _ ⟨g,4,none⟩ k _ (fun e=>hk e))).trans (heap_setCell_other _ ⟨g,3,none⟩ k _ (fun e=>hk e))).trans (heap_setCell_other _ ⟨g,2,none⟩ k _ (fun e=>hk e))).trans (heap_setCell_other _ ⟨g,1,none⟩ k _ (fun e=>hk e))).trans (heap_setCell_other _ ⟨g,0,none⟩ k _ (fun e=>hk e))
theorem Bk.set6 (h:Bk w g t [x0,x1,x2,x3,x4,x5]) (a b c d e f:Value):Bk (set6 w g a b c d e f) g t [a,b,c,d,e,f]:=(((((h.set 0 a).set 1 b).set 2 c).set 3 d).set 4 e).set 5 f
theorem bls6 {B:Nat}{a:World}(h:Below B a w) (hg:B<=g) (x y z u v s:Value):Below B a (Proofs.YtnlcfkpcmfljeaaGreat.set6 w g x y z u v s) :=
 (((((h.setCell (p:=⟨g,0,none⟩) hg _).setCell (p:=⟨g,1,none⟩) hg _).setCell (p:=⟨g,2,none⟩) hg _).setCell (p:=⟨g,3,none⟩) hg _).setCell (p:=⟨g,4,none⟩) hg _).setCell (p:=⟨g,5,none⟩) hg _
theorem Bk.r6 (h:Bk w g t [x0,x1,x2,x3,x4,x5]):w.cell? ⟨g,0,none⟩=some x0/\w.frozen? ⟨g,0,none⟩=false/\w.cell? ⟨g,1,none⟩=some x1/\w.frozen? ⟨g,1,none⟩=false/\w.cell? ⟨g,2,none⟩=some x2/\w.frozen? ⟨g,2,none⟩=false/\w.cell? ⟨g,3,none⟩=some x3/\w.frozen? ⟨g,3,none⟩=false/\w.cell? ⟨g,4,none⟩=some x4/\w.frozen? ⟨g,4,none⟩=false/\w.cell? ⟨g,5,none⟩=some x5/\w.frozen? ⟨g,5,none⟩=false :=
 ⟨h.bx 0 _ rfl,h.frozen 0,h.bx 1 _ rfl,h.frozen 1,h.bx 2 _ rfl,h.frozen 2,h.bx 3 _ rfl,h.frozen 3,h.bx 4 _ rfl,h.frozen 4,h.bx 5 _ rfl,h.frozen 5⟩
end
theorem RS.ofBk {W:World}{z:Nat}{t:TypeId}{l:List Int}(k:Bk W z t (l.map (Value.int .i64))) (hl:l.length<=1000) (hI:∀ x∈l,I64 x):RS NB rInt W (some ⟨z,0,none⟩) l.length l.length l :=
 ⟨rfl,by unfold NB;omega,Nat.le_refl _,fun _=>⟨z,0,rfl,fun j x hj=>⟨[.int .i64 x],⟨rfl,hI x (mem_of_at hj)⟩,fun i v hi=>by
  match i,hi with
  | 0,hi =>
   simp at hi;subst hi;have:=k.bx j (.int .i64 x) (by rw [List.getElem?_map,hj];rfl);have e:rInt.size=1:=rfl;simpa [e]using this⟩⟩⟩
structure Ob (w:World) (g gO:Nat) (o:OperatorD) (A:Option Addr) (n c:Nat) (W:World):Prop where
 cu:Cur W g
 ch:Chg [g] w W
 kR:Bk W w.heap.size 44 [.int .i64 0,.int .i64 0,.int .i64 0,.int .i64 0,.int .i64 0,.slice none 0 0]
 kO:Bk W gO 44 [.int .i64 o.fFixed,.int .i64 o.fPerLeft,.int .i64 o.fPerRight,.int .i64 o.fPerOutput,.int .i64 o.fPerPair,.slice A n c]
 ms:MS (w.heap.size+1) NB 205 (rCostStep NB) W A n c o.fSteps
 rg:I64 o.fFixed/\I64 o.fPerLeft/\I64 o.fPerRight/\I64 o.fPerOutput/\I64 o.fPerPair
 lt:w.heap.size<gO
 hg:g<w.heap.size
section
variable {w W W':World} {g gO:Nat} {o:OperatorD} {A A':Option Addr} {n c n' c':Nat}
theorem Ob.step (H:Ob w g gO o A n c W) (h:Chg [g] W W') (cu:Cur W' g):Ob w g gO o A n c W':=by
 have hl:=H.lt;have hg:=H.hg;refine⟨cu,H.ch.trans h,(h.block _ H.kR.lt (by simp;omega)).trans H.kR,(h.block _ H.kO.lt (by simp;omega)).trans H.kO,?_,H.rg,hl,hg⟩;obtain⟨fp,q,f⟩:=H.ms;exact⟨fp,q.okeep (rCostStep_ok NB) (fun k hk=>h.block k (q.lt (rCostStep_ok NB) k hk) (by have:=f.ge k hk;simp;omega)),f⟩
theorem chgX {w0 a b:World}(h:Chg [g] w0 a) (hb:Below (w0.heap.size+1) a b):Chg [g] w0 b :=
 ⟨hb.os.trans h.os,hb.tape.trans h.tape,hb.output.trans h.output,Nat.le_trans h.size hb.size,fun k hk hn=>(hb.block k (by omega)).trans (h.block k hk hn)⟩
theorem steps_box {B g':Nat}{cs:List Value}{L:List CostStepD}(k:Bk W g' 44 cs) (m:MS B NB 205 (rCostStep NB) W A n c L) (j:Nat) (v:Value):MS B NB 205 (rCostStep NB) (W.setCell ⟨g',j,none⟩ v) A n c L:=by
 obtain⟨fp,o,f⟩:=m;have hn:=(o.nt rCostStep_nt neOp).ne k;exact⟨fp,o.okeep (rCostStep_ok NB) (fun q hq=>heap_setCell_other _ ⟨g',j,none⟩ q _ (fun e=>hn (by have e2:q=g':=e;rw [<- e2];exact hq))),f⟩
theorem steps_ne {B g':Nat}{cs:List Value}{L:List CostStepD}(m:MS B NB 205 (rCostStep NB) W A n c L) (k:Bk W g' 44 cs):g'∉blk A:=fun h=>by
 obtain⟨fp,o,f⟩:=m;obtain⟨_,fps,_,e,_⟩:=o.ex;exact(o.nt rCostStep_nt neOp).ne k (by rw [e];exact List.mem_append_left _ h)
theorem Ob.put (H:Ob w g gO o A n c W) (j:Nat) (v:Value) {o':OperatorD}{A2:Option Addr}{n2 c2:Nat}(m:MS (w.heap.size+1) NB 205 (rCostStep NB) W A2 n2 c2 o'.fSteps)
  (hk:Bk (W.setCell ⟨gO,j,none⟩ v) gO 44 [.int .i64 o'.fFixed,.int .i64 o'.fPerLeft,.int .i64 o'.fPerRight,.int .i64 o'.fPerOutput,.int .i64 o'.fPerPair,.slice A2 n2 c2])
  (hr:I64 o'.fFixed/\I64 o'.fPerLeft/\I64 o'.fPerRight/\I64 o'.fPerOutput/\I64 o'.fPerPair):Ob w g gO o' A2 n2 c2 (W.setCell ⟨gO,j,none⟩ v):=by
 have hl:=H.lt;have hg:=H.hg;have b:Below gO W (W.setCell ⟨gO,j,none⟩ v):=(Below.refl _ _).setCell (p:=⟨gO,j,none⟩) (Nat.le_refl _) _;exact⟨H.cu.low (by omega) b,chgS H.ch b (by omega),(b.block _ hl).trans H.kR,hk,steps_box H.kO m j v,hr,hl,hg⟩
theorem Ob.app (H:Ob w g gO o A n c W) {L2:List CostStepD}(k9:Bk W' gO 44 [.int .i64 o.fFixed,.int .i64 o.fPerLeft,.int .i64 o.fPerRight,.int .i64 o.fPerOutput,.int .i64 o.fPerPair,.slice A n c]) (r9:Bk W' w.heap.size 44 [.int .i64 0,.int .i64 0,.int .i64 0,.int .i64 0,.int .i64 0,.slice none 0 0])
  (hb:Below (w.heap.size+1) W W') (m:MS (w.heap.size+1) NB 205 (rCostStep NB) W' A' n' c' L2):Ob w g gO ⟨o.fFixed,o.fPerLeft,o.fPerRight,o.fPerOutput,o.fPerPair,L2⟩ A' n' c' (W'.setCell ⟨gO,5,none⟩ (.slice A' n' c')):=by
 have hl:=H.lt;have hg:=H.hg;have b:Below gO W' (W'.setCell ⟨gO,5,none⟩ (.slice A' n' c')):=(Below.refl _ _).setCell (p:=⟨gO,5,none⟩) (Nat.le_refl _) _;exact⟨(H.cu.low (by omega) hb).low (by omega) b,(chgX (chgX H.ch hb) (b.mono (by omega))),(b.block _ hl).trans r9,k9.set 5 _,steps_box k9 m 5 _,H.rg,hl,hg⟩
theorem Ob.fin (H:Ob w g gO o A n c W) {P:OperatorD->Prop}(hP:P o):DrawnV (rOperator NB) P g w (.returned (.agg #[.int .i64 o.fFixed,.int .i64 o.fPerLeft,.int .i64 o.fPerRight,.int .i64 o.fPerOutput,.int .i64 o.fPerPair,.slice A n c])) (set6 W w.heap.size (.int .i64 o.fFixed) (.int .i64 o.fPerLeft) (.int .i64 o.fPerRight) (.int .i64 o.fPerOutput) (.int .i64 o.fPerPair) (.slice A n c)):=by
 have hg:=H.hg;obtain⟨fp,q,f⟩:=H.ms;obtain⟨i1,i2,i3,i4,i5⟩:=H.rg;have b:=bls6 (Below.refl w.heap.size W) (Nat.le_refl _) (.int .i64 o.fFixed) (.int .i64 o.fPerLeft) (.int .i64 o.fPerRight) (.int .i64 o.fPerOutput) (.int .i64 o.fPerPair) (.slice A n c);exact⟨o,_,fp,rfl,rOperator_own.2 ⟨A,n,c,fp,rfl,rfl,i1,i2,i3,i4,i5,q.okeep (rCostStep_ok NB) (fun k hk=>set6_ne (by have:=f.ge k hk;omega) _ _ _ _ _ _)⟩,f.mono (Nat.le_succ _),hP,H.cu.low hg b,chgS H.ch b (Nat.le_refl _)⟩
end
theorem l21Op_c (g:Nat) (w:World) (hc:Cur w g):Calls Tryz.prog 211 #[.pointer (some ⟨g,0,none⟩)] w (DrawnV (rOperator NB) (fun o=>o.fSteps.length<=1) g w):=by
 have hgw:=hc.lt;obtain⟨w1,hw1⟩:∃ W,W=w.alloc (.cells #[.int .i64 0,.int .i64 0,.int .i64 0,.int .i64 0,.int .i64 0,.slice none 0 0] 44):=⟨_,rfl⟩;have b1:Below w.heap.size w w1:=by rw [hw1];exact bal
 have kR:Bk w1 w.heap.size 44 [.int .i64 0,.int .i64 0,.int .i64 0,.int .i64 0,.int .i64 0,.slice none 0 0]:=by rw [hw1];exact Bk.new w _ _
 have C1:Chg [g] w w1:=Chg.ofBelow b1 _;have cu1:=hc.below b1;clear b1
 go_enter Tryz.func211,Tryz.ntmps211
 go_upto_region 1 with fail
 rw [<- hw1];clear hw1
 go_wp2_with fail
 refine(l1Below_c g 5 _ (by omega) cu1).mono ?_;rintro e w2 ⟨v1,rfl,⟨a1,_,z1⟩,cu2,ch2⟩;have e1:=z1 (by omega);clear z1 cu1
 go_wp2_with fail
 refine(l1Below_c g 4 _ (by omega) cu2).mono ?_;rintro e w3 ⟨v2,rfl,⟨a2,_,z2⟩,cu3,ch3⟩;have e2:=z2 (by omega);clear z2 cu2
 go_wp2_with fail
 refine(l1Below_c g 4 _ (by omega) cu3).mono ?_;rintro e w4 ⟨v3,rfl,⟨a3,_,z3⟩,cu4,ch4⟩;have e3:=z3 (by omega);clear z3 cu3
 go_wp2_with fail
 refine(l1Below_c g 3 _ (by omega) cu4).mono ?_;rintro e w5 ⟨v4,rfl,⟨a4,_,z4⟩,cu5,ch5⟩;have e4:=z4 (by omega);clear z4 cu4;obtain⟨w6,hw6⟩:∃ W,W=w5.alloc (.cells #[.int .i64 (1+v1),.int .i64 v2,.int .i64 v3,.int .i64 v4,.int .i64 0,.slice none 0 0] 44):=⟨_,rfl⟩;have b6:Below w5.heap.size w5 w6:=by rw [hw6];exact bal
 have hz1:=kR.lt;have hz5:w.heap.size<w5.heap.size:=by have:=ch2.size;have:=ch3.size;have:=ch4.size;have:=ch5.size;omega
 have D5:=((ch2.trans ch3).trans ch4).trans ch5
 have H:Ob w g w5.heap.size ⟨1+v1,v2,v3,v4,0,[]⟩ none 0 0 w6 :=
  ⟨cu5.below b6,(C1.trans D5).trans (Chg.ofBelow b6 _),Bk.below (w:=w5) ((D5.block _ kR.lt (by simp;omega)).trans kR) b6,by rw [hw6];exact Bk.new w5 _ _,MS.nil _ (Nat.zero_le _),⟨by dsimp only;unfold I64;omega,by dsimp only;unfold I64;omega,by dsimp only;unfold I64;omega,by dsimp only;unfold I64;omega,I64_zero⟩,hz5,hgw⟩
 obtain⟨gO,hgO⟩:∃ z,z=w5.heap.size:=⟨_,rfl⟩;obtain⟨o,ho⟩:∃ o:OperatorD,o=⟨1+v1,v2,v3,v4,0,[]⟩:=⟨_,rfl⟩;have hst:o.fSteps=[]:=by rw [ho]
 rw [<- hgO,<- ho]at H;clear D5 ch2 ch3 ch4 ch5 C1 kR cu5 b6 ho hz1 hz5
 go_upto_region 2 with fail
 rw [<- hgO,<- hw6];clear hgO hw6
 go_wp2_with fail
 refine(l1Once_c g 3 _ (by omega) H.cu).mono ?_;rintro e w7 ⟨b,rfl,cu7,ch7⟩;replace H:=H.step ch7 cu7;clear cu7 ch7;cases b
 focus
  go_upto_region 4 with fail
  obtain⟨wr,rfl⟩:∃ z,z=w7:=⟨_,rfl⟩
 rotate_left
 focus
  go_wp2_with fail
  refine(l1Below_c g 3 _ (by omega) H.cu).mono ?_;rintro e w8 ⟨v5,rfl,⟨a5,_,z5⟩,cu8,ch8⟩;have e5:=z5 (by omega);replace H:=H.step ch8 cu8;have f4:=H.kO.frozen 4;have c4:=H.kO.bx 4 _ rfl;have H9:=H.put 4 (.int .i64 v5) (o':=⟨o.fFixed,o.fPerLeft,o.fPerRight,o.fPerOutput,v5,o.fSteps⟩) H.ms (H.kO.set 4 _) ⟨H.rg.1,H.rg.2.1,H.rg.2.2.1,H.rg.2.2.2.1,by dsimp only;unfold I64;omega⟩;clear cu8 ch8 z5
  go_upto_region 4 with fail
  obtain⟨wr,hwr⟩:∃ W,W=w8.setCell ⟨gO,4,none⟩ (.int .i64 v5):=⟨_,rfl⟩;rw [<- hwr]at H9 ⊢;obtain⟨o2,ho2⟩:∃ o2:OperatorD,o2=⟨o.fFixed,o.fPerLeft,o.fPerRight,o.fPerOutput,v5,o.fSteps⟩:=⟨_,rfl⟩;have hst2:o2.fSteps=[]:=by rw [ho2];exact hst
  rw [<- ho2]at H9;clear H hwr ho2 hst f4 c4;obtain⟨o,rfl⟩:∃ z,z=o2:=⟨_,rfl⟩;have H:=H9;have hst:=hst2;clear H9 hst2
 all_goals
  go_wp2_with fail
  refine(l1Once_c g 3 _ (by omega) H.cu).mono ?_;rintro e w10 ⟨b,rfl,cu10,ch10⟩;replace H:=H.step ch10 cu10;clear cu10 ch10;cases b
  ·have hlen:o.fSteps.length<=1:=by rw [hst];decide
   obtain⟨A,hA⟩:∃ A:Option Addr,A=none:=⟨_,rfl⟩;have ⟨x0,_,x1,_,x2,_,x3,_,x4,_,x5,_⟩:=H.kO.r6;have ⟨r0,f0,r1,f1,r2,f2,r3,f3,r4,f4,r5,f5⟩:=H.kR.r6;go_wp2;have ⟨q0,_,q1,_,q2,_,q3,_,q4,_,q5,_⟩:=H.kR.set6 (.int .i64 o.fFixed) (.int .i64 o.fPerLeft) (.int .i64 o.fPerRight) (.int .i64 o.fPerOutput) (.int .i64 o.fPerPair) (.slice none 0 0) |>.r6;refine bodyPost_ret (v:=.agg #[.int .i64 o.fFixed,.int .i64 o.fPerLeft,.int .i64 o.fPerRight,.int .i64 o.fPerOutput,.int .i64 o.fPerPair,.slice none 0 0]) (by simp [results,Tryz.results211,go_sem,q0,q1,q2,q3,q4,q5]) rfl ?_;exact H.fin (by simpa using hlen)
  ·have h0:True:=trivial
   have HD:=H.step (Chg.ofBelow ((Below.refl w10.heap.size w10).drew) [g]) (H.cu.below (Below.refl _ _).drew);have HSS:=Lib.hid (fun (w':World) (hh:Bk w' gO 44 [.int .i64 o.fFixed,.int .i64 o.fPerLeft,.int .i64 o.fPerRight,.int .i64 o.fPerOutput,.int .i64 o.fPerPair,.slice none 0 0])=>(hh.bx 5 _ rfl:w'.cell? ⟨gO,5,none⟩=some (.slice none 0 0)));have x5:=H.kO.bx 5 _ rfl;have f5:=H.kO.frozen 5
   go_wp2_with fail
   refine hgg 11 HSS.out HD.kO (fun hH=>?_);refine tgk 0 21 hH ?_;simp only [putS];refine tgk 1 22 hH ?_;simp only [putS];refine tgk 2 23 hH ?_;simp only [putS];refine tgk 5 26 hH ?_;simp only [putS];have HA:=HD.step (Chg.ofBelow ((Below.refl _ _).alloc (Nat.le_refl _) (.cells #[.int .i64 1,.int .i64 5,.int .i64 17,.int .i64 32] 3)) [g]) (HD.cu.alloc _);refine rg 3 (some 24) fun K hK=>?_;clear hH;go_simp;refine hK.out _ _ (fun _=>HSS.out _ HA.kO) fun hH=>?_;replace hH:=hH (by decide);clear hK K
   try simp only [putS]
   refine rg 4 (some 25) fun K hK=>?_;clear hH;go_simp;refine(l1PickInt_c g _ 4 4 [1,5,17,32] _ (RS.lit w10.drew [1,5,17,32] _ (by simp) (by simp [I64])) HD.cu.ne (by omega) HA.cu).mono ?_;rintro e wB ⟨x,rfl,hx,cuP,chP⟩;have HB:=HA.step chP cuP
   go_wp2_with fail
   refine hK.out _ _ (fun _=>HSS.out _ HB.kO) fun hH=>?_;replace hH:=hH (by decide);clear hK K
   try simp only [putS]
   refine rg 6 (some 27) fun K hK=>?_;clear hH;go_simp;refine(l1Below_c g 20 _ (by omega) HB.cu).mono ?_;rintro e wE ⟨y,rfl,⟨y0,_,y1⟩,cuQ,chQ⟩;have HE:=HB.step chQ cuQ
   go_wp2_with fail
   refine hK.out _ _ (fun _=>HSS.out _ HE.kO) fun hH=>?_;replace hH:=hH (by decide);clear hK K
   try simp only [putS]
   have hxI:I64 x:=by rcases mem4 hx with rfl|rfl|rfl|rfl<;>(unfold I64;omega)
   have hy20:=y1 (by omega);have hyI:I64 y:=by unfold I64;omega
   refine tgk 7 28 hH ?_;simp only [putS];have hAl:=(Below.refl wE.heap.size wE).alloc (Nat.le_refl _) (.cells #[.int .i64 x,.int .i64 y] 205);have HF:=HE.step (Chg.ofBelow hAl [g]) (HE.cu.alloc _);have hze:w.heap.size+1<=wE.heap.size:=HE.kR.lt;refine rg 8 (some 29) fun K hK=>?_;clear hH;go_simp;refine hK.out _ _ (fun _=>HSS.out _ HF.kO) fun hH=>?_;replace hH:=hH (by decide);clear hK K
   try simp only [putS]
   refine rg 9 (some 30) fun K hK=>?_;clear hH;refine step_appR (r:=rCostStep NB) (by rfl) _ _ 42 (by rfl) _ 16 eiCostStep (rCostStep_ok NB) (by rfl) HE.ms hAl hze ⟨wE.heap.size,0,none⟩ (by rfl) (f:=[]) (cs:=[.int .i64 x,.int .i64 y]) (y:=⟨x,y⟩) (rCostStep_own.2 ⟨rfl,rfl,hxI,hyI⟩) (Fr.nil _) (cells_new _ _ _) (by unfold NB;omega) (Nat.le_refl _) (by omega) ?_;intro A9 c9 w9 hM9 hb9 hg9 hA9;have k9:=HF.kO.grw hg9 (steps_ne HF.ms HF.kO);have r9:=HF.kR.grw hg9 (steps_ne HF.ms HF.kR);refine hK.out _ _ (fun _=>HSS.out _ k9) fun hH=>?_;replace hH:=hH (by decide);clear hK K
   try simp only [putS]
   refine tgk 10 31 hH ?_;simp only [putS];have f9:=k9.frozen 5;have x9:=k9.bx 5 _ rfl;refine rg 11 none fun K hK=>?_;clear hH;go_simp;refine hK.out _ _ (fun h=>absurd rfl h) fun hH=>?_;clear hK K
   try simp only [putS]
   refine wpG_done (by kernel_rfl) ?_ _;clear hH;have HG:=HF.app k9 r9 hb9 hM9;clear k9 f9 x9 r9 HF HE hAl HD HSS;obtain⟨wz,hwz⟩:∃ W,W=w9.setCell ⟨gO,5,none⟩ (.slice A9 1 c9):=⟨_,rfl⟩;rw [Nat.zero_add,<- hwz]at HG;rw [<- hwz];obtain⟨o2,ho2⟩:∃ o2:OperatorD,o2=⟨o.fFixed,o.fPerLeft,o.fPerRight,o.fPerOutput,o.fPerPair,o.fSteps++[⟨x,y⟩]⟩:=⟨_,rfl⟩;have hlen:o2.fSteps.length<=1:=by rw [ho2];simp [hst]
   rw [<- ho2]at HG;clear hwz ho2;have ⟨x0,_,x1,_,x2,_,x3,_,x4,_,x5,_⟩:=HG.kO.r6;have ⟨r0,f0,r1,f1,r2,f2,r3,f3,r4,f4,r5,f5⟩:=HG.kR.r6;go_wp2;have ⟨q0,_,q1,_,q2,_,q3,_,q4,_,q5,_⟩:=HG.kR.set6 (.int .i64 o2.fFixed) (.int .i64 o2.fPerLeft) (.int .i64 o2.fPerRight) (.int .i64 o2.fPerOutput) (.int .i64 o2.fPerPair) (.slice A9 1 c9) |>.r6;refine bodyPost_ret (v:=.agg #[.int .i64 o2.fFixed,.int .i64 o2.fPerLeft,.int .i64 o2.fPerRight,.int .i64 o2.fPerOutput,.int .i64 o2.fPerPair,.slice A9 1 c9]) (by simp [results,Tryz.results211,go_sem,q0,q1,q2,q3,q4,q5]) rfl ?_;exact HG.fin hlen
end Go.Proofs.YtnlcfkpcmfljeaaGreat
namespace Go.Proofs.YtnlcfkpcmfljeaaGreat
open Go.RowKit
attribute [local go_sem ↓] Go.wp_at_zero Go.wp_at_succ
theorem l21Any_c (g:Nat) (w:World) (hc:Cur w g):Calls Tryz.prog 154 #[.pointer (some ⟨g,0,none⟩)] w (DrawnV (rOperator NB) (fun o=>o.fSteps.length<=2) g w):=by
 have hgw:=hc.lt;obtain⟨w1,hw1⟩:∃ W,W=w.alloc (.cells #[.int .i64 0,.int .i64 0,.int .i64 0,.int .i64 0,.int .i64 0,.slice none 0 0] 44):=⟨_,rfl⟩;have b1:Below w.heap.size w w1:=by rw [hw1];exact bal
 have hs1:w1.heap.size=w.heap.size+1:=by rw [hw1];simp
 have kR:Bk w1 w.heap.size 44 [.int .i64 0,.int .i64 0,.int .i64 0,.int .i64 0,.int .i64 0,.slice none 0 0]:=by rw [hw1];exact Bk.new w _ _
 have C1:Chg [g] w w1:=Chg.ofBelow b1 _;have cu1:=hc.below b1;have HS1:=Lib.hid hs1;clear b1 hs1
 go_enter Tryz.func154,Tryz.ntmps154
 go_upto_region 1 with fail
 rw [<- hw1];clear hw1
 go_wp2_with fail
 refine(l21Op_c g _ cu1).mono ?_;rintro e w2 ⟨o,cs,fp,rfl,oO,fO,hst,cu2,ch2⟩;obtain⟨A,n,c,_,rfl,rfl,i1,i2,i3,i4,i5,oS⟩:=rOperator_own.1 oO;obtain⟨w3,hw3⟩:∃ W,W=w2.alloc (.cells #[.int .i64 o.fFixed,.int .i64 o.fPerLeft,.int .i64 o.fPerRight,.int .i64 o.fPerOutput,.int .i64 o.fPerPair,.slice A n c] 44):=⟨_,rfl⟩;have b3:Below w2.heap.size w2 w3:=by rw [hw3];exact bal
 have hz2:w.heap.size<w2.heap.size:=by have:=ch2.size;have:=HS1.out;omega
 have H:Ob w g w2.heap.size o A n c w3 :=
  ⟨cu2.below b3,(C1.trans ch2).trans (Chg.ofBelow b3 _),Bk.below (w:=w2) ((ch2.block _ kR.lt (by simp;omega)).trans kR) b3,by rw [hw3];exact Bk.new w2 _ _,⟨_,oS.belowS (rCostStep_ok NB) b3,fO.mono (by have:=HS1.out;omega)⟩,⟨i1,i2,i3,i4,i5⟩,hz2,hgw⟩
 obtain⟨gO,hgO⟩:∃ z,z=w2.heap.size:=⟨_,rfl⟩;rw [<- hgO]at H;have hnl:=oS.len;clear oO oS fO cu2 ch2 C1 kR cu1 b3 hz2 HS1 i1 i2 i3 i4 i5
 go_upto_region 2 with fail
 rw [<- hgO,<- hw3];clear hgO hw3
 go_wp2_with fail
 refine(l1Below_c g 10 _ (by omega) H.cu).mono ?_;rintro e w4 ⟨k,rfl,⟨k0,_,k1⟩,cu4,ch4⟩;replace H:=H.step ch4 cu4;clear cu4 ch4 k1;by_cases e0:k=0
 ·subst e0
  go_wp2_with fail
  refine(l1PickInt_c g _ 4 4 [-1,99,100,-100] _ (RS.lit w4 [-1,99,100,-100] _ (by simp) (by simp [I64])) H.cu.ne (by omega) (H.cu.alloc _)).mono ?_;rintro e w5 ⟨x,rfl,hx,cu5,ch5⟩;have hxI:I64 x:=by simp at hx;unfold I64;omega
  have HA:=H.step (Chg.ofBelow ((Below.refl _ _).alloc (Nat.le_refl _) (.cells #[.int .i64 (-1),.int .i64 99,.int .i64 100,.int .i64 (-100)] 3)) [g]) (H.cu.alloc _);have HB:=HA.step ch5 cu5;have fz:=HB.kO.frozen 1;have cz:=HB.kO.bx 1 _ rfl;have H9:=HB.put 1 (.int .i64 x) (o':=⟨o.fFixed,x,o.fPerRight,o.fPerOutput,o.fPerPair,o.fSteps⟩) HB.ms (HB.kO.set 1 _) ⟨HB.rg.1,hxI,HB.rg.2.2.1,HB.rg.2.2.2.1,HB.rg.2.2.2.2⟩;clear H HA HB cu5 ch5
  go_upto_region 9 with fail
  obtain⟨wr,hwr⟩:∃ W,W=w5.setCell ⟨gO,1,none⟩ (.int .i64 x):=⟨_,rfl⟩;rw [<- hwr]at H9 ⊢;obtain⟨o2,ho2⟩:∃ o2:OperatorD,o2=⟨o.fFixed,x,o.fPerRight,o.fPerOutput,o.fPerPair,o.fSteps⟩:=⟨_,rfl⟩;have hlen:o2.fSteps.length<=2:=by rw [ho2];exact Nat.le_succ_of_le hst
  rw [<- ho2]at H9;clear hwr ho2 fz cz;have ⟨x0,_,x1,_,x2,_,x3,_,x4,_,x5,_⟩:=H9.kO.r6;have ⟨r0,f0,r1,f1,r2,f2,r3,f3,r4,f4,r5,f5⟩:=H9.kR.r6;go_wp2;have ⟨q0,_,q1,_,q2,_,q3,_,q4,_,q5,_⟩:=H9.kR.set6 (.int .i64 o2.fFixed) (.int .i64 o2.fPerLeft) (.int .i64 o2.fPerRight) (.int .i64 o2.fPerOutput) (.int .i64 o2.fPerPair) (.slice A n c) |>.r6;refine bodyPost_ret (v:=.agg #[.int .i64 o2.fFixed,.int .i64 o2.fPerLeft,.int .i64 o2.fPerRight,.int .i64 o2.fPerOutput,.int .i64 o2.fPerPair,.slice A n c]) (by simp [results,Tryz.results154,go_sem,q0,q1,q2,q3,q4,q5]) rfl ?_;exact H9.fin hlen
 by_cases e2:k=2
 ·subst e2
  go_wp2_with fail
  refine(l1PickInt_c g _ 4 4 [0,-5,99,9223372036854775807] _ (RS.lit w4 [0,-5,99,9223372036854775807] _ (by simp) (by simp [I64])) H.cu.ne (by omega) (H.cu.alloc _)).mono ?_;rintro e w5 ⟨x,rfl,hx,cu5,ch5⟩;have hxI:I64 x:=by simp at hx;unfold I64;omega
  have HA:=H.step (Chg.ofBelow ((Below.refl _ _).alloc (Nat.le_refl _) (.cells #[.int .i64 0,.int .i64 (-5),.int .i64 99,.int .i64 9223372036854775807] 3)) [g]) (H.cu.alloc _);have HB:=HA.step ch5 cu5;have fz:=HB.kO.frozen 0;have cz:=HB.kO.bx 0 _ rfl;have H9:=HB.put 0 (.int .i64 x) (o':=⟨x,o.fPerLeft,o.fPerRight,o.fPerOutput,o.fPerPair,o.fSteps⟩) HB.ms (HB.kO.set 0 _) ⟨hxI,HB.rg.2.1,HB.rg.2.2.1,HB.rg.2.2.2.1,HB.rg.2.2.2.2⟩;clear H HA HB cu5 ch5
  go_upto_region 9 with fail
  obtain⟨wr,hwr⟩:∃ W,W=w5.setCell ⟨gO,0,none⟩ (.int .i64 x):=⟨_,rfl⟩;rw [<- hwr]at H9 ⊢;obtain⟨o2,ho2⟩:∃ o2:OperatorD,o2=⟨x,o.fPerLeft,o.fPerRight,o.fPerOutput,o.fPerPair,o.fSteps⟩:=⟨_,rfl⟩;have hlen:o2.fSteps.length<=2:=by rw [ho2];exact Nat.le_succ_of_le hst
  rw [<- ho2]at H9;clear hwr ho2 fz cz;have ⟨x0,_,x1,_,x2,_,x3,_,x4,_,x5,_⟩:=H9.kO.r6;have ⟨r0,f0,r1,f1,r2,f2,r3,f3,r4,f4,r5,f5⟩:=H9.kR.r6;go_wp2;have ⟨q0,_,q1,_,q2,_,q3,_,q4,_,q5,_⟩:=H9.kR.set6 (.int .i64 o2.fFixed) (.int .i64 o2.fPerLeft) (.int .i64 o2.fPerRight) (.int .i64 o2.fPerOutput) (.int .i64 o2.fPerPair) (.slice A n c) |>.r6;refine bodyPost_ret (v:=.agg #[.int .i64 o2.fFixed,.int .i64 o2.fPerLeft,.int .i64 o2.fPerRight,.int .i64 o2.fPerOutput,.int .i64 o2.fPerPair,.slice A n c]) (by simp [results,Tryz.results154,go_sem,q0,q1,q2,q3,q4,q5]) rfl ?_;exact H9.fin hlen
 by_cases e1:k=1
 rotate_left
 ·have hlen:o.fSteps.length<=2:=Nat.le_succ_of_le hst
  have ⟨x0,_,x1,_,x2,_,x3,_,x4,_,x5,_⟩:=H.kO.r6;have ⟨r0,f0,r1,f1,r2,f2,r3,f3,r4,f4,r5,f5⟩:=H.kR.r6;go_wp2;have ⟨q0,_,q1,_,q2,_,q3,_,q4,_,q5,_⟩:=H.kR.set6 (.int .i64 o.fFixed) (.int .i64 o.fPerLeft) (.int .i64 o.fPerRight) (.int .i64 o.fPerOutput) (.int .i64 o.fPerPair) (.slice A n c) |>.r6;refine bodyPost_ret (v:=.agg #[.int .i64 o.fFixed,.int .i64 o.fPerLeft,.int .i64 o.fPerRight,.int .i64 o.fPerOutput,.int .i64 o.fPerPair,.slice A n c]) (by simp [results,Tryz.results154,go_sem,q0,q1,q2,q3,q4,q5]) rfl ?_;exact H.fin hlen
 ·subst e1
  have hn2:n<=1:=by rw [<- hnl];exact hst
  have HD:=H.step (Chg.ofBelow ((Below.refl w4.heap.size w4).drew) [g]) (H.cu.below (Below.refl _ _).drew);have HSS:=Lib.hid (fun (w':World) (hh:Bk w' gO 44 [.int .i64 o.fFixed,.int .i64 o.fPerLeft,.int .i64 o.fPerRight,.int .i64 o.fPerOutput,.int .i64 o.fPerPair,.slice A n c])=>(hh.bx 5 _ rfl:w'.cell? ⟨gO,5,none⟩=some (.slice A n c)));have x5:=H.kO.bx 5 _ rfl;have f5:=H.kO.frozen 5
  go_upto_region 6 with fail
  refine hgg 12 HSS.out HD.kO (fun hH=>?_);refine tgk 0 16 hH ?_;simp only [putS];refine tgk 1 17 hH ?_;simp only [putS];refine tgk 2 18 hH ?_;simp only [putS];refine tgk 5 21 hH ?_;simp only [putS];refine rg2 3 (some 19) 6 (some 22) (fun K hK=>?_) fun K hK=>?_
  all_goals clear hH
  ·have HA:=HD.step (Chg.ofBelow ((Below.refl _ _).alloc (Nat.le_refl _) (.cells #[.int .i64 0,.int .i64 1,.int .i64 64,.int .i64 8192,.int .i64 8193] 3)) [g]) (HD.cu.alloc _)
   have rA:=(RS.lit w4.drew [0,1,64,8192,8193] 3 (by simp) (by simp [I64]));go_simp;refine hK.out _ _ (fun _=>HSS.out _ HA.kO) fun hH=>?_;replace hH:=hH (by decide);clear hK K
   try simp only [putS]
   refine rg2 4 (some 20) 6 (some 22) (fun K hK=>?_) fun K hK=>?_
   all_goals clear hH
   ·go_simp
    refine(l1PickInt_c g _ 5 5 [0,1,64,8192,8193] _ rA HD.cu.ne (by omega) HA.cu).mono ?_;rintro e wB ⟨x,rfl,hx,cux,chx⟩;have HB:=HA.step chx cux
    go_wp2_with fail
    refine hK.out _ _ (fun _=>HSS.out _ HB.kO) fun hH=>?_;replace hH:=hH (by decide);clear hK K
    try simp only [putS]
    have HC:=HB.step (Chg.ofBelow ((Below.refl _ _).alloc (Nat.le_refl _) (.cells #[.int .i64 (-3),.int .i64 (-99),.int .i64 4,.int .i64 100] 3)) [g]) (HB.cu.alloc _);refine rg 6 (some 22) fun K hK=>?_;clear hH;go_simp;refine hK.out _ _ (fun _=>HSS.out _ HC.kO) fun hH=>?_;replace hH:=hH (by decide);clear hK K
    try simp only [putS]
    refine rg 7 (some 23) fun K hK=>?_;clear hH;go_simp;refine(l1PickInt_c g _ 4 4 [-3,-99,4,100] _ (RS.lit wB [-3,-99,4,100] _ (by simp) (by simp [I64])) HB.cu.ne (by omega) HC.cu).mono ?_;rintro e wE ⟨y,rfl,hy,cuy,chy⟩;have HE:=HC.step chy cuy
    go_wp2_with fail
    refine hK.out _ _ (fun _=>HSS.out _ HE.kO) fun hH=>?_;replace hH:=hH (by decide);clear hK K
    try simp only [putS]
    have hxI:I64 x:=by simp at hx;unfold I64;omega
    have hyI:I64 y:=by simp at hy;unfold I64;omega
    refine tgk 8 24 hH ?_;simp only [putS];have hAl:=(Below.refl wE.heap.size wE).alloc (Nat.le_refl _) (.cells #[.int .i64 x,.int .i64 y] 205);have HF:=HE.step (Chg.ofBelow hAl [g]) (HE.cu.alloc _);have hze:w.heap.size+1<=wE.heap.size:=HE.kR.lt;refine rg 9 (some 25) fun K hK=>?_;clear hH;go_simp;refine hK.out _ _ (fun _=>HSS.out _ HF.kO) fun hH=>?_;replace hH:=hH (by decide);clear hK K
    try simp only [putS]
    refine rg 10 (some 26) fun K hK=>?_;clear hH;refine step_appR (r:=rCostStep NB) (by rfl) _ _ 42 (by rfl) _ 16 eiCostStep (rCostStep_ok NB) (by rfl) HE.ms hAl hze ⟨wE.heap.size,0,none⟩ (by rfl) (f:=[]) (cs:=[.int .i64 x,.int .i64 y]) (y:=⟨x,y⟩) (rCostStep_own.2 ⟨rfl,rfl,hxI,hyI⟩) (Fr.nil _) (cells_new _ _ _) (by unfold NB;omega) (Nat.le_refl _) (by omega) ?_;intro A9 c9 w9 hM9 hb9 hg9 hA9;have k9:=HF.kO.grw hg9 (steps_ne HF.ms HF.kO);have r9:=HF.kR.grw hg9 (steps_ne HF.ms HF.kR);refine hK.out _ _ (fun _=>HSS.out _ k9) fun hH=>?_;replace hH:=hH (by decide);clear hK K
    try simp only [putS]
    refine tgk 11 27 hH ?_;simp only [putS];have f9:=k9.frozen 5;have x9:=k9.bx 5 _ rfl;refine rg 12 none fun K hK=>?_;clear hH;go_simp;refine hK.out _ _ (fun h=>absurd rfl h) fun hH=>?_;clear hK K
    try simp only [putS]
    refine wpG_done (by kernel_rfl) ?_ _;clear hH;have HG:=HF.app k9 r9 hb9 hM9;clear k9 f9 x9 r9 HF HE hAl HD HSS;obtain⟨wz,hwz⟩:∃ W,W=w9.setCell ⟨gO,5,none⟩ (.slice A9 (n+1) c9):=⟨_,rfl⟩;rw [<- hwz]at HG;obtain⟨o2,ho2⟩:∃ o2:OperatorD,o2=⟨o.fFixed,o.fPerLeft,o.fPerRight,o.fPerOutput,o.fPerPair,o.fSteps++[⟨x,y⟩]⟩:=⟨_,rfl⟩;have hlen:o2.fSteps.length<=2:=by rw [ho2];simp;omega
    rw [<- ho2]at HG
    go_upto_region 9 with fail
    rw [<- hwz];clear hwz ho2;have ⟨x0,_,x1,_,x2,_,x3,_,x4,_,x5,_⟩:=HG.kO.r6;have ⟨r0,f0,r1,f1,r2,f2,r3,f3,r4,f4,r5,f5⟩:=HG.kR.r6;go_wp2;have ⟨q0,_,q1,_,q2,_,q3,_,q4,_,q5,_⟩:=HG.kR.set6 (.int .i64 o2.fFixed) (.int .i64 o2.fPerLeft) (.int .i64 o2.fPerRight) (.int .i64 o2.fPerOutput) (.int .i64 o2.fPerPair) (.slice A9 (n+1) c9) |>.r6;refine bodyPost_ret (v:=.agg #[.int .i64 o2.fFixed,.int .i64 o2.fPerLeft,.int .i64 o2.fPerRight,.int .i64 o2.fPerOutput,.int .i64 o2.fPerPair,.slice A9 (n+1) c9]) (by simp [results,Tryz.results154,go_sem,q0,q1,q2,q3,q4,q5]) rfl ?_;exact HG.fin hlen
   ·have hw:True:=trivial
    obtain⟨wC,hwC⟩:∃ W,W=((w4.alloc (.cells #[.int .i64 0,.int .i64 1,.int .i64 64,.int .i64 8192,.int .i64 8193] 3)).alloc (.cells #[.int .i64 (-3),.int .i64 (-99),.int .i64 4,.int .i64 100] 3)).drew:=⟨_,rfl⟩;have HC0:=HA.step (Chg.ofBelow ((Below.refl _ _).alloc (Nat.le_refl _) (.cells #[.int .i64 (-3),.int .i64 (-99),.int .i64 4,.int .i64 100] 3)) [g]) (HA.cu.alloc _);have HC:Ob w g gO o A n c wC:=by rw [hwC];exact HC0
    have bA:=(Below.refl (w4.drew.alloc (.cells #[.int .i64 0,.int .i64 1,.int .i64 64,.int .i64 8192,.int .i64 8193] 3)).heap.size (w4.drew.alloc (.cells #[.int .i64 0,.int .i64 1,.int .i64 64,.int .i64 8192,.int .i64 8193] 3))).alloc (Nat.le_refl _) (.cells #[.int .i64 (-3),.int .i64 (-99),.int .i64 4,.int .i64 100] 3);have kL0:=Bk.new (w4.drew.alloc (.cells #[.int .i64 0,.int .i64 1,.int .i64 64,.int .i64 8192,.int .i64 8193] 3)) ([-3,-99,4,100].map (Value.int .i64)) 3;have eL:(w4.drew.alloc (.cells #[.int .i64 0,.int .i64 1,.int .i64 64,.int .i64 8192,.int .i64 8193] 3)).heap.size=w4.heap.size+1:=by simp
    rw [eL]at kL0;have kL:Bk wC (w4.heap.size+1) 3 ([-3,-99,4,100].map (Value.int .i64)):=by rw [hwC];exact kL0
    have rA2:RS NB rInt wC (some ⟨w4.heap.size,0,none⟩) 5 5 [0,1,64,8192,8193]:=by rw [hwC];exact rA.below rInt_ok bA
    have gA:g<w4.heap.size:=HD.cu.lt;clear kL0 eL bA rA;go_simp;refine hK.out _ _ (fun _=>HSS.out _ HC0.kO) fun hH=>?_;replace hH:=hH (by decide);clear hK K
    try simp only [putS]
    rw [<- hwC];clear hwC HC0;refine rg 4 (some 20) fun K hK=>?_;clear hH;go_simp;refine(l1PickInt_c g _ 5 5 [0,1,64,8192,8193] _ rA2 HD.cu.ne (by omega) HC.cu).mono ?_;rintro e wB ⟨x,rfl,hx,cux,chx⟩;have HB:=HC.step chx cux
    go_wp2_with fail
    refine hK.out _ _ (fun _=>HSS.out _ HB.kO) fun hH=>?_;replace hH:=hH (by decide);clear hK K
    try simp only [putS]
    have rL:=RS.ofBk (l:=[-3,-99,4,100]) ((chx.block _ kL.lt (by simp;omega)).trans kL) (by simp) (by simp [I64]);have neL:∀ k∈blk (some ⟨w4.heap.size+1,0,none⟩),k≠g:=fun k hk=>by simp [blk]at hk;omega
    refine rg 7 (some 23) fun K hK=>?_;clear hH;go_simp;refine(l1PickInt_c g _ 4 4 [-3,-99,4,100] _ rL neL (by omega) HB.cu).mono ?_;rintro e wE ⟨y,rfl,hy,cuy,chy⟩;have HE:=HB.step chy cuy
    go_wp2_with fail
    refine hK.out _ _ (fun _=>HSS.out _ HE.kO) fun hH=>?_;replace hH:=hH (by decide);clear hK K
    try simp only [putS]
    have hxI:I64 x:=by simp at hx;unfold I64;omega
    have hyI:I64 y:=by simp at hy;unfold I64;omega
    refine tgk 8 24 hH ?_;simp only [putS];have hAl:=(Below.refl wE.heap.size wE).alloc (Nat.le_refl _) (.cells #[.int .i64 x,.int .i64 y] 205);have HF:=HE.step (Chg.ofBelow hAl [g]) (HE.cu.alloc _);have hze:w.heap.size+1<=wE.heap.size:=HE.kR.lt;refine rg 9 (some 25) fun K hK=>?_;clear hH;go_simp;refine hK.out _ _ (fun _=>HSS.out _ HF.kO) fun hH=>?_;replace hH:=hH (by decide);clear hK K
    try simp only [putS]
    refine rg 10 (some 26) fun K hK=>?_;clear hH;refine step_appR (r:=rCostStep NB) (by rfl) _ _ 42 (by rfl) _ 16 eiCostStep (rCostStep_ok NB) (by rfl) HE.ms hAl hze ⟨wE.heap.size,0,none⟩ (by rfl) (f:=[]) (cs:=[.int .i64 x,.int .i64 y]) (y:=⟨x,y⟩) (rCostStep_own.2 ⟨rfl,rfl,hxI,hyI⟩) (Fr.nil _) (cells_new _ _ _) (by unfold NB;omega) (Nat.le_refl _) (by omega) ?_;intro A9 c9 w9 hM9 hb9 hg9 hA9;have k9:=HF.kO.grw hg9 (steps_ne HF.ms HF.kO);have r9:=HF.kR.grw hg9 (steps_ne HF.ms HF.kR);refine hK.out _ _ (fun _=>HSS.out _ k9) fun hH=>?_;replace hH:=hH (by decide);clear hK K
    try simp only [putS]
    refine tgk 11 27 hH ?_;simp only [putS];have f9:=k9.frozen 5;have x9:=k9.bx 5 _ rfl;refine rg 12 none fun K hK=>?_;clear hH;go_simp;refine hK.out _ _ (fun h=>absurd rfl h) fun hH=>?_;clear hK K
    try simp only [putS]
    refine wpG_done (by kernel_rfl) ?_ _;clear hH;have HG:=HF.app k9 r9 hb9 hM9;clear k9 f9 x9 r9 HF HE hAl HD HSS;obtain⟨wz,hwz⟩:∃ W,W=w9.setCell ⟨gO,5,none⟩ (.slice A9 (n+1) c9):=⟨_,rfl⟩;rw [<- hwz]at HG;obtain⟨o2,ho2⟩:∃ o2:OperatorD,o2=⟨o.fFixed,o.fPerLeft,o.fPerRight,o.fPerOutput,o.fPerPair,o.fSteps++[⟨x,y⟩]⟩:=⟨_,rfl⟩;have hlen:o2.fSteps.length<=2:=by rw [ho2];simp;omega
    rw [<- ho2]at HG
    go_upto_region 9 with fail
    rw [<- hwz];clear hwz ho2;have ⟨x0,_,x1,_,x2,_,x3,_,x4,_,x5,_⟩:=HG.kO.r6;have ⟨r0,f0,r1,f1,r2,f2,r3,f3,r4,f4,r5,f5⟩:=HG.kR.r6;go_wp2;have ⟨q0,_,q1,_,q2,_,q3,_,q4,_,q5,_⟩:=HG.kR.set6 (.int .i64 o2.fFixed) (.int .i64 o2.fPerLeft) (.int .i64 o2.fPerRight) (.int .i64 o2.fPerOutput) (.int .i64 o2.fPerPair) (.slice A9 (n+1) c9) |>.r6;refine bodyPost_ret (v:=.agg #[.int .i64 o2.fFixed,.int .i64 o2.fPerLeft,.int .i64 o2.fPerRight,.int .i64 o2.fPerOutput,.int .i64 o2.fPerPair,.slice A9 (n+1) c9]) (by simp [results,Tryz.results154,go_sem,q0,q1,q2,q3,q4,q5]) rfl ?_;exact HG.fin hlen
  ·have hw:True:=trivial
   obtain⟨wC,hwC⟩:∃ W,W=((w4.alloc (.cells #[.int .i64 (-3),.int .i64 (-99),.int .i64 4,.int .i64 100] 3)).alloc (.cells #[.int .i64 0,.int .i64 1,.int .i64 64,.int .i64 8192,.int .i64 8193] 3)).drew:=⟨_,rfl⟩;have HA:=HD.step (Chg.ofBelow ((Below.refl _ _).alloc (Nat.le_refl _) (.cells #[.int .i64 (-3),.int .i64 (-99),.int .i64 4,.int .i64 100] 3)) [g]) (HD.cu.alloc _);have HC0:=HA.step (Chg.ofBelow ((Below.refl _ _).alloc (Nat.le_refl _) (.cells #[.int .i64 0,.int .i64 1,.int .i64 64,.int .i64 8192,.int .i64 8193] 3)) [g]) (HA.cu.alloc _);have HC:Ob w g gO o A n c wC:=by rw [hwC];exact HC0
   have bA:=(Below.refl (w4.drew.alloc (.cells #[.int .i64 (-3),.int .i64 (-99),.int .i64 4,.int .i64 100] 3)).heap.size (w4.drew.alloc (.cells #[.int .i64 (-3),.int .i64 (-99),.int .i64 4,.int .i64 100] 3))).alloc (Nat.le_refl _) (.cells #[.int .i64 0,.int .i64 1,.int .i64 64,.int .i64 8192,.int .i64 8193] 3);have kL:Bk wC w4.heap.size 3 ([-3,-99,4,100].map (Value.int .i64)):=by rw [hwC];exact(Bk.new w4.drew ([-3,-99,4,100].map (Value.int .i64)) 3).below bA
   have eL:(w4.drew.alloc (.cells #[.int .i64 (-3),.int .i64 (-99),.int .i64 4,.int .i64 100] 3)).heap.size=w4.heap.size+1:=by simp
   have rA:=RS.lit (w4.drew.alloc (.cells #[.int .i64 (-3),.int .i64 (-99),.int .i64 4,.int .i64 100] 3)) [0,1,64,8192,8193] 3 (by simp) (by simp [I64]);rw [eL]at rA;replace rA:RS NB rInt wC (some ⟨w4.heap.size+1,0,none⟩) 5 5 [0,1,64,8192,8193]:=by rw [hwC];exact rA
   have gA:g<w4.heap.size:=HD.cu.lt;clear eL bA;go_simp;refine hK.out _ _ (fun _=>HSS.out _ HA.kO) fun hH=>?_;replace hH:=hH (by decide);clear hK K
   try simp only [putS]
   refine rg 3 (some 19) fun K hK=>?_;clear hH;go_simp;refine hK.out _ _ (fun _=>HSS.out _ HC0.kO) fun hH=>?_;replace hH:=hH (by decide);clear hK K
   try simp only [putS]
   rw [<- hwC];clear hwC HC0 HA;have neA:∀ k∈blk (some ⟨w4.heap.size+1,0,none⟩),k≠g:=fun k hk=>by simp [blk]at hk;omega
   refine rg 4 (some 20) fun K hK=>?_;clear hH;go_simp;refine(l1PickInt_c g _ 5 5 [0,1,64,8192,8193] _ rA neA (by omega) HC.cu).mono ?_;rintro e wB ⟨x,rfl,hx,cux,chx⟩;have HB:=HC.step chx cux
   go_wp2_with fail
   refine hK.out _ _ (fun _=>HSS.out _ HB.kO) fun hH=>?_;replace hH:=hH (by decide);clear hK K
   try simp only [putS]
   have rL:=RS.ofBk (l:=[-3,-99,4,100]) ((chx.block _ kL.lt (by simp;omega)).trans kL) (by simp) (by simp [I64]);refine rg 7 (some 23) fun K hK=>?_;clear hH;go_simp;refine(l1PickInt_c g _ 4 4 [-3,-99,4,100] _ rL HD.cu.ne (by omega) HB.cu).mono ?_;rintro e wE ⟨y,rfl,hy,cuy,chy⟩;have HE:=HB.step chy cuy
   go_wp2_with fail
   refine hK.out _ _ (fun _=>HSS.out _ HE.kO) fun hH=>?_;replace hH:=hH (by decide);clear hK K
   try simp only [putS]
   have hxI:I64 x:=by simp at hx;unfold I64;omega
   have hyI:I64 y:=by simp at hy;unfold I64;omega
   refine tgk 8 24 hH ?_;simp only [putS];have hAl:=(Below.refl wE.heap.size wE).alloc (Nat.le_refl _) (.cells #[.int .i64 x,.int .i64 y] 205);have HF:=HE.step (Chg.ofBelow hAl [g]) (HE.cu.alloc _);have hze:w.heap.size+1<=wE.heap.size:=HE.kR.lt;refine rg 9 (some 25) fun K hK=>?_;clear hH;go_simp;refine hK.out _ _ (fun _=>HSS.out _ HF.kO) fun hH=>?_;replace hH:=hH (by decide);clear hK K
   try simp only [putS]
   refine rg 10 (some 26) fun K hK=>?_;clear hH;refine step_appR (r:=rCostStep NB) (by rfl) _ _ 42 (by rfl) _ 16 eiCostStep (rCostStep_ok NB) (by rfl) HE.ms hAl hze ⟨wE.heap.size,0,none⟩ (by rfl) (f:=[]) (cs:=[.int .i64 x,.int .i64 y]) (y:=⟨x,y⟩) (rCostStep_own.2 ⟨rfl,rfl,hxI,hyI⟩) (Fr.nil _) (cells_new _ _ _) (by unfold NB;omega) (Nat.le_refl _) (by omega) ?_;intro A9 c9 w9 hM9 hb9 hg9 hA9;have k9:=HF.kO.grw hg9 (steps_ne HF.ms HF.kO);have r9:=HF.kR.grw hg9 (steps_ne HF.ms HF.kR);refine hK.out _ _ (fun _=>HSS.out _ k9) fun hH=>?_;replace hH:=hH (by decide);clear hK K
   try simp only [putS]
   refine tgk 11 27 hH ?_;simp only [putS];have f9:=k9.frozen 5;have x9:=k9.bx 5 _ rfl;refine rg 12 none fun K hK=>?_;clear hH;go_simp;refine hK.out _ _ (fun h=>absurd rfl h) fun hH=>?_;clear hK K
   try simp only [putS]
   refine wpG_done (by kernel_rfl) ?_ _;clear hH;have HG:=HF.app k9 r9 hb9 hM9;clear k9 f9 x9 r9 HF HE hAl HD HSS;obtain⟨wz,hwz⟩:∃ W,W=w9.setCell ⟨gO,5,none⟩ (.slice A9 (n+1) c9):=⟨_,rfl⟩;rw [<- hwz]at HG;obtain⟨o2,ho2⟩:∃ o2:OperatorD,o2=⟨o.fFixed,o.fPerLeft,o.fPerRight,o.fPerOutput,o.fPerPair,o.fSteps++[⟨x,y⟩]⟩:=⟨_,rfl⟩;have hlen:o2.fSteps.length<=2:=by rw [ho2];simp;omega
   rw [<- ho2]at HG
   go_upto_region 9 with fail
   rw [<- hwz];clear hwz ho2;have ⟨x0,_,x1,_,x2,_,x3,_,x4,_,x5,_⟩:=HG.kO.r6;have ⟨r0,f0,r1,f1,r2,f2,r3,f3,r4,f4,r5,f5⟩:=HG.kR.r6;go_wp2;have ⟨q0,_,q1,_,q2,_,q3,_,q4,_,q5,_⟩:=HG.kR.set6 (.int .i64 o2.fFixed) (.int .i64 o2.fPerLeft) (.int .i64 o2.fPerRight) (.int .i64 o2.fPerOutput) (.int .i64 o2.fPerPair) (.slice A9 (n+1) c9) |>.r6;refine bodyPost_ret (v:=.agg #[.int .i64 o2.fFixed,.int .i64 o2.fPerLeft,.int .i64 o2.fPerRight,.int .i64 o2.fPerOutput,.int .i64 o2.fPerPair,.slice A9 (n+1) c9]) (by simp [results,Tryz.results154,go_sem,q0,q1,q2,q3,q4,q5]) rfl ?_;exact HG.fin hlen
end Go.Proofs.YtnlcfkpcmfljeaaGreat
namespace Go.Proofs.YtnlcfkpcmfljeaaGreat
open Go.RowKit
attribute [local go_sem ↓] Go.wp_at_zero Go.wp_at_succ
theorem model_rep {w:World}{c1 c2 c3 c4 c5:List Value}{o1 o2 o3 o4 o5:OperatorD}(h1:(rOperator NB).rep w c1 o1) (h2:(rOperator NB).rep w c2 o2) (h3:(rOperator NB).rep w c3 o3) (h4:(rOperator NB).rep w c4 o4) (h5:(rOperator NB).rep w c5 o5) :
  (rModel NB).rep w (c1++(c2++(c3++(c4++c5)))) ⟨o1,o2,o3,o4,o5⟩:=⟨c1,_,rfl,h1,c2,_,rfl,h2,c3,_,rfl,h3,c4,_,rfl,h4,h5⟩
theorem model_parts {w:World}{cs:List Value}{x:ModelD}(h:(rModel NB).rep w cs x):∃ c1 c2 c3 c4 c5,cs=c1++(c2++(c3++(c4++c5)))/\(rOperator NB).rep w c1 x.fScan/\(rOperator NB).rep w c2 x.fSort/\(rOperator NB).rep w c3 x.fHash/\(rOperator NB).rep w c4 x.fMerge/\(rOperator NB).rep w c5 x.fNested:=by
 obtain⟨c1,_,rfl,h1,c2,_,rfl,h2,c3,_,rfl,h3,c4,c5,rfl,h4,h5⟩:=h;exact⟨c1,c2,c3,c4,c5,rfl,h1,h2,h3,h4,h5⟩
theorem Stb.set1 {α:Type}{r:Rp α}{T:Nat}{w:World}{cs:List Value}{x:α}(h:Stb r T w cs x) {g:Nat}(hg:g<T) (i:Nat) (vs:List Value):Stb r T (setCells w g i vs) cs x:=h.out ((Out.refl _ _).setCells hg i vs)
theorem op_len {w:World}{c:List Value}{o:OperatorD}(h:(rOperator NB).rep w c o):c.length=6:=(rOperator_ok NB).len h
def defModel:ModelD:=⟨⟨1,1,0,0,0,[]⟩,⟨2,3,0,0,0,[⟨17,20⟩]⟩,⟨4,2,1,1,0,[]⟩,⟨1,1,1,1,0,[]⟩,⟨1,0,0,1,1,[]⟩⟩
theorem op_flat (T:Nat) (W:World) (a b c d e:Int) (h:I64 a/\I64 b/\I64 c/\I64 d/\I64 e):Stb (rOperator NB) T W [.int .i64 a,.int .i64 b,.int .i64 c,.int .i64 d,.int .i64 e,.slice none 0 0] ⟨a,b,c,d,e,[]⟩ :=
 fun W' _=>rOperator_rep.2 ⟨none,0,0,rfl,h.1,h.2.1,h.2.2.1,h.2.2.2.1,h.2.2.2.2,RS.nil _ _ _ _ _⟩
theorem sDefaultModel_c (w:World):Calls Tryz.prog 210 #[] w fun e w'=>∃ cs,e=.returned (.agg cs.toArray)/\Stb (rModel NB) w.heap.size w' cs defModel/\Below w.heap.size w w':=by
 obtain⟨w1,hw1⟩:∃ W,W=w.alloc (.cells z30.toArray 46):=⟨_,rfl⟩;have b1:Below w.heap.size w w1:=by rw [hw1];exact bal
 have kR:Bk w1 w.heap.size 46 z30:=by rw [hw1];exact Bk.new w _ _
 have hs1:w1.heap.size=w.heap.size+1:=by rw [hw1];simp
 obtain⟨w2,hw2⟩:∃ W,W=w1.alloc (.cells #[.int .i64 17,.int .i64 20] 205):=⟨_,rfl⟩;have b2:Below w1.heap.size w1 w2:=by rw [hw2];exact bal
 have kR2:=kR.below b2
 have oS:OS NB 205 (rCostStep NB) w2 [w.heap.size+1] (some ⟨w.heap.size+1,0,none⟩) 1 1 [⟨17,20⟩]:=by
  rw [<- hs1];refine⟨rfl,by unfold NB;omega,[[.int .i64 17,.int .i64 20]],[[]],⟨by simp [rCostStep_size],.inr ⟨w1.heap.size,1,#[.int .i64 17,.int .i64 20],rfl,Nat.zero_le _,by rw [hw2];exact heap_alloc_new w1 _,Nat.le_refl _,by unfold maxLen;omega,by simp [rCostStep_size],by simp [rCostStep_size]⟩⟩,by simp [blk],⟨rCostStep_own.2 ⟨rfl,rfl,by simp [I64],by simp [I64]⟩,trivial⟩⟩
 obtain⟨A,hA⟩:∃ A,A=some (⟨w.heap.size+1,0,none⟩:Addr):=⟨_,rfl⟩;have hs2:w.heap.size+1=w1.heap.size:=hs1.symm;have TH:w2.there w.heap.size 0 30:=kR2.there
 have S2:Stb (rOperator NB) (w.heap.size+1) w2 [.int .i64 2,.int .i64 3,.int .i64 0,.int .i64 0,.int .i64 0,.slice (some ⟨w.heap.size+1,0,none⟩) 1 1] ⟨2,3,0,0,0,[⟨17,20⟩]⟩ :=
  Stb.ofOwn (rOperator_ok NB) (rOperator_own.2 ⟨_,_,_,_,rfl,rfl,by simp [I64],by simp [I64],by simp [I64],by simp [I64],by simp [I64],oS⟩) (by simp)
 have hi:∀ a b c d e:Int,I64 a->I64 b->I64 c->I64 d->I64 e->I64 a/\I64 b/\I64 c/\I64 d/\I64 e:=fun a b c d e h1 h2 h3 h4 h5=>⟨h1,h2,h3,h4,h5⟩
 have SM:Stb (rModel NB) (w.heap.size+1) w2 [.int .i64 1,.int .i64 1,.int .i64 0,.int .i64 0,.int .i64 0,.slice none 0 0,.int .i64 2,.int .i64 3,.int .i64 0,.int .i64 0,.int .i64 0,.slice (some ⟨w.heap.size+1,0,none⟩) 1 1,.int .i64 4,.int .i64 2,.int .i64 1,.int .i64 1,.int .i64 0,.slice none 0 0,.int .i64 1,.int .i64 1,.int .i64 1,.int .i64 1,.int .i64 0,.slice none 0 0,.int .i64 1,.int .i64 0,.int .i64 0,.int .i64 1,.int .i64 1,.slice none 0 0] defModel:=fun W hW=>by
  have q:=fun a b c d e h=>op_flat (w.heap.size+1) w2 a b c d e h W hW;exact model_rep (q 1 1 0 0 0 (by simp [I64])) (S2 W hW) (q 4 2 1 1 0 (by simp [I64])) (q 1 1 1 1 0 (by simp [I64])) (q 1 0 0 1 1 (by simp [I64]))
 have ON:=one_rep (rModel_ok NB) SM.rep;have bb:=b1.trans (b2.mono b1.size);clear S2 oS hi hs1 b1 b2 kR
 go_enter Tryz.func210,Tryz.ntmps210
 go_upto_region 1 with fail
 rw [<- hw1];clear hw1
 go_wp2_with (refine wpList_store_mid rfl 46 _ _ rfl w.heap.size 0 #[.int .i64 1,.int .i64 1,.int .i64 0,.int .i64 0,.int .i64 0,.slice none 0 0,.int .i64 2,.int .i64 3,.int .i64 0,.int .i64 0,.int .i64 0,.slice (some ⟨w1.heap.size,0,none⟩) 1 1,.int .i64 4,.int .i64 2,.int .i64 1,.int .i64 1,.int .i64 0,.slice none 0 0,.int .i64 1,.int .i64 1,.int .i64 1,.int .i64 1,.int .i64 0,.slice none 0 0,.int .i64 1,.int .i64 0,.int .i64 0,.int .i64 1,.int .i64 1,.slice none 0 0] rfl rfl (by rw [<- hs2,<- hw2];exact TH) sizeModelT (by rw [<- hs2];exact ON) ?_)
 rw [<- hs2,<- hw2,setCells_kit];clear hw2 ON TH;have bF:=kR2.fill (c:=[.int .i64 1,.int .i64 1,.int .i64 0,.int .i64 0,.int .i64 0,.slice none 0 0,.int .i64 2,.int .i64 3,.int .i64 0,.int .i64 0,.int .i64 0,.slice (some ⟨w.heap.size+1,0,none⟩) 1 1,.int .i64 4,.int .i64 2,.int .i64 1,.int .i64 1,.int .i64 0,.slice none 0 0,.int .i64 1,.int .i64 1,.int .i64 1,.int .i64 1,.int .i64 0,.slice none 0 0,.int .i64 1,.int .i64 0,.int .i64 0,.int .i64 1,.int .i64 1,.slice none 0 0]) rfl;go_wp2;refine bodyPost_ret (results_cell1 Tryz.results210 rfl bF.rangeAt Tryz.underlying46 rfl sizeModelT) rfl ?_;exact⟨_,rfl,(SM.set1 (Nat.lt_succ_self _) 0 _).mono (Nat.le_succ _),Below.setCells bb (Nat.le_refl _) 0 _⟩
theorem drawnOp {w W:World}{g T:Nat}{e:Ending}{P:OperatorD->Prop}(h:DrawnV (rOperator NB) P g w e W) (hT:T<=w.heap.size):∃ o A n c,e=.returned (.agg #[.int .i64 o.fFixed,.int .i64 o.fPerLeft,.int .i64 o.fPerRight,.int .i64 o.fPerOutput,.int .i64 o.fPerPair,.slice A n c])/\Stb (rOperator NB) T W [.int .i64 o.fFixed,.int .i64 o.fPerLeft,.int .i64 o.fPerRight,.int .i64 o.fPerOutput,.int .i64 o.fPerPair,.slice A n c] o/\Cur W g/\Chg [g] w W:=by
 obtain⟨o,cs,fp,rfl,oO,fO,_,cu,ch⟩:=h;have hS:=Stb.ofOwn (rOperator_ok NB) (T:=T) oO (fun k hk=>Nat.le_trans hT (fO.ge k hk));obtain⟨A,n,c,_,rfl,rfl,_⟩:=rOperator_own.1 oO;exact⟨o,A,n,c,rfl,hS,cu,ch⟩
theorem drawnOp_call {w:World}{g T f:Nat}{a:Array Value}{P:OperatorD->Prop}(h:Calls Tryz.prog f a w (DrawnV (rOperator NB) P g w)) (hT:T<=w.heap.size) :
  Calls Tryz.prog f a w fun e W=>∃ o A n c,e=.returned (.agg #[.int .i64 o.fFixed,.int .i64 o.fPerLeft,.int .i64 o.fPerRight,.int .i64 o.fPerOutput,.int .i64 o.fPerPair,.slice A n c])/\Stb (rOperator NB) T W [.int .i64 o.fFixed,.int .i64 o.fPerLeft,.int .i64 o.fPerRight,.int .i64 o.fPerOutput,.int .i64 o.fPerPair,.slice A n c] o/\Cur W g/\Chg [g] w W:=h.mono fun e W h=>drawnOp h hT
theorem l22Model_c (g:Nat) (w:World) (hc:Cur w g):Calls Tryz.prog 153 #[.pointer (some ⟨g,0,none⟩)] w (DrawnR (rModel NB) g w):=by
 have hgw:=hc.lt;obtain⟨w1,hw1⟩:∃ W,W=w.alloc (.cells z30.toArray 46):=⟨_,rfl⟩;have b1:Below w.heap.size w w1:=by rw [hw1];exact bal
 have kR:Bk w1 w.heap.size 46 z30:=by rw [hw1];exact Bk.new w _ _
 have C1:Chg [g] w w1:=Chg.ofBelow b1 _;have cu1:=hc.below b1;clear b1
 go_enter Tryz.func153,Tryz.ntmps153
 go_upto_region 1 with fail
 rw [<- hw1];clear hw1
 go_wp2_with fail
 refine(l1Once_c g 3 _ (by omega) cu1).mono ?_;rintro e w2 ⟨b,rfl,cu2,ch2⟩;have kR2:Bk w2 w.heap.size 46 z30:=(ch2.block _ kR.lt (by simp;omega)).trans kR;have C2:=C1.trans ch2;clear kR C1 cu1 ch2;cases b
 ·have hz2:w.heap.size+1<=w2.heap.size:=kR2.lt
  go_wp2_with fail
  have C1':=drawnOp_call (l21Op_c g w2 cu2) (T:=w.heap.size+1) (by omega);refine C1'.mono ?_;clear C1';rintro e v1 ⟨o1,A1,n1,c1,rfl,S1,cv1,ch1⟩;have hz1':w.heap.size+1<=v1.heap.size:=Nat.le_trans (by omega) ch1.size;have X1:Out (w.heap.size+1) w2 v1:=Out.chg ch1 (by simp;omega)
  go_wp2_with fail
  have C2':=drawnOp_call (l21Op_c g v1 cv1) (T:=w.heap.size+1) (by omega);refine C2'.mono ?_;clear C2';rintro e v2 ⟨o2,A2,n2,c2,rfl,S2,cv2,ch2⟩;have hz2':w.heap.size+1<=v2.heap.size:=Nat.le_trans (by omega) ch2.size;have X2:Out (w.heap.size+1) v1 v2:=Out.chg ch2 (by simp;omega);replace S1:=S1.out X2
  go_wp2_with fail
  have C3':=drawnOp_call (l21Op_c g v2 cv2) (T:=w.heap.size+1) (by omega);refine C3'.mono ?_;clear C3';rintro e v3 ⟨o3,A3,n3,c3,rfl,S3,cv3,ch3⟩;have hz3':w.heap.size+1<=v3.heap.size:=Nat.le_trans (by omega) ch3.size;have X3:Out (w.heap.size+1) v2 v3:=Out.chg ch3 (by simp;omega);replace S1:=S1.out X3;replace S2:=S2.out X3
  go_wp2_with fail
  have C4':=drawnOp_call (l21Op_c g v3 cv3) (T:=w.heap.size+1) (by omega);refine C4'.mono ?_;clear C4';rintro e v4 ⟨o4,A4,n4,c4,rfl,S4,cv4,ch4⟩;have hz4':w.heap.size+1<=v4.heap.size:=Nat.le_trans (by omega) ch4.size;have X4:Out (w.heap.size+1) v3 v4:=Out.chg ch4 (by simp;omega);replace S1:=S1.out X4;replace S2:=S2.out X4;replace S3:=S3.out X4
  go_wp2_with fail
  have C5':=drawnOp_call (l21Op_c g v4 cv4) (T:=w.heap.size+1) (by omega);refine C5'.mono ?_;clear C5';rintro e v5 ⟨o5,A5,n5,c5,rfl,S5,cv5,ch5⟩;have hz5':w.heap.size+1<=v5.heap.size:=Nat.le_trans (by omega) ch5.size;have X5:Out (w.heap.size+1) v4 v5:=Out.chg ch5 (by simp;omega);replace S1:=S1.out X5;replace S2:=S2.out X5;replace S3:=S3.out X5;replace S4:=S4.out X5;have DD:=(((ch1.trans ch2).trans ch3).trans ch4).trans ch5;have kR7:Bk v5 w.heap.size 46 z30:=(DD.block _ kR2.lt (by simp;omega)).trans kR2;have SM:Stb (rModel NB) (w.heap.size+1) v5 [.int .i64 o1.fFixed,.int .i64 o1.fPerLeft,.int .i64 o1.fPerRight,.int .i64 o1.fPerOutput,.int .i64 o1.fPerPair,.slice A1 n1 c1,.int .i64 o2.fFixed,.int .i64 o2.fPerLeft,.int .i64 o2.fPerRight,.int .i64 o2.fPerOutput,.int .i64 o2.fPerPair,.slice A2 n2 c2,.int .i64 o3.fFixed,.int .i64 o3.fPerLeft,.int .i64 o3.fPerRight,.int .i64 o3.fPerOutput,.int .i64 o3.fPerPair,.slice A3 n3 c3,.int .i64 o4.fFixed,.int .i64 o4.fPerLeft,.int .i64 o4.fPerRight,.int .i64 o4.fPerOutput,.int .i64 o4.fPerPair,.slice A4 n4 c4,.int .i64 o5.fFixed,.int .i64 o5.fPerLeft,.int .i64 o5.fPerRight,.int .i64 o5.fPerOutput,.int .i64 o5.fPerPair,.slice A5 n5 c5] ⟨o1,o2,o3,o4,o5⟩:=fun W hW=>model_rep (S1 W hW) (S2 W hW) (S3 W hW) (S4 W hW) (S5 W hW)
  have TH:=kR7.there;have ON:=one_rep (rModel_ok NB) SM.rep;have CC:=C2.trans DD;clear ch1 ch2 ch3 ch4 ch5 S1 S2 S3 S4 S5 X1 X2 X3 X4 X5 C2 DD kR2 cv1 cv2 cv3 cv4
  go_wp2_with (refine wpList_store_mid rfl 46 _ _ rfl w.heap.size 0 #[.int .i64 o1.fFixed,.int .i64 o1.fPerLeft,.int .i64 o1.fPerRight,.int .i64 o1.fPerOutput,.int .i64 o1.fPerPair,.slice A1 n1 c1,.int .i64 o2.fFixed,.int .i64 o2.fPerLeft,.int .i64 o2.fPerRight,.int .i64 o2.fPerOutput,.int .i64 o2.fPerPair,.slice A2 n2 c2,.int .i64 o3.fFixed,.int .i64 o3.fPerLeft,.int .i64 o3.fPerRight,.int .i64 o3.fPerOutput,.int .i64 o3.fPerPair,.slice A3 n3 c3,.int .i64 o4.fFixed,.int .i64 o4.fPerLeft,.int .i64 o4.fPerRight,.int .i64 o4.fPerOutput,.int .i64 o4.fPerPair,.slice A4 n4 c4,.int .i64 o5.fFixed,.int .i64 o5.fPerLeft,.int .i64 o5.fPerRight,.int .i64 o5.fPerOutput,.int .i64 o5.fPerPair,.slice A5 n5 c5] rfl rfl TH sizeModelT ON ?_)
  rw [setCells_kit];clear ON TH;have bF:=kR7.fill (c:=[.int .i64 o1.fFixed,.int .i64 o1.fPerLeft,.int .i64 o1.fPerRight,.int .i64 o1.fPerOutput,.int .i64 o1.fPerPair,.slice A1 n1 c1,.int .i64 o2.fFixed,.int .i64 o2.fPerLeft,.int .i64 o2.fPerRight,.int .i64 o2.fPerOutput,.int .i64 o2.fPerPair,.slice A2 n2 c2,.int .i64 o3.fFixed,.int .i64 o3.fPerLeft,.int .i64 o3.fPerRight,.int .i64 o3.fPerOutput,.int .i64 o3.fPerPair,.slice A3 n3 c3,.int .i64 o4.fFixed,.int .i64 o4.fPerLeft,.int .i64 o4.fPerRight,.int .i64 o4.fPerOutput,.int .i64 o4.fPerPair,.slice A4 n4 c4,.int .i64 o5.fFixed,.int .i64 o5.fPerLeft,.int .i64 o5.fPerRight,.int .i64 o5.fPerOutput,.int .i64 o5.fPerPair,.slice A5 n5 c5]) rfl
  go_wp2;refine bodyPost_ret (results_cell1 Tryz.results153 rfl bF.rangeAt Tryz.underlying46 rfl sizeModelT) rfl ?_;have bs:Below w.heap.size v5 (setCells v5 w.heap.size 0 [.int .i64 o1.fFixed,.int .i64 o1.fPerLeft,.int .i64 o1.fPerRight,.int .i64 o1.fPerOutput,.int .i64 o1.fPerPair,.slice A1 n1 c1,.int .i64 o2.fFixed,.int .i64 o2.fPerLeft,.int .i64 o2.fPerRight,.int .i64 o2.fPerOutput,.int .i64 o2.fPerPair,.slice A2 n2 c2,.int .i64 o3.fFixed,.int .i64 o3.fPerLeft,.int .i64 o3.fPerRight,.int .i64 o3.fPerOutput,.int .i64 o3.fPerPair,.slice A3 n3 c3,.int .i64 o4.fFixed,.int .i64 o4.fPerLeft,.int .i64 o4.fPerRight,.int .i64 o4.fPerOutput,.int .i64 o4.fPerPair,.slice A4 n4 c4,.int .i64 o5.fFixed,.int .i64 o5.fPerLeft,.int .i64 o5.fPerRight,.int .i64 o5.fPerOutput,.int .i64 o5.fPerPair,.slice A5 n5 c5]):=Below.setCells (Below.refl _ _) (Nat.le_refl _) 0 _
  exact⟨_,_,rfl,(SM.set1 (Nat.lt_succ_self _) 0 _).mono (Nat.le_succ _),cv5.low hgw bs,chgS CC bs (Nat.le_refl _)⟩
 ·go_wp2_with fail
  refine(sDefaultModel_c _).mono ?_;rintro e w3 ⟨cs,rfl,SM,hb3⟩;have SM1:Stb (rModel NB) (w.heap.size+1) w3 cs defModel:=fun W hW=>SM W (hW.mono kR2.lt);have kR3:=kR2.below hb3;have lenm:=(rModel_ok NB).len SM.rep;have ON:=one_rep (rModel_ok NB) SM.rep;have hcz:cs.toArray.size=30:=List.size_toArray.trans lenm;have TH:w3.there w.heap.size 0 cs.toArray.size:=by rw [hcz];exact kR3.there
  clear SM
  go_wp2_with (refine wpList_store_mid rfl 46 _ _ rfl w.heap.size 0 cs.toArray rfl rfl TH (by rw [hcz];exact sizeModelT) ON ?_)
  rw [setCells_kit];clear ON TH;have bF:=kR3.fill (c:=cs) (by rw [lenm];rfl);go_wp2;refine bodyPost_ret (results_cell1 Tryz.results153 rfl bF.rangeAt Tryz.underlying46 rfl (by rw [lenm];exact sizeModelT)) rfl ?_;have bs:Below w.heap.size w3 (setCells w3 w.heap.size 0 cs):=Below.setCells (Below.refl _ _) (Nat.le_refl _) 0 _;exact⟨_,_,rfl,(SM1.set1 (Nat.lt_succ_self _) 0 _).mono (Nat.le_succ _),(cu2.below hb3).low hgw bs,chgS (C2.trans (Chg.ofBelow hb3 _)) bs (Nat.le_refl _)⟩
structure Mb (w:World) (g gM:Nat) (c1 c2 c3 c4 c5:List Value) (m:ModelD) (W:World):Prop where
 cu:Cur W g
 ch:Chg [g] w W
 kR:Bk W w.heap.size 46 z30
 kM:Bk W gM 46 (c1++(c2++(c3++(c4++c5))))
 s1:StX (rOperator NB) (w.heap.size+1) gM W c1 m.fScan
 s2:StX (rOperator NB) (w.heap.size+1) gM W c2 m.fSort
 s3:StX (rOperator NB) (w.heap.size+1) gM W c3 m.fHash
 s4:StX (rOperator NB) (w.heap.size+1) gM W c4 m.fMerge
 s5:StX (rOperator NB) (w.heap.size+1) gM W c5 m.fNested
 lt:w.heap.size<gM
 hg:g<w.heap.size
section
variable {w W W':World} {g gM:Nat} {c1 c2 c3 c4 c5 c:List Value} {m:ModelD} {o:OperatorD}
theorem OutX.chg {T z:Nat}(h:Chg [g] W W') (hg:g<T):OutX T z W W':=⟨h.size,fun k h1 _ h3=>h.block k h3 (by simp;omega)⟩
theorem Mb.step (H:Mb w g gM c1 c2 c3 c4 c5 m W) (h:Chg [g] W W') (cu:Cur W' g):Mb w g gM c1 c2 c3 c4 c5 m W':=by
 have hl:=H.lt;have hg:=H.hg;have X:OutX (w.heap.size+1) gM W W':=OutX.chg h (by omega);exact⟨cu,H.ch.trans h,(h.block _ H.kR.lt (by simp;omega)).trans H.kR,(h.block _ H.kM.lt (by simp;omega)).trans H.kM,H.s1.step X,H.s2.step X,H.s3.step X,H.s4.step X,H.s5.step X,hl,hg⟩
theorem Mb.lens (H:Mb w g gM c1 c2 c3 c4 c5 m W):c1.length=6/\c2.length=6/\c3.length=6/\c4.length=6/\c5.length=6:=⟨op_len H.s1.rep,op_len H.s2.rep,op_len H.s3.rep,op_len H.s4.rep,op_len H.s5.rep⟩
theorem Mb.thr (H:Mb w g gM c1 c2 c3 c4 c5 m W) (i n:Nat) (h:i+n<=30):W.there gM i n:=H.kM.thr i n (by have:=H.lens;simp;omega)
theorem over_mid {a b c d:List Value}(h:c.length=b.length):over (a++(b++d)) a.length c=a++(c++d):=by
 have:=over_append_left a (b++d) 0 c;rw [Nat.add_zero]at this;rw [this,over_head c b h]
theorem Mb.put3 (H:Mb w g gM c1 c2 c3 c4 c5 m W) (hs:StX (rOperator NB) (w.heap.size+1) gM W c o):Mb w g gM c1 c2 c c4 c5 ⟨m.fScan,m.fSort,o,m.fMerge,m.fNested⟩ (setCells W gM 12 c):=by
 have hl:=H.lt;have hg:=H.hg;obtain⟨l1,l2,l3,l4,l5⟩:=H.lens;have lc:=op_len hs.rep;have X:OutX (w.heap.size+1) gM W (setCells W gM 12 c):=OutX.cells _ _ _ _ _;have b:Below gM W (setCells W gM 12 c):=Below.setCells (Below.refl _ _) (Nat.le_refl _) _ _;have k:=H.kM.setCells 12 c
 have e:over (c1++(c2++(c3++(c4++c5)))) 12 c=c1++(c2++(c++(c4++c5))):=by
  have:=over_mid (a:=c1++c2) (b:=c3) (c:=c) (d:=c4++c5) (by omega);rw [List.length_append,l1,l2,List.append_assoc,List.append_assoc]at this;exact this
 rw [e]at k;exact⟨H.cu.low (by omega) b,chgS H.ch b (by omega),(b.block _ hl).trans H.kR,k,H.s1.step X,H.s2.step X,hs.step X,H.s4.step X,H.s5.step X,hl,hg⟩
theorem Mb.put2 (H:Mb w g gM c1 c2 c3 c4 c5 m W) (hs:StX (rOperator NB) (w.heap.size+1) gM W c o):Mb w g gM c1 c c3 c4 c5 ⟨m.fScan,o,m.fHash,m.fMerge,m.fNested⟩ (setCells W gM 6 c):=by
 have hl:=H.lt;have hg:=H.hg;obtain⟨l1,l2,l3,l4,l5⟩:=H.lens;have lc:=op_len hs.rep;have X:OutX (w.heap.size+1) gM W (setCells W gM 6 c):=OutX.cells _ _ _ _ _;have b:Below gM W (setCells W gM 6 c):=Below.setCells (Below.refl _ _) (Nat.le_refl _) _ _;have k:=H.kM.setCells 6 c
 have e:over (c1++(c2++(c3++(c4++c5)))) 6 c=c1++(c++(c3++(c4++c5))):=by
  have:=over_mid (a:=c1) (b:=c2) (c:=c) (d:=c3++(c4++c5)) (by omega);rw [l1]at this;exact this
 rw [e]at k;exact⟨H.cu.low (by omega) b,chgS H.ch b (by omega),(b.block _ hl).trans H.kR,k,H.s1.step X,hs.step X,H.s3.step X,H.s4.step X,H.s5.step X,hl,hg⟩
theorem Mb.fin (H:Mb w g gM c1 c2 c3 c4 c5 m W):DrawnR (rModel NB) g w (.returned (.agg (c1++(c2++(c3++(c4++c5)))).toArray)) (setCells W w.heap.size 0 (c1++(c2++(c3++(c4++c5))))):=by
 have hg:=H.hg;have bs:Below w.heap.size W (setCells W w.heap.size 0 (c1++(c2++(c3++(c4++c5))))):=Below.setCells (Below.refl _ _) (Nat.le_refl _) 0 _;refine⟨m,_,rfl,fun V hV=>?_,H.cu.low hg bs,chgS H.ch bs (Nat.le_refl _)⟩;have X:OutX (w.heap.size+1) gM W V:=(OutX.cellsLow (Nat.lt_succ_self _) W 0 _).trans (OutX.ofOut (hV.mono (Nat.le_succ _)));exact model_rep (H.s1 V X) (H.s2 V X) (H.s3 V X) (H.s4 V X) (H.s5 V X)
theorem Mb.out (H:Mb w g gM c1 c2 c3 c4 c5 m W):∃ cs:List Value,cs.length=30/\cs.toArray.size=30/\Bk W gM 46 cs/\cs.toArray.all (·.oneCell')=true/\DrawnR (rModel NB) g w (.returned (.agg cs.toArray)) (setCells W w.heap.size 0 cs):=by
 have hr:=model_rep H.s1.rep H.s2.rep H.s3.rep H.s4.rep H.s5.rep;have hl:=(rModel_ok NB).len hr;exact⟨_,hl,List.size_toArray.trans hl,H.kM,one_rep (rModel_ok NB) hr,H.fin⟩
end
theorem sizeOpT:(Tryz.prog.info? 44).map (·.size)=some 6:=by kernel_rfl
theorem l22Any_c (g:Nat) (w:World) (hc:Cur w g):Calls Tryz.prog 83 #[.pointer (some ⟨g,0,none⟩)] w (DrawnR (rModel NB) g w):=by
 have hgw:=hc.lt;obtain⟨w1,hw1⟩:∃ W,W=w.alloc (.cells z30.toArray 46):=⟨_,rfl⟩;have b1:Below w.heap.size w w1:=by rw [hw1];exact bal
 have kR:Bk w1 w.heap.size 46 z30:=by rw [hw1];exact Bk.new w _ _
 have C1:Chg [g] w w1:=Chg.ofBelow b1 _;have cu1:=hc.below b1;clear b1
 go_enter Tryz.func83,Tryz.ntmps83
 go_upto_region 1 with fail
 rw [<- hw1];clear hw1
 go_wp2_with fail
 refine(l22Model_c g w1 cu1).mono ?_;rintro e w2 ⟨m,cs,rfl,SM,cu2,ch2⟩;obtain⟨c1,c2,c3,c4,c5,rfl,r1,r2,r3,r4,r5⟩:=model_parts SM.rep;have lenm:=(rModel_ok NB).len SM.rep;have ON:=one_rep (rModel_ok NB) SM.rep;have hz1:w.heap.size+1<=w1.heap.size:=kR.lt;have hz2:w1.heap.size<=w2.heap.size:=ch2.size;obtain⟨w3,hw3⟩:∃ W,W=w2.alloc (.cells z30.toArray 46):=⟨_,rfl⟩;have b3:Below w2.heap.size w2 w3:=by rw [hw3];exact bal
 have kM:Bk w3 w2.heap.size 46 z30:=by rw [hw3];exact Bk.new w2 _ _
 have hcz:(c1++(c2++(c3++(c4++c5)))).toArray.size=30:=List.size_toArray.trans lenm;have TH:w3.there w2.heap.size 0 (c1++(c2++(c3++(c4++c5)))).toArray.size:=by rw [hcz];exact kM.there
 go_wp2_with (refine wpList_store_mid rfl 46 _ _ rfl w2.heap.size 0 (c1++(c2++(c3++(c4++c5)))).toArray rfl rfl (by rw [<- hw3];exact TH) (by rw [hcz];exact sizeModelT) ON ?_)
 rw [<- hw3,setCells_kit];clear hw3 ON TH
 have H:Mb w g w2.heap.size c1 c2 c3 c4 c5 m (setCells w3 w2.heap.size 0 (c1++(c2++(c3++(c4++c5))))):=by
  have b:Below w2.heap.size w2 (setCells w3 w2.heap.size 0 (c1++(c2++(c3++(c4++c5))))):=Below.setCells b3 (Nat.le_refl _) _ _;have hs:∀ W,OutX (w.heap.size+1) w2.heap.size (setCells w3 w2.heap.size 0 (c1++(c2++(c3++(c4++c5))))) W->Out w1.heap.size w2 W:=fun W hW=>⟨Nat.le_trans b.size hW.1,fun k h1 h2=>(hW.2 k (by omega) (by omega) (Nat.lt_of_lt_of_le h2 b.size)).trans (b.block k h2)⟩;have hp:∀ W,OutX (w.heap.size+1) w2.heap.size (setCells w3 w2.heap.size 0 (c1++(c2++(c3++(c4++c5))))) W->_:=fun W hW=>SM W (hs W hW)
  have hq:∀ W,OutX (w.heap.size+1) w2.heap.size (setCells w3 w2.heap.size 0 (c1++(c2++(c3++(c4++c5))))) W->(rOperator NB).rep W c1 m.fScan/\(rOperator NB).rep W c2 m.fSort/\(rOperator NB).rep W c3 m.fHash/\(rOperator NB).rep W c4 m.fMerge/\(rOperator NB).rep W c5 m.fNested:=fun W hW=>by
   obtain⟨d1,d2,d3,d4,d5,e,q1,q2,q3,q4,q5⟩:=model_parts (hp W hW);have e1:=List.append_inj e (by rw [op_len r1,op_len q1]);have e2:=List.append_inj e1.2 (by rw [op_len r2,op_len q2]);have e3:=List.append_inj e2.2 (by rw [op_len r3,op_len q3]);have e4:=List.append_inj e3.2 (by rw [op_len r4,op_len q4]);rw [e1.1,e2.1,e3.1,e4.1,e4.2];exact⟨q1,q2,q3,q4,q5⟩
  exact⟨(cu2.below b),(C1.trans ch2).trans (Chg.ofBelow b _),Bk.below (w:=w2) ((ch2.block _ kR.lt (by simp;omega)).trans kR) b,kM.fill (by rw [lenm];rfl),fun W hW=>(hq W hW).1,fun W hW=>(hq W hW).2.1,fun W hW=>(hq W hW).2.2.1,fun W hW=>(hq W hW).2.2.2.1,fun W hW=>(hq W hW).2.2.2.2,by omega,hgw⟩
 obtain⟨gM,hgM⟩:∃ z,z=w2.heap.size:=⟨_,rfl⟩;obtain⟨w4,hw4⟩:∃ W,W=setCells w3 w2.heap.size 0 (c1++(c2++(c3++(c4++c5)))):=⟨_,rfl⟩;rw [<- hw4,<- hgM]at H;rw [<- hw4];clear hw4 kM b3 cu2 ch2 SM r1 r2 r3 r4 r5 lenm hz1 hz2 hcz kR C1 cu1
 go_upto_region 2 with fail
 rw [<- hgM];clear hgM
 go_wp2_with fail
 refine(l1Once_c g 6 _ (by omega) H.cu).mono ?_;rintro e w5 ⟨b,rfl,cu5,ch5⟩;replace H:=H.step ch5 cu5;clear cu5 ch5;cases b
 focus
  go_upto_region 4 with fail
  obtain⟨wr,rfl⟩:∃ z,z=w5:=⟨_,rfl⟩
 rotate_left
 focus
  go_wp2_with fail
  refine(l21Any_c g _ H.cu).mono ?_;rintro e w6 ⟨o,c,fp,rfl,oO,fO,_,cu6,ch6⟩;have hMl:=H.kM.lt;have hlt:=H.lt;have hs:StX (rOperator NB) (w.heap.size+1) gM w6 c o:=StX.ofOwn (rOperator_ok NB) oO (fun k hk=>by have:=fO.ge k hk;omega);replace H:=H.step ch6 cu6;have hcz:c.toArray.size=6:=List.size_toArray.trans (op_len hs.rep);have ON:=one_rep (rOperator_ok NB) hs.rep;have TH:w6.there gM 12 c.toArray.size:=by rw [hcz];exact H.thr 12 6 (by omega)
  have H2:=H.put3 hs;clear cu6 ch6 oO fO
  go_wp2_with (refine wpList_store_mid rfl 44 _ _ rfl gM 12 c.toArray rfl rfl TH (by rw [hcz];exact sizeOpT) ON ?_)
  rw [setCells_kit];obtain⟨w7,hw7⟩:∃ W,W=setCells w6 gM 12 c:=⟨_,rfl⟩;rw [<- hw7]at H2;have hw7':setCells w6 gM 12 c.toArray.toList=w7:=hw7.symm;rw [hw7'];clear hw7 hw7' ON TH hs H hcz hMl hlt
  go_upto_region 4 with fail
  obtain⟨wr,rfl⟩:∃ z,z=w7:=⟨_,rfl⟩;obtain⟨c3,rfl⟩:∃ z,z=c:=⟨_,rfl⟩;obtain⟨m2,hm2⟩:∃ m2:ModelD,m2=⟨m.fScan,m.fSort,o,m.fMerge,m.fNested⟩:=⟨_,rfl⟩;rw [<- hm2]at H2;clear hm2;obtain⟨m,rfl⟩:∃ z,z=m2:=⟨_,rfl⟩;have H:=H2;clear H2
 all_goals
  go_wp2_with fail
  refine(l1Once_c g 12 _ (by omega) H.cu).mono ?_;rintro e w8 ⟨b,rfl,cu8,ch8⟩;replace H:=H.step ch8 cu8;clear cu8 ch8;cases b
  ·have h0:True:=trivial
   obtain⟨cs,hl,hcz,kM,ON,HF⟩:=H.out;have TH:w8.there w.heap.size 0 cs.toArray.size:=by rw [hcz];exact H.kR.there
   have bF:=H.kR.fill (c:=cs) (by rw [hl];rfl);clear H
   go_wp2_with (first|(refine wpList_load_mid rfl 46 _ rfl gM 0 rfl cs _ kM.rangeAt Tryz.underlying46 rfl (by rw [hl];exact sizeModelT) ?_)|(refine wpList_store_mid rfl 46 _ _ rfl w.heap.size 0 cs.toArray rfl rfl TH (by rw [hcz];exact sizeModelT) ON ?_))
   rw [setCells_kit];go_wp2;refine bodyPost_ret (results_cell1 Tryz.results83 rfl bF.rangeAt Tryz.underlying46 rfl (by rw [hl];exact sizeModelT)) rfl ?_;exact HF
  ·have h0:True:=trivial
   go_wp2_with fail
   refine(l21Any_c g _ H.cu).mono ?_;rintro e w9 ⟨o,c,fp,rfl,oO,fO,_,cu9,ch9⟩;have hMl:=H.kM.lt;have hlt:=H.lt;have hs:StX (rOperator NB) (w.heap.size+1) gM w9 c o:=StX.ofOwn (rOperator_ok NB) oO (fun k hk=>by have:=fO.ge k hk;omega);replace H:=H.step ch9 cu9;have hcz2:c.toArray.size=6:=List.size_toArray.trans (op_len hs.rep);have ON:=one_rep (rOperator_ok NB) hs.rep;have TH:w9.there gM 6 c.toArray.size:=by rw [hcz2];exact H.thr 6 6 (by omega)
   have H2:=H.put2 hs;clear cu9 ch9 oO fO;obtain⟨w10,hw10⟩:∃ W,W=setCells w9 gM 6 c:=⟨_,rfl⟩;rw [<- hw10]at H2;have HWK:Hid (w9.setCells gM 6 c.toArray.toList=w10):=by show _=_;rw [setCells_kit,hw10]
   have ON2:=ON;have TH2:=TH;clear hw10 hs H hMl hlt ON TH;obtain⟨cs,hl,hcz,kM,ON,HF⟩:=H2.out;have TH:w10.there w.heap.size 0 cs.toArray.size:=by rw [hcz];exact H2.kR.there
   have bF:=H2.kR.fill (c:=cs) (by rw [hl];rfl);clear H2
   go_wp2_with (first|(refine wpList_store_mid rfl 44 _ _ rfl gM 6 c.toArray rfl rfl TH2 (by rw [hcz2];exact sizeOpT) ON2 ?_;rw [HWK.out])|(refine wpList_load_mid rfl 46 _ rfl gM 0 rfl cs _ kM.rangeAt Tryz.underlying46 rfl (by rw [hl];exact sizeModelT) ?_)|(refine wpList_store_mid rfl 46 _ _ rfl w.heap.size 0 cs.toArray rfl rfl TH (by rw [hcz];exact sizeModelT) ON ?_))
   rw [setCells_kit];go_wp2;refine bodyPost_ret (results_cell1 Tryz.results83 rfl bF.rangeAt Tryz.underlying46 rfl (by rw [hl];exact sizeModelT)) rfl ?_;exact HF
end Go.Proofs.YtnlcfkpcmfljeaaGreat
namespace Go.Proofs.YtnlcfkpcmfljeaaGreat
open Go.RowKit
theorem rAtom_nt {t:TypeId}(h:(3:TypeId)≠t):(rAtom NB).NT t:=rIso_nt (rPair_nt rStr_nt (rSlice_nt rInt_nt h)) _
theorem neAI:(3:TypeId)≠50:=by decide
theorem neAQ:(162:TypeId)≠50:=by decide
theorem any_fin {w W:World}{g:Nat}{vc:Int}{A:Option Addr}{n c:Nat}{L:List AtomD}(hg:g<w.heap.size) (m:MS (w.heap.size+1) NB 162 (rAtom NB) W A n c L) (hv:I64 vc) (cu:Cur W g) (hc:Chg [g] w W) (a b:Value) :
  DrawnR (rQuery NB) g w (.returned (.agg #[.int .i64 vc,.slice A n c])) (set2 W w.heap.size a b):=by
 obtain⟨fp,o,f⟩:=m;have ho:(rQuery NB).own W fp [.int .i64 vc,.slice A n c] ⟨vc,L⟩:=rQuery_own.2 ⟨A,n,c,fp,rfl,rfl,hv,o⟩;exact⟨⟨vc,L⟩,[.int .i64 vc,.slice A n c],rfl,Stb.ofOwn (rQuery_ok NB) (own_set2 (rQuery_ok NB) ho f a b) (fun k hk=>by have:=f.ge k hk;omega),cu.low hg (bls2 (Below.refl _ _) (Nat.le_refl _) _ _),chgS hc (bls2 (Below.refl _ _) (Nat.le_refl _) _ _) (Nat.le_refl _)⟩
theorem MS.chgS {α:Type}{r:Rp α}{B M:Nat}{e:TypeId}{w w':World}{A:Option Addr}{n cap:Nat}{l:List α}{S:List Nat}(h:MS B M e r w A n cap l) (hr:r.Ok) (hc:Chg S w w') (hS:∀ k,B<=k->k∉S):MS B M e r w' A n cap l:=by
 obtain⟨fp,o,f⟩:=h;exact⟨fp,o.okeep hr (fun k hk=>hc.block k (o.lt hr k hk) (hS k (f.ge k hk))),f⟩
theorem cell_of_heap {w w':World}{g j:Nat}(h:w'.heap[g]?=w.heap[g]?):w'.cell? ⟨g,j,none⟩=w.cell? ⟨g,j,none⟩:=by unfold World.cell?;rw [h]
theorem l7Any_c (g:Nat) (w:World) (hc:Cur w g):Calls Tryz.prog 86 #[.pointer (some ⟨g,0,none⟩)] w (DrawnR (rQuery NB) g w):=by
 have hgw:=hc.lt;obtain⟨w1,hw1⟩:∃ W,W=w.alloc (.cells #[.int .i64 0,.slice none 0 0] 50):=⟨_,rfl⟩;have hs1:w1.heap.size=w.heap.size+1:=by rw [hw1];simp
 have b1:Below w.heap.size w w1:=by rw [hw1];exact bal
 have kR:Bk w1 w.heap.size 50 [.int .i64 0,.slice none 0 0]:=by rw [hw1];exact Bk.new w _ _
 have cu1:=hc.below b1;have C1:Chg [g] w w1:=Chg.ofBelow b1 _;have HW1:=Lib.hid hw1;clear b1 hw1
 go_enter Tryz.func86,Tryz.ntmps86
 go_upto_region 1 with fail
 rw [<- HW1.out]
 go_wp2_with fail
 refine(l7Query_c g _ cu1).mono ?_;rintro e w2 ⟨q,cs,fp,rfl,oQ,fQ,hval,cu2,ch2⟩;obtain⟨A,n,c,_,rfl,rfl,hqv,oA⟩:=rQuery_own.1 oQ;obtain⟨v1,v2,v3,v4,v5,_⟩:=validQ_parts hval;have hLn:=oA.len;obtain⟨gq,hgq⟩:∃ z,z=w2.heap.size:=⟨_,rfl⟩;obtain⟨w3,hw3⟩:∃ W,W=w2.alloc (.cells #[.int .i64 q.fVariableCount,.slice A n c] 50):=⟨_,rfl⟩;have b3:Below w2.heap.size w2 w3:=by rw [hw3];exact bal
 have kq:Bk w3 gq 50 [.int .i64 q.fVariableCount,.slice A n c]:=by rw [hw3,hgq];exact Bk.new w2 _ _
 have kR3:Bk w3 w.heap.size 50 [.int .i64 0,.slice none 0 0]:=Bk.below ((ch2.block _ kR.lt (by simp;omega)).trans kR) b3;have mA:MS (w.heap.size+1) NB 162 (rAtom NB) w3 A n c q.fAtoms:=⟨fp,oA.belowS (rAtom_ok NB) b3,fQ.mono (by omega)⟩;have cu3:=cu2.below b3;have C3:=(C1.trans ch2).trans (Chg.ofBelow b3 _);have hgqw:w.heap.size+1<=gq:=by have:=ch2.size;omega
 clear kR cu1 C1 oQ fQ oA cu2 ch2 b3 hs1
 go_upto_region 2 with fail
 rw [<- hgq,<- hw3];clear hw3 hgq
 go_wp2_with fail
 refine(l1Below_c g 14 _ (by omega) cu3).mono ?_;rintro e w4 ⟨x,rfl,⟨hx0,_,hx1⟩,cu4,ch4⟩;have kq4:Bk w4 gq 50 [.int .i64 q.fVariableCount,.slice A n c]:=(ch4.block _ kq.lt (by simp;omega)).trans kq;have kR4:Bk w4 w.heap.size 50 [.int .i64 0,.slice none 0 0]:=(ch4.block _ kR3.lt (by simp;omega)).trans kR3;have mA4:=mA.chgS (rAtom_ok NB) ch4 (fun k hk=>by simp;omega);have C4:=C3.trans ch4;have hgv:g<gq:=by omega
 have hg1:g<w.heap.size+1:=by omega
 clear kq kR3 mA cu3 C3 ch4 hx1;obtain⟨gb,rfl,hgb1,hgb2⟩:=mA4.form (by omega)
 have hne:gb≠gq:=fun h=>by
  obtain⟨fp,o,f⟩:=mA4;refine(o.nt (rAtom_nt neAI) neAQ).ne kq4 ?_;obtain⟨_,fps,_,e,_⟩:=o.ex;rw [e,<- h];simp [blk]
 have ⟨x0,f0,x1,f1⟩:=kq4.r2;have ⟨r0,g0,r1,g1⟩:=kR4.r2;by_cases e0:x=0
 ·have d0:(x==0)=true:=by simp [e0]
  have hw:IntKind.i64.wrap (q.fVariableCount+1)=q.fVariableCount+1:=IntWalk.i64_in _ (by omega);clear x1 f1 r0 g0 r1 g1;subst e0
  go_wp2_with fail
  refine(l1PickInt_c g _ 4 4 [0,5,q.fVariableCount+1,9223372036854775807] _ (RS.lit w4 [0,5,q.fVariableCount+1,9223372036854775807] _ (by simp) (by simp [I64];omega)) cu4.ne (by omega) (cu4.alloc _)).mono ?_;rintro e w5 ⟨z,rfl,hz,cu5,ch5⟩;have hz2:I64 z:=by unfold I64;simp at hz;omega
  have D5:=ch5.al;have kq5:Bk w5 gq 50 [.int .i64 q.fVariableCount,.slice (some ⟨gb,0,none⟩) n c]:=(D5.block _ kq4.lt (by simp;omega)).trans kq4;have kR5:Bk w5 w.heap.size 50 [.int .i64 0,.slice none 0 0]:=(D5.block _ kR4.lt (by simp;omega)).trans kR4;have mA5:=mA4.chgS (rAtom_ok NB) D5 (fun k hk=>by simp;omega);have C5:=C4.trans D5;clear kq4 kR4 mA4 C4 ch5 D5 x0 f0 hz;have f0:=kq5.frozen 0;have y0:=kq5.bx 0 _ rfl
  go_upto_region 11 with fail
  obtain⟨w6,hw6⟩:∃ W,W=w5.setCell ⟨gq,0,none⟩ (.int .i64 z):=⟨_,rfl⟩;have b6:Below gq w5 w6:=by rw [hw6];exact(Below.refl _ _).setCell (p:=⟨gq,0,none⟩) (Nat.le_refl _) _
  have kq6:Bk w6 gq 50 [.int .i64 z,.slice (some ⟨gb,0,none⟩) n c]:=by rw [hw6];exact kq5.set 0 _
  have kR6:Bk w6 w.heap.size 50 [.int .i64 0,.slice none 0 0]:=(b6.block _ (by omega)).trans kR5
  have mA6:MS (w.heap.size+1) NB 162 (rAtom NB) w6 (some ⟨gb,0,none⟩) n c q.fAtoms:=by
   obtain⟨fp,o,f⟩:=mA5;have hn:=(o.nt (rAtom_nt neAI) neAQ).ne kq5;exact⟨fp,o.okeep (rAtom_ok NB) (fun k hk=>by rw [hw6];exact heap_setCell_other _ ⟨gq,0,none⟩ k _ (fun e=>hn (by have e2:k=gq:=e;rw [<- e2];exact hk))),f⟩
  rw [<- hw6];clear hw6 y0 f0;have ⟨x0,x1⟩:=kq6.bx.b2;have ⟨r0,g0,r1,g1⟩:=kR6.r2;have ⟨z0,z1⟩:=kR6.s2;go_wp2;refine bodyPost_ret (v:=.agg #[.int .i64 z,.slice (some ⟨gb,0,none⟩) n c]) (by simp [results,Tryz.results86,go_sem,z0,z1]) rfl ?_;exact any_fin hgw mA6 hz2 (cu5.low hgv b6) (chgS C5 b6 (by omega)) _ _
 have d0:(x==0)=false:=by simp [e0]
 by_cases e1:x=1
 ·have d1:(x==1)=true:=by simp [e1]
  clear x0 f0 f1 r0 g0 r1 g1 d0;subst e1;have HSS:=Lib.hid (fun (w':World) (h:w'.heap[gq]?=w4.heap[gq]?)=>(Bk.bx (h.trans kq4:Bk w' gq 50 [.int .i64 q.fVariableCount,.slice (some ⟨gb,0,none⟩) n c]) 1 _ rfl:w'.cell? ⟨gq,1,none⟩=some (.slice (some ⟨gb,0,none⟩) n c)));have hgb:∀ (W:World),Chg [g] w4 W->W.heap[gq]?=w4.heap[gq]?:=fun W h=>h.block _ kq4.lt (by simp;omega);have HGB:=Lib.hid hgb;have hd0:Chg [g] w4 w4.drew:=Chg.ofBelow (Below.refl _ _).drew _;have HD0:=Lib.hid hd0;clear x1 hgb hd0;go_wp2;refine hgg 10 HSS.out rfl (fun hH=>?_);refine tgk 0 19 hH ?_;simp only [putS];refine tgk 1 20 hH ?_;simp only [putS]
  refine tgk 2 21 hH ?_;simp only [putS];refine rg2 3 (some 22) 5 (some 24) (fun K hK=>?_) fun K hK=>?_
  all_goals clear hH
  focus
   have hA1:Below w4.heap.size w4 (w4.drew.alloc (.cells #[.string ⟨#[]⟩,.string ⟨#[119]⟩,.string ⟨#[114]⟩] 9)):=Below.alb (Below.refl _ _).drew _;go_simp;refine hK.out _ _ (fun _=>HSS.out _ (hA1.block _ kq4.lt)) fun hH=>?_;replace hH:=hH (by decide);clear hK K
   try simp only [putS]
   refine rg2 4 (some 23) 5 (some 24) (fun K hK=>?_) fun K hK=>?_
   all_goals clear hH
   focus
    go_simp;refine(l1Pick_c g _ 3 3 [⟨#[]⟩,⟨#[119]⟩,⟨#[114]⟩] _ (RS.litS w4.drew [⟨#[]⟩,⟨#[119]⟩,⟨#[114]⟩] 9 (by decide) (by decide)) (cu4.ne) (by omega) (cu4.below hA1)).mono ?_;rintro e wA ⟨nm,rfl,hnm,cuA,chA⟩;have hnz:nm.size<=NB:=by simp at hnm;rcases hnm with rfl|rfl|rfl<;>decide
    have CA1:Chg [g] w4 wA:=(Chg.ofBelow hA1 _).trans chA
    go_wp2_with fail
    refine hK.out _ _ (fun _=>HSS.out _ (HGB.out _ CA1)) fun hH=>?_;replace hH:=hH (by decide);clear hK K
    try simp only [putS]
    have hA2:=(Below.refl wA.heap.size wA).alloc (Nat.le_refl _) (.cells #[.int .i64 0] 3);have CP:=CA1.trans (Chg.ofBelow hA2 _);have cuP:=cuA.below hA2;have mI:=MS.one (B:=w4.heap.size) (M:=NB) (e:=3) wA (by have:=CA1.size;exact this) (by unfold NB;omega) (show I64 0 by unfold I64;omega);refine rg 5 (some 24) fun K hK=>?_;clear hH;go_simp;refine hK.out _ _ (fun _=>HSS.out _ (HGB.out _ CP)) fun hH=>?_;replace hH:=hH (by decide);clear hK K
    try simp only [putS]
    obtain⟨P,hP⟩:∃ W,W=wA.alloc (.cells #[.int .i64 0] 3):=⟨_,rfl⟩;obtain⟨I,hI⟩:∃ z,z=wA.heap.size:=⟨_,rfl⟩;rw [<- hP]at CP cuP mI hH ⊢;rw [<- hI]at mI ⊢;clear hP hI hA2 CA1;have CP4:=C4.trans CP;have kqP:Bk P gq 50 [.int .i64 q.fVariableCount,.slice (some ⟨gb,0,none⟩) n c]:=(HGB.out _ CP).trans kq4;have kRP:Bk P w.heap.size 50 [.int .i64 0,.slice none 0 0]:=(CP.block _ kR4.lt (by simp;omega)).trans kR4;obtain⟨v0,hv0,hbv,hMv⟩:=mA4.upto (rAtom_ok NB) CP hg1;have ha1:Below P.heap.size P (P.alloc (.cells #[.string nm,.slice (some ⟨I,0,none⟩) 1 1] 162)):=bal;have hbv2:=hbv.trans (ha1.mono hbv.size)
    obtain⟨oI,gI⟩:=mI.blkI;have ho2:(rAtom NB).own (P.alloc (.cells #[.string nm,.slice (some ⟨I,0,none⟩) 1 1] 162)) (blk (some ⟨I,0,none⟩)) [.string nm,.slice (some ⟨I,0,none⟩) 1 1] ⟨nm,[0]⟩:=rAtom_own.2 ⟨_,_,_,_,rfl,rfl,hnz,oI.belowS rInt_ok ha1⟩;have hfr2:Fr v0.heap.size (blk (some ⟨I,0,none⟩)):=⟨by simp [blk],fun k hk=>by have:=gI k hk;omega⟩;have hB2:w.heap.size+1<=v0.heap.size:=by omega
    have kqA:=kqP.below ha1;have cuA2:=cuP.below ha1;have CA:=CP4.trans (Chg.ofBelow ha1 _);have XA:(P.alloc (.cells #[.string nm,.slice (some ⟨I,0,none⟩) 1 1] 162)).heap[gq]?=w4.heap[gq]?:=(ha1.block _ kqP.lt).trans (HGB.out _ CP);refine tgk 6 25 hH ?_;simp only [putS];refine rg 7 (some 26) fun K hK=>?_;clear hH;go_simp;refine hK.out _ _ (fun _=>HSS.out _ XA) fun hH=>?_;replace hH:=hH (by decide);clear hK K
    try simp only [putS]
    refine rg 8 (some 27) fun K hK=>?_;clear hH;refine step_appR (r:=rAtom NB) (by rfl) _ _ 48 (by rfl) _ 40 eiAtomD (rAtom_ok NB) (by rfl) hMv hbv2 hB2 ⟨P.heap.size,0,none⟩ (by rfl) (f:=blk (some ⟨I,0,none⟩)) (cs:=[.string nm,.slice (some ⟨I,0,none⟩) 1 1]) (y:=⟨nm,[0]⟩) ho2 hfr2 (cells_new _ _ _) (by unfold NB;omega) (Nat.le_refl _) (by omega) ?_;intro A9 c9 w9 hM9 hb9 hg9 hA9;have k9:Bk w9 gq 50 [.int .i64 q.fVariableCount,.slice (some ⟨gb,0,none⟩) n c]:=kqA.grw hg9 (by simp [blk];exact fun e=>hne e.symm);have f9:=k9.frozen 1;have y9:=k9.bx 1 _ rfl;have X9:w9.heap[gq]?=w4.heap[gq]?:=k9.trans kq4.symm
    refine hK.out _ _ (fun _=>HSS.out _ X9) fun hH=>?_;replace hH:=hH (by decide);clear hK K
    try simp only [putS]
    refine tgk 9 28 hH ?_;simp only [putS];refine rg 10 none fun K hK=>?_;clear hH;go_simp;refine hK.out _ _ (fun h=>absurd rfl h) fun hH=>?_;clear hK K
    try simp only [putS]
    refine wpG_done (by kernel_rfl) ?_ _;clear hH;have kR9:Bk w9 w.heap.size 50 [.int .i64 0,.slice none 0 0]:=(hb9.block _ (by omega)).trans (kRP.below ha1);have C9:=chgS CA hb9 (by omega);have cu9:=cuA2.low hg1 hb9;clear X9 y9 f9 hA9 hg9 hb9 XA CA cuA2 kqA hfr2 ho2 oI gI hbv2 ha1 hMv hbv hv0 kRP kqP CP4
   rotate_left
   focus
    have hA2:Below w4.heap.size w4 ((w4.drew.alloc (.cells #[.string ⟨#[]⟩,.string ⟨#[119]⟩,.string ⟨#[114]⟩] 9)).alloc (.cells #[.int .i64 0] 3)):=Below.alb hA1 _;go_simp;refine hK.out _ _ (fun _=>HSS.out _ (hA2.block _ kq4.lt)) fun hH=>?_;replace hH:=hH (by decide);clear hK K
    try simp only [putS]
    have mI0:=MS.one (B:=w4.heap.size) (M:=NB) (e:=3) (w4.drew.alloc (.cells #[.string ⟨#[]⟩,.string ⟨#[119]⟩,.string ⟨#[114]⟩] 9)) (by have:=hA1.size;exact this) (by unfold NB;omega) (show I64 0 by unfold I64;omega);refine rg 4 (some 23) fun K hK=>?_;clear hH;go_simp;refine(l1Pick_c g _ 3 3 [⟨#[]⟩,⟨#[119]⟩,⟨#[114]⟩] _ ((RS.litS w4.drew [⟨#[]⟩,⟨#[119]⟩,⟨#[114]⟩] 9 (by decide) (by decide)).below (rStr_ok NB) (Below.alb (Below.refl _ _) _)) (fun k hk=>by have:=cu4.lt;simp [blk]at hk;omega) (by omega) (cu4.below hA2)).mono ?_;rintro e wA ⟨nm,rfl,hnm,cuA,chA⟩;have hnz:nm.size<=NB:=by simp at hnm;rcases hnm with rfl|rfl|rfl<;>decide
    have CP:Chg [g] w4 wA:=(Chg.ofBelow hA2 _).trans chA;have cuP:=cuA;have mI:=mI0.chgS rInt_ok chA (fun k hk=>by have:=cu4.lt;simp;omega)
    go_wp2_with fail
    refine hK.out _ _ (fun _=>HSS.out _ (HGB.out _ CP)) fun hH=>?_;replace hH:=hH (by decide);clear hK K
    try simp only [putS]
    obtain⟨P,hP⟩:∃ W,W=wA:=⟨_,rfl⟩;obtain⟨I,hI⟩:∃ z,z=w4.heap.size+1:=⟨_,rfl⟩;have hI2:(w4.drew.alloc (.cells #[.string ⟨#[]⟩,.string ⟨#[119]⟩,.string ⟨#[114]⟩] 9)).heap.size=I:=by rw [hI];simp
    rw [<- hP]at CP cuP mI hH ⊢;rw [hI2]at mI;rw [<- hI];clear hP hI hI2 hA2 mI0;have CP4:=C4.trans CP;have kqP:Bk P gq 50 [.int .i64 q.fVariableCount,.slice (some ⟨gb,0,none⟩) n c]:=(HGB.out _ CP).trans kq4;have kRP:Bk P w.heap.size 50 [.int .i64 0,.slice none 0 0]:=(CP.block _ kR4.lt (by simp;omega)).trans kR4;obtain⟨v0,hv0,hbv,hMv⟩:=mA4.upto (rAtom_ok NB) CP hg1;have ha1:Below P.heap.size P (P.alloc (.cells #[.string nm,.slice (some ⟨I,0,none⟩) 1 1] 162)):=bal;have hbv2:=hbv.trans (ha1.mono hbv.size);obtain⟨oI,gI⟩:=mI.blkI;have ho2:(rAtom NB).own (P.alloc (.cells #[.string nm,.slice (some ⟨I,0,none⟩) 1 1] 162)) (blk (some ⟨I,0,none⟩)) [.string nm,.slice (some ⟨I,0,none⟩) 1 1] ⟨nm,[0]⟩:=rAtom_own.2 ⟨_,_,_,_,rfl,rfl,hnz,oI.belowS rInt_ok ha1⟩
    have hfr2:Fr v0.heap.size (blk (some ⟨I,0,none⟩)):=⟨by simp [blk],fun k hk=>by have:=gI k hk;omega⟩;have hB2:w.heap.size+1<=v0.heap.size:=by omega
    have kqA:=kqP.below ha1;have cuA2:=cuP.below ha1;have CA:=CP4.trans (Chg.ofBelow ha1 _);have XA:(P.alloc (.cells #[.string nm,.slice (some ⟨I,0,none⟩) 1 1] 162)).heap[gq]?=w4.heap[gq]?:=(ha1.block _ kqP.lt).trans (HGB.out _ CP);refine tgk 6 25 hH ?_;simp only [putS];refine rg 7 (some 26) fun K hK=>?_;clear hH;go_simp;refine hK.out _ _ (fun _=>HSS.out _ XA) fun hH=>?_;replace hH:=hH (by decide);clear hK K
    try simp only [putS]
    refine rg 8 (some 27) fun K hK=>?_;clear hH;refine step_appR (r:=rAtom NB) (by rfl) _ _ 48 (by rfl) _ 40 eiAtomD (rAtom_ok NB) (by rfl) hMv hbv2 hB2 ⟨P.heap.size,0,none⟩ (by rfl) (f:=blk (some ⟨I,0,none⟩)) (cs:=[.string nm,.slice (some ⟨I,0,none⟩) 1 1]) (y:=⟨nm,[0]⟩) ho2 hfr2 (cells_new _ _ _) (by unfold NB;omega) (Nat.le_refl _) (by omega) ?_;intro A9 c9 w9 hM9 hb9 hg9 hA9;have k9:Bk w9 gq 50 [.int .i64 q.fVariableCount,.slice (some ⟨gb,0,none⟩) n c]:=kqA.grw hg9 (by simp [blk];exact fun e=>hne e.symm);have f9:=k9.frozen 1;have y9:=k9.bx 1 _ rfl;have X9:w9.heap[gq]?=w4.heap[gq]?:=k9.trans kq4.symm
    refine hK.out _ _ (fun _=>HSS.out _ X9) fun hH=>?_;replace hH:=hH (by decide);clear hK K
    try simp only [putS]
    refine tgk 9 28 hH ?_;simp only [putS];refine rg 10 none fun K hK=>?_;clear hH;go_simp;refine hK.out _ _ (fun h=>absurd rfl h) fun hH=>?_;clear hK K
    try simp only [putS]
    refine wpG_done (by kernel_rfl) ?_ _;clear hH;have kR9:Bk w9 w.heap.size 50 [.int .i64 0,.slice none 0 0]:=(hb9.block _ (by omega)).trans (kRP.below ha1);have C9:=chgS CA hb9 (by omega);have cu9:=cuA2.low hg1 hb9;clear X9 y9 f9 hA9 hg9 hb9 XA CA cuA2 kqA hfr2 ho2 oI gI hbv2 ha1 hMv hbv hv0 kRP kqP CP4
  rotate_left 2
  focus
   have hA1:Below w4.heap.size w4 (w4.drew.alloc (.cells #[.int .i64 0] 3)):=Below.alb (Below.refl _ _).drew _;go_simp;refine hK.out _ _ (fun _=>HSS.out _ (hA1.block _ kq4.lt)) fun hH=>?_;replace hH:=hH (by decide);clear hK K
   try simp only [putS]
   have mI0:=MS.one (B:=w4.heap.size) (M:=NB) (e:=3) w4.drew (Nat.le_refl _) (by unfold NB;omega) (show I64 0 by unfold I64;omega);have hA2:Below w4.heap.size w4 ((w4.drew.alloc (.cells #[.int .i64 0] 3)).alloc (.cells #[.string ⟨#[]⟩,.string ⟨#[119]⟩,.string ⟨#[114]⟩] 9)):=Below.alb hA1 _;refine rg 3 (some 22) fun K hK=>?_;clear hH;go_simp;refine hK.out _ _ (fun _=>HSS.out _ (hA2.block _ kq4.lt)) fun hH=>?_;replace hH:=hH (by decide);clear hK K
   try simp only [putS]
   have rL:=RS.litS (w4.drew.alloc (.cells #[.int .i64 0] 3)) [⟨#[]⟩,⟨#[119]⟩,⟨#[114]⟩] 9 (by decide) (by decide);rw [show(w4.drew.alloc (.cells #[.int .i64 0] 3)).heap.size=w4.heap.size+1 by simp]at rL;refine rg 4 (some 23) fun K hK=>?_;clear hH;go_simp;refine(l1Pick_c g _ 3 3 [⟨#[]⟩,⟨#[119]⟩,⟨#[114]⟩] _ (rL) (fun k hk=>by have:=cu4.lt;simp [blk]at hk;omega) (by omega) (cu4.below hA2)).mono ?_;rintro e wA ⟨nm,rfl,hnm,cuA,chA⟩;have hnz:nm.size<=NB:=by simp at hnm;rcases hnm with rfl|rfl|rfl<;>decide
   have CP:Chg [g] w4 wA:=(Chg.ofBelow hA2 _).trans chA;have cuP:=cuA;have mI:=(mI0.below rInt_ok (Below.alb (Below.refl _ _) _)).chgS rInt_ok chA (fun k hk=>by have:=cu4.lt;simp;omega)
   go_wp2_with fail
   refine hK.out _ _ (fun _=>HSS.out _ (HGB.out _ CP)) fun hH=>?_;replace hH:=hH (by decide);clear hK K
   try simp only [putS]
   obtain⟨P,hP⟩:∃ W,W=wA:=⟨_,rfl⟩;rw [<- hP]at CP cuP mI hH ⊢;rw [show w4.drew.heap.size=w4.heap.size from rfl]at mI;clear hP hA2 mI0 rL;have CP4:=C4.trans CP;have kqP:Bk P gq 50 [.int .i64 q.fVariableCount,.slice (some ⟨gb,0,none⟩) n c]:=(HGB.out _ CP).trans kq4;have kRP:Bk P w.heap.size 50 [.int .i64 0,.slice none 0 0]:=(CP.block _ kR4.lt (by simp;omega)).trans kR4;obtain⟨v0,hv0,hbv,hMv⟩:=mA4.upto (rAtom_ok NB) CP hg1;have ha1:Below P.heap.size P (P.alloc (.cells #[.string nm,.slice (some ⟨w4.heap.size,0,none⟩) 1 1] 162)):=bal;have hbv2:=hbv.trans (ha1.mono hbv.size);obtain⟨oI,gI⟩:=mI.blkI;have ho2:(rAtom NB).own (P.alloc (.cells #[.string nm,.slice (some ⟨w4.heap.size,0,none⟩) 1 1] 162)) (blk (some ⟨w4.heap.size,0,none⟩)) [.string nm,.slice (some ⟨w4.heap.size,0,none⟩) 1 1] ⟨nm,[0]⟩:=rAtom_own.2 ⟨_,_,_,_,rfl,rfl,hnz,oI.belowS rInt_ok ha1⟩
   have hfr2:Fr v0.heap.size (blk (some ⟨w4.heap.size,0,none⟩)):=⟨by simp [blk],fun k hk=>by have:=gI k hk;omega⟩;have hB2:w.heap.size+1<=v0.heap.size:=by omega
   have kqA:=kqP.below ha1;have cuA2:=cuP.below ha1;have CA:=CP4.trans (Chg.ofBelow ha1 _);have XA:(P.alloc (.cells #[.string nm,.slice (some ⟨w4.heap.size,0,none⟩) 1 1] 162)).heap[gq]?=w4.heap[gq]?:=(ha1.block _ kqP.lt).trans (HGB.out _ CP);refine tgk 6 25 hH ?_;simp only [putS];refine rg 7 (some 26) fun K hK=>?_;clear hH;go_simp;refine hK.out _ _ (fun _=>HSS.out _ XA) fun hH=>?_;replace hH:=hH (by decide);clear hK K
   try simp only [putS]
   refine rg 8 (some 27) fun K hK=>?_;clear hH;refine step_appR (r:=rAtom NB) (by rfl) _ _ 48 (by rfl) _ 40 eiAtomD (rAtom_ok NB) (by rfl) hMv hbv2 hB2 ⟨P.heap.size,0,none⟩ (by rfl) (f:=blk (some ⟨w4.heap.size,0,none⟩)) (cs:=[.string nm,.slice (some ⟨w4.heap.size,0,none⟩) 1 1]) (y:=⟨nm,[0]⟩) ho2 hfr2 (cells_new _ _ _) (by unfold NB;omega) (Nat.le_refl _) (by omega) ?_;intro A9 c9 w9 hM9 hb9 hg9 hA9;have k9:Bk w9 gq 50 [.int .i64 q.fVariableCount,.slice (some ⟨gb,0,none⟩) n c]:=kqA.grw hg9 (by simp [blk];exact fun e=>hne e.symm);have f9:=k9.frozen 1;have y9:=k9.bx 1 _ rfl;have X9:w9.heap[gq]?=w4.heap[gq]?:=k9.trans kq4.symm
   refine hK.out _ _ (fun _=>HSS.out _ X9) fun hH=>?_;replace hH:=hH (by decide);clear hK K
   try simp only [putS]
   refine tgk 9 28 hH ?_;simp only [putS];refine rg 10 none fun K hK=>?_;clear hH;go_simp;refine hK.out _ _ (fun h=>absurd rfl h) fun hH=>?_;clear hK K
   try simp only [putS]
   refine wpG_done (by kernel_rfl) ?_ _;clear hH;have kR9:Bk w9 w.heap.size 50 [.int .i64 0,.slice none 0 0]:=(hb9.block _ (by omega)).trans (kRP.below ha1);have C9:=chgS CA hb9 (by omega);have cu9:=cuA2.low hg1 hb9;clear X9 y9 f9 hA9 hg9 hb9 XA CA cuA2 kqA hfr2 ho2 oI gI hbv2 ha1 hMv hbv hv0 kRP kqP CP4
  all_goals
   obtain⟨w10,hw10⟩:∃ W,W=w9.setCell ⟨gq,1,none⟩ (.slice A9 (n+1) c9):=⟨_,rfl⟩;have b10:Below gq w9 w10:=by rw [hw10];exact(Below.refl _ _).setCell (p:=⟨gq,1,none⟩) (Nat.le_refl _) _
   have k10:Bk w10 gq 50 [.int .i64 q.fVariableCount,.slice A9 (n+1) c9]:=by rw [hw10];exact k9.set 1 _
   have kR10:Bk w10 w.heap.size 50 [.int .i64 0,.slice none 0 0]:=(b10.block _ (by omega)).trans kR9
   have m10:MS (w.heap.size+1) NB 162 (rAtom NB) w10 A9 (n+1) c9 (q.fAtoms++[⟨nm,[0]⟩]):=by
    obtain⟨fp,o,f⟩:=hM9;have hn:=(o.nt (rAtom_nt neAI) neAQ).ne k9;exact⟨fp,o.okeep (rAtom_ok NB) (fun k hk=>by rw [hw10];exact heap_setCell_other _ ⟨gq,1,none⟩ k _ (fun e=>hn (by have e2:k=gq:=e;rw [<- e2];exact hk))),f⟩
   rw [<- hw10];clear hw10;have ⟨x0,x1⟩:=k10.bx.b2;have ⟨r0,g0,r1,g1⟩:=kR10.r2;have ⟨z0,z1⟩:=kR10.s2;go_wp2;refine bodyPost_ret (v:=.agg #[.int .i64 q.fVariableCount,.slice A9 (n+1) c9]) (by simp [results,Tryz.results86,go_sem,z0,z1]) rfl ?_;exact any_fin hgw m10 hqv (cu9.low hgv b10) (chgS C9 b10 (by omega)) _ _
 have d1:(x==1)=false:=by simp [e1]
 obtain⟨a0,ha0⟩:∃ a,q.fAtoms[0]?=some a:=⟨_,List.getElem?_eq_getElem (by omega)⟩;have HA0:=Lib.hid ha0;clear ha0;by_cases e2:x=2
 ·have d2:(x==2)=true:=by simp [e2]
  obtain⟨u,hu⟩:=mA4.hasCell (j:=1) (by show 1<n*2;omega);have fu:=mA4.frozen 1;clear x0 f0 f1 r0 g0 r1 g1;subst e2
  go_upto_region 11 with fail
  obtain⟨w6,hw6⟩:∃ W,W=w4.setCell ⟨gb,1,none⟩ (.slice none 0 0):=⟨_,rfl⟩;have b6:Below (w.heap.size+1) w4 w6:=by rw [hw6];exact(Below.refl _ _).setCell (p:=⟨gb,1,none⟩) hgb2 _
  have kq6:Bk w6 gq 50 [.int .i64 q.fVariableCount,.slice (some ⟨gb,0,none⟩) n c]:=by rw [hw6];exact(heap_setCell_other _ ⟨gb,1,none⟩ gq _ (fun e=>hne e.symm)).trans kq4
  have kR6:Bk w6 w.heap.size 50 [.int .i64 0,.slice none 0 0]:=(b6.block _ (by omega)).trans kR4
  have mA6:MS (w.heap.size+1) NB 162 (rAtom NB) w6 (some ⟨gb,0,none⟩) n c (q.fAtoms.set 0 ⟨a0.fName,[]⟩):=by
   obtain⟨fp,o,f⟩:=mA4
   obtain⟨fp',o',f',_⟩:=o.setH (rAtom_ok NB) f HA0.out (x':=⟨a0.fName,[]⟩) (j:=1) (by decide) (.slice none 0 0) (fun W f c h=>by
    obtain⟨AV,nV,cV,fV,rfl,rfl,h1,h2⟩:=rAtom_own.1 h;exact .inr (rAtom_own.2 ⟨none,0,0,[],rfl,rfl,h1,⟨rfl,Nat.zero_le _,[],[],World.ownsRow_nil _ 0 _ _,rfl,trivial⟩⟩))
   rw [show 0*(rAtom NB).size+1=1 from rfl]at o';rw [hw6];exact⟨fp',o',f'⟩
  rw [<- hw6];clear hw6 hu fu;have ⟨x0,x1⟩:=kq6.bx.b2;have ⟨r0,g0,r1,g1⟩:=kR6.r2;have ⟨z0,z1⟩:=kR6.s2;go_wp2;refine bodyPost_ret (v:=.agg #[.int .i64 q.fVariableCount,.slice (some ⟨gb,0,none⟩) n c]) (by simp [results,Tryz.results86,go_sem,z0,z1]) rfl ?_;exact any_fin hgw mA6 hqv (cu4.low hg1 b6) (chgS C4 b6 (by omega)) _ _
 have d2:(x==2)=false:=by simp [e2]
 by_cases e3:x=3
 ·have d3:(x==3)=true:=by simp [e3]
  obtain⟨fp,o,f⟩:=mA4;obtain⟨fv,cc,a1,h1,h2,h3,h4,h5⟩:=o.openE (rAtom_ok NB) f (k:=0) (by omega);obtain rfl:a0=a1:=by have:=HA0.out;rw [h1]at this;injection this with this;exact this.symm
  have hap:=atomOk_parts (v5 a0 (mem_of_at h1));obtain⟨AV,nV,cV,_,rfl,rfl,hz1,oV⟩:=rAtom_own.1 h2;have hfv:=(osInt.1 oV).1;have hVl:=oV.len;have HZ1:=Lib.hid hz1;have mV:MS (w.heap.size+1) NB 3 rInt w4 AV nV cV a0.fVars:=⟨fv,oV,by rw [hfv];cases AV<;>simp [blk],fun k hk=>f.ge k (h3 k hk).1⟩;obtain⟨gV,rfl,hgV1,hgV2⟩:=mV.form (by omega);subst hfv;have hgVf:=h3 gV (by simp [blk]);have c1:w4.cell? ⟨gb,1,none⟩=some (.slice (some ⟨gV,0,none⟩) nV cV):=h4 1 _ rfl;have HSS:=Lib.hid (fun (w':World) (h:w'.heap[gq]?=w4.heap[gq]?/\w'.heap[gb]?=w4.heap[gb]?)=>(⟨Bk.bx (h.1.trans kq4:Bk w' gq 50 [.int .i64 q.fVariableCount,.slice (some ⟨gb,0,none⟩) n c]) 1 _ rfl,(cell_of_heap h.2).trans c1⟩:w'.cell? ⟨gq,1,none⟩=some (.slice (some ⟨gb,0,none⟩) n c)/\w'.cell? ⟨gb,1,none⟩=some (.slice (some ⟨gV,0,none⟩) nV cV)))
  have hHB:∀ (W:World),Chg [g] w4 W->W.heap[gq]?=w4.heap[gq]?/\W.heap[gb]?=w4.heap[gb]?:=fun W h=>⟨h.block _ kq4.lt (by simp;omega),h.block _ hgb1 (by simp;omega)⟩;have HB:=Lib.hid hHB;have H5:=Lib.hid h5;have hnV:0<nV:=by omega
  have hn0:0<n:=by omega
  have hA1:Below w4.heap.size w4 (w4.drew.alloc (.cells #[.int .i64 (-1),.int .i64 4,.int .i64 1] 3)):=Below.alb (Below.refl _ _).drew _;clear x0 f0 x1 f1 r0 g0 r1 g1 h5 h4 h3 h2 h1 hHB c1 hap hz1;subst e3;go_wp2;refine hgg 9 HSS.out ⟨rfl,rfl⟩ (fun hH=>?_);refine tgk 0 37 hH ?_;simp only [putS];refine tgk 1 38 hH ?_;simp only [putS];refine tgk 2 39 hH ?_;simp only [putS];refine tgk 3 40 hH ?_;simp only [putS];refine tgk 4 41 hH ?_;simp only [putS];refine tgk 5 42 hH ?_;simp only [putS];refine rg 6 (some 43) fun K hK=>?_;clear hH;go_simp;refine hK.out _ _ (fun _=>HSS.out _ (HB.out _ (Chg.ofBelow hA1 _))) fun hH=>?_
  replace hH:=hH (by decide);clear hK K
  try simp only [putS]
  refine rg 7 (some 44) fun K hK=>?_;clear hH;go_simp;refine(l1PickInt_c g _ 3 3 [-1,4,1] _ (RS.lit w4.drew [-1,4,1] _ (by simp) (by simp [I64])) cu4.ne (by omega) (cu4.below hA1)).mono ?_;rintro e wA ⟨z,rfl,hz,cuA,chA⟩;have CP:Chg [g] w4 wA:=(Chg.ofBelow hA1 _).trans chA;have hz2:I64 z:=by unfold I64;simp at hz;omega
  have mVA:=mV.chgS rInt_ok CP (fun k hk=>by simp;omega);obtain⟨u,hu,_,_⟩:=mVA.celli (k:=0) hnV;have fu:=mVA.frozen 0
  go_wp2_with fail
  refine hK.out _ _ (fun _=>HSS.out _ (HB.out _ CP)) fun hH=>?_;replace hH:=hH (by decide);clear hK K
  try simp only [putS]
  refine tgk 8 45 hH ?_;simp only [putS];refine rg 9 none fun K hK=>?_;clear hH;go_simp;refine hK.out _ _ (fun h=>absurd rfl h) fun hH=>?_;clear hK K
  try simp only [putS]
  refine wpG_done (by kernel_rfl) ?_ _;clear hH;obtain⟨w6,hw6⟩:∃ W,W=wA.setCell ⟨gV,0,none⟩ (.int .i64 z):=⟨_,rfl⟩;have b6:Below (w.heap.size+1) wA w6:=by rw [hw6];exact(Below.refl _ _).setCell (p:=⟨gV,0,none⟩) hgV2 _
  have hgVq:gV≠gq:=fun h=>(o.nt (rAtom_nt neAI) neAQ).ne kq4 (h▸hgVf.1);have hot:∀ k,k≠gV->w6.heap[k]?=wA.heap[k]?:=fun k hk=>by rw [hw6];exact heap_setCell_other _ ⟨gV,0,none⟩ k _ (fun e=>hk e)
  have kq6:Bk w6 gq 50 [.int .i64 q.fVariableCount,.slice (some ⟨gb,0,none⟩) n c]:=(hot gq hgVq.symm).trans ((HB.out _ CP).1.trans kq4);have kR6:Bk w6 w.heap.size 50 [.int .i64 0,.slice none 0 0]:=(b6.block _ (by omega)).trans ((CP.block _ kR4.lt (by simp;omega)).trans kR4)
  have mA6:MS (w.heap.size+1) NB 162 (rAtom NB) w6 (some ⟨gb,0,none⟩) n c (q.fAtoms.set 0 ⟨a0.fName,a0.fVars.set 0 z⟩):=by
   refine⟨fp,H5.out w6 ⟨a0.fName,a0.fVars.set 0 z⟩ (fun k hk hk2=>?_) (rAtom_own.2 ⟨some ⟨gV,0,none⟩,nV,cV,_,rfl,rfl,?_,?_⟩),f⟩
   ·exact(hot k (fun e=>hk2 (by rw [e];simp [blk]))).trans (CP.block k (o.lt (rAtom_ok NB) k hk) (by have:=f.ge k hk;simp;omega))
   ·exact HZ1.out
   ·rw [hw6];exact(mVA.set 0 hz2).bI.1
  have C6:=chgS (C4.trans CP) b6 (by omega);have cu6:=cuA.low hg1 b6;rw [<- hw6];clear hw6 hu fu hot mVA;have ⟨x0,x1⟩:=kq6.bx.b2;have ⟨r0,g0,r1,g1⟩:=kR6.r2;have ⟨z0,z1⟩:=kR6.s2;go_wp2;refine bodyPost_ret (v:=.agg #[.int .i64 q.fVariableCount,.slice (some ⟨gb,0,none⟩) n c]) (by simp [results,Tryz.results86,go_sem,z0,z1]) rfl ?_;exact any_fin hgw mA6 hqv cu6 C6 _ _
 ·have d3:(x==3)=false:=by simp [e3]
  have ⟨z0,z1⟩:=kR4.s2;go_wp2;refine bodyPost_ret (v:=.agg #[.int .i64 q.fVariableCount,.slice (some ⟨gb,0,none⟩) n c]) (by simp [results,Tryz.results86,go_sem,z0,z1]) rfl ?_;exact any_fin hgw mA4 hqv cu4 C4 _ _
attribute [local go_sem ↓] Go.wp_at_zero Go.wp_at_succ
theorem sizeMoD:(Tryz.prog.info? 46).map (·.size)=some 30:=by kernel_rfl
theorem sizeQuD:(Tryz.prog.info? 50).map (·.size)=some 2:=by kernel_rfl
theorem sizeBoD:(Tryz.prog.info? 36).map (·.size)=some 2:=by kernel_rfl
theorem drawBuild_c (A:Option Addr) (n cap:Nat) (l:List Int) (w:World) (hr:RS NB rByte w A n cap l) :
  Calls Tryz.prog 25 #[.slice A n cap] w fun e W=>∃ (m:ModelD) (cm:List Value) (q:QueryD) (Aq:Option Addr) (nq cq:Nat) (b:BoxD) (AL:Option Addr) (nL cL:Nat) (AH:Option Addr) (nH cH:Nat),e=.returned (.tuple #[.agg cm.toArray,.agg #[.int .i64 q.fVariableCount,.slice Aq nq cq],.agg #[.slice AL nL cL,.slice AH nH cH]])/\(rModel NB).rep W cm m/\(rQuery NB).rep W [.int .i64 q.fVariableCount,.slice Aq nq cq] q/\(rBox NB).rep W [.slice AL nL cL,.slice AH nH cH] b/\Below w.heap.size w W:=by
 obtain⟨a1,ha1⟩:∃ W,W=w.alloc (.cells z30.toArray 46):=⟨_,rfl⟩;obtain⟨a2,ha2⟩:∃ W,W=a1.alloc (.cells #[.int .i64 0,.slice none 0 0] 50):=⟨_,rfl⟩;obtain⟨a3,ha3⟩:∃ W,W=a2.alloc (.cells #[.slice none 0 0,.slice none 0 0] 36):=⟨_,rfl⟩;have hs1:a1.heap.size=w.heap.size+1:=by rw [ha1];simp
 have hs2:a2.heap.size=w.heap.size+1+1:=by rw [ha2];simp [hs1]
 have hs3:a3.heap.size=w.heap.size+3:=by rw [ha3];simp [hs2]
 have b1:Below w.heap.size w a1:=by rw [ha1];exact bal
 have b2:Below a1.heap.size a1 a2:=by rw [ha2];exact bal
 have b3:Below a2.heap.size a2 a3:=by rw [ha3];exact bal
 have r0:Bk a3 w.heap.size 46 z30:=Bk.below (w:=a2) (Bk.below (w:=a1) (by rw [ha1];exact Bk.new w _ _) b2) b3;have r1:Bk a3 (w.heap.size+1) 50 [.int .i64 0,.slice none 0 0]:=Bk.below (w:=a2) (by rw [ha2,<- hs1];exact Bk.new a1 _ _) b3;have r2:Bk a3 (w.heap.size+1+1) 36 [.slice none 0 0,.slice none 0 0]:=by rw [ha3,<- hs2];exact Bk.new a2 _ _
 have bb:=(b1.trans (b2.mono (by omega))).trans (b3.mono (by omega));have hr3:=hr.below rByte_ok bb;have HW:Hid (a1=w.alloc (.cells z30.toArray 46)/\a2=a1.alloc (.cells #[.int .i64 0,.slice none 0 0] 50)/\a3=a2.alloc (.cells #[.slice none 0 0,.slice none 0 0] 36)):=⟨ha1,ha2,ha3⟩;have HS3:=Lib.hid hs3;clear ha1 ha2 ha3 hs1 hs2 hs3 b1 b2 b3 hr
 go_enter Tryz.func25,Tryz.ntmps25
 go_upto_region 1 with fail
 obtain⟨hw1,hw2,hw3⟩:=HW.out;rw [<- hw1,<- hw2,<- hw3];clear hw1 hw2 hw3 HW
 go_wp2_with fail
 refine(l1New_c A n cap l a3 hr3).mono ?_;rintro e w3 ⟨g,rfl,hg,cu3,hb3⟩;have hgT:=cu3.lt;have hRg:w.heap.size+3<=g:=by have:=HS3.out;omega
 replace r0:=r0.below hb3;replace r1:=r1.below hb3;replace r2:=r2.below hb3;have B3:=bb.trans (hb3.mono bb.size);clear hb3 bb hg HS3 hr3
 go_wp2_with fail
 refine(l22Any_c g w3 cu3).mono ?_;rintro e w4 ⟨m,cm,rfl,SM,cu4,ch4⟩;have lenm:=(rModel_ok NB).len SM.rep;have ON:=one_rep (rModel_ok NB) SM.rep;have hcz:cm.toArray.size=30:=List.size_toArray.trans lenm;obtain⟨gM,hgM⟩:∃ z,z=w4.heap.size:=⟨_,rfl⟩;obtain⟨w5,hw5⟩:∃ W,W=w4.alloc (.cells z30.toArray 46):=⟨_,rfl⟩;have b5:Below w4.heap.size w4 w5:=by rw [hw5];exact bal
 have kM0:Bk w5 gM 46 z30:=by rw [hw5,hgM];exact Bk.new w4 _ _
 have TH:w5.there gM 0 cm.toArray.size:=by rw [hcz];exact kM0.there
 obtain⟨w6,hw6⟩:∃ W,W=setCells w5 gM 0 cm:=⟨_,rfl⟩;have b6:Below w4.heap.size w4 w6:=by rw [hw6];exact Below.setCells b5 (by rw [hgM];exact Nat.le_refl _) _ _
 have kM:Bk w6 gM 46 cm:=by rw [hw6];exact kM0.fill (by rw [lenm];rfl)
 have hgM3:w3.heap.size<=gM:=by rw [hgM];exact ch4.size
 have C6:Chg [g] w3 w6:=ch4.trans (Chg.ofBelow b6 _);have cu6:=cu4.below b6;have HM:Stb (rModel NB) w3.heap.size w6 cm m:=SM.out ⟨b6.size,fun k _ hk=>b6.block k hk⟩;have HWK:Hid (w5.setCells gM 0 cm.toArray.toList=w6):=by show _=_;rw [setCells_kit,hw6]
 have HW5:=Lib.hid hw5;have HGM:=Lib.hid hgM;clear hgM hw5 hw6 b5 b6 ch4 cu4 kM0 SM cu3
 go_wp2_with (refine wpList_store_mid rfl 46 _ _ rfl gM 0 cm.toArray (by rw [HGM.out];rfl) rfl (by rw [<- HW5.out];exact TH) (by rw [hcz];exact sizeMoD) ON ?_;rw [<- HW5.out,HWK.out,<- HGM.out])
 clear HWK HW5 HGM TH;refine(l30Query_c g w6 cu6).mono ?_;rintro e w7 ⟨q,csq,fq,rfl,oQ,fQ,hvq,cu7,ch7⟩;obtain⟨Aq,nq,cq,fA,rfl,rfl,hqv,oqA⟩:=rQuery_own.1 oQ;have HQ7:Stb (rQuery NB) w3.heap.size w7 [.int .i64 q.fVariableCount,.slice Aq nq cq] q:=Stb.ofOwn (rQuery_ok NB) oQ (fun k hk=>by have:=fQ.ge k hk;have:=C6.size;omega);have HM7:Stb (rModel NB) w3.heap.size w7 cm m:=HM.out (Out.chg ch7 (by simp;omega));have C7:=C6.trans ch7;have kM7:Bk w7 gM 46 cm:=(ch7.block _ kM.lt (by simp;omega)).trans kM;clear oQ fQ hvq hqv oqA ch7 cu6 kM HM C6;obtain⟨gQ,hgQ⟩:∃ z,z=w7.heap.size:=⟨_,rfl⟩;obtain⟨w8,hw8⟩:∃ W,W=w7.alloc (.cells #[.int .i64 q.fVariableCount,.slice Aq nq cq] 50):=⟨_,rfl⟩
 have b8:Below w7.heap.size w7 w8:=by rw [hw8];exact bal
 have kQ8:Bk w8 gQ 50 [.int .i64 q.fVariableCount,.slice Aq nq cq]:=by rw [hw8,hgQ];exact Bk.new w7 _ _
 have cu8:=cu7.below b8;have hgMQ:gM<gQ:=by rw [hgQ];exact kM7.lt
 have hQ3:w3.heap.size<=gQ:=by omega
 have hs8:gQ<w8.heap.size:=kQ8.lt
 go_upto_region 4 with fail
 rw [<- hw8,<- hgQ];have HGQ:=Lib.hid hgQ;clear hw8 hgQ cu7
 go_wp2_with fail
 refine(l1Once_c g 12 w8 (by omega) cu8).mono ?_;rintro e w9 ⟨bv,rfl,cu9,ch9⟩;have C79:Chg [g] w7 w9:=(Chg.ofBelow b8 _).trans ch9;have kQ9:Bk w9 gQ 50 [.int .i64 q.fVariableCount,.slice Aq nq cq]:=(ch9.block _ kQ8.lt (by simp;omega)).trans kQ8;clear b8 ch9 kQ8 cu8;cases bv
 focus
  have kM:Bk w9 gM 46 cm:=(C79.block _ kM7.lt (by simp;omega)).trans kM7;have HM:Stb (rModel NB) w3.heap.size w9 cm m:=HM7.out (Out.chg C79 (by simp;omega));have HQ:Stb (rQuery NB) w3.heap.size w9 [.int .i64 q.fVariableCount,.slice Aq nq cq] q:=HQ7.out (Out.chg C79 (by simp;omega));have kQ:=kQ9;have C9:Chg [g] w3 w9:=C7.trans C79;have R0:Bk w9 w.heap.size _ _:=(C9.block _ r0.lt (by simp;omega)).trans r0;have R1:Bk w9 (w.heap.size+1) _ _:=(C9.block _ r1.lt (by simp;omega)).trans r1;have R2:Bk w9 (w.heap.size+1+1) _ _:=(C9.block _ r2.lt (by simp;omega)).trans r2;have BX:Below w.heap.size w w9:=B3.trans (C9.of1 (by omega) (by omega))
  have hsX:w3.heap.size<=w9.heap.size:=C9.size;have cuX:=cu9;clear C79 HM7 HQ7 kM7 kQ9 C9 C7 r0 r1 r2 B3 cu9
  go_upto_region 6 with fail
  rename World=>WX
 rotate_left
 focus
  go_wp2_with fail
  refine(l7Any_c g w9 cu9).mono ?_;rintro e w10 ⟨q,csq,rfl,SQ,cu10,ch10⟩;obtain⟨Aq,nq,cq,rfl,hvc,hAt⟩:=rQuery_rep.1 SQ.rep;have kQ10:Bk w10 gQ 50 _:=(ch10.block _ kQ9.lt (by simp;omega)).trans kQ9;have C710:=C79.trans ch10;obtain⟨WX,hWX⟩:∃ W,W=(w10.setCell ⟨gQ,0,none⟩ (.int .i64 q.fVariableCount)).setCell ⟨gQ,1,none⟩ (.slice Aq nq cq):=⟨_,rfl⟩;have nX:∀ z,z≠gQ->WX.heap[z]?=w10.heap[z]?:=fun z hz=>by rw [hWX];exact(heap_setCell_other _ ⟨gQ,1,none⟩ z _ (fun e=>hz e)).trans (heap_setCell_other _ ⟨gQ,0,none⟩ z _ (fun e=>hz e))
  have sX:WX.heap.size=w10.heap.size:=by rw [hWX];simp
  have hQs:=HGQ.out;have kM:Bk WX gM 46 cm:=(nX _ (by omega)).trans ((C710.block _ kM7.lt (by simp;omega)).trans kM7);have kQ:Bk WX gQ 50 [.int .i64 q.fVariableCount,.slice Aq nq cq]:=by rw [hWX];exact(kQ10.set 0 _).set 1 _
  have HM:Stb (rModel NB) w3.heap.size WX cm m:=HM7.out ⟨by rw [sX];exact C710.size,fun k hk hk2=>(nX _ (by omega)).trans (C710.block k hk2 (by simp;omega))⟩
  have HQ:Stb (rQuery NB) w3.heap.size WX [.int .i64 q.fVariableCount,.slice Aq nq cq] q:=by
   intro W hW;refine SQ W ⟨by rw [<- sX];exact hW.1,fun k hk hk2=>?_⟩;have h9:=kQ9.lt;exact(hW.2 k (by have:=C79.size;have:=C7.size;omega) (by rw [sX];exact hk2)).trans (nX k (by omega))
  have CB:Below w3.heap.size w3 w3:=Below.refl _ _;have hlow:Below w7.heap.size w10 WX:=by rw [hWX];exact bls2 (Below.refl _ _) (by omega) _ _
  have C10:Chg [g] w3 w10:=C7.trans C710;have R0:Bk WX w.heap.size _ _:=(nX _ (by omega)).trans ((C10.block _ r0.lt (by simp;omega)).trans r0);have R1:Bk WX (w.heap.size+1) _ _:=(nX _ (by omega)).trans ((C10.block _ r1.lt (by simp;omega)).trans r1);have R2:Bk WX (w.heap.size+1+1) _ _:=(nX _ (by omega)).trans ((C10.block _ r2.lt (by simp;omega)).trans r2);have BX:Below w.heap.size w WX:=(B3.trans (C10.of1 (by omega) (by omega))).trans (hlow.mono (by have:=C7.size;omega));have hsX:w3.heap.size<=WX.heap.size:=by rw [sX];exact C10.size
  have cuX:Cur WX g:=cu10.low (by have:=C7.size;omega) hlow;have ⟨x0,y0,x1,y1⟩:=kQ10.r2;clear C79 HM7 HQ7 kM7 kQ9 C10 C7 r0 r1 r2 B3 cu9 cu10 ch10 SQ hvc hAt kQ10 C710 nX sX hlow CB hQs
  go_upto_region 6 with fail
  rw [<- hWX];clear hWX x0 y0 x1 y1
 all_goals
  have HSS:Hid (∀ w':World,(w'.heap[gM]?=WX.heap[gM]?/\w'.heap[gQ]?=WX.heap[gQ]?)->(w'.rangeAt gM 0 cm/\w'.cell? ⟨gQ,0,none⟩=some (.int .i64 q.fVariableCount)/\w'.cell? ⟨gQ,1,none⟩=some (.slice Aq nq cq))):=by
   show ∀ w':World,_->_;intro w' h;have e1:Bk w' gM 46 cm:=h.1.trans kM;have e2:Bk w' gQ 50 [.int .i64 q.fVariableCount,.slice Aq nq cq]:=h.2.trans kQ;exact⟨e1.rangeAt,e2.bx 0 _ rfl,e2.bx 1 _ rfl⟩
  have hMl:=kM.lt;have hQl:=kQ.lt;have hd0:WX.drew.heap[gM]?=WX.heap[gM]?/\WX.drew.heap[gQ]?=WX.heap[gQ]?:=⟨rfl,rfl⟩;have hXd:WX.drew.heap.size=WX.heap.size:=rfl;have HQd:Stb (rQuery NB) w3.heap.size WX.drew [.int .i64 q.fVariableCount,.slice Aq nq cq] q:=HQ;have cud:Cur WX.drew g:=cuX.below (Below.refl _ _).drew;refine hbg HSS.out hd0 (fun hH=>?_);refine ldm 0 18 (fun w h=>h.1) Tryz.underlying46 (by rw [lenm];exact sizeMoD) hH ?_;refine tq2 1 hH ?_;refine tq1 3 hH ?_;simp only [putS];refine rd 4 (some 22) fun K hK=>?_;clear hH;go_simp;refine(l24Box_c g q Aq nq cq w3.heap.size WX.drew cud hgT (by rw [hXd];exact hsX) HQd).mono ?_
  rintro e V ⟨b,csb,fb,rfl,oB,fB,_,cu11,ch11⟩;have D4:V.heap[gM]?=WX.heap[gM]?/\V.heap[gQ]?=WX.heap[gQ]?:=⟨ch11.block gM hMl (by simp;omega),ch11.block gQ hQl (by simp;omega)⟩
  go_wp2_with fail
  refine hK.out _ _ (HSS.out _ D4) (fun hH=>?_);clear hK K
  try simp only [putS]
  obtain⟨AL,nL,cL,AH,nH,cH,f1,f2,rfl,rfl,o1,o2⟩:=rBox_own.1 oB;have R0:Bk V w.heap.size 46 z30:=(ch11.block _ R0.lt (by simp;omega)).trans R0;have R1:Bk V (w.heap.size+1) 50 [.int .i64 0,.slice none 0 0]:=(ch11.block _ R1.lt (by simp;omega)).trans R1;have R2:Bk V (w.heap.size+1+1) 36 [.slice none 0 0,.slice none 0 0]:=(ch11.block _ R2.lt (by simp;omega)).trans R2;obtain⟨W1,h1⟩:∃ W,W=setCells V w.heap.size 0 cm:=⟨_,rfl⟩;obtain⟨W2,h2⟩:∃ W,W=(W1.setCell ⟨w.heap.size+1,0,none⟩ (.int .i64 q.fVariableCount)).setCell ⟨w.heap.size+1,1,none⟩ (.slice Aq nq cq):=⟨_,rfl⟩;obtain⟨W3,h3⟩:∃ W,W=(W2.setCell ⟨w.heap.size+1+1,0,none⟩ (.slice AL nL cL)).setCell ⟨w.heap.size+1+1,1,none⟩ (.slice AH nH cH):=⟨_,rfl⟩
  have n1:∀ z,z≠w.heap.size->W1.heap[z]?=V.heap[z]?:=fun z hz=>by rw [h1];exact setCells_other _ _ _ _ _ hz
  have n2:∀ z,z≠w.heap.size+1->W2.heap[z]?=W1.heap[z]?:=fun z hz=>by rw [h2];exact(heap_setCell_other _ ⟨w.heap.size+1,1,none⟩ z _ (fun e=>hz e)).trans (heap_setCell_other _ ⟨w.heap.size+1,0,none⟩ z _ (fun e=>hz e))
  have n3:∀ z,z≠w.heap.size+1+1->W3.heap[z]?=W2.heap[z]?:=fun z hz=>by rw [h3];exact(heap_setCell_other _ ⟨w.heap.size+1+1,1,none⟩ z _ (fun e=>hz e)).trans (heap_setCell_other _ ⟨w.heap.size+1+1,0,none⟩ z _ (fun e=>hz e))
  have u0:Bk W3 w.heap.size 46 cm:=(n3 _ (by omega)).trans ((n2 _ (by omega)).trans (by rw [h1];exact R0.fill (by rw [lenm];rfl)));have t1:Bk W1 (w.heap.size+1) 50 [.int .i64 0,.slice none 0 0]:=(n1 _ (by omega)).trans R1;have u1:Bk W3 (w.heap.size+1) 50 [.int .i64 q.fVariableCount,.slice Aq nq cq]:=(n3 _ (by omega)).trans (by rw [h2];exact(t1.set 0 _).set 1 _);have t2:Bk W2 (w.heap.size+1+1) 36 [.slice none 0 0,.slice none 0 0]:=(n2 _ (by omega)).trans ((n1 _ (by omega)).trans R2);have u2:Bk W3 (w.heap.size+1+1) 36 [.slice AL nL cL,.slice AH nH cH]:=by rw [h3];exact(t2.set 0 _).set 1 _
  have TH:V.there w.heap.size 0 cm.toArray.size:=by rw [hcz];exact R0.there
  have nA:∀ z,w.heap.size+3<=z->W3.heap[z]?=V.heap[z]?:=fun z hz=>(n3 z (by omega)).trans ((n2 z (by omega)).trans (n1 z (by omega)));have sA:W3.heap.size=V.heap.size:=by rw [h3,h2,h1];simp [setCells_size]
  have q1:W1.heap[gM]?=WX.heap[gM]?/\W1.heap[gQ]?=WX.heap[gQ]?:=⟨(n1 _ (by omega)).trans D4.1,(n1 _ (by omega)).trans D4.2⟩;have q2:W2.heap[gM]?=WX.heap[gM]?/\W2.heap[gQ]?=WX.heap[gQ]?:=⟨(n2 _ (by omega)).trans q1.1,(n2 _ (by omega)).trans q1.2⟩;have q3:W3.heap[gM]?=WX.heap[gM]?/\W3.heap[gQ]?=WX.heap[gQ]?:=⟨(n3 _ (by omega)).trans q2.1,(n3 _ (by omega)).trans q2.2⟩;have OO:Out w3.heap.size WX W3:=⟨by rw [sA];exact ch11.size,fun k hk hk2=>(nA k (by omega)).trans (ch11.block k hk2 (by simp;omega))⟩;have rM:=(HM.out OO).rep;have rQ:=(HQ.out OO).rep;have rB:(rBox NB).rep W3 [.slice AL nL cL,.slice AH nH cH] b:=(rBox_ok NB).toRep ((rBox_ok NB).okeep oB (fun z hz=>nA z (by have h:=fB.ge z hz;have h2:WX.heap.size<=z:=h;omega)))
  have ch12:Chg [g] WX V:=(Chg.ofBelow (Below.refl _ _).drew _).trans ch11;have hV:Below w.heap.size w V:=BX.trans (ch12.of1 (B:=w.heap.size) (by have:=BX.size;omega) (by omega))
  have BW:Below w.heap.size w W3:=by
   rw [h3,h2,h1];exact bls2 (bls2 (Below.setCells hV (Nat.le_refl _) _ _) (by omega) _ _) (by omega) _ _
  have ⟨c1,f1',c1',f1''⟩:=t1.r2;have ⟨c2,f2',c2',f2''⟩:=t2.r2;have G1:=Lib.hid h1;have G2:=Lib.hid h2;have G3:=Lib.hid h3;clear h1 h2 h3 n1 n2 n3 nA sA OO hV ch12 oB o1 o2 fB ch11 cu11 t1 t2 R0 R1 R2;refine rd 5 none fun K hK=>?_;clear hH;rw [if_pos (by rfl)];refine wp_store_mid 46 _ _ rfl w.heap.size 0 cm.toArray rfl rfl TH (by rw [hcz];exact sizeMoD) ON ?_;rw [setCells_kit,List.toList_toArray,<- G1.out];refine hK.out _ _ (HSS.out _ q1) (fun hH=>?_);clear hK K
  try simp only [putS]
  refine rd 6 none fun K hK=>?_;clear hH;go_simp;rw [<- G2.out];refine hK.out _ _ (HSS.out _ q2) (fun hH=>?_);clear hK K
  try simp only [putS]
  refine rd 7 none fun K hK=>?_;clear hH;go_simp;rw [<- G3.out];refine hK.out _ _ (HSS.out _ q3) (fun hH=>?_);clear hK K
  try simp only [putS]
  refine wpAnyH_done (by kernel_rfl) ?_ _;clear hH;go_wp2;refine bodyPost_ret (results_ccc Tryz.results25 (RC.mk' rfl u0.rangeAt Tryz.underlying46 rfl (by rw [lenm];exact sizeMoD)) (RC.mk' rfl u1.rangeAt Tryz.underlying50 rfl sizeQuD) (RC.mk' rfl u2.rangeAt Tryz.underlying36 rfl sizeBoD)) rfl ?_;exact⟨m,cm,q,Aq,nq,cq,b,AL,nL,cL,AH,nH,cH,rfl,rM,rQ,rB,BW⟩
end Go.Proofs.YtnlcfkpcmfljeaaGreat
