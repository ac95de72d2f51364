/-
  Plb
-/
import Derived.Test.YtnlcfkpcmfljeaaGreatTo
import Derived.Test.YtnlcfkpcmfljeaaGreatUpd
import Derived.Deep.Cut
import Derived.Deep.RegionHeld3
import Derived.Deep.DrawnRows
set_option linter.unusedSimpArgs false
set_option linter.unusedVariables false
set_option maxHeartbeats 1600000
set_option maxRecDepth 100000
namespace Go.Proofs.YtnlcfkpcmfljeaaGreat
open Go.RowKit
theorem rPlanStep_nt {t:TypeId}:(rPlanStep NB).NT t:=rIso_nt (rPair_nt rInt_nt (rPair_nt rInt_nt rInt_nt)) _
theorem rPlanStep_flt (M:Nat):(rPlanStep M).Flat:=rIso_flat (rPair_flat rInt_flat (rPair_flat rInt_flat rInt_flat)) _
theorem nePl:(173:TypeId)≠76:=by decide
theorem ps_one {B:Nat}(w:World) (hB:B<=w.heap.size) (x:PlanStepD) (h1:I64 x.fKind) (h2:I64 x.fAtom) (h3:I64 x.fOrder) :
  MS B NB 173 (rPlanStep NB) (w.alloc (.cells #[.int .i64 x.fKind,.int .i64 x.fAtom,.int .i64 x.fOrder] 173)) (some ⟨w.heap.size,0,none⟩) 1 1 [x] :=
 ⟨[w.heap.size],⟨rfl,by unfold NB;omega,[[.int .i64 x.fKind,.int .i64 x.fAtom,.int .i64 x.fOrder]],[[]],⟨by simp [rPlanStep_size],.inr ⟨w.heap.size,1,#[.int .i64 x.fKind,.int .i64 x.fAtom,.int .i64 x.fOrder],rfl,Nat.zero_le _,heap_alloc_new w _,Nat.le_refl _,by unfold maxLen;omega,by simp [rPlanStep_size],by simp [rPlanStep_size]⟩⟩,rfl,⟨rPlanStep_own.2 ⟨rfl,rfl,h1,h2,h3⟩,trivial⟩⟩,⟨by simp,by simp [hB]⟩⟩
structure Pb (w W:World) (gR gX:Nat) (A:Option Addr) (n c:Nat) (L:List PlanStepD):Prop where
 be:Below w.heap.size w W
 kR:Bk W gR 76 [.slice none 0 0]
 kX:Bk W gX 76 [.slice A n c]
 ms:MS w.heap.size NB 173 (rPlanStep NB) W A n c L
section
variable {w W W6 W7:World} {gR gX:Nat} {A A7:Option Addr} {n c n7 c7:Nat} {L L7:List PlanStepD}
theorem plan_ne {B g:Nat}{cs:List Value}(m:MS B NB 173 (rPlanStep NB) W A n c L) (k:Bk W g 76 cs):g∉blk A:=fun h=>by
 obtain⟨fp,o,f⟩:=m;obtain⟨_,fps,_,e,_⟩:=o.ex;exact(o.nt rPlanStep_nt nePl).ne k (by rw [e];exact List.mem_append_left _ h)
theorem plan_box {B g:Nat}{cs:List Value}(k:Bk W g 76 cs) (m:MS B NB 173 (rPlanStep NB) W A n c L) (v:Value):MS B NB 173 (rPlanStep NB) (W.setCell ⟨g,0,none⟩ v) A n c L:=by
 obtain⟨fp,o,f⟩:=m;have hn:=(o.nt rPlanStep_nt nePl).ne k;exact⟨fp,o.okeep (rPlanStep_ok NB) (fun q hq=>heap_setCell_other _ ⟨g,0,none⟩ q _ (fun e=>hn (by have e2:q=g:=e;rw [<- e2];exact hq))),f⟩
theorem Pb.below (p:Pb w W gR gX A n c L) (h:Below W.heap.size W W6):Pb w W6 gR gX A n c L:=⟨p.be.trans (h.mono p.be.size),p.kR.below h,p.kX.below h,p.ms.below (rPlanStep_ok NB) h⟩
theorem Pb.kX7 (p:Pb w W gR gX A n c L) (h:Below W.heap.size W W6) (hg:W6.grownBy W7 (A.map (·.block))):Bk W7 gX 76 [.slice A n c] :=
 (p.kX.below h).grw hg (plan_ne (p.ms.below (rPlanStep_ok NB) h) (p.kX.below h))
theorem Pb.grow (p:Pb w W gR gX A n c L) (h:Below W.heap.size W W6) (hg:W6.grownBy W7 (A.map (·.block))) (hb:Below w.heap.size W6 W7) (m:MS w.heap.size NB 173 (rPlanStep NB) W7 A7 n7 c7 L7) (hR:w.heap.size<=gX) (hne:gR≠gX) :
  Pb w (W7.setCell ⟨gX,0,none⟩ (.slice A7 n7 c7)) gR gX A7 n7 c7 L7:=by
 have kX:=p.kX7 h hg;have kR:=(p.kR.below h).grw hg (plan_ne (p.ms.below (rPlanStep_ok NB) h) (p.kR.below h));exact⟨((p.be.trans (h.mono p.be.size)).trans hb).setCell (p:=⟨gX,0,none⟩) hR _,(heap_setCell_other _ ⟨gX,0,none⟩ _ _ (fun e=>hne e)).trans kR,kX.set 0 _,plan_box kX m _⟩
theorem Pb.fin (p:Pb w W gR gX A n c L) (hR:w.heap.size<=gR) (v:Value):RetV (rPlan NB) ⟨L⟩ w (.returned (.agg #[.slice A n c])) (W.setCell ⟨gR,0,none⟩ v):=by
 have m:=plan_box p.kR p.ms v;obtain⟨fp,o,f⟩:=m;exact⟨[.slice A n c],fp,rfl,rPlan_own.2 ⟨A,n,c,fp,rfl,rfl,o⟩,f,p.be.setCell (p:=⟨gR,0,none⟩) hR _⟩
end
theorem sScanPlan_c (k:Int) (w:World) (hk:I64 k):Calls Tryz.prog 128 #[.int .i64 k] w (RetV (rPlan NB) ⟨[⟨1,k,0⟩]⟩ w):=by
 obtain⟨w1,hw1⟩:∃ W,W=w.alloc (.cells #[.slice none 0 0] 76):=⟨_,rfl⟩;have hs1:w1.heap.size=w.heap.size+1:=by rw [hw1];simp
 have b1:Below w.heap.size w w1:=by rw [hw1];exact bal
 have kR:Bk w1 w.heap.size 76 [.slice none 0 0]:=by rw [hw1];exact Bk.new w _ _
 have m1:=ps_one (B:=w.heap.size) w1 (by omega) ⟨1,k,0⟩ (by unfold I64;simp) hk I64_zero;have b2:=(Below.refl w1.heap.size w1).alloc (Nat.le_refl _) (.cells #[.int .i64 1,.int .i64 k,.int .i64 0] 173);have k2:=kR.below b2;have c0:=k2.bx 0 _ rfl;have f0:=k2.frozen 0;have HS:=Lib.hid hs1;clear hs1
 go_enter Tryz.func128,Tryz.ntmps128
 go_upto_region 1 with fail
 rw [<- hw1];clear hw1;go_wp2;have q:=(k2.set 0 (.slice (some ⟨w1.heap.size,0,none⟩) 1 1)).bx 0 _ rfl;refine bodyPost_ret (v:=.agg #[.slice (some ⟨w1.heap.size,0,none⟩) 1 1]) (by simp [results,Tryz.results128,go_sem,q]) rfl ?_;obtain⟨fp,o,f⟩:=plan_box k2 m1 (.slice (some ⟨w1.heap.size,0,none⟩) 1 1);exact⟨[.slice (some ⟨w1.heap.size,0,none⟩) 1 1],fp,rfl,rPlan_own.2 ⟨_,_,_,fp,rfl,rfl,o⟩,f,(b1.trans (b2.mono b1.size)).setCell (p:=⟨w.heap.size,0,none⟩) (Nat.le_refl _) _⟩
theorem pb_new {w w2 w4:World}{gR:Nat}{A1:Option Addr}{n1 c1:Nat}{L:List PlanStepD}(h2:Below w.heap.size w w2) (kR:Bk w2 gR 76 [.slice none 0 0]) (hb:Below (w2.alloc (.cells #[] 173)).heap.size (w2.alloc (.cells #[] 173)) w4)
  (o:OS NB 173 (rPlanStep NB) w4 (blk A1) A1 n1 c1 L) (g:∀ k∈blk A1,k=w2.heap.size\/k=(w2.alloc (.cells #[] 173)).heap.size) :
  ∃ W,W=w4.alloc (.cells #[.slice A1 n1 c1] 76)/\Pb w W gR w4.heap.size A1 n1 c1 L/\w2.heap.size<w4.heap.size/\Below w2.heap.size w2 W:=by
 have b0:=(Below.refl w2.heap.size w2).alloc (Nat.le_refl _) (.cells #[] 173);have b4:=b0.trans (hb.mono b0.size);have ba:=(Below.refl w4.heap.size w4).alloc (Nat.le_refl _) (.cells #[.slice A1 n1 c1] 76);have hs:=hb.size;simp only [World.size_alloc]at hs g;have h2s:=h2.size;refine⟨_,rfl,⟨(h2.trans (b4.mono h2.size)).trans (ba.mono (by omega)),(kR.below b4).below ba,Bk.new _ _ _,⟨_,o.belowS (rPlanStep_ok NB) ba,⟨by cases A1<;>simp [blk],fun k hk=>by have:=g k hk;omega⟩⟩⟩,by omega,b4.trans (ba.mono (by omega))⟩
theorem sSortPlan_c (csp:List Value) (p:PlanD) (v:Int) (w:World) (hp:(rPlan NB).rep w csp p) (hv:I64 v) (hl:p.fSteps.length<=100) :
  Calls Tryz.prog 233 #[.agg csp.toArray,.int .i64 v] w (RetV (rPlan NB) ⟨p.fSteps++[⟨2,0,v⟩]⟩ w):=by
 obtain⟨Ap_d5,np_d5,cp_d5,rfl,hp_d5⟩:=rPlan_rep.1 hp;have HL:=Lib.hid hp_d5.len;clear hp;obtain⟨w1,hw1⟩:∃ W,W=w.alloc (.cells #[.slice Ap_d5 np_d5 cp_d5] 76):=⟨_,rfl⟩;obtain⟨w2,hw2⟩:∃ W,W=w1.alloc (.cells #[.slice none 0 0] 76):=⟨_,rfl⟩;have hs1:w1.heap.size=w.heap.size+1:=by rw [hw1];simp
 have hs2:w2.heap.size=w.heap.size+1+1:=by rw [hw2];simp [hs1]
 have b1:Below w.heap.size w w1:=by rw [hw1];exact bal
 have b2:Below w1.heap.size w1 w2:=by rw [hw2];exact bal
 have h2:=b1.trans (b2.mono b1.size)
 have kP:Bk w2 w.heap.size 76 [.slice Ap_d5 np_d5 cp_d5]:=by
  have:Bk w1 w.heap.size 76 [.slice Ap_d5 np_d5 cp_d5]:=by rw [hw1];exact Bk.new w _ _
  exact this.below b2
 have kR:Bk w2 (w.heap.size+1) 76 [.slice none 0 0]:=by rw [hw2,<- hs1];exact Bk.new w1 _ _
 have b3:=(Below.refl w2.heap.size w2).alloc (Nat.le_refl _) (.cells #[] 173);have c0:=(kP.below b3).bx 0 _ rfl;have HS1:=Lib.hid hs1;have HS2:=Lib.hid hs2;clear hs1 hs2
 go_enter Tryz.func233,Tryz.ntmps233
 go_upto_region 1 with fail
 rw [<- hw1,<- hw2];clear hw1 hw2
 go_upto_region 2 with (at_builtin;go_loud (refine wpList_appe (r:=rPlanStep NB) (M:=NB) rfl _ _ 74 rfl _ 24 eiPlanStep (rPlanStep_ok NB) (rPlanStep_flt NB) rfl (heap_alloc_new _ _) rfl (hp_d5.below (rPlanStep_ok NB) (h2.trans (b3.mono h2.size))) hp_d5.nb (Nat.le_refl _) (by have:=hp_d5.nb;unfold NB at this;omega) ?_;intro A4 c4 w4 o4 g4 hb4))
 obtain⟨w5,hw5,P5,hlt,b5⟩:=pb_new h2 kR hb4 o4 g4;rw [<- hw5];clear hw5 o4 g4 hb4 b3 c0;have hz5:=P5.be.size;have hx5:=P5.kX.bx 0 _ rfl;have ha5:=(Below.refl w5.heap.size w5).alloc (Nat.le_refl _) (.cells #[.int .i64 2,.int .i64 0,.int .i64 v] 173)
 go_upto_region 3 with (at_builtin;go_loud (refine wpList_app (r:=rPlanStep NB) rfl _ _ 74 rfl _ 24 eiPlanStep (rPlanStep_ok NB) rfl P5.ms ha5 hz5 ⟨_,0,none⟩ rfl [] [.int .i64 2,.int .i64 0,.int .i64 v] ⟨2,0,v⟩ (rPlanStep_own.2 ⟨rfl,rfl,by unfold I64;simp,I64_zero,hv⟩) (Fr.nil _) (cells_new _ _ _) (by have:=HL.out;unfold NB;omega) (Nat.le_refl _) (by have:=HL.out;omega) ?_;intro A7 c7 w7 m7 hb7 hg7;have k7:=P5.kX7 ha5 hg7;have f7:=k7.frozen 0;have x7:=k7.bx 0 _ rfl))
 have P8:=P5.grow ha5 hg7 hb7 m7 (by have:=h2.size;have:=HS2.out;omega) (by have:=HS2.out;omega);obtain⟨w8,hw8⟩:∃ W,W=w7.setCell ⟨w4.heap.size,0,none⟩ (.slice A7 (np_d5+1) c7):=⟨_,rfl⟩;rw [<- hw8]at P8 ⊢;clear hw8 k7 f7 x7 hx5 ha5 m7 hb7 hg7 P5;have x8:=P8.kX.bx 0 _ rfl;have r8:=P8.kR.bx 0 _ rfl;have g8:=P8.kR.frozen 0;go_wp2;have q:=(P8.kR.set 0 (.slice A7 (np_d5+1) c7)).bx 0 _ rfl;refine bodyPost_ret (v:=.agg #[.slice A7 (np_d5+1) c7]) (by simp [results,Tryz.results233,go_sem,q]) rfl ?_;exact P8.fin (Nat.le_succ _) _
theorem sJoinPlans_c (csa:List Value) (a:PlanD) (csb:List Value) (b:PlanD) (kd:Int) (v:Int) (w:World) (ha:(rPlan NB).rep w csa a) (hb:(rPlan NB).rep w csb b) (hk:I64 kd) (hv:I64 v) (hla:a.fSteps.length<=100) (hlb:b.fSteps.length<=100) :
  Calls Tryz.prog 232 #[.agg csa.toArray,.agg csb.toArray,.int .i64 kd,.int .i64 v] w (RetV (rPlan NB) ⟨a.fSteps++b.fSteps++[⟨kd,0,v⟩]⟩ w):=by
 obtain⟨Aa_d5,na_d5,ca_d5,rfl,ha_d5⟩:=rPlan_rep.1 ha;obtain⟨Ab_d5,nb_d5,cb_d5,rfl,hb_d5⟩:=rPlan_rep.1 hb;have HL:=Lib.hid ha_d5.len;have HLB:=Lib.hid hb_d5.len;clear ha hb;obtain⟨w1,hw1⟩:∃ W,W=w.alloc (.cells #[.slice Aa_d5 na_d5 ca_d5] 76):=⟨_,rfl⟩;obtain⟨w1b,hw1b⟩:∃ W,W=w1.alloc (.cells #[.slice Ab_d5 nb_d5 cb_d5] 76):=⟨_,rfl⟩;obtain⟨w2,hw2⟩:∃ W,W=w1b.alloc (.cells #[.slice none 0 0] 76):=⟨_,rfl⟩;have hs1:w1.heap.size=w.heap.size+1:=by rw [hw1];simp
 have hs1b:w1b.heap.size=w.heap.size+1+1:=by rw [hw1b];simp [hs1]
 have hs2:w2.heap.size=w.heap.size+1+1+1:=by rw [hw2];simp [hs1b]
 have b1:Below w.heap.size w w1:=by rw [hw1];exact bal
 have b1b:Below w1.heap.size w1 w1b:=by rw [hw1b];exact bal
 have b2:Below w1b.heap.size w1b w2:=by rw [hw2];exact bal
 have h2:=(b1.trans (b1b.mono b1.size)).trans (b2.mono (by omega))
 have kP:Bk w2 w.heap.size 76 [.slice Aa_d5 na_d5 ca_d5]:=by
  have:Bk w1 w.heap.size 76 [.slice Aa_d5 na_d5 ca_d5]:=by rw [hw1];exact Bk.new w _ _
  exact(this.below b1b).below b2
 have kQ:Bk w2 (w.heap.size+1) 76 [.slice Ab_d5 nb_d5 cb_d5]:=by
  have:Bk w1b (w.heap.size+1) 76 [.slice Ab_d5 nb_d5 cb_d5]:=by rw [hw1b,<- hs1];exact Bk.new w1 _ _
  exact this.below b2
 have kR:Bk w2 (w.heap.size+1+1) 76 [.slice none 0 0]:=by rw [hw2,<- hs1b];exact Bk.new w1b _ _
 have b3:=(Below.refl w2.heap.size w2).alloc (Nat.le_refl _) (.cells #[] 173);have c0:=(kP.below b3).bx 0 _ rfl;have HS2:=Lib.hid hs2;clear hs1 hs1b hs2
 go_enter Tryz.func232,Tryz.ntmps232
 go_upto_region 1 with fail
 rw [<- hw1,<- hw1b,<- hw2];clear hw1 hw1b hw2
 go_upto_region 2 with (at_builtin;go_loud (refine wpList_appe (r:=rPlanStep NB) (M:=NB) rfl _ _ 74 rfl _ 24 eiPlanStep (rPlanStep_ok NB) (rPlanStep_flt NB) rfl (heap_alloc_new _ _) rfl (ha_d5.below (rPlanStep_ok NB) (h2.trans (b3.mono h2.size))) ha_d5.nb (Nat.le_refl _) (by have:=ha_d5.nb;unfold NB at this;omega) ?_;intro A4 c4 w4 o4 g4 hb4))
 obtain⟨w5,hw5,P5,hlt,b5⟩:=pb_new h2 kR hb4 o4 g4;rw [<- hw5];clear hw5 o4 g4 hb4 b3 c0;have hz5:=P5.be.size;have hx5:=P5.kX.bx 0 _ rfl;have hq5:=(kQ.below b5).bx 0 _ rfl;have hb5:=hb_d5.below (rPlanStep_ok NB) (h2.trans (b5.mono h2.size));have ha5:=Below.refl w5.heap.size w5
 go_upto_region 3 with (at_builtin;go_loud (refine wpList_appf (r:=rPlanStep NB) rfl _ _ 74 rfl _ 24 eiPlanStep (rPlanStep_ok NB) (rPlanStep_flt NB) rfl P5.ms ha5 hz5 rfl hb5 (by have:=HL.out;have:=HLB.out;unfold NB;omega) (Nat.le_refl _) (by have:=HL.out;have:=HLB.out;omega) ?_;intro A7 c7 w7 m7 hb7 hg7;have k7:=P5.kX7 ha5 hg7;have f7:=k7.frozen 0;have x7:=k7.bx 0 _ rfl))
 have P8:=P5.grow ha5 hg7 hb7 m7 (by have:=h2.size;have:=HS2.out;omega) (by have:=HS2.out;omega);obtain⟨w8,hw8⟩:∃ W,W=w7.setCell ⟨w4.heap.size,0,none⟩ (.slice A7 (na_d5+nb_d5) c7):=⟨_,rfl⟩;rw [<- hw8]at P8 ⊢;clear hw8 k7 f7 x7 hx5 ha5 m7 hb7 hg7 P5 hq5 hb5 hz5;have hz8:=P8.be.size;have hx8:=P8.kX.bx 0 _ rfl;have ha8:=(Below.refl w8.heap.size w8).alloc (Nat.le_refl _) (.cells #[.int .i64 kd,.int .i64 0,.int .i64 v] 173)
 go_upto_region 4 with (at_builtin;go_loud (refine wpList_app (r:=rPlanStep NB) rfl _ _ 74 rfl _ 24 eiPlanStep (rPlanStep_ok NB) rfl P8.ms ha8 hz8 ⟨_,0,none⟩ rfl [] [.int .i64 kd,.int .i64 0,.int .i64 v] ⟨kd,0,v⟩ (rPlanStep_own.2 ⟨rfl,rfl,hk,I64_zero,hv⟩) (Fr.nil _) (cells_new _ _ _) (by have:=HL.out;have:=HLB.out;unfold NB;omega) (Nat.le_refl _) (by have:=HL.out;have:=HLB.out;omega) ?_;intro A9 c9 w9 m9 hb9 hg9;have k9:=P8.kX7 ha8 hg9;have f9:=k9.frozen 0;have x9:=k9.bx 0 _ rfl))
 have PA:=P8.grow ha8 hg9 hb9 m9 (by have:=h2.size;have:=HS2.out;omega) (by have:=HS2.out;omega);obtain⟨wA,hwA⟩:∃ W,W=w9.setCell ⟨w4.heap.size,0,none⟩ (.slice A9 (na_d5+nb_d5+1) c9):=⟨_,rfl⟩;rw [<- hwA]at PA ⊢;clear hwA k9 f9 x9 hx8 ha8 m9 hb9 hg9 P8 hz8;have x8:=PA.kX.bx 0 _ rfl;have r8:=PA.kR.bx 0 _ rfl;have g8:=PA.kR.frozen 0;go_wp2;have q:=(PA.kR.set 0 (.slice A9 (na_d5+nb_d5+1) c9)).bx 0 _ rfl;refine bodyPost_ret (v:=.agg #[.slice A9 (na_d5+nb_d5+1) c9]) (by simp [results,Tryz.results232,go_sem,q]) rfl ?_;exact PA.fin (by omega) _
end Go.Proofs.YtnlcfkpcmfljeaaGreat
