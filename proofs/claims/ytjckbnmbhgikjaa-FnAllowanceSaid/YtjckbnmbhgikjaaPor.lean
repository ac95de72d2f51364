/-
  Por
-/
import Derived.Test.YtjckbnmbhgikjaaPis
import Derived.Test.YtjckbnmbhgikjaaTypes
import Derived.Test.YtjckbnmbhgikjaaKeep
import Derived.Test.YtjckbnmbhgikjaaTo
import Derived.Test.YtjckbnmbhgikjaaUpd
import Derived.Deep.Cut
import Derived.Deep.RegionHeld3
import Derived.Deep.DrawnRows
import Derived.Test.YtjckbnmbhgikjaaJss
import Derived.Test.YtjckbnmbhgikjaaQb
import Derived.Test.YtjckbnmbhgikjaaDrw
namespace Go.Proofs.Ytjckbnmbhgikjaa
open Go.RowKit
set_option linter.unusedVariables false
set_option linter.unusedSimpArgs false
def planOrd (q:QueryD) (p:PlanD):Int:=match planInfo q p with|some l=>(infoAt l ((l.length:Int) - 1)).fOrder|none=>-1
set_option maxRecDepth 100000 in
set_option maxHeartbeats 1600000 in
theorem sPlanOrder_c (csq:List Value) (q:QueryD) (csp:List Value) (p:PlanD) (w:World) (hq:(rQuery NB).rep w csq q) (hp:(rPlan NB).rep w csp p) :
  Calls Try.prog 64 #[.agg csq.toArray,.agg csp.toArray] w fun e w'=>e=.returned (.int .i64 (planOrd q p))/\Below w.heap.size w w':=by
 have rq:=hq
 obtain⟨AqAtoms,nqAtoms,cqAtoms,rfl,hqVariableCount,hqAtoms⟩:=rQuery_rep.1 hq
 clear hq
 have rp:=hp
 obtain⟨ApSteps,npSteps,cpSteps,rfl,hpSteps⟩:=rPlan_rep.1 hp
 clear hp
 have hB:Below w.heap.size w w:=Below.refl _ _
 have hAq:=(Below.refl (World.heap (w)).size (w)).alloc (Nat.le_refl _) (.cells #[.int .i64 q.fVariableCount,.slice AqAtoms nqAtoms cqAtoms] 43)
 replace hB:=hB.trans (hAq.mono hB.size)
 have bxq:=Bx.new (w) [.int .i64 q.fVariableCount,.slice AqAtoms nqAtoms cqAtoms] 43
 clear hAq
 have hAp:=(Below.refl (World.heap ((w).alloc (.cells #[.int .i64 q.fVariableCount,.slice AqAtoms nqAtoms cqAtoms] 43))).size ((w).alloc (.cells #[.int .i64 q.fVariableCount,.slice AqAtoms nqAtoms cqAtoms] 43))).alloc (Nat.le_refl _) (.cells #[.slice ApSteps npSteps cpSteps] 46)
 replace hB:=hB.trans (hAp.mono hB.size)
 replace bxq:=bxq.below hAp
 have bxp:=Bx.new ((w).alloc (.cells #[.int .i64 q.fVariableCount,.slice AqAtoms nqAtoms cqAtoms] 43)) [.slice ApSteps npSteps cpSteps] 46
 simp only [World.size_alloc]at bxp
 clear hAp
 go_enter Try.func64,Try.ntmps64
 have kq_0:=bxq 0 _ rfl
 have kq_1:=bxq 1 _ rfl
 have kp_0:=bxp 0 _ rfl
 go_wp2_with fail
 refine(sPlanInfo_c _ q _ p _ ((rQuery_ok NB).keep rq (cells_below hB)) ((rPlan_ok NB).keep rp (cells_below hB))).mono ?_
 rintro e w1 ⟨A,n,c,rfl,hM,hb1⟩
 replace hB:=hB.trans (hb1.mono hB.size)
 replace bxq:=bxq.below hb1
 replace bxp:=bxp.below hb1
 clear hb1 kq_0 kq_1 kp_0
 cases hp:planInfo q p with
 | none =>
  have HN:Hid (planOrd q p=-1):=by show _=_;unfold planOrd;rw [hp]
  clear hp hM
  go_wp2
  go_ret
  exact⟨ret_int (a:=-1) HN.out.symm,hB⟩
 | some l =>
  rw [hp]at hM
  simp only [Option.getD_some]at hM
  obtain⟨_,h1,h2,st,hR,hl,_⟩:=planInfo_parts hp
  have hn:=hM.len
  have hn14:n<=14:=by omega
  obtain⟨m,hm⟩:∃ m,m+1=n:=⟨n - 1,by omega⟩
  obtain⟨b,off,y,rfl,hc0,hc1,hc2,hc3,_,_,_,_,hy⟩:=(hM.rs (rStepInfo_ok NB)).eStepInfo (k:=m) (by omega)
  have HN:Hid (planOrd q p=y.fOrder):=by
   show _=_
   unfold planOrd
   rw [hp]
   simp only [infoAt]
   rw [show((l.length:Int) - 1).toNat=m by omega,hy.out];rfl
  have mj:IntKind.i64.wrap ((n:Int) - 1)=(m:Int):=by rw [IntWalk.i64_in _ (by omega)];omega
  have hmn:m<n:=by omega
  clear hp hM h1 h2 hR hl hn hm hy hc0 hc2 hc3
  go_wp2
  go_ret
  exact⟨ret_int HN.out.symm,hB⟩
end Go.Proofs.Ytjckbnmbhgikjaa
namespace Go.Proofs.Ytjckbnmbhgikjaa
open Go.RowKit
set_option linter.unusedVariables false
set_option linter.unusedSimpArgs false
theorem rPlanStep_nt {t:TypeId}:(rPlanStep NB).NT t:=rIso_nt (rPair_nt rInt_nt (rPair_nt rInt_nt rInt_nt)) _
theorem rPlanStep_flt (M:Nat):(rPlanStep M).Flat:=rIso_flat (rPair_flat rInt_flat (rPair_flat rInt_flat rInt_flat)) _
theorem nePl:(90:TypeId)≠46:=by decide
theorem ps_one {B:Nat}(w:World) (hB:B<=w.heap.size) (x:PlanStepD) (h1:I64 x.fKind) (h2:I64 x.fAtom) (h3:I64 x.fOrder) :
  MS B NB 90 (rPlanStep NB) (w.alloc (.cells #[.int .i64 x.fKind,.int .i64 x.fAtom,.int .i64 x.fOrder] 90)) (some ⟨w.heap.size,0,none⟩) 1 1 [x] :=
 ⟨[w.heap.size],⟨rfl,by unfold NB;omega,[[.int .i64 x.fKind,.int .i64 x.fAtom,.int .i64 x.fOrder]],[[]],⟨by simp [rPlanStep_size],.inr ⟨w.heap.size,1,#[.int .i64 x.fKind,.int .i64 x.fAtom,.int .i64 x.fOrder],rfl,Nat.zero_le _,heap_alloc_new w _,Nat.le_refl _,by unfold maxLen;omega,by simp [rPlanStep_size],by simp [rPlanStep_size]⟩⟩,rfl,⟨rPlanStep_own.2 ⟨rfl,rfl,h1,h2,h3⟩,trivial⟩⟩,⟨by simp,by simp [hB]⟩⟩
/-- a plan under way: the result's box gR, the plan's box gX -/
structure Pb (w W:World) (gR gX:Nat) (A:Option Addr) (n c:Nat) (L:List PlanStepD):Prop where
 be:Below w.heap.size w W
 kR:Bk W gR 46 [.slice none 0 0]
 kX:Bk W gX 46 [.slice A n c]
 ms:MS w.heap.size NB 90 (rPlanStep NB) W A n c L
section
variable {w W W6 W7:World} {gR gX:Nat} {A A7:Option Addr} {n c n7 c7:Nat} {L L7:List PlanStepD}
theorem plan_ne {B g:Nat}{cs:List Value}(m:MS B NB 90 (rPlanStep NB) W A n c L) (k:Bk W g 46 cs):g∉blk A:=fun h=>by
 obtain⟨fp,o,f⟩:=m
 obtain⟨_,fps,_,e,_⟩:=o.ex
 exact(o.nt rPlanStep_nt nePl).ne k (by rw [e];exact List.mem_append_left _ h)
theorem plan_box {B g:Nat}{cs:List Value}(k:Bk W g 46 cs) (m:MS B NB 90 (rPlanStep NB) W A n c L) (v:Value):MS B NB 90 (rPlanStep NB) (W.setCell ⟨g,0,none⟩ v) A n c L:=by
 obtain⟨fp,o,f⟩:=m
 have hn:=(o.nt rPlanStep_nt nePl).ne k
 exact⟨fp,o.okeep (rPlanStep_ok NB) (fun q hq=>heap_setCell_other _ ⟨g,0,none⟩ q _ (fun e=>hn (by have e2:q=g:=e;rw [<- e2];exact hq))),f⟩
theorem Pb.below (p:Pb w W gR gX A n c L) (h:Below W.heap.size W W6):Pb w W6 gR gX A n c L:=⟨p.be.trans (h.mono p.be.size),p.kR.below h,p.kX.below h,p.ms.below (rPlanStep_ok NB) h⟩
theorem Pb.kX7 (p:Pb w W gR gX A n c L) (h:Below W.heap.size W W6) (hg:W6.grownBy W7 (A.map (·.block))):Bk W7 gX 46 [.slice A n c] :=
 (p.kX.below h).grw hg (plan_ne (p.ms.below (rPlanStep_ok NB) h) (p.kX.below h))
theorem Pb.grow (p:Pb w W gR gX A n c L) (h:Below W.heap.size W W6) (hg:W6.grownBy W7 (A.map (·.block))) (hb:Below w.heap.size W6 W7) (m:MS w.heap.size NB 90 (rPlanStep NB) W7 A7 n7 c7 L7) (hR:w.heap.size<=gX) (hne:gR≠gX) :
  Pb w (W7.setCell ⟨gX,0,none⟩ (.slice A7 n7 c7)) gR gX A7 n7 c7 L7:=by
 have kX:=p.kX7 h hg
 have kR:=(p.kR.below h).grw hg (plan_ne (p.ms.below (rPlanStep_ok NB) h) (p.kR.below h))
 exact⟨((p.be.trans (h.mono p.be.size)).trans hb).setCell (p:=⟨gX,0,none⟩) hR _,(heap_setCell_other _ ⟨gX,0,none⟩ _ _ (fun e=>hne e)).trans kR,kX.set 0 _,plan_box kX m _⟩
theorem Pb.fin (p:Pb w W gR gX A n c L) (hR:w.heap.size<=gR) (v:Value):RetV (rPlan NB) ⟨L⟩ w (.returned (.agg #[.slice A n c])) (W.setCell ⟨gR,0,none⟩ v):=by
 have m:=plan_box p.kR p.ms v
 obtain⟨fp,o,f⟩:=m
 exact⟨[.slice A n c],fp,rfl,rPlan_own.2 ⟨A,n,c,fp,rfl,rfl,o⟩,f,p.be.setCell (p:=⟨gR,0,none⟩) hR _⟩
end
set_option maxRecDepth 100000 in
set_option maxHeartbeats 1600000 in
theorem sScanPlan_c (k:Int) (w:World) (hk:I64 k):Calls Try.prog 61 #[.int .i64 k] w (RetV (rPlan NB) ⟨[⟨1,k,0⟩]⟩ w):=by
 obtain⟨w1,hw1⟩:∃ W,W=w.alloc (.cells #[.slice none 0 0] 46):=⟨_,rfl⟩
 have hs1:w1.heap.size=w.heap.size+1:=by rw [hw1];simp
 have b1:Below w.heap.size w w1:=by rw [hw1];exact(Below.refl _ _).alloc (Nat.le_refl _) _
 have kR:Bk w1 w.heap.size 46 [.slice none 0 0]:=by rw [hw1];exact Bk.new w _ _
 have m1:=ps_one (B:=w.heap.size) w1 (by omega) ⟨1,k,0⟩ (by unfold I64;simp) hk I64_zero
 have b2:=(Below.refl w1.heap.size w1).alloc (Nat.le_refl _) (.cells #[.int .i64 1,.int .i64 k,.int .i64 0] 90)
 have k2:=kR.below b2
 have c0:=k2.bx 0 _ rfl
 have f0:=k2.frozen 0
 have HS:=Lib.hid hs1
 clear hs1
 go_enter Try.func61,Try.ntmps61
 go_upto_region 1 with fail
 rw [<- hw1]
 clear hw1
 go_wp2
 have q:=(k2.set 0 (.slice (some ⟨w1.heap.size,0,none⟩) 1 1)).bx 0 _ rfl
 refine bodyPost_ret (v:=.agg #[.slice (some ⟨w1.heap.size,0,none⟩) 1 1]) (by simp [results,Try.results61,go_sem,q]) rfl ?_
 obtain⟨fp,o,f⟩:=plan_box k2 m1 (.slice (some ⟨w1.heap.size,0,none⟩) 1 1)
 exact⟨[.slice (some ⟨w1.heap.size,0,none⟩) 1 1],fp,rfl,rPlan_own.2 ⟨_,_,_,fp,rfl,rfl,o⟩,f,(b1.trans (b2.mono b1.size)).setCell (p:=⟨w.heap.size,0,none⟩) (Nat.le_refl _) _⟩
/-- the copy of a plan's steps in its new box -/
theorem pb_new {w w2 w4:World}{gR:Nat}{A1:Option Addr}{n1 c1:Nat}{L:List PlanStepD}(h2:Below w.heap.size w w2) (kR:Bk w2 gR 46 [.slice none 0 0]) (hb:Below (w2.alloc (.cells #[] 90)).heap.size (w2.alloc (.cells #[] 90)) w4)
  (o:OS NB 90 (rPlanStep NB) w4 (blk A1) A1 n1 c1 L) (g:∀ k∈blk A1,k=w2.heap.size\/k=(w2.alloc (.cells #[] 90)).heap.size) :
  ∃ W,W=w4.alloc (.cells #[.slice A1 n1 c1] 46)/\Pb w W gR w4.heap.size A1 n1 c1 L/\w2.heap.size<w4.heap.size/\Below w2.heap.size w2 W:=by
 have b0:=(Below.refl w2.heap.size w2).alloc (Nat.le_refl _) (.cells #[] 90)
 have b4:=b0.trans (hb.mono b0.size)
 have ba:=(Below.refl w4.heap.size w4).alloc (Nat.le_refl _) (.cells #[.slice A1 n1 c1] 46)
 have hs:=hb.size
 simp only [World.size_alloc]at hs g
 have h2s:=h2.size
 refine⟨_,rfl,⟨(h2.trans (b4.mono h2.size)).trans (ba.mono (by omega)),(kR.below b4).below ba,Bk.new _ _ _,⟨_,o.belowS (rPlanStep_ok NB) ba,⟨by cases A1<;>simp [blk],fun k hk=>by have:=g k hk;omega⟩⟩⟩,by omega,b4.trans (ba.mono (by omega))⟩
set_option maxRecDepth 100000 in
set_option maxHeartbeats 1600000 in
theorem sSortPlan_c (csp:List Value) (p:PlanD) (v:Int) (w:World) (hp:(rPlan NB).rep w csp p) (hv:I64 v) (hl:p.fSteps.length<=100) :
  Calls Try.prog 65 #[.agg csp.toArray,.int .i64 v] w (RetV (rPlan NB) ⟨p.fSteps++[⟨2,0,v⟩]⟩ w):=by
 obtain⟨ApSteps,npSteps,cpSteps,rfl,hpSteps⟩:=rPlan_rep.1 hp
 have HL:=Lib.hid hpSteps.len
 clear hp
 obtain⟨w1,hw1⟩:∃ W,W=w.alloc (.cells #[.slice ApSteps npSteps cpSteps] 46):=⟨_,rfl⟩
 obtain⟨w2,hw2⟩:∃ W,W=w1.alloc (.cells #[.slice none 0 0] 46):=⟨_,rfl⟩
 have hs1:w1.heap.size=w.heap.size+1:=by rw [hw1];simp
 have hs2:w2.heap.size=w.heap.size+1+1:=by rw [hw2];simp [hs1]
 have b1:Below w.heap.size w w1:=by rw [hw1];exact(Below.refl _ _).alloc (Nat.le_refl _) _
 have b2:Below w1.heap.size w1 w2:=by rw [hw2];exact(Below.refl _ _).alloc (Nat.le_refl _) _
 have h2:=b1.trans (b2.mono b1.size)
 have kP:Bk w2 w.heap.size 46 [.slice ApSteps npSteps cpSteps]:=by
  have:Bk w1 w.heap.size 46 [.slice ApSteps npSteps cpSteps]:=by rw [hw1];exact Bk.new w _ _
  exact this.below b2
 have kR:Bk w2 (w.heap.size+1) 46 [.slice none 0 0]:=by rw [hw2,<- hs1];exact Bk.new w1 _ _
 have b3:=(Below.refl w2.heap.size w2).alloc (Nat.le_refl _) (.cells #[] 90)
 have c0:=(kP.below b3).bx 0 _ rfl
 have HS1:=Lib.hid hs1
 have HS2:=Lib.hid hs2
 clear hs1 hs2
 go_enter Try.func65,Try.ntmps65
 go_upto_region 1 with fail
 rw [<- hw1,<- hw2]
 clear hw1 hw2
 go_upto_region 2 with (at_builtin;go_loud (refine wpList_appe (r:=rPlanStep NB) (M:=NB) rfl _ _ 44 rfl _ 24 eiPlanStep (rPlanStep_ok NB) (rPlanStep_flt NB) rfl (heap_alloc_new _ _) rfl (hpSteps.below (rPlanStep_ok NB) (h2.trans (b3.mono h2.size))) hpSteps.nb (Nat.le_refl _) (by have:=hpSteps.nb;unfold NB at this;omega) ?_;intro A4 c4 w4 o4 g4 hb4))
 obtain⟨w5,hw5,P5,hlt,b5⟩:=pb_new h2 kR hb4 o4 g4
 rw [<- hw5]
 clear hw5 o4 g4 hb4 b3 c0
 have hz5:=P5.be.size
 have hx5:=P5.kX.bx 0 _ rfl
 have ha5:=(Below.refl w5.heap.size w5).alloc (Nat.le_refl _) (.cells #[.int .i64 2,.int .i64 0,.int .i64 v] 90)
 go_upto_region 3 with (at_builtin;go_loud (refine wpList_app (r:=rPlanStep NB) rfl _ _ 44 rfl _ 24 eiPlanStep (rPlanStep_ok NB) rfl P5.ms ha5 hz5 ⟨_,0,none⟩ rfl [] [.int .i64 2,.int .i64 0,.int .i64 v] ⟨2,0,v⟩ (rPlanStep_own.2 ⟨rfl,rfl,by unfold I64;simp,I64_zero,hv⟩) (Fr.nil _) (cells_new _ _ _) (by have:=HL.out;unfold NB;omega) (Nat.le_refl _) (by have:=HL.out;omega) ?_;intro A7 c7 w7 m7 hb7 hg7;have k7:=P5.kX7 ha5 hg7;have f7:=k7.frozen 0;have x7:=k7.bx 0 _ rfl))
 have P8:=P5.grow ha5 hg7 hb7 m7 (by have:=h2.size;have:=HS2.out;omega) (by have:=HS2.out;omega)
 obtain⟨w8,hw8⟩:∃ W,W=w7.setCell ⟨w4.heap.size,0,none⟩ (.slice A7 (npSteps+1) c7):=⟨_,rfl⟩
 rw [<- hw8]at P8 ⊢
 clear hw8 k7 f7 x7 hx5 ha5 m7 hb7 hg7 P5
 have x8:=P8.kX.bx 0 _ rfl
 have r8:=P8.kR.bx 0 _ rfl
 have g8:=P8.kR.frozen 0
 go_wp2
 have q:=(P8.kR.set 0 (.slice A7 (npSteps+1) c7)).bx 0 _ rfl
 refine bodyPost_ret (v:=.agg #[.slice A7 (npSteps+1) c7]) (by simp [results,Try.results65,go_sem,q]) rfl ?_
 exact P8.fin (Nat.le_succ _) _
set_option maxRecDepth 100000 in
set_option maxHeartbeats 1600000 in
theorem sJoinPlans_c (csa:List Value) (a:PlanD) (csb:List Value) (b:PlanD) (kd:Int) (v:Int) (w:World) (ha:(rPlan NB).rep w csa a) (hb:(rPlan NB).rep w csb b) (hk:I64 kd) (hv:I64 v) (hla:a.fSteps.length<=100) (hlb:b.fSteps.length<=100) :
  Calls Try.prog 62 #[.agg csa.toArray,.agg csb.toArray,.int .i64 kd,.int .i64 v] w (RetV (rPlan NB) ⟨a.fSteps++b.fSteps++[⟨kd,0,v⟩]⟩ w):=by
 obtain⟨AaSteps,naSteps,caSteps,rfl,haSteps⟩:=rPlan_rep.1 ha
 obtain⟨AbSteps,nbSteps,cbSteps,rfl,hbSteps⟩:=rPlan_rep.1 hb
 have HL:=Lib.hid haSteps.len
 have HLB:=Lib.hid hbSteps.len
 clear ha hb
 obtain⟨w1,hw1⟩:∃ W,W=w.alloc (.cells #[.slice AaSteps naSteps caSteps] 46):=⟨_,rfl⟩
 obtain⟨w1b,hw1b⟩:∃ W,W=w1.alloc (.cells #[.slice AbSteps nbSteps cbSteps] 46):=⟨_,rfl⟩
 obtain⟨w2,hw2⟩:∃ W,W=w1b.alloc (.cells #[.slice none 0 0] 46):=⟨_,rfl⟩
 have hs1:w1.heap.size=w.heap.size+1:=by rw [hw1];simp
 have hs1b:w1b.heap.size=w.heap.size+1+1:=by rw [hw1b];simp [hs1]
 have hs2:w2.heap.size=w.heap.size+1+1+1:=by rw [hw2];simp [hs1b]
 have b1:Below w.heap.size w w1:=by rw [hw1];exact(Below.refl _ _).alloc (Nat.le_refl _) _
 have b1b:Below w1.heap.size w1 w1b:=by rw [hw1b];exact(Below.refl _ _).alloc (Nat.le_refl _) _
 have b2:Below w1b.heap.size w1b w2:=by rw [hw2];exact(Below.refl _ _).alloc (Nat.le_refl _) _
 have h2:=(b1.trans (b1b.mono b1.size)).trans (b2.mono (by omega))
 have kP:Bk w2 w.heap.size 46 [.slice AaSteps naSteps caSteps]:=by
  have:Bk w1 w.heap.size 46 [.slice AaSteps naSteps caSteps]:=by rw [hw1];exact Bk.new w _ _
  exact(this.below b1b).below b2
 have kQ:Bk w2 (w.heap.size+1) 46 [.slice AbSteps nbSteps cbSteps]:=by
  have:Bk w1b (w.heap.size+1) 46 [.slice AbSteps nbSteps cbSteps]:=by rw [hw1b,<- hs1];exact Bk.new w1 _ _
  exact this.below b2
 have kR:Bk w2 (w.heap.size+1+1) 46 [.slice none 0 0]:=by rw [hw2,<- hs1b];exact Bk.new w1b _ _
 have b3:=(Below.refl w2.heap.size w2).alloc (Nat.le_refl _) (.cells #[] 90)
 have c0:=(kP.below b3).bx 0 _ rfl
 have HS2:=Lib.hid hs2
 clear hs1 hs1b hs2
 go_enter Try.func62,Try.ntmps62
 go_upto_region 1 with fail
 rw [<- hw1,<- hw1b,<- hw2]
 clear hw1 hw1b hw2
 go_upto_region 2 with (at_builtin;go_loud (refine wpList_appe (r:=rPlanStep NB) (M:=NB) rfl _ _ 44 rfl _ 24 eiPlanStep (rPlanStep_ok NB) (rPlanStep_flt NB) rfl (heap_alloc_new _ _) rfl (haSteps.below (rPlanStep_ok NB) (h2.trans (b3.mono h2.size))) haSteps.nb (Nat.le_refl _) (by have:=haSteps.nb;unfold NB at this;omega) ?_;intro A4 c4 w4 o4 g4 hb4))
 obtain⟨w5,hw5,P5,hlt,b5⟩:=pb_new h2 kR hb4 o4 g4
 rw [<- hw5]
 clear hw5 o4 g4 hb4 b3 c0
 have hz5:=P5.be.size
 have hx5:=P5.kX.bx 0 _ rfl
 have hq5:=(kQ.below b5).bx 0 _ rfl
 have hb5:=hbSteps.below (rPlanStep_ok NB) (h2.trans (b5.mono h2.size))
 have ha5:=Below.refl w5.heap.size w5
 go_upto_region 3 with (at_builtin;go_loud (refine wpList_appf (r:=rPlanStep NB) rfl _ _ 44 rfl _ 24 eiPlanStep (rPlanStep_ok NB) (rPlanStep_flt NB) rfl P5.ms ha5 hz5 rfl hb5 (by have:=HL.out;have:=HLB.out;unfold NB;omega) (Nat.le_refl _) (by have:=HL.out;have:=HLB.out;omega) ?_;intro A7 c7 w7 m7 hb7 hg7;have k7:=P5.kX7 ha5 hg7;have f7:=k7.frozen 0;have x7:=k7.bx 0 _ rfl))
 have P8:=P5.grow ha5 hg7 hb7 m7 (by have:=h2.size;have:=HS2.out;omega) (by have:=HS2.out;omega)
 obtain⟨w8,hw8⟩:∃ W,W=w7.setCell ⟨w4.heap.size,0,none⟩ (.slice A7 (naSteps+nbSteps) c7):=⟨_,rfl⟩
 rw [<- hw8]at P8 ⊢
 clear hw8 k7 f7 x7 hx5 ha5 m7 hb7 hg7 P5 hq5 hb5 hz5
 have hz8:=P8.be.size
 have hx8:=P8.kX.bx 0 _ rfl
 have ha8:=(Below.refl w8.heap.size w8).alloc (Nat.le_refl _) (.cells #[.int .i64 kd,.int .i64 0,.int .i64 v] 90)
 go_upto_region 4 with (at_builtin;go_loud (refine wpList_app (r:=rPlanStep NB) rfl _ _ 44 rfl _ 24 eiPlanStep (rPlanStep_ok NB) rfl P8.ms ha8 hz8 ⟨_,0,none⟩ rfl [] [.int .i64 kd,.int .i64 0,.int .i64 v] ⟨kd,0,v⟩ (rPlanStep_own.2 ⟨rfl,rfl,hk,I64_zero,hv⟩) (Fr.nil _) (cells_new _ _ _) (by have:=HL.out;have:=HLB.out;unfold NB;omega) (Nat.le_refl _) (by have:=HL.out;have:=HLB.out;omega) ?_;intro A9 c9 w9 m9 hb9 hg9;have k9:=P8.kX7 ha8 hg9;have f9:=k9.frozen 0;have x9:=k9.bx 0 _ rfl))
 have PA:=P8.grow ha8 hg9 hb9 m9 (by have:=h2.size;have:=HS2.out;omega) (by have:=HS2.out;omega)
 obtain⟨wA,hwA⟩:∃ W,W=w9.setCell ⟨w4.heap.size,0,none⟩ (.slice A9 (naSteps+nbSteps+1) c9):=⟨_,rfl⟩
 rw [<- hwA]at PA ⊢
 clear hwA k9 f9 x9 hx8 ha8 m9 hb9 hg9 P8 hz8
 have x8:=PA.kX.bx 0 _ rfl
 have r8:=PA.kR.bx 0 _ rfl
 have g8:=PA.kR.frozen 0
 go_wp2
 have q:=(PA.kR.set 0 (.slice A9 (naSteps+nbSteps+1) c9)).bx 0 _ rfl
 refine bodyPost_ret (v:=.agg #[.slice A9 (naSteps+nbSteps+1) c9]) (by simp [results,Try.results62,go_sem,q]) rfl ?_
 exact PA.fin (by omega) _
end Go.Proofs.Ytjckbnmbhgikjaa
namespace Go.Proofs.Ytjckbnmbhgikjaa
open Go.RowKit
set_option linter.unusedVariables false
set_option linter.unusedSimpArgs false
/-- the call under way: cursor, query, the query's box, the result's box -/
structure Lq (w:World) (g:Nat) (q:QueryD) (Aq:Option Addr) (nq cq:Nat) (fq:List Nat) (W:World):Prop where
 cu:Cur W g
 ch:Chg [g] w W
 oq:(rQuery NB).own W fq [.int .i64 q.fVariableCount,.slice Aq nq cq] q
 kQ:Bk W w.heap.size 43 [.int .i64 q.fVariableCount,.slice Aq nq cq]
 kR:Bk W (w.heap.size+1) 46 [.slice none 0 0]
 lt:g<w.heap.size
 ne:∀ k∈fq,k≠g/\k<w.heap.size
/-- a plan in its box -/
structure Lx (w W:World) (gX:Nat) (A:Option Addr) (n c:Nat) (L:List PlanStepD):Prop where
 kX:Bk W gX 46 [.slice A n c]
 mX:MS (w.heap.size+2) NB 90 (rPlanStep NB) W A n c L
 le:w.heap.size+2<=gX
section
variable {w W W':World} {g gX gY:Nat} {q:QueryD} {Aq A A':Option Addr} {nq cq n c n' c':Nat} {fq:List Nat} {L L':List PlanStepD}
theorem Lq.step (H:Lq w g q Aq nq cq fq W) (h:Chg [g] W W') (cu:Cur W' g):Lq w g q Aq nq cq fq W' :=
 have hl:=H.lt
 ⟨cu,H.ch.trans h,Stb.low (rQuery_ok NB) H.oq h (fun k hk=>by simp;exact(H.ne k hk).1),(h.block _ H.kQ.lt (by simp;omega)).trans H.kQ,(h.block _ H.kR.lt (by simp;omega)).trans H.kR,H.lt,H.ne⟩
theorem Lq.low (H:Lq w g q Aq nq cq fq W) (h:Below W.heap.size W W'):Lq w g q Aq nq cq fq W':=H.step (Chg.ofBelow h _) (H.cu.below h)
theorem Lq.size (H:Lq w g q Aq nq cq fq W):w.heap.size+2<=W.heap.size:=H.kR.lt
theorem Lq.set (H:Lq w g q Aq nq cq fq W) (hX:w.heap.size+2<=gX) (v:Value):Lq w g q Aq nq cq fq (W.setCell ⟨gX,0,none⟩ v):=by
 have hl:=H.lt
 have ho:∀ k,k≠gX->(W.setCell ⟨gX,0,none⟩ v).heap[k]?=W.heap[k]?:=fun k hk=>heap_setCell_other _ ⟨gX,0,none⟩ k _ (fun e=>hk e)
 have b:Below (w.heap.size+2) W (W.setCell ⟨gX,0,none⟩ v):=(Below.refl _ _).setCell (p:=⟨gX,0,none⟩) hX _
 exact⟨H.cu.low (by omega) b,chgS H.ch b (by omega),(rQuery_ok NB).okeep H.oq (fun k hk=>ho k (by have:=(H.ne k hk).2;omega)),(ho _ (by omega)).trans H.kQ,(ho _ (by omega)).trans H.kR,H.lt,H.ne⟩
theorem Lx.step (H:Lx w W gX A n c L) (h:Chg [g] W W') (hg:g<w.heap.size):Lx w W' gX A n c L:=by
 have hX:=H.le
 refine⟨(h.block _ H.kX.lt (by simp;omega)).trans H.kX,?_,H.le⟩
 obtain⟨fp,o,f⟩:=H.mX
 exact⟨fp,o.okeep (rPlanStep_ok NB) (fun k hk=>h.block k (o.lt (rPlanStep_ok NB) k hk) (by have:=f.ge k hk;simp;omega)),f⟩
theorem Lx.other (H:Lx w W gX A n c L) {cs:List Value}(kY:Bk W gY 46 cs) (hne:gX≠gY) (v:Value):Lx w (W.setCell ⟨gY,0,none⟩ v) gX A n c L :=
 ⟨(heap_setCell_other _ ⟨gY,0,none⟩ gX _ (fun e=>hne e)).trans H.kX,plan_box kY H.mX v,H.le⟩
theorem Lx.store (H:Lx w W gX A n c L) (m:MS (w.heap.size+2) NB 90 (rPlanStep NB) W A' n' c' L'):Lx w (W.setCell ⟨gX,0,none⟩ (.slice A' n' c')) gX A' n' c' L' :=
 ⟨H.kX.set 0 _,plan_box H.kX m _,H.le⟩
theorem Lx.rep (H:Lx w W gX A n c L):(rPlan NB).rep W [.slice A n c] ⟨L⟩:=rPlan_rep.2 ⟨_,_,_,rfl,H.mX.rs (rPlanStep_ok NB)⟩
/-- a plan just made in its new box -/
theorem Lx.new {cs:List Value}{fp:List Nat}{p:PlanD}{B:Nat}(ho:(rPlan NB).own W fp [.slice A n c] p) (hf:Fr B fp) (hB:w.heap.size+2<=B) (hW:w.heap.size+2<=W.heap.size) :
  Lx w (W.alloc (.cells #[.slice A n c] 46)) W.heap.size A n c p.fSteps:=by
 obtain⟨_,_,_,_,e,rfl,o⟩:=rPlan_own.1 ho
 injection e with e _;injection e with e1 e2 e3;subst e1 e2 e3
 have b:=(Below.refl W.heap.size W).alloc (Nat.le_refl _) (.cells #[.slice A n c] 46)
 exact⟨Bk.new _ _ _,⟨_,o.belowS (rPlanStep_ok NB) b,hf.mono hB⟩,hW⟩
/-- a plan's box written anew with a plan just made -/
theorem lp_set {gA gB:Nat}{Aa Ab:Option Addr}{na ca nb cb:Nat}{La Lb:List PlanStepD}{fp:List Nat}{p:PlanD}(H:Lq w g q Aq nq cq fq W) (XA:Lx w W gA Aa na ca La) (XB:Lx w W gB Ab nb cb Lb) (hb:Below W.heap.size W W') (ho:(rPlan NB).own W' fp [.slice A' n' c'] p) (hf:Fr W.heap.size fp) (hne:gB≠gA) :
  ∃ Z,Z=W'.setCell ⟨gA,0,none⟩ (.slice A' n' c')/\Lq w g q Aq nq cq fq Z/\Lx w Z gA A' n' c' p.fSteps/\Lx w Z gB Ab nb cb Lb:=by
 obtain⟨_,_,_,_,e,rfl,o⟩:=rPlan_own.1 ho
 injection e with e _;injection e with e1 e2 e3;subst e1 e2 e3
 have XA':=XA.step (Chg.ofBelow hb [g]) H.lt
 have XB':=XB.step (Chg.ofBelow hb [g]) H.lt
 have H':=H.low hb
 have hz:=H.size
 exact⟨_,rfl,H'.set XA.le _,XA'.store ⟨_,o,hf.mono hz⟩,XB'.other XA'.kX hne _⟩
theorem Lq.fin {cs:List Value}{fp:List Nat}{p:PlanD}{P:PlanD->Prop}(H:Lq w g q Aq nq cq fq W) (hb:Below W.heap.size W W') (ho:(rPlan NB).own W' fp cs p) (hf:Fr W.heap.size fp) (hP:P p) (v:Value) :
  DrawnV (rPlan NB) P g w (.returned (.agg cs.toArray)) (W'.setCell ⟨w.heap.size+1,0,none⟩ v):=by
 have hz:=H.size
 have hl:=H.lt
 have b:Below (w.heap.size+1) W' (W'.setCell ⟨w.heap.size+1,0,none⟩ v):=(Below.refl _ _).setCell (p:=⟨w.heap.size+1,0,none⟩) (Nat.le_refl _) _
 exact⟨p,cs,fp,rfl,(rPlan_ok NB).okeep ho (fun k hk=>heap_setCell_other _ ⟨w.heap.size+1,0,none⟩ k _ (fun e=>by have:=hf.ge k hk;have e2:k=w.heap.size+1:=e;omega)),hf.mono (by omega),hP,((H.cu.below hb).low (by omega) b),chgS (H.ch.trans (Chg.ofBelow hb _)) b (by omega)⟩
end
theorem splits_len (q:QueryD) {m:Int}(h:m<16):(splits q m).length<=16:=by
 unfold splits
 split
 ·exact Nat.le_trans (splitsTo_len _ _ _) (by omega)
 ·exact Nat.zero_le _
/-- how long a plan on a mask may be -/
def lenOk (m:Int) (p:PlanD):Prop:=1<=p.fSteps.length/\p.fSteps.length<=60/\(1<=m->p.fSteps.length+3<=4*m.toNat)
set_option maxRecDepth 100000 in
set_option maxHeartbeats 6400000 in
theorem l23Plan_c (g:Nat) (q:QueryD) (hv:validQ q=true) (N:Nat):∀ (m:Int) (w:World) (fq:List Nat) (csq:List Value),0<=m->m<16->m.toNat<=N->Cur w g->(rQuery NB).own w fq csq q->(∀ k∈fq,k≠g) ->
  Calls Try.prog 47 #[.pointer (some ⟨g,0,none⟩),.agg csq.toArray,.int .i64 m] w (DrawnV (rPlan NB) (lenOk m) g w):=by
 have HV:=Lib.hid hv
 clear hv
 induction N using Nat.strongRecOn with
 | ind N ih =>
 intro m w fq csq m0 m1 mN hc oq hne
 have IH:=Lib.hid ih
 clear ih
 obtain⟨Aq,nq,cq,fA,rfl,rfl,_,_⟩:=rQuery_own.1 oq
 have hgw:=hc.lt
 obtain⟨w1,hw1⟩:∃ W,W=w.alloc (.cells #[.int .i64 q.fVariableCount,.slice Aq nq cq] 43):=⟨_,rfl⟩
 obtain⟨w2,hw2⟩:∃ W,W=w1.alloc (.cells #[.slice none 0 0] 46):=⟨_,rfl⟩
 have hs1:w1.heap.size=w.heap.size+1:=by rw [hw1];simp
 have b1:Below w.heap.size w w1:=by rw [hw1];exact(Below.refl _ _).alloc (Nat.le_refl _) _
 have b2:Below w1.heap.size w1 w2:=by rw [hw2];exact(Below.refl _ _).alloc (Nat.le_refl _) _
 have bb:=b1.trans (b2.mono b1.size)
 have H2:Lq w g q Aq nq cq fq w2:=by
  refine⟨hc.below bb,Chg.ofBelow bb _,(rQuery_ok NB).ownB oq bb,?_,?_,hgw,fun k hk=>⟨hne k hk,(rQuery_ok NB).lt oq k hk⟩⟩
  ·have:Bk w1 w.heap.size 43 [.int .i64 q.fVariableCount,.slice Aq nq cq]:=by rw [hw1];exact Bk.new w _ _
   exact this.below b2
  ·rw [hw2,<- hs1];exact Bk.new w1 _ _
 clear b1 b2 bb hs1 oq hne hc
 go_enter Try.func47,Try.ntmps47
 go_upto_region 1 with fail
 rw [<- hw1,<- hw2]
 clear hw1 hw2
 have q0:=H2.kQ.bx 0 _ rfl
 have q1:=H2.kQ.bx 1 _ rfl
 go_wp2_with fail
 refine(sJoinSplits_c _ q m _ ((rQuery_ok NB).toRep H2.oq)).mono ?_
 rintro e w3 ⟨A3,n3,c3,rfl,m3,hb3⟩
 have hz2:=H2.size
 have H3:=H2.low hb3
 clear H2 q0 q1 hb3
 have hl3:=m3.len
 rcases Nat.eq_zero_or_pos n3 with h0|h0
 ·subst h0
  go_wp2_with fail
  refine(sMaskAtoms_c m _ m0 m1).mono ?_
  rintro e w4 ⟨A4,n4,c4,rfl,m4,hb4⟩
  have H4:=H3.low hb4
  clear H3 m3 hb4
  rcases Nat.eq_zero_or_pos n4 with h4|h4
  ·subst h4
   go_wp2_with fail
   refine(sScanPlan_c 0 _ I64_zero).mono ?_
   rintro e w5 ⟨cs,fp,rfl,oX,fX,hb5⟩
   obtain⟨A5,n5,c5,_,rfl,rfl,_⟩:=rPlan_own.1 oX
   have k5:=(H4.low hb5).kR
   have r5:=k5.bx 0 _ rfl
   have f5:=k5.frozen 0
   have q:=(k5.set 0 (.slice A5 n5 c5)).bx 0 _ rfl
   go_wp2
   refine bodyPost_ret (v:=.agg #[.slice A5 n5 c5]) (by simp [results,Try.results47,go_sem,q]) rfl ?_
   exact H4.fin hb5 oX fX ⟨Nat.le_refl _,(by show 1<=60;omega),fun h=>by show 1+3<=_;omega⟩ _
  ·obtain⟨bb,off,v,rfl,hcv,hI,hx⟩:=(m4.rs rInt_ok).ati (k:=0) h4
   rw [Nat.add_zero]at hcv
   go_wp2_with fail
   refine(sScanPlan_c v _ hI).mono ?_
   rintro e w5 ⟨cs,fp,rfl,oX,fX,hb5⟩
   obtain⟨A5,n5,c5,_,rfl,rfl,_⟩:=rPlan_own.1 oX
   have k5:=(H4.low hb5).kR
   have r5:=k5.bx 0 _ rfl
   have f5:=k5.frozen 0
   have q:=(k5.set 0 (.slice A5 n5 c5)).bx 0 _ rfl
   go_wp2
   refine bodyPost_ret (v:=.agg #[.slice A5 n5 c5]) (by simp [results,Try.results47,go_sem,q]) rfl ?_
   exact H4.fin hb5 oX fX ⟨Nat.le_refl _,(by show 1<=60;omega),fun h=>by show 1+3<=_;omega⟩ _
 ·go_wp2_with fail
  refine(l1Below_c g (n3:Int) _ (by have:=splits_len q m1;omega) H3.cu).mono ?_
  rintro e w4 ⟨j,rfl,⟨j0,_,j1⟩,cu4,ch4⟩
  obtain⟨k,rfl⟩:∃ k:Nat,j=(k:Int):=⟨j.toNat,by omega⟩
  have hk:k<n3:=by have:=j1 (by omega);omega
  have H4:=H3.step ch4 cu4
  have hd4:Hid (∃ b off v,A3=some ⟨b,off,none⟩/\w4.cell? ⟨b,off+k,none⟩=some (.int .i64 v)/\(splits q m)[k]?=some v):=by
   show ∃ b off v,_
   obtain⟨fp,o,f⟩:=m3
   have o4:=o.okeep rInt_ok (fun z hz=>ch4.block z (o.lt rInt_ok z hz) (by have:=f.ge z hz;simp;omega))
   obtain⟨b,off,v,e,hc,_,hx⟩:=(o4.rs rInt_ok).ati hk
   exact⟨b,off,v,e,hc,hx.out⟩
  obtain⟨b,off,m1',rfl,hcv,hx⟩:=hd4.out
  clear hd4 H3 m3 cu4 ch4 j0 j1 hz2
  obtain⟨_,_,_,s1,s2,s3⟩:=splits_ok (mem_of_at hx)
  have hp0:0<m:=by omega
  have HS3:=Lib.hid s3
  clear hx s3
  have q0:=H4.kQ.bx 0 _ rfl
  have q1:=H4.kQ.bx 1 _ rfl
  go_wp2_with fail
  refine(IH.out m1'.toNat (by omega) m1' w4 fq _ (by omega) (by omega) (Nat.le_refl _) H4.cu H4.oq (fun k hk=>(H4.ne k hk).1)).mono ?_
  rintro e w5 ⟨pa,cs,fp,rfl,oa,fa,la,cu5,ch5⟩
  obtain⟨Aa,na,ca,_,rfl,rfl,_⟩:=rPlan_own.1 oa
  have H5:=H4.step ch5 cu5
  have XA:=Lx.new (cs:=[]) oa fa H4.size H5.size
  obtain⟨w6,hw6⟩:∃ W,W=w5.alloc (.cells #[.slice Aa na ca] 46):=⟨_,rfl⟩
  have H6:=H5.low (W':=w6) (by rw [hw6];exact(Below.refl _ _).alloc (Nat.le_refl _) _)
  have hs6:w6.heap.size=w5.heap.size+1:=by rw [hw6];simp
  rw [<- hw6]at XA
  obtain⟨gA,hgA⟩:∃ z,z=w5.heap.size:=⟨_,rfl⟩
  rw [<- hgA]at XA hs6
  clear H4 H5 oa fa cu5 ch5 q0 q1
  go_upto_region 9 with fail
  rw [<- hgA,<- hw6]
  clear hgA hw6
  have q0:=H6.kQ.bx 0 _ rfl
  have q1:=H6.kQ.bx 1 _ rfl
  go_wp2_with fail
  refine(IH.out (m - m1').toNat (by omega) (m - m1') w6 fq _ (by omega) (by omega) (Nat.le_refl _) H6.cu H6.oq (fun k hk=>(H6.ne k hk).1)).mono ?_
  rintro e w7 ⟨pb,cs,fp,rfl,ob,fb,lb,cu7,ch7⟩
  obtain⟨Ab,nb,cb,_,rfl,rfl,_⟩:=rPlan_own.1 ob
  have H7:=H6.step ch7 cu7
  have XB:=Lx.new (cs:=[]) ob fb H6.size H7.size
  obtain⟨w8,hw8⟩:∃ W,W=w7.alloc (.cells #[.slice Ab nb cb] 46):=⟨_,rfl⟩
  have b8:Below w7.heap.size w7 w8:=by rw [hw8];exact(Below.refl _ _).alloc (Nat.le_refl _) _
  have H8:=H7.low b8
  replace XA:=(XA.step ch7 hgw).step (Chg.ofBelow b8 [g]) hgw
  have hAB:gA<w7.heap.size:=by have:=ch7.size;omega
  rw [<- hw8]at XB
  obtain⟨gB,hgB⟩:∃ z,z=w7.heap.size:=⟨_,rfl⟩
  rw [<- hgB]at XB hAB
  clear H6 H7 ob fb cu7 ch7 q0 q1 hs6 b8
  go_upto_region 10 with fail
  rw [<- hgB,<- hw8]
  clear hgB hw8
  go_wp2_with fail
  refine(l1Below_c g 3 _ (by omega) H8.cu).mono ?_
  rintro e w9 ⟨x,rfl,⟨x0,_,x1⟩,cu9,ch9⟩
  have HW:=H8.step ch9 cu9
  replace XA:=XA.step ch9 hgw
  replace XB:=XB.step ch9 hgw
  have x3:=x1 (by omega)
  clear H8 cu9 ch9 x1
  have la1:=la.1
  have la2:=la.2.2 s1
  have lb1:=lb.1
  have lb2:=lb.2.2 (by omega)
  have hm12:m1'.toNat+(m - m1').toNat=m.toNat:=by omega
  have hm16:m.toNat<16:=by omega
  clear la lb
  have a0:=XA.kX.bx 0 _ rfl
  have b0:=XB.kX.bx 0 _ rfl
  by_cases hx0:x=0
  ·subst hx0
   go_wp2_with fail
   refine(sJoinPlans_c _ ⟨pa.fSteps⟩ _ ⟨pb.fSteps⟩ 3 0 _ XA.rep XB.rep (by unfold I64;omega) (by unfold I64;omega) (by simp;omega) (by simp;omega)).mono ?_
   rintro e wz ⟨cs,fp,rfl,oX,fX,hbz⟩
   obtain⟨A5,n5,c5,_,rfl,rfl,_⟩:=rPlan_own.1 oX
   have k5:=(HW.low hbz).kR
   have r5:=k5.bx 0 _ rfl
   have f5:=k5.frozen 0
   have q:=(k5.set 0 (.slice A5 n5 c5)).bx 0 _ rfl
   go_wp2
   refine bodyPost_ret (v:=.agg #[.slice A5 n5 c5]) (by simp [results,Try.results47,go_sem,q]) rfl ?_
   exact HW.fin hbz oX fX (by unfold lenOk;simp;omega) _
  by_cases hx1:x=1
  ·subst hx1
   go_wp2_with fail
   refine(sJoinPlans_c _ ⟨pa.fSteps⟩ _ ⟨pb.fSteps⟩ 5 0 _ XA.rep XB.rep (by unfold I64;omega) (by unfold I64;omega) (by simp;omega) (by simp;omega)).mono ?_
   rintro e wz ⟨cs,fp,rfl,oX,fX,hbz⟩
   obtain⟨A5,n5,c5,_,rfl,rfl,_⟩:=rPlan_own.1 oX
   have k5:=(HW.low hbz).kR
   have r5:=k5.bx 0 _ rfl
   have f5:=k5.frozen 0
   have q:=(k5.set 0 (.slice A5 n5 c5)).bx 0 _ rfl
   go_wp2
   refine bodyPost_ret (v:=.agg #[.slice A5 n5 c5]) (by simp [results,Try.results47,go_sem,q]) rfl ?_
   exact HW.fin hbz oX fX (by unfold lenOk;simp;omega) _
  have q0:=HW.kQ.bx 0 _ rfl
  have q1:=HW.kQ.bx 1 _ rfl
  go_wp2_with fail
  refine(sSharedVariables_c _ q m1' (m - m1') _ ((rQuery_ok NB).toRep HW.oq)).mono ?_
  rintro e w10 ⟨AV,nV,cV,rfl,mV,hb10⟩
  have hVl:=mV.len
  have hVp:0<nV:=by
   rcases Nat.eq_zero_or_pos nV with h|h
   ·exfalso;apply HS3.out;subst h;exact List.length_eq_zero_iff.1 hVl
   ·exact h
  have hV4:nV<=4:=by rw [<- hVl];exact Nat.le_trans (List.length_filter_le _ _) (sharedL_len q m1' (m - m1'))
  have H10:=HW.low hb10
  replace XA:=XA.step (Chg.ofBelow hb10 [g]) hgw
  replace XB:=XB.step (Chg.ofBelow hb10 [g]) hgw
  have hzw:=HW.size
  clear HW a0 b0 q0 q1 hb10
  go_wp2_with fail
  refine(l1Below_c g (nV:Int) _ (by omega) H10.cu).mono ?_
  rintro e w11 ⟨j,rfl,⟨j0,_,j1⟩,cu11,ch11⟩
  obtain⟨kk,rfl⟩:∃ k:Nat,j=(k:Int):=⟨j.toNat,by omega⟩
  have hkk:kk<nV:=by have:=j1 (by omega);omega
  have HW:=H10.step ch11 cu11
  replace XA:=XA.step ch11 hgw
  replace XB:=XB.step ch11 hgw
  have hd4:Hid (∃ b off v,AV=some ⟨b,off,none⟩/\w11.cell? ⟨b,off+kk,none⟩=some (.int .i64 v)/\(sharedL q m1' (m - m1'))[kk]?=some v):=by
   show ∃ b off v,_
   obtain⟨fp,o,f⟩:=mV
   have o4:=o.okeep rInt_ok (fun z hz=>ch11.block z (o.lt rInt_ok z hz) (by have:=f.ge z hz;simp;omega))
   obtain⟨b,off,v,e,hc,_,hx⟩:=(o4.rs rInt_ok).ati hkk
   exact⟨b,off,v,e,hc,hx.out⟩
  obtain⟨b2,off2,v,rfl,hcv2,hx2⟩:=hd4.out
  obtain⟨v0,v3⟩:=sharedL_bd (mem_of_at hx2)
  clear hd4 H10 mV cu11 ch11 j0 j1 hx2 hVl HS3 hzw
  obtain⟨La,hLa⟩:∃ L,L=pa.fSteps:=⟨_,rfl⟩
  obtain⟨Lb,hLb⟩:∃ L,L=pb.fSteps:=⟨_,rfl⟩
  rw [<- hLa]at XA la1 la2
  rw [<- hLb]at XB lb1 lb2
  clear hLa hLb
  have a0:=XA.kX.bx 0 _ rfl
  have q0:=HW.kQ.bx 0 _ rfl
  have q1:=HW.kQ.bx 1 _ rfl
  go_wp2_with fail
  refine(sPlanOrder_c _ q _ ⟨La⟩ _ ((rQuery_ok NB).toRep HW.oq) XA.rep).mono ?_
  rintro e wo ⟨rfl,hbo⟩
  replace HW:=HW.low hbo
  replace XA:=XA.step (Chg.ofBelow hbo [g]) hgw
  replace XB:=XB.step (Chg.ofBelow hbo [g]) hgw
  clear hbo a0 q0 q1
  cases ho:(planOrd q ⟨La⟩ != v)
  focus
   go_upto_region 19 with fail
   have L2n:1<=La.length/\La.length<=La.length+1:=⟨by omega,by omega⟩
   obtain⟨L2,hL2⟩:∃ L,L=La:=⟨_,rfl⟩
   obtain⟨A2,e1⟩:∃ z,z=Aa:=⟨_,rfl⟩
   obtain⟨n2,e2⟩:∃ z,z=na:=⟨_,rfl⟩
   obtain⟨c2,e3⟩:∃ z,z=ca:=⟨_,rfl⟩
   have L2X:=XA
   clear XA
   have XA:Lx w wo gA A2 n2 c2 L2:=by rw [hL2,e1,e2,e3];exact L2X
   replace L2n:1<=L2.length/\L2.length<=La.length+1:=by rw [hL2];exact L2n
   clear hL2 ho e1 e2 e3 L2X
  rotate_left
  focus
   have a0:=XA.kX.bx 0 _ rfl
   go_wp2_with fail
   refine(sSortPlan_c _ ⟨La⟩ v _ XA.rep (by unfold I64;omega) (by show La.length<=100;omega)).mono ?_
   rintro e ws ⟨cs,fp,rfl,oX,fX,hbs⟩
   obtain⟨A2,n2,c2,_,rfl,rfl,_⟩:=rPlan_own.1 oX
   have ks:=(XA.step (Chg.ofBelow hbs [g]) hgw).kX
   have r5:=ks.bx 0 _ rfl
   have f5:=ks.frozen 0
   obtain⟨wo2,hwo,H',X',Y'⟩:=lp_set HW XA XB hbs oX fX (by omega)
   clear ho HW XA XB
   have HW:=H'
   have XB:=Y'
   go_upto_region 19 with fail
   rw [<- hwo]
   clear hwo r5 f5 a0 ks
   have L2n:1<=(La++[(⟨2,0,v⟩:PlanStepD)]).length/\(La++[(⟨2,0,v⟩:PlanStepD)]).length<=La.length+1:=by simp
   obtain⟨L2,hL2⟩:∃ L,L=La++[⟨2,0,v⟩]:=⟨_,rfl⟩
   have XA:Lx w wo2 gA A2 n2 c2 L2:=by rw [hL2];exact X'
   rw [<- hL2]at L2n
   clear H' X' Y' oX fX hbs hL2 wo
   obtain⟨wo,rfl⟩:∃ z,z=wo2:=⟨_,rfl⟩
  all_goals
   have b0:=XB.kX.bx 0 _ rfl
   have q0:=HW.kQ.bx 0 _ rfl
   have q1:=HW.kQ.bx 1 _ rfl
   go_wp2_with fail
   refine(sPlanOrder_c _ q _ ⟨Lb⟩ _ ((rQuery_ok NB).toRep HW.oq) XB.rep).mono ?_
   rintro e wo ⟨rfl,hbo⟩
   replace HW:=HW.low hbo
   replace XA:=XA.step (Chg.ofBelow hbo [g]) hgw
   replace XB:=XB.step (Chg.ofBelow hbo [g]) hgw
   clear hbo b0 q0 q1
   cases ho:(planOrd q ⟨Lb⟩ != v)
   focus
    go_upto_region 21 with fail
    have M2n:1<=Lb.length/\Lb.length<=Lb.length+1:=⟨by omega,by omega⟩
    obtain⟨M2,hL2⟩:∃ L,L=Lb:=⟨_,rfl⟩
    obtain⟨B2,e1⟩:∃ z,z=Ab:=⟨_,rfl⟩
    obtain⟨m2,e2⟩:∃ z,z=nb:=⟨_,rfl⟩
    obtain⟨d2,e3⟩:∃ z,z=cb:=⟨_,rfl⟩
    have M2X:=XB
    clear XB
    have XB:Lx w wo gB B2 m2 d2 M2:=by rw [hL2,e1,e2,e3];exact M2X
    replace M2n:1<=M2.length/\M2.length<=Lb.length+1:=by rw [hL2];exact M2n
    clear hL2 ho e1 e2 e3 M2X
   rotate_left
   focus
    have b0:=XB.kX.bx 0 _ rfl
    go_wp2_with fail
    refine(sSortPlan_c _ ⟨Lb⟩ v _ XB.rep (by unfold I64;omega) (by show Lb.length<=100;omega)).mono ?_
    rintro e ws ⟨cs,fp,rfl,oX,fX,hbs⟩
    obtain⟨B2,m2,d2,_,rfl,rfl,_⟩:=rPlan_own.1 oX
    have ks:=(XB.step (Chg.ofBelow hbs [g]) hgw).kX
    have r5:=ks.bx 0 _ rfl
    have f5:=ks.frozen 0
    obtain⟨wo2,hwo,H',X',Y'⟩:=lp_set HW XB XA hbs oX fX (by omega)
    clear ho HW XA XB
    have HW:=H'
    have XA:=Y'
    go_upto_region 21 with fail
    rw [<- hwo]
    clear hwo r5 f5 b0 ks
    have M2n:1<=(Lb++[(⟨2,0,v⟩:PlanStepD)]).length/\(Lb++[(⟨2,0,v⟩:PlanStepD)]).length<=Lb.length+1:=by simp
    obtain⟨M2,hL2⟩:∃ L,L=Lb++[⟨2,0,v⟩]:=⟨_,rfl⟩
    have XB:Lx w wo2 gB B2 m2 d2 M2:=by rw [hL2];exact X'
    rw [<- hL2]at M2n
    clear H' X' Y' oX fX hbs hL2 wo
    obtain⟨wo,rfl⟩:∃ z,z=wo2:=⟨_,rfl⟩
   all_goals
    have a0:=XA.kX.bx 0 _ rfl
    have b0:=XB.kX.bx 0 _ rfl
    go_wp2_with fail
    refine(sJoinPlans_c _ ⟨L2⟩ _ ⟨M2⟩ 4 v _ XA.rep XB.rep (by unfold I64;omega) (by unfold I64;omega) (by simp;omega) (by simp;omega)).mono ?_
    rintro e wz ⟨cs,fp,rfl,oX,fX,hbz⟩
    obtain⟨A5,n5,c5,_,rfl,rfl,_⟩:=rPlan_own.1 oX
    have k5:=(HW.low hbz).kR
    have r5:=k5.bx 0 _ rfl
    have f5:=k5.frozen 0
    have q:=(k5.set 0 (.slice A5 n5 c5)).bx 0 _ rfl
    go_wp2
    refine bodyPost_ret (v:=.agg #[.slice A5 n5 c5]) (by simp [results,Try.results47,go_sem,q]) rfl ?_
    exact HW.fin hbz oX fX (by unfold lenOk;simp;omega) _
end Go.Proofs.Ytjckbnmbhgikjaa
