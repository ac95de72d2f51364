/-
  Pan
-/
import Derived.Test.YtjckbnmbhgikjaaPor
import Derived.Test.YtjckbnmbhgikjaaQry
import Derived.Test.YtjckbnmbhgikjaaUpd
import Derived.Test.YtjckbnmbhgikjaaTdb
import Derived.Test.YtjckbnmbhgikjaaMid
import Derived.Test.YtjckbnmbhgikjaaQi
import Derived.Test.YtjckbnmbhgikjaaKeep
namespace Go.Proofs.Ytjckbnmbhgikjaa
open Go.RowKit
set_option linter.unusedVariables false
set_option linter.unusedSimpArgs false
attribute [local go_sem ↓] Go.wp_at_zero Go.wp_at_succ
theorem capOf {α:Type}{r:Rp α}{B M:Nat}{e:TypeId}{w:World}{A:Option Addr}{n cap:Nat}{l:List α}(h:MS B M e r w A n cap l):cap<=maxLen:=by
 obtain⟨fp,o,f⟩:=h
 obtain⟨css,fps,h3,_,_⟩:=o.ex
 rcases h3.2 with ⟨h1,_⟩|⟨g,c,cur,h1,_,_,_,q4,_⟩
 ·injection h1 with _ _ h1;subst h1;exact Nat.zero_le _
 ·injection h1 with _ _ h1;subst h1;exact q4
theorem repQu {w:World}{cs:List Value}{x:QueryD}(h:(rQuery NB).rep w cs x):∃ vc A n c,cs=[.int .i64 vc,.slice A n c]:=by
 obtain⟨A,n,c,rfl,_⟩:=rQuery_rep.1 h;exact⟨_,_,_,_,rfl⟩
theorem fullMask_rng {q:QueryD}(h:validQ q=true):0<=fullMask q/\fullMask q<16/\1<=fullMask q:=by
 obtain⟨_,_,h3,h4,_⟩:=validQ_parts h
 have h5:(2:Nat) ^ q.fAtoms.length<=2 ^ 4:=Nat.pow_le_pow_right (by omega) h4
 have h6:(2:Nat) ^ 1<=2 ^ q.fAtoms.length:=Nat.pow_le_pow_right (by omega) h3
 unfold fullMask
 rw [if_pos h]
 omega
/-- a query and a plan drawn -/
def DrawnQP (g:Nat) (w:World) (e:Ending) (w':World):Prop:=∃ (q:QueryD) (cq:List Value) (p:PlanD) (cp:List Value),e=.returned (.tuple #[.agg cq.toArray,.agg cp.toArray])/\Stb (rQuery NB) w.heap.size w' cq q/\Stb (rPlan NB) w.heap.size w' cp p/\Cur w' g/\Chg [g] w w'
/-- under way: cursor, results' boxes, the query's box gQ, the plan's box gP -/
structure Ly (w:World) (g gQ gP:Nat) (vc:Int) (Aq:Option Addr) (nq cc:Nat) (q:QueryD) (A:Option Addr) (n c:Nat) (L:List PlanStepD) (W:World):Prop where
 cu:Cur W g
 ch:Chg [g] w W
 k1:Bk W w.heap.size 43 [.int .i64 0,.slice none 0 0]
 k2:Bk W (w.heap.size+1) 46 [.slice none 0 0]
 kQ:Bk W gQ 43 [.int .i64 vc,.slice Aq nq cc]
 kP:Bk W gP 46 [.slice A n c]
 hQ:StS (rQuery NB) (fun k=>k<w.heap.size+2\/gQ<=k) W [.int .i64 vc,.slice Aq nq cc] q
 mP:MS (gQ+1) NB 90 (rPlanStep NB) W A n c L
 lq:w.heap.size+2<=gQ
 lp:gQ<gP
 hg:g<w.heap.size
/-- at the end: both read the same whatever becomes of the blocks below -/
structure Lz (w:World) (g gQ gP:Nat) (vc:Int) (Aq:Option Addr) (nq cc:Nat) (q:QueryD) (A:Option Addr) (n c:Nat) (L:List PlanStepD) (W:World):Prop where
 cu:Cur W g
 ch:Chg [g] w W
 k1:Bk W w.heap.size 43 [.int .i64 0,.slice none 0 0]
 k2:Bk W (w.heap.size+1) 46 [.slice none 0 0]
 kQ:Bk W gQ 43 [.int .i64 vc,.slice Aq nq cc]
 kP:Bk W gP 46 [.slice A n c]
 hQ:Stb (rQuery NB) (w.heap.size+2) W [.int .i64 vc,.slice Aq nq cc] q
 hP:Stb (rPlan NB) (w.heap.size+2) W [.slice A n c] ⟨L⟩
 lq:w.heap.size+2<=gQ
 lp:gQ<gP
 hg:g<w.heap.size
section
variable {w W W':World} {g gQ gP:Nat} {vc:Int} {Aq A A':Option Addr} {nq cc n c n' c':Nat} {q:QueryD} {L L':List PlanStepD}
theorem Ly.step (H:Ly w g gQ gP vc Aq nq cc q A n c L W) (h:Chg [g] W W') (cu:Cur W' g):Ly w g gQ gP vc Aq nq cc q A n c L W':=by
 obtain⟨_,hch,k1,k2,kQ,kP,hQ,mP,lq,lp,hg⟩:=H
 have X:OutS (fun k=>k<w.heap.size+2\/gQ<=k) W W':=OutS.chg h (by simp;omega)
 exact⟨cu,hch.trans h,(h.block _ k1.lt (by simp;omega)).trans k1,(h.block _ k2.lt (by simp;omega)).trans k2,(h.block _ kQ.lt (by simp;omega)).trans kQ,(h.block _ kP.lt (by simp;omega)).trans kP,hQ.step X,Stb.lowM mP (rPlanStep_ok NB) h (fun z hz=>by simp;omega),lq,lp,hg⟩
theorem Ly.ne (H:Ly w g gQ gP vc Aq nq cc q A n c L W) {gb:Nat}(hA:A=some ⟨gb,0,none⟩):gQ<gb/\gb≠gP:=by
 have mP:=H.mP
 subst hA
 refine⟨mP.gB,fun e=>?_⟩
 obtain⟨fp,o,f⟩:=mP
 obtain⟨_,fps,_,e2,_⟩:=o.ex
 exact(o.nt rPlanStep_nt (by decide)).ne H.kP (by rw [e2,<- e];exact List.mem_append_left _ (by simp [blk]))
/-- a number of one step stored -/
theorem Ly.put (H:Ly w g gQ gP vc Aq nq cc q A n c L W) {gb:Nat}(hA:A=some ⟨gb,0,none⟩) {k j:Nat}(hk:k<n) (hj:j<3) {v:Int}(hv:I64 v) :
  ∃ L',Ly w g gQ gP vc Aq nq cc q A n c L' (W.setCell ⟨gb,k*3+j,none⟩ (.int .i64 v)):=by
 obtain⟨h1,h2⟩:=H.ne hA
 obtain⟨cu,hch,k1,k2,kQ,kP,hQ,mP,lq,lp,hg⟩:=H
 subst hA
 have hl:=mP.len
 obtain⟨fp,o,f⟩:=mP
 have hx:L[k]?=some (L[k]'(by omega)):=List.getElem?_eq_getElem _
 have hs:∃ x':PlanStepD,∀ W f c,(rPlanStep NB).own W f c (L[k]'(by omega))->(rPlanStep NB).own W f (c.set j (.int .i64 v)) x'\/(rPlanStep NB).own W [] (c.set j (.int .i64 v)) x':=by
  have hj3:j=0\/j=1\/j=2:=by omega
  rcases hj3 with rfl|rfl|rfl
  ·exact⟨⟨v,(L[k]'(by omega)).fAtom,(L[k]'(by omega)).fOrder⟩,fun W f c h=>by obtain⟨rfl,rfl,i1,i2,i3⟩:=rPlanStep_own.1 h;exact .inl (rPlanStep_own.2 ⟨rfl,rfl,hv,i2,i3⟩)⟩
  ·exact⟨⟨(L[k]'(by omega)).fKind,v,(L[k]'(by omega)).fOrder⟩,fun W f c h=>by obtain⟨rfl,rfl,i1,i2,i3⟩:=rPlanStep_own.1 h;exact .inl (rPlanStep_own.2 ⟨rfl,rfl,i1,hv,i3⟩)⟩
  ·exact⟨⟨(L[k]'(by omega)).fKind,(L[k]'(by omega)).fAtom,v⟩,fun W f c h=>by obtain⟨rfl,rfl,i1,i2,i3⟩:=rPlanStep_own.1 h;exact .inl (rPlanStep_own.2 ⟨rfl,rfl,i1,i2,hv⟩)⟩
 obtain⟨x',hx'⟩:=hs
 obtain⟨fp',o',f',_⟩:=o.setH (rPlanStep_ok NB) f hx (x':=x') (j:=j) (by rw [rPlanStep_size];exact hj) (.int .i64 v) hx'
 have b:Below (gQ+1) W (W.setCell ⟨gb,k*3+j,none⟩ (.int .i64 v)):=(Below.refl _ _).setCell (p:=⟨gb,k*3+j,none⟩) h1 _
 exact⟨_,cu.low (by omega) b,chgS hch b (by omega),(b.block _ (by omega)).trans k1,(b.block _ (by omega)).trans k2,(b.block _ (by omega)).trans kQ,(heap_setCell_other _ ⟨gb,k*3+j,none⟩ gP _ (fun e=>h2 e.symm)).trans kP,hQ.step (OutS.set _ _ _ (by simp;omega)),⟨_,o',f'⟩,lq,lp,hg⟩
theorem Ly.fin (H:Ly w g gQ gP vc Aq nq cc q A n c L W):Lz w g gQ gP vc Aq nq cc q A n c L W:=by
 obtain⟨cu,hch,k1,k2,kQ,kP,hQ,mP,lq,lp,hg⟩:=H
 exact⟨cu,hch,k1,k2,kQ,kP,hQ.stb (fun k hk=>by omega),fun W' hW=>rPlan_rep.2 ⟨A,n,c,rfl,(mP.out (rPlanStep_ok NB) (hW.mono (by omega))).rs (rPlanStep_ok NB)⟩,lq,lp,hg⟩
/-- the last step struck -/
theorem Ly.cut (H:Ly w g gQ gP vc Aq nq cc q A n c L W) {k:Nat}(hk:k<=n):Lz w g gQ gP vc Aq nq cc q A k c (L.take k) (W.setCell ⟨gP,0,none⟩ (.slice A k c)):=by
 obtain⟨cu,hch,k1,k2,kQ,kP,hQ,mP,lq,lp,hg⟩:=H
 have b:Below gP W (W.setCell ⟨gP,0,none⟩ (.slice A k c)):=(Below.refl _ _).setCell (p:=⟨gP,0,none⟩) (Nat.le_refl _) _
 have m2:=plan_box kP mP (.slice A k c)
 exact⟨cu.low (by omega) b,chgS hch b (by omega),(b.block _ (by omega)).trans k1,(b.block _ (by omega)).trans k2,(b.block _ (by omega)).trans kQ,kP.set 0 _,(hQ.step (OutS.set _ _ _ (by simp;omega))).stb (fun k hk=>by omega),fun W' hW=>rPlan_rep.2 ⟨A,k,c,rfl,((m2.out (rPlanStep_ok NB) (hW.mono (by omega))).rs (rPlanStep_ok NB)).take hk⟩,lq,lp,hg⟩
/-- the query written anew -/
theorem Ly.other (H:Ly w g gQ gP vc Aq nq cc q A n c L W) {v2:Int}{A2:Option Addr}{n2 c2:Nat}{q2:QueryD}{T:Nat}(h:Stb (rQuery NB) T W [.int .i64 v2,.slice A2 n2 c2] q2) (hT:gQ<T) :
  Lz w g gQ gP v2 A2 n2 c2 q2 A n c L (set2 W gQ (.int .i64 v2) (.slice A2 n2 c2)):=by
 obtain⟨cu,hch,k1,k2,kQ,kP,hQ,mP,lq,lp,hg⟩:=H
 have b:Below gQ W (set2 W gQ (.int .i64 v2) (.slice A2 n2 c2)):=bls2 (Below.refl _ _) (Nat.le_refl _) _ _
 have O:Out (gQ+1) W (set2 W gQ (.int .i64 v2) (.slice A2 n2 c2)):=((Out.refl _ _).setCell (p:=⟨gQ,0,none⟩) (Nat.lt_succ_self _) _).setCell (p:=⟨gQ,1,none⟩) (Nat.lt_succ_self _) _
 exact⟨cu.low (by omega) b,chgS hch b (by omega),(b.block _ (by omega)).trans k1,(b.block _ (by omega)).trans k2,(kQ.set 0 _).set 1 _,kP.pst (by omega) _ _,fun W' hW=>h W' ((O.mono hT).trans (hW.mono (by omega))),fun W' hW=>rPlan_rep.2 ⟨A,n,c,rfl,(mP.out (rPlanStep_ok NB) (O.trans (hW.mono (by omega)))).rs (rPlanStep_ok NB)⟩,lq,lp,hg⟩
theorem Lz.hs (H:Lz w g gQ gP vc Aq nq cc q A n c L W):Hid (∀ w':World,(w'.heap[gQ]?=W.heap[gQ]?/\w'.heap[gP]?=W.heap[gP]?)->w'.cell? ⟨gQ,0,none⟩=some (.int .i64 vc)/\w'.cell? ⟨gQ,1,none⟩=some (.slice Aq nq cc)/\w'.cell? ⟨gP,0,none⟩=some (.slice A n c)):=by
 show ∀ w':World,_->_
 intro w' h
 have hQ:=Bx.b2 (Bk.bx (h.1.trans H.kQ:Bk w' gQ 43 [.int .i64 vc,.slice Aq nq cc]))
 exact⟨hQ.1,hQ.2,(Bk.bx (h.2.trans H.kP:Bk w' gP 46 [.slice A n c])) 0 _ rfl⟩
theorem Ly.hs (H:Ly w g gQ gP vc Aq nq cc q A n c L W):Hid (∀ w':World,w'.heap[gP]?=W.heap[gP]?->w'.cell? ⟨gP,0,none⟩=some (.slice A n c)):=by
 show ∀ w':World,_->_
 intro w' h
 exact(Bk.bx (h.trans H.kP:Bk w' gP 46 [.slice A n c])) 0 _ rfl
theorem Lz.end (H:Lz w g gQ gP vc Aq nq cc q A n c L W):Bk ((set2 W.drew w.heap.size (.int .i64 vc) (.slice Aq nq cc)).setCell ⟨w.heap.size+1,0,none⟩ (.slice A n c)) w.heap.size 43 [.int .i64 vc,.slice Aq nq cc] /\
  Bk ((set2 W.drew w.heap.size (.int .i64 vc) (.slice Aq nq cc)).setCell ⟨w.heap.size+1,0,none⟩ (.slice A n c)) (w.heap.size+1) 46 [.slice A n c] /\
  DrawnQP g w (.returned (.tuple #[.agg #[.int .i64 vc,.slice Aq nq cc],.agg #[.slice A n c]])) ((set2 W.drew w.heap.size (.int .i64 vc) (.slice Aq nq cc)).setCell ⟨w.heap.size+1,0,none⟩ (.slice A n c)):=by
 obtain⟨cu,hch,k1,k2,kQ,kP,hQ,hP,lq,lp,hg⟩:=H
 have O:Out (w.heap.size+2) W ((set2 W.drew w.heap.size (.int .i64 vc) (.slice Aq nq cc)).setCell ⟨w.heap.size+1,0,none⟩ (.slice A n c)):=(((Out.refl _ _).drew.setCell (p:=⟨w.heap.size,0,none⟩) (by simp) _).setCell (p:=⟨w.heap.size,1,none⟩) (by simp) _).setCell (p:=⟨w.heap.size+1,0,none⟩) (by simp) _
 have b:Below w.heap.size W ((set2 W.drew w.heap.size (.int .i64 vc) (.slice Aq nq cc)).setCell ⟨w.heap.size+1,0,none⟩ (.slice A n c)):=(bls2 (Below.refl _ _).drew (Nat.le_refl _) _ _).setCell (p:=⟨w.heap.size+1,0,none⟩) (by simp) _
 have k1':Bk W.drew w.heap.size 43 [.int .i64 0,.slice none 0 0]:=k1
 have k2':Bk W.drew (w.heap.size+1) 46 [.slice none 0 0]:=k2
 refine⟨(heap_setCell_other _ ⟨w.heap.size+1,0,none⟩ w.heap.size _ (fun e=>by simp at e)).trans ((k1'.set 0 _).set 1 _),(k2'.pst (by omega) _ _).set 0 _,⟨q,_,⟨L⟩,_,rfl,(hQ.out O).mono (by omega),(hP.out O).mono (by omega),cu.low hg b,chgS hch b (Nat.le_refl _)⟩⟩
end
theorem sizeQueryT:(Try.prog.info? 43).map (·.size)=some 2:=by kernel_rfl
theorem sizePlanT:(Try.prog.info? 46).map (·.size)=some 1:=by kernel_rfl
set_option maxRecDepth 100000 in
set_option maxHeartbeats 6400000 in
theorem l23Any_c (g:Nat) (w:World) (hc:Cur w g):Calls Try.prog 32 #[.pointer (some ⟨g,0,none⟩)] w (DrawnQP g w):=by
 have hgw:=hc.lt
 obtain⟨w1,hw1⟩:∃ W,W=w.alloc (.cells #[.int .i64 0,.slice none 0 0] 43):=⟨_,rfl⟩
 obtain⟨w2,hw2⟩:∃ W,W=w1.alloc (.cells #[.slice none 0 0] 46):=⟨_,rfl⟩
 have hs1:w1.heap.size=w.heap.size+1:=by rw [hw1];simp
 have hs2:w2.heap.size=w.heap.size+1+1:=by rw [hw2];simp [hs1]
 have b1:Below w.heap.size w w1:=by rw [hw1];exact(Below.refl _ _).alloc (Nat.le_refl _) _
 have b2:Below w1.heap.size w1 w2:=by rw [hw2];exact(Below.refl _ _).alloc (Nat.le_refl _) _
 have bb:=b1.trans (b2.mono b1.size)
 have k1:Bk w2 w.heap.size 43 [.int .i64 0,.slice none 0 0]:=Bk.below (w:=w1) (by rw [hw1];exact Bk.new w _ _) b2
 have k2:Bk w2 (w.heap.size+1) 46 [.slice none 0 0]:=by rw [hw2,<- hs1];exact Bk.new w1 _ _
 have C2:Chg [g] w w2:=Chg.ofBelow bb _
 have cu2:=hc.below bb
 have HS2:=Lib.hid hs2
 clear b1 b2 bb hs1 hs2
 go_enter Try.func32,Try.ntmps32
 go_upto_region 1 with fail
 rw [<- hw1,<- hw2]
 clear hw1 hw2
 go_wp2_with fail
 refine(l7Query_c g _ cu2).mono ?_
 rintro e w3 ⟨q,cs,fq,rfl,oQ,fQ,hv,cu3,ch3⟩
 obtain⟨Aq,nq,cc,_,rfl,rfl,hI,_⟩:=rQuery_own.1 oQ
 have HV:=Lib.hid hv
 clear hv
 obtain⟨gQ,hgQ⟩:∃ z,z=w3.heap.size:=⟨_,rfl⟩
 obtain⟨w4,hw4⟩:∃ W,W=w3.alloc (.cells #[.int .i64 q.fVariableCount,.slice Aq nq cc] 43):=⟨_,rfl⟩
 have b4:Below w3.heap.size w3 w4:=by rw [hw4];exact(Below.refl _ _).alloc (Nat.le_refl _) _
 have hs4:w4.heap.size=gQ+1:=by rw [hw4,hgQ];simp
 have kQ:Bk w4 gQ 43 [.int .i64 q.fVariableCount,.slice Aq nq cc]:=by rw [hw4,hgQ];exact Bk.new w3 _ _
 have hlq:w.heap.size+2<=gQ:=by have:=HS2.out;have:=ch3.size;omega
 have fq1:∀ k∈fq,w.heap.size+2<=k/\k<gQ:=fun k hk=>⟨by have:=HS2.out;have:=fQ.ge k hk;omega,by rw [hgQ];exact(rQuery_ok NB).lt oQ k hk⟩
 have D4:Chg [g] w2 w4:=ch3.trans (Chg.ofBelow b4 _)
 have C4:=C2.trans D4
 have k14:Bk w4 w.heap.size 43 [.int .i64 0,.slice none 0 0]:=(D4.block _ k1.lt (by simp;omega)).trans k1
 have k24:Bk w4 (w.heap.size+1) 46 [.slice none 0 0]:=(D4.block _ k2.lt (by simp;omega)).trans k2
 have oQ4:=(rQuery_ok NB).ownB oQ b4
 have cu4:=cu3.below b4
 have HS4:=Lib.hid hs4
 have HGQ:=Lib.hid hgQ
 have HW4:=Lib.hid hw4
 clear hs4 hgQ hw4 k1 k2 C2 cu2 cu3 ch3 b4 D4 oQ fQ HS2
 go_upto_region 2 with fail
 rw [<- HGQ.out,<- HW4.out]
 clear HGQ HW4
 have mk:∀ (gP:Nat) (A:Option Addr) (n c:Nat) (L:List PlanStepD) (W:World),Chg [g] w4 W->Cur W g->Bk W gP 46 [.slice A n c]->MS (gQ+1) NB 90 (rPlanStep NB) W A n c L->gQ<gP->Ly w g gQ gP q.fVariableCount Aq nq cc q A n c L W:=by
  intro gP A n c L W ch cu kP mP hl
  exact⟨cu,C4.trans ch,(ch.block _ k14.lt (by simp;omega)).trans k14,(ch.block _ k24.lt (by simp;omega)).trans k24,(ch.block _ kQ.lt (by simp;omega)).trans kQ,kP,StS.ofOwn (rQuery_ok NB) (Stb.low (rQuery_ok NB) oQ4 ch (fun z hz=>by have:=fq1 z hz;simp;omega)) (fun k hk=>by have:=fq1 k hk;omega),mP,hlq,hl,hgw⟩
 have HMK:=Lib.hid mk
 clear mk
 have HSS:=Lib.hid (fun (w':World) (h:w'.heap[gQ]?=w4.heap[gQ]?)=>(Bx.b2 (Bk.bx (h.trans kQ:Bk w' gQ 43 [.int .i64 q.fVariableCount,.slice Aq nq cc])):w'.cell? ⟨gQ,0,none⟩=some (.int .i64 q.fVariableCount)/\w'.cell? ⟨gQ,1,none⟩=some (.slice Aq nq cc)))
 have oQd:=Stb.low (rQuery_ok NB) oQ4 (Chg.ofBelow (Below.refl w4.heap.size w4).drew [g]) (fun z hz=>by have:=fq1 z hz;simp;omega)
 have rQ4:=(rQuery_ok NB).toRep oQ4
 have hfm:0<=fullMask q/\fullMask q<16/\1<=fullMask q:=fullMask_rng HV.out
 have HFM:=Lib.hid hfm
 have hql:=kQ.lt
 clear hfm k14 k24 C4
 refine hbg HSS.out rfl (fun hHeld=>?_)
 refine tka 0 8 hHeld ?_;simp only [putS]
 refine tka 1 9 hHeld ?_;simp only [putS]
 refine tka 2 10 hHeld ?_;simp only [putS]
 refine rd2 3 (some 11) 5 (some 5) (fun K hK=>?_) fun K hK=>?_
 all_goals clear hHeld
 focus
  have rd4:=(rQuery_ok NB).keep rQ4 (cells_below (Below.refl w4.heap.size w4).drew)
  go_simp
  refine(sFullMask_c _ q _ rd4).mono ?_
  rintro e wA ⟨rfl,hbA⟩
  have XD:wA.heap[gQ]?=w4.heap[gQ]?:=hbA.block _ hql
  go_wp2_with fail
  refine hK.out _ _ (HSS.out _ XD) (fun hHeld=>?_)
  clear hK K
  try simp only [putS]
  have chA:Chg [g] w4 wA:=(Chg.ofBelow (Below.refl w4.heap.size w4).drew _).trans (Chg.ofBelow hbA _)
  have cuA:=(cu4.below (Below.refl w4.heap.size w4).drew).below hbA
  have oA:=Stb.low (rQuery_ok NB) oQ4 chA (fun z hz=>by have:=fq1 z hz;simp;omega)
  have hsA:=chA.size
  refine rd2 4 (some 12) 5 (some 5) (fun K hK=>?_) fun K hK=>?_
  all_goals clear hHeld
  focus
   go_simp
   refine(l23Plan_c g q HV.out 16 (fullMask q) _ fq _ HFM.out.1 HFM.out.2.1 (by have:=HFM.out.2.1;omega) cuA oA (fun k hk=>by have:=fq1 k hk;omega)).mono ?_
   rintro e wB ⟨p,cs,fp,rfl,oP,fP,lP,cuP,chP⟩
   obtain⟨A,n,c,_,rfl,rfl,oS⟩:=rPlan_own.1 oP
   have XE:wB.heap[gQ]?=w4.heap[gQ]?:=(chP.block _ (by omega) (by simp;omega)).trans XD
   go_wp2_with fail
   refine hK.out _ _ (HSS.out _ XE) (fun hHeld=>?_)
   clear hK K
   try simp only [putS]
   have hsB:=chP.size
   have bN:=(Below.refl wB.heap.size wB).alloc (Nat.le_refl _) (.cells #[.slice none 0 0] 46)
   have bZ:=(Below.refl wB.heap.size wB).alloc (Nat.le_refl _) (.cells #[.slice A n c] 46)
   have kN:=Bk.new wB [.slice none 0 0] 46
   have xN:=kN.bx 0 _ rfl
   have fN:=kN.frozen 0
   have cQ2:(wB.alloc (.cells #[.slice none 0 0] 46)).heap[gQ]?=w4.heap[gQ]?:=(bN.block _ (by omega)).trans XE
   have XF:(wB.alloc (.cells #[.slice A n c] 46)).heap[gQ]?=w4.heap[gQ]?:=(bZ.block _ (by omega)).trans XE
   refine rd 5 (some 5) fun K hK=>?_
   clear hHeld
   go_simp
   refine hK.out _ _ (HSS.out _ cQ2) (fun hHeld=>?_)
   clear hK K
   try simp only [putS]
   refine rd 6 none fun K hK=>?_
   clear hHeld
   go_simp
   refine hK.out _ _ (HSS.out _ XF) (fun hHeld=>?_)
   clear hK K
   try simp only [putS]
   refine wpAnyH_done (by kernel_rfl) ?_ _
   clear hHeld
   have HL:=HMK.out wB.heap.size A n c p.fSteps (wB.alloc (.cells #[.slice A n c] 46)) ((chA.trans chP).trans (Chg.ofBelow bZ _)) (cuP.below bZ) (Bk.new wB _ _) ⟨_,oS.belowS (rPlanStep_ok NB) bZ,fP.mono (by omega)⟩ (by omega)
   obtain⟨gP,hgP⟩:∃ z,z=wB.heap.size:=⟨_,rfl⟩
   obtain⟨w9,hw9⟩:∃ W,W=wB.alloc (.cells #[.slice A n c] 46):=⟨_,rfl⟩
   rw [<- hw9,<- hgP]at HL
   have HGP:=Lib.hid hgP
   have HW9:=Lib.hid hw9
   clear hgP hw9
   go_upto_region 3 with fail
   rw [<- HW9.out,<- HGP.out]
   clear HGP HW9 XD XE XF cQ2 fN xN kN bN bZ hsB hsA oA cuA chA rd4 oP oS fP cuP chP hbA
   refine Hid.out (?_:Hid _)
  rotate_left
  focus
   obtain⟨wN,hwN⟩:∃ W,W=wA.alloc (.cells #[.slice none 0 0] 46):=⟨_,rfl⟩
   have bN:Below wA.heap.size wA wN:=by rw [hwN];exact(Below.refl _ _).alloc (Nat.le_refl _) _
   have kN:Bk wN wA.heap.size 46 [.slice none 0 0]:=by rw [hwN];exact Bk.new wA _ _
   have hsN:wN.heap.size=wA.heap.size+1:=by rw [hwN];simp
   have chN:Chg [g] w4 wN:=chA.trans (Chg.ofBelow bN _)
   have cQ:wN.heap[gQ]?=w4.heap[gQ]?:=chN.block _ hql (by simp;omega)
   have cQ':(wA.alloc (.cells #[.slice none 0 0] 46)).heap[gQ]?=w4.heap[gQ]?:=by rw [<- hwN];exact cQ
   go_simp
   refine hK.out _ _ (HSS.out _ cQ') (fun hHeld=>?_)
   clear hK K
   try simp only [putS]
   rw [<- hwN]
   have oN:=Stb.low (rQuery_ok NB) oQ4 chN (fun z hz=>by have:=fq1 z hz;simp;omega)
   clear hwN cQ'
   refine rd 4 (some 12) fun K hK=>?_
   clear hHeld
   go_simp
   refine(l23Plan_c g q HV.out 16 (fullMask q) _ fq _ HFM.out.1 HFM.out.2.1 (by have:=HFM.out.2.1;omega) (cuA.below bN) oN (fun k hk=>by have:=fq1 k hk;omega)).mono ?_
   rintro e wB ⟨p,cs,fp,rfl,oP,fP,lP,cuP,chP⟩
   obtain⟨A,n,c,_,rfl,rfl,oS⟩:=rPlan_own.1 oP
   have XE:wB.heap[gQ]?=w4.heap[gQ]?:=(chP.block _ (by omega) (by simp;omega)).trans cQ
   go_wp2_with fail
   refine hK.out _ _ (HSS.out _ XE) (fun hHeld=>?_)
   clear hK K
   try simp only [putS]
   have kB:Bk wB wA.heap.size 46 [.slice none 0 0]:=(chP.block _ kN.lt (by simp;omega)).trans kN
   have xB:=kB.bx 0 _ rfl
   have fB:=kB.frozen 0
   have bZ:Below wA.heap.size wB (wB.setCell ⟨wA.heap.size,0,none⟩ (.slice A n c)):=(Below.refl _ _).setCell (p:=⟨wA.heap.size,0,none⟩) (Nat.le_refl _) _
   have XF:(wB.setCell ⟨wA.heap.size,0,none⟩ (.slice A n c)).heap[gQ]?=w4.heap[gQ]?:=(bZ.block _ (by omega)).trans XE
   refine rd 6 none fun K hK=>?_
   clear hHeld
   go_simp
   refine hK.out _ _ (HSS.out _ XF) (fun hHeld=>?_)
   clear hK K
   try simp only [putS]
   refine wpAnyH_done (by kernel_rfl) ?_ _
   clear hHeld
   have m1:MS (gQ+1) NB 90 (rPlanStep NB) wB A n c p.fSteps:=⟨_,oS,fP.mono (by omega)⟩
   have HL:=HMK.out wA.heap.size A n c p.fSteps (wB.setCell ⟨wA.heap.size,0,none⟩ (.slice A n c)) (chgS (chN.trans chP) bZ (by omega)) (cuP.low (by omega) bZ) (kB.set 0 _) (plan_box kB m1 _) (by omega)
   obtain⟨gP,hgP⟩:∃ z,z=wA.heap.size:=⟨_,rfl⟩
   obtain⟨w9,hw9⟩:∃ W,W=wB.setCell ⟨wA.heap.size,0,none⟩ (.slice A n c):=⟨_,rfl⟩
   rw [<- hw9,<- hgP]at HL
   have HGP:=Lib.hid hgP
   have HW9:=Lib.hid hw9
   clear hgP hw9
   go_upto_region 3 with fail
   rw [<- HW9.out,<- HGP.out]
   clear HGP HW9 XD XE XF m1 cQ kB xB fB bZ kN bN hsN chN oN hsA oA cuA chA rd4 oP oS fP cuP chP hbA
   refine Hid.out (?_:Hid _)
 rotate_left
 rotate_left
 focus
  obtain⟨wN,hwN⟩:∃ W,W=(w4.alloc (.cells #[.slice none 0 0] 46)).drew:=⟨_,rfl⟩
  have bN:Below w4.heap.size w4 wN:=by rw [hwN];exact((Below.refl _ _).alloc (Nat.le_refl _) _).drew
  have kN:Bk wN w4.heap.size 46 [.slice none 0 0]:=by rw [hwN];exact Bk.new w4 _ _
  have hsN:wN.heap.size=w4.heap.size+1:=by rw [hwN];simp
  have chN:Chg [g] w4 wN:=Chg.ofBelow bN _
  have cQ:wN.heap[gQ]?=w4.heap[gQ]?:=chN.block _ hql (by simp;omega)
  have cQ':(w4.alloc (.cells #[.slice none 0 0] 46)).drew.heap[gQ]?=w4.heap[gQ]?:=by rw [<- hwN];exact cQ
  go_simp
  refine hK.out _ _ (HSS.out _ cQ') (fun hHeld=>?_)
  clear hK K
  try simp only [putS]
  rw [<- hwN]
  clear hwN cQ'
  have rN:=(rQuery_ok NB).keep rQ4 (cells_below bN)
  refine rd 3 (some 11) fun K hK=>?_
  clear hHeld
  go_simp
  refine(sFullMask_c _ q _ rN).mono ?_
  rintro e wA ⟨rfl,hbA⟩
  have XD:wA.heap[gQ]?=w4.heap[gQ]?:=(hbA.block _ (by omega)).trans cQ
  go_wp2_with fail
  refine hK.out _ _ (HSS.out _ XD) (fun hHeld=>?_)
  clear hK K
  try simp only [putS]
  have chA:Chg [g] w4 wA:=chN.trans (Chg.ofBelow hbA _)
  have cuA:=(cu4.below bN).below hbA
  have oA:=Stb.low (rQuery_ok NB) oQ4 chA (fun z hz=>by have:=fq1 z hz;simp;omega)
  have hsA:=hbA.size
  have kA:=kN.below hbA
  refine rd 4 (some 12) fun K hK=>?_
  clear hHeld
  go_simp
  refine(l23Plan_c g q HV.out 16 (fullMask q) _ fq _ HFM.out.1 HFM.out.2.1 (by have:=HFM.out.2.1;omega) cuA oA (fun k hk=>by have:=fq1 k hk;omega)).mono ?_
  rintro e wB ⟨p,cs,fp,rfl,oP,fP,lP,cuP,chP⟩
  obtain⟨A,n,c,_,rfl,rfl,oS⟩:=rPlan_own.1 oP
  have XE:wB.heap[gQ]?=w4.heap[gQ]?:=(chP.block _ (by omega) (by simp;omega)).trans XD
  go_wp2_with fail
  refine hK.out _ _ (HSS.out _ XE) (fun hHeld=>?_)
  clear hK K
  try simp only [putS]
  have kB:Bk wB w4.heap.size 46 [.slice none 0 0]:=(chP.block _ kA.lt (by simp;omega)).trans kA
  have xB:=kB.bx 0 _ rfl
  have fB:=kB.frozen 0
  have bZ:Below w4.heap.size wB (wB.setCell ⟨w4.heap.size,0,none⟩ (.slice A n c)):=(Below.refl _ _).setCell (p:=⟨w4.heap.size,0,none⟩) (Nat.le_refl _) _
  have XF:(wB.setCell ⟨w4.heap.size,0,none⟩ (.slice A n c)).heap[gQ]?=w4.heap[gQ]?:=(bZ.block _ (by omega)).trans XE
  refine rd 6 none fun K hK=>?_
  clear hHeld
  go_simp
  refine hK.out _ _ (HSS.out _ XF) (fun hHeld=>?_)
  clear hK K
  try simp only [putS]
  refine wpAnyH_done (by kernel_rfl) ?_ _
  clear hHeld
  have m1:MS (gQ+1) NB 90 (rPlanStep NB) wB A n c p.fSteps:=⟨_,oS,fP.mono (by omega)⟩
  have HL:=HMK.out w4.heap.size A n c p.fSteps (wB.setCell ⟨w4.heap.size,0,none⟩ (.slice A n c)) (chgS (chA.trans chP) bZ (by omega)) (cuP.low (by omega) bZ) (kB.set 0 _) (plan_box kB m1 _) (by omega)
  obtain⟨gP,hgP⟩:∃ z,z=w4.heap.size:=⟨_,rfl⟩
  obtain⟨w9,hw9⟩:∃ W,W=wB.setCell ⟨w4.heap.size,0,none⟩ (.slice A n c):=⟨_,rfl⟩
  rw [<- hw9,<- hgP]at HL
  have HGP:=Lib.hid hgP
  have HW9:=Lib.hid hw9
  clear hgP hw9
  go_upto_region 3 with fail
  rw [<- HW9.out,<- HGP.out]
  clear HGP HW9 XD XE XF m1 cQ kA kB xB fB bZ kN bN hsN chN hsA oA cuA chA rN oP oS fP cuP chP hbA
  refine Hid.out (?_:Hid _)
 all_goals
  refine Lib.hid ?_
  clear HMK HSS oQd rQ4 hql kQ fq1 oQ4 cu4
  have hn:=HL.mP.len
  have hl1:=lP.1
  have hl2:=lP.2.1
  have hn1:1<=n:=by omega
  have hn2:n<=60:=by omega
  clear hn hl1 hl2 lP HFM HV
  go_wp2_with fail
  refine(l1Below_c g 12 _ (by omega) HL.cu).mono ?_
  rintro e w10 ⟨x,rfl,⟨x0,_,x1⟩,cu10,ch10⟩
  have H:=HL.step ch10 cu10
  clear HL cu10 ch10 x1
  by_cases e0:x=0
  ·subst e0
   obtain⟨k,rfl⟩:∃ k,n=k+1:=⟨n - 1,by omega⟩
   obtain⟨gb,hA,_,_⟩:=H.mP.form (by omega)
   subst hA
   have a0:=H.kP.bx 0 _ rfl
   have f0:=H.kP.frozen 0
   have hcm:=capOf H.mP
   have hcn:=(H.mP.rs (rPlanStep_ok NB)).nc
   have hw1:IntKind.i64.wrap (((k+1:Nat):Int) - 1)=(k:Int):=by rw [IntWalk.i64_in _ (by omega)];omega
   have HZ:=H.cut (k:=k) (Nat.le_succ _)
   obtain⟨wz,hwz⟩:∃ W,W=w10.setCell ⟨gP,0,none⟩ (.slice (some ⟨gb,0,none⟩) k c):=⟨_,rfl⟩
   rw [<- hwz]at HZ
   go_upto_region 14 with fail
   rw [<- hwz]
   clear hwz a0 f0 hcm hcn hw1 H
   have HSZ:=HZ.hs
   have ⟨y0,f0,y1,f1⟩:=HZ.k1.r2
   have y2:=HZ.k2.bx 0 _ rfl
   have f2:=HZ.k2.frozen 0
   obtain⟨bQ,bP,hD⟩:=HZ.end
   have hqq:w.heap.size≠gQ/\w.heap.size+1≠gQ/\w.heap.size≠gP/\w.heap.size+1≠gP:=by have:=HZ.lq;have:=HZ.lp;omega
   clear HZ
   refine hbg HSZ.out ⟨rfl,rfl⟩ (fun hHeld=>?_)
   refine tka 0 65 hHeld ?_;simp only [putS]
   refine tka 1 66 hHeld ?_;simp only [putS]
   have XS:=HSZ
   refine rd 2 none fun K hK=>?_
   clear hHeld
   go_simp
   refine hK.out _ _ (HSZ.out _ (⟨(heap_setCell_other _ _ gQ _ (fun e=>hqq.1 e.symm)).trans (heap_setCell_other _ _ gQ _ (fun e=>hqq.1 e.symm)),(heap_setCell_other _ _ gP _ (fun e=>hqq.2.2.1 e.symm)).trans (heap_setCell_other _ _ gP _ (fun e=>hqq.2.2.1 e.symm))⟩)) (fun hHeld=>?_)
   clear hK K
   try simp only [putS]
   refine rd 3 none fun K hK=>?_
   clear hHeld
   go_simp
   refine hK.out _ _ (HSZ.out _ (⟨(heap_setCell_other _ _ gQ _ (fun e=>hqq.2.1 e.symm)).trans ((heap_setCell_other _ _ gQ _ (fun e=>hqq.1 e.symm)).trans (heap_setCell_other _ _ gQ _ (fun e=>hqq.1 e.symm))),(heap_setCell_other _ _ gP _ (fun e=>hqq.2.2.2 e.symm)).trans ((heap_setCell_other _ _ gP _ (fun e=>hqq.2.2.1 e.symm)).trans (heap_setCell_other _ _ gP _ (fun e=>hqq.2.2.1 e.symm)))⟩)) (fun hHeld=>?_)
   clear hK K
   try simp only [putS]
   refine wpAnyH_done (by kernel_rfl) ?_ _
   clear hHeld
   go_wp2
   refine bodyPost_ret (results_cc Try.results32 (RC.mk' rfl bQ.rangeAt Try.underlying43 rfl sizeQueryT) (RC.mk' rfl bP.rangeAt Try.underlying46 rfl sizePlanT)) rfl ?_
   exact hD
  by_cases e1:x=1
  ·subst e1
   have h0:0<=n:=Nat.zero_le _
   have HSP:=H.hs
   have hP:=H.kP.lt
   obtain⟨gb,hA,hgl,_⟩:=H.mP.form (by omega)
   have hne:=H.ne hA
   subst hA
   have cuD:=H.cu.below (Below.refl _ _).drew
   go_upto_region 7 with fail
   refine hbg HSP.out rfl (fun hHeld=>?_)
   refine tka 0 27 hHeld ?_;simp only [putS]
   refine tka 1 28 hHeld ?_;simp only [putS]
   refine tka 2 29 hHeld ?_;simp only [putS]
   refine tka 3 30 hHeld ?_;simp only [putS]
   refine tka 4 31 hHeld ?_;simp only [putS]
   refine tka 5 32 hHeld ?_;simp only [putS]
   refine tka 7 34 hHeld ?_;simp only [putS]
   refine rd 6 (some 33) fun K hK=>?_
   clear hHeld
   go_simp
   refine(l1Below_c g (n:Int) _ (by omega) cuD).mono ?_
   rintro e wA ⟨y,rfl,⟨y0,_,y1⟩,cuA,chA⟩
   have HA:=H.step ((Chg.ofBelow (Below.refl _ _).drew _).trans chA) cuA
   have XA:wA.heap[gP]?=w10.heap[gP]?:=chA.block _ hP (by have:=H.lp;have:=H.lq;have:=H.hg;simp;omega)
   go_wp2_with fail
   refine hK.out _ _ (HSP.out _ XA) (fun hHeld=>?_)
   clear hK K
   try simp only [putS]
   refine rd 8 (some 35) fun K hK=>?_
   clear hHeld
   go_simp
   refine(l1Below_c g 7 _ (by omega) cuA).mono ?_
   rintro e wB ⟨z,rfl,⟨z0,_,z1⟩,cuB,chB⟩
   have HB:=HA.step chB cuB
   have XB:wB.heap[gP]?=w10.heap[gP]?:=(chB.block _ HA.kP.lt (by have:=H.lp;have:=H.lq;have:=H.hg;simp;omega)).trans XA
   go_wp2_with fail
   refine hK.out _ _ (HSP.out _ XB) (fun hHeld=>?_)
   clear hK K
   try simp only [putS]
   obtain⟨y,rfl⟩:∃ j:Nat,y=j:=⟨y.toNat,by omega⟩
   have hyn:y<n:=by have:=y1 (by omega);omega
   have hyi:(y:Int)<n:=by omega
   have hz7:=z1 (by omega)
   obtain⟨u,hu⟩:=HB.mP.hasCell (j:=y*3) (by show y*3<n*3;omega)
   have fu:=HB.mP.frozen (y*3)
   obtain⟨L2,HC⟩:=HB.put rfl hyn (j:=0) (by omega) (v:=z) (by unfold I64;omega)
   rw [Nat.add_zero]at HC
   have XC:(wB.setCell ⟨gb,y*3,none⟩ (.int .i64 (z))).heap[gP]?=w10.heap[gP]?:=(heap_setCell_other _ ⟨gb,y*3,none⟩ gP _ (fun e=>hne.2 e.symm)).trans XB
   refine rd 9 (some 36) fun K hK=>?_
   clear hHeld
   go_simp
   refine hK.out _ _ (HSP.out _ XB) (fun hHeld=>?_)
   clear hK K
   try simp only [putS]
   refine tka 10 37 hHeld ?_;simp only [putS]
   refine rd 11 none fun K hK=>?_
   clear hHeld
   go_simp
   refine hK.out _ _ (HSP.out _ XC) (fun hHeld=>?_)
   clear hK K
   try simp only [putS]
   refine wpAnyH_done (by kernel_rfl) ?_ _
   clear hHeld
   obtain⟨wz,hwz⟩:∃ W,W=wB.setCell ⟨gb,y*3,none⟩ (.int .i64 (z)):=⟨_,rfl⟩
   rw [<- hwz]at HC
   have HZ:=HC.fin
   go_upto_region 14 with fail
   rw [<- hwz]
   clear hwz HC HB HA H XA XB XC hu fu
   have HSZ:=HZ.hs
   have ⟨y0,f0,y1,f1⟩:=HZ.k1.r2
   have y2:=HZ.k2.bx 0 _ rfl
   have f2:=HZ.k2.frozen 0
   obtain⟨bQ,bP,hD⟩:=HZ.end
   have hqq:w.heap.size≠gQ/\w.heap.size+1≠gQ/\w.heap.size≠gP/\w.heap.size+1≠gP:=by have:=HZ.lq;have:=HZ.lp;omega
   clear HZ
   refine hbg HSZ.out ⟨rfl,rfl⟩ (fun hHeld=>?_)
   refine tka 0 65 hHeld ?_;simp only [putS]
   refine tka 1 66 hHeld ?_;simp only [putS]
   have XS:=HSZ
   refine rd 2 none fun K hK=>?_
   clear hHeld
   go_simp
   refine hK.out _ _ (HSZ.out _ (⟨(heap_setCell_other _ _ gQ _ (fun e=>hqq.1 e.symm)).trans (heap_setCell_other _ _ gQ _ (fun e=>hqq.1 e.symm)),(heap_setCell_other _ _ gP _ (fun e=>hqq.2.2.1 e.symm)).trans (heap_setCell_other _ _ gP _ (fun e=>hqq.2.2.1 e.symm))⟩)) (fun hHeld=>?_)
   clear hK K
   try simp only [putS]
   refine rd 3 none fun K hK=>?_
   clear hHeld
   go_simp
   refine hK.out _ _ (HSZ.out _ (⟨(heap_setCell_other _ _ gQ _ (fun e=>hqq.2.1 e.symm)).trans ((heap_setCell_other _ _ gQ _ (fun e=>hqq.1 e.symm)).trans (heap_setCell_other _ _ gQ _ (fun e=>hqq.1 e.symm))),(heap_setCell_other _ _ gP _ (fun e=>hqq.2.2.2 e.symm)).trans ((heap_setCell_other _ _ gP _ (fun e=>hqq.2.2.1 e.symm)).trans (heap_setCell_other _ _ gP _ (fun e=>hqq.2.2.1 e.symm)))⟩)) (fun hHeld=>?_)
   clear hK K
   try simp only [putS]
   refine wpAnyH_done (by kernel_rfl) ?_ _
   clear hHeld
   go_wp2
   refine bodyPost_ret (results_cc Try.results32 (RC.mk' rfl bQ.rangeAt Try.underlying43 rfl sizeQueryT) (RC.mk' rfl bP.rangeAt Try.underlying46 rfl sizePlanT)) rfl ?_
   exact hD
  by_cases e2:x=2
  ·subst e2
   have h0:0<=n:=Nat.zero_le _
   have HSP:=H.hs
   have hP:=H.kP.lt
   obtain⟨gb,hA,hgl,_⟩:=H.mP.form (by omega)
   have hne:=H.ne hA
   subst hA
   have cuD:=H.cu.below (Below.refl _ _).drew
   go_upto_region 9 with fail
   refine hbg HSP.out rfl (fun hHeld=>?_)
   refine tka 0 40 hHeld ?_;simp only [putS]
   refine tka 1 41 hHeld ?_;simp only [putS]
   refine tka 2 42 hHeld ?_;simp only [putS]
   refine tka 3 43 hHeld ?_;simp only [putS]
   refine tka 4 44 hHeld ?_;simp only [putS]
   refine tka 5 45 hHeld ?_;simp only [putS]
   refine tka 7 47 hHeld ?_;simp only [putS]
   refine rd 6 (some 46) fun K hK=>?_
   clear hHeld
   go_simp
   refine(l1Below_c g (n:Int) _ (by omega) cuD).mono ?_
   rintro e wA ⟨y,rfl,⟨y0,_,y1⟩,cuA,chA⟩
   have HA:=H.step ((Chg.ofBelow (Below.refl _ _).drew _).trans chA) cuA
   have XA:wA.heap[gP]?=w10.heap[gP]?:=chA.block _ hP (by have:=H.lp;have:=H.lq;have:=H.hg;simp;omega)
   go_wp2_with fail
   refine hK.out _ _ (HSP.out _ XA) (fun hHeld=>?_)
   clear hK K
   try simp only [putS]
   refine rd 8 (some 48) fun K hK=>?_
   clear hHeld
   go_simp
   refine(l1Below_c g 5 _ (by omega) cuA).mono ?_
   rintro e wB ⟨z,rfl,⟨z0,_,z1⟩,cuB,chB⟩
   have HB:=HA.step chB cuB
   have XB:wB.heap[gP]?=w10.heap[gP]?:=(chB.block _ HA.kP.lt (by have:=H.lp;have:=H.lq;have:=H.hg;simp;omega)).trans XA
   go_wp2_with fail
   refine hK.out _ _ (HSP.out _ XB) (fun hHeld=>?_)
   clear hK K
   try simp only [putS]
   obtain⟨y,rfl⟩:∃ j:Nat,y=j:=⟨y.toNat,by omega⟩
   have hyn:y<n:=by have:=y1 (by omega);omega
   have hyi:(y:Int)<n:=by omega
   have hz7:=z1 (by omega)
   have hw1:IntKind.i64.wrap (z - 1)=z - 1:=IntWalk.i64_in _ (by omega)
   obtain⟨u,hu⟩:=HB.mP.hasCell (j:=y*3+2) (by show y*3+2<n*3;omega)
   have fu:=HB.mP.frozen (y*3+2)
   obtain⟨L2,HC⟩:=HB.put rfl hyn (j:=2) (by omega) (v:=z - 1) (by unfold I64;omega)
   have XC:(wB.setCell ⟨gb,y*3+2,none⟩ (.int .i64 (z - 1))).heap[gP]?=w10.heap[gP]?:=(heap_setCell_other _ ⟨gb,y*3+2,none⟩ gP _ (fun e=>hne.2 e.symm)).trans XB
   refine tka 9 49 hHeld ?_;simp only [putS]
   refine rd 10 (some 50) fun K hK=>?_
   clear hHeld
   go_simp
   refine hK.out _ _ (HSP.out _ XB) (fun hHeld=>?_)
   clear hK K
   try simp only [putS]
   refine tka 11 51 hHeld ?_;simp only [putS]
   refine rd 12 none fun K hK=>?_
   clear hHeld
   go_simp
   refine hK.out _ _ (HSP.out _ XC) (fun hHeld=>?_)
   clear hK K
   try simp only [putS]
   refine wpAnyH_done (by kernel_rfl) ?_ _
   clear hHeld
   obtain⟨wz,hwz⟩:∃ W,W=wB.setCell ⟨gb,y*3+2,none⟩ (.int .i64 (z - 1)):=⟨_,rfl⟩
   rw [<- hwz]at HC
   have HZ:=HC.fin
   go_upto_region 14 with fail
   rw [<- hwz]
   clear hwz HC HB HA H XA XB XC hu fu
   have HSZ:=HZ.hs
   have ⟨y0,f0,y1,f1⟩:=HZ.k1.r2
   have y2:=HZ.k2.bx 0 _ rfl
   have f2:=HZ.k2.frozen 0
   obtain⟨bQ,bP,hD⟩:=HZ.end
   have hqq:w.heap.size≠gQ/\w.heap.size+1≠gQ/\w.heap.size≠gP/\w.heap.size+1≠gP:=by have:=HZ.lq;have:=HZ.lp;omega
   clear HZ
   refine hbg HSZ.out ⟨rfl,rfl⟩ (fun hHeld=>?_)
   refine tka 0 65 hHeld ?_;simp only [putS]
   refine tka 1 66 hHeld ?_;simp only [putS]
   have XS:=HSZ
   refine rd 2 none fun K hK=>?_
   clear hHeld
   go_simp
   refine hK.out _ _ (HSZ.out _ (⟨(heap_setCell_other _ _ gQ _ (fun e=>hqq.1 e.symm)).trans (heap_setCell_other _ _ gQ _ (fun e=>hqq.1 e.symm)),(heap_setCell_other _ _ gP _ (fun e=>hqq.2.2.1 e.symm)).trans (heap_setCell_other _ _ gP _ (fun e=>hqq.2.2.1 e.symm))⟩)) (fun hHeld=>?_)
   clear hK K
   try simp only [putS]
   refine rd 3 none fun K hK=>?_
   clear hHeld
   go_simp
   refine hK.out _ _ (HSZ.out _ (⟨(heap_setCell_other _ _ gQ _ (fun e=>hqq.2.1 e.symm)).trans ((heap_setCell_other _ _ gQ _ (fun e=>hqq.1 e.symm)).trans (heap_setCell_other _ _ gQ _ (fun e=>hqq.1 e.symm))),(heap_setCell_other _ _ gP _ (fun e=>hqq.2.2.2 e.symm)).trans ((heap_setCell_other _ _ gP _ (fun e=>hqq.2.2.1 e.symm)).trans (heap_setCell_other _ _ gP _ (fun e=>hqq.2.2.1 e.symm)))⟩)) (fun hHeld=>?_)
   clear hK K
   try simp only [putS]
   refine wpAnyH_done (by kernel_rfl) ?_ _
   clear hHeld
   go_wp2
   refine bodyPost_ret (results_cc Try.results32 (RC.mk' rfl bQ.rangeAt Try.underlying43 rfl sizeQueryT) (RC.mk' rfl bP.rangeAt Try.underlying46 rfl sizePlanT)) rfl ?_
   exact hD
  by_cases e3:x=3
  ·subst e3
   have HSP:=H.hs
   have hP:=H.kP.lt
   obtain⟨gb,hA,hgl,_⟩:=H.mP.form (by omega)
   have hne:=H.ne hA
   subst hA
   have cuD:=H.cu.below (Below.refl _ _).drew
   have hgP:g≠gP:=by have:=H.lp;have:=H.lq;have:=H.hg;omega
   go_upto_region 11 with fail
   refine hbg HSP.out rfl (fun hHeld=>?_)
   refine tka 0 54 hHeld ?_;simp only [putS]
   refine tka 1 55 hHeld ?_;simp only [putS]
   refine tka 2 56 hHeld ?_;simp only [putS]
   obtain⟨wN,hwN⟩:∃ W,W=(w10.alloc (.cells #[.int .i64 (-1),.int .i64 4,.int .i64 1] 3)).drew:=⟨_,rfl⟩
   have bN:Below w10.heap.size w10 wN:=by rw [hwN];exact((Below.refl _ _).alloc (Nat.le_refl _) _).drew
   have rN:RS NB rInt wN (some ⟨w10.heap.size,0,none⟩) 3 3 [-1,4,1]:=by rw [hwN];exact RS.lit w10.drew [-1,4,1] 3 (by simp) (by simp [I64])
   have HN:=H.step (Chg.ofBelow bN [g]) (H.cu.below bN)
   have XN:wN.heap[gP]?=w10.heap[gP]?:=bN.block _ hP
   have XN':(w10.alloc (.cells #[.int .i64 (-1),.int .i64 4,.int .i64 1] 3)).drew.heap[gP]?=w10.heap[gP]?:=by rw [<- hwN];exact XN
   refine rd 3 (some 57) fun K hK=>?_
   clear hHeld
   go_simp
   refine hK.out _ _ (HSP.out _ XN') (fun hHeld=>?_)
   clear hK K
   try simp only [putS]
   rw [<- hwN]
   clear hwN XN'
   refine rd 4 (some 58) fun K hK=>?_
   clear hHeld
   go_simp
   refine(l1PickInt_c g _ 3 3 [-1,4,1] _ rN (fun k hk=>by have:=H.cu.lt;simp [blk]at hk;omega) (by omega) HN.cu).mono ?_
   rintro e wB ⟨z,rfl,hz,cuB,chB⟩
   have HB:=HN.step chB cuB
   have XA:wB.heap[gP]?=w10.heap[gP]?:=(chB.block _ HN.kP.lt (by simp;omega)).trans XN
   go_wp2_with fail
   refine hK.out _ _ (HSP.out _ XA) (fun hHeld=>?_)
   clear hK K
   try simp only [putS]
   have hzI:I64 z:=by simp at hz;unfold I64;omega
   have hni:0<n:=by omega
   obtain⟨u,hu⟩:=HB.mP.hasCell (j:=1) (by show 1<n*3;omega)
   have fu:=HB.mP.frozen 1
   obtain⟨L2,HC⟩:=HB.put rfl (k:=0) (by omega) (j:=1) (by omega) (v:=z) hzI
   rw [Nat.zero_mul,Nat.zero_add]at HC
   have XC:(wB.setCell ⟨gb,1,none⟩ (.int .i64 z)).heap[gP]?=w10.heap[gP]?:=(heap_setCell_other _ ⟨gb,1,none⟩ gP _ (fun e=>hne.2 e.symm)).trans XA
   refine rd 5 (some 59) fun K hK=>?_
   clear hHeld
   go_simp
   refine hK.out _ _ (HSP.out _ XA) (fun hHeld=>?_)
   clear hK K
   try simp only [putS]
   refine tka 6 60 hHeld ?_;simp only [putS]
   refine rd 7 none fun K hK=>?_
   clear hHeld
   go_simp
   refine hK.out _ _ (HSP.out _ XC) (fun hHeld=>?_)
   clear hK K
   try simp only [putS]
   refine wpAnyH_done (by kernel_rfl) ?_ _
   clear hHeld
   obtain⟨wz,hwz⟩:∃ W,W=wB.setCell ⟨gb,1,none⟩ (.int .i64 z):=⟨_,rfl⟩
   rw [<- hwz]at HC
   have HZ:=HC.fin
   go_upto_region 14 with fail
   rw [<- hwz]
   clear hwz HC HB HN H XA XC hu fu XN bN rN
   have HSZ:=HZ.hs
   have ⟨y0,f0,y1,f1⟩:=HZ.k1.r2
   have y2:=HZ.k2.bx 0 _ rfl
   have f2:=HZ.k2.frozen 0
   obtain⟨bQ,bP,hD⟩:=HZ.end
   have hqq:w.heap.size≠gQ/\w.heap.size+1≠gQ/\w.heap.size≠gP/\w.heap.size+1≠gP:=by have:=HZ.lq;have:=HZ.lp;omega
   clear HZ
   refine hbg HSZ.out ⟨rfl,rfl⟩ (fun hHeld=>?_)
   refine tka 0 65 hHeld ?_;simp only [putS]
   refine tka 1 66 hHeld ?_;simp only [putS]
   have XS:=HSZ
   refine rd 2 none fun K hK=>?_
   clear hHeld
   go_simp
   refine hK.out _ _ (HSZ.out _ (⟨(heap_setCell_other _ _ gQ _ (fun e=>hqq.1 e.symm)).trans (heap_setCell_other _ _ gQ _ (fun e=>hqq.1 e.symm)),(heap_setCell_other _ _ gP _ (fun e=>hqq.2.2.1 e.symm)).trans (heap_setCell_other _ _ gP _ (fun e=>hqq.2.2.1 e.symm))⟩)) (fun hHeld=>?_)
   clear hK K
   try simp only [putS]
   refine rd 3 none fun K hK=>?_
   clear hHeld
   go_simp
   refine hK.out _ _ (HSZ.out _ (⟨(heap_setCell_other _ _ gQ _ (fun e=>hqq.2.1 e.symm)).trans ((heap_setCell_other _ _ gQ _ (fun e=>hqq.1 e.symm)).trans (heap_setCell_other _ _ gQ _ (fun e=>hqq.1 e.symm))),(heap_setCell_other _ _ gP _ (fun e=>hqq.2.2.2 e.symm)).trans ((heap_setCell_other _ _ gP _ (fun e=>hqq.2.2.1 e.symm)).trans (heap_setCell_other _ _ gP _ (fun e=>hqq.2.2.1 e.symm)))⟩)) (fun hHeld=>?_)
   clear hK K
   try simp only [putS]
   refine wpAnyH_done (by kernel_rfl) ?_ _
   clear hHeld
   go_wp2
   refine bodyPost_ret (results_cc Try.results32 (RC.mk' rfl bQ.rangeAt Try.underlying43 rfl sizeQueryT) (RC.mk' rfl bP.rangeAt Try.underlying46 rfl sizePlanT)) rfl ?_
   exact hD
  by_cases e4:x=4
  ·subst e4
   have q0:=H.kQ.bx 0 _ rfl
   go_wp2_with fail
   refine(l7Any_c g _ H.cu).mono ?_
   rintro e w11 ⟨q2,cs2,rfl,SQ,cu11,ch11⟩
   obtain⟨vc2,A2,n2,c2,rfl⟩:=repQu SQ.rep
   have HA:=H.step ch11 cu11
   have HZ:=HA.other SQ H.kQ.lt
   have ⟨y0,f0,y1,f1⟩:=HA.kQ.r2
   go_upto_region 14 with fail
   obtain⟨wz,hwz⟩:∃ W,W=(w11.setCell ⟨gQ,0,none⟩ (.int .i64 vc2)).setCell ⟨gQ,1,none⟩ (.slice A2 n2 c2):=⟨_,rfl⟩
   have HZ':Lz w g gQ gP vc2 A2 n2 c2 q2 A n c p.fSteps wz:=by rw [hwz];exact HZ
   rw [<- hwz]
   clear hwz y0 f0 y1 f1 HA H SQ q0 HZ
   have HZ:=HZ'
   clear HZ'
   have HSZ:=HZ.hs
   have ⟨y0,f0,y1,f1⟩:=HZ.k1.r2
   have y2:=HZ.k2.bx 0 _ rfl
   have f2:=HZ.k2.frozen 0
   obtain⟨bQ,bP,hD⟩:=HZ.end
   have hqq:w.heap.size≠gQ/\w.heap.size+1≠gQ/\w.heap.size≠gP/\w.heap.size+1≠gP:=by have:=HZ.lq;have:=HZ.lp;omega
   clear HZ
   refine hbg HSZ.out ⟨rfl,rfl⟩ (fun hHeld=>?_)
   refine tka 0 65 hHeld ?_;simp only [putS]
   refine tka 1 66 hHeld ?_;simp only [putS]
   have XS:=HSZ
   refine rd 2 none fun K hK=>?_
   clear hHeld
   go_simp
   refine hK.out _ _ (HSZ.out _ (⟨(heap_setCell_other _ _ gQ _ (fun e=>hqq.1 e.symm)).trans (heap_setCell_other _ _ gQ _ (fun e=>hqq.1 e.symm)),(heap_setCell_other _ _ gP _ (fun e=>hqq.2.2.1 e.symm)).trans (heap_setCell_other _ _ gP _ (fun e=>hqq.2.2.1 e.symm))⟩)) (fun hHeld=>?_)
   clear hK K
   try simp only [putS]
   refine rd 3 none fun K hK=>?_
   clear hHeld
   go_simp
   refine hK.out _ _ (HSZ.out _ (⟨(heap_setCell_other _ _ gQ _ (fun e=>hqq.2.1 e.symm)).trans ((heap_setCell_other _ _ gQ _ (fun e=>hqq.1 e.symm)).trans (heap_setCell_other _ _ gQ _ (fun e=>hqq.1 e.symm))),(heap_setCell_other _ _ gP _ (fun e=>hqq.2.2.2 e.symm)).trans ((heap_setCell_other _ _ gP _ (fun e=>hqq.2.2.1 e.symm)).trans (heap_setCell_other _ _ gP _ (fun e=>hqq.2.2.1 e.symm)))⟩)) (fun hHeld=>?_)
   clear hK K
   try simp only [putS]
   refine wpAnyH_done (by kernel_rfl) ?_ _
   clear hHeld
   go_wp2
   refine bodyPost_ret (results_cc Try.results32 (RC.mk' rfl bQ.rangeAt Try.underlying43 rfl sizeQueryT) (RC.mk' rfl bP.rangeAt Try.underlying46 rfl sizePlanT)) rfl ?_
   exact hD
  have HZ:=H.fin
  go_upto_region 14 with fail
  obtain⟨wz,rfl⟩:∃ z,z=w10:=⟨_,rfl⟩
  clear H
  have HSZ:=HZ.hs
  have ⟨y0,f0,y1,f1⟩:=HZ.k1.r2
  have y2:=HZ.k2.bx 0 _ rfl
  have f2:=HZ.k2.frozen 0
  obtain⟨bQ,bP,hD⟩:=HZ.end
  have hqq:w.heap.size≠gQ/\w.heap.size+1≠gQ/\w.heap.size≠gP/\w.heap.size+1≠gP:=by have:=HZ.lq;have:=HZ.lp;omega
  clear HZ
  refine hbg HSZ.out ⟨rfl,rfl⟩ (fun hHeld=>?_)
  refine tka 0 65 hHeld ?_;simp only [putS]
  refine tka 1 66 hHeld ?_;simp only [putS]
  have XS:=HSZ
  refine rd 2 none fun K hK=>?_
  clear hHeld
  go_simp
  refine hK.out _ _ (HSZ.out _ (⟨(heap_setCell_other _ _ gQ _ (fun e=>hqq.1 e.symm)).trans (heap_setCell_other _ _ gQ _ (fun e=>hqq.1 e.symm)),(heap_setCell_other _ _ gP _ (fun e=>hqq.2.2.1 e.symm)).trans (heap_setCell_other _ _ gP _ (fun e=>hqq.2.2.1 e.symm))⟩)) (fun hHeld=>?_)
  clear hK K
  try simp only [putS]
  refine rd 3 none fun K hK=>?_
  clear hHeld
  go_simp
  refine hK.out _ _ (HSZ.out _ (⟨(heap_setCell_other _ _ gQ _ (fun e=>hqq.2.1 e.symm)).trans ((heap_setCell_other _ _ gQ _ (fun e=>hqq.1 e.symm)).trans (heap_setCell_other _ _ gQ _ (fun e=>hqq.1 e.symm))),(heap_setCell_other _ _ gP _ (fun e=>hqq.2.2.2 e.symm)).trans ((heap_setCell_other _ _ gP _ (fun e=>hqq.2.2.1 e.symm)).trans (heap_setCell_other _ _ gP _ (fun e=>hqq.2.2.1 e.symm)))⟩)) (fun hHeld=>?_)
  clear hK K
  try simp only [putS]
  refine wpAnyH_done (by kernel_rfl) ?_ _
  clear hHeld
  go_wp2
  refine bodyPost_ret (results_cc Try.results32 (RC.mk' rfl bQ.rangeAt Try.underlying43 rfl sizeQueryT) (RC.mk' rfl bP.rangeAt Try.underlying46 rfl sizePlanT)) rfl ?_
  exact hD
end Go.Proofs.Ytjckbnmbhgikjaa
