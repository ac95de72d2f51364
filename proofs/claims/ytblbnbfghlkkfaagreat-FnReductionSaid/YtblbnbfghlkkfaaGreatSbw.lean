/-
  Sbw
-/
import Derived.Test.YtblbnbfghlkkfaaGreatBsp
import Derived.Test.YtblbnbfghlkkfaaGreatCur
import Derived.Test.YtblbnbfghlkkfaaGreatUpd
import Derived.Test.YtblbnbfghlkkfaaGreatTbs
import Derived.Test.YtblbnbfghlkkfaaGreatMid
namespace Go.Proofs.YtblbnbfghlkkfaaGreat
open Go.RowKit
set_option linter.unusedVariables false
set_option linter.unusedSimpArgs false
theorem stp_nt {t:TypeId}:(rPlanStep NB).NT t:=rIso_nt (rPair_nt rInt_nt (rPair_nt rInt_nt rInt_nt)) _
theorem plan_nt {t:TypeId}(h:(140:TypeId)≠t):(rPlan NB).NT t:=rIso_nt (rSlice_nt stp_nt h) _
theorem neSI:(140:TypeId)≠3:=by decide
theorem nePI:(73:TypeId)≠3:=by decide
/-- the row's own block, in the heap -/
theorem OS.blkAt {α:Type}{r:Rp α}{M:Nat}{e:TypeId}{w:World}{fp:List Nat}{A:Option Addr}{n cap:Nat}{l:List α}(o:OS M e r w fp A n cap l):∀ k∈blk A,∃ cur,w.heap[k]?=some (.cells cur e (0,0)):=by
 obtain⟨css,fps,h3,rfl,h4⟩:=o.ex
 intro k hk
 rcases h3.2 with ⟨h1,_⟩|⟨g,c,cur,h1,_,hg,_⟩
 ·injection h1 with h1;subst h1;cases hk
 ·injection h1 with h1;subst h1
  simp [blk]at hk;subst hk
  exact⟨_,hg⟩
theorem OS.blkIn {α:Type}{r:Rp α}{M:Nat}{e:TypeId}{w:World}{fp:List Nat}{A:Option Addr}{n cap:Nat}{l:List α}(o:OS M e r w fp A n cap l):∀ k∈blk A,k∈fp:=by
 obtain⟨css,fps,h3,rfl,h4⟩:=o.ex
 exact fun k hk=>List.mem_append_left _ hk
section
variable {w:World} {g:Nat} {t:TypeId} {x0 x1 x2 x3 x4:Value}
theorem Bk.r5 (h:Bk w g t [x0,x1,x2,x3,x4]):w.cell? ⟨g,0,none⟩=some x0/\w.frozen? ⟨g,0,none⟩=false/\w.cell? ⟨g,1,none⟩=some x1/\w.frozen? ⟨g,1,none⟩=false/\w.cell? ⟨g,2,none⟩=some x2/\w.frozen? ⟨g,2,none⟩=false/\w.cell? ⟨g,3,none⟩=some x3/\w.frozen? ⟨g,3,none⟩=false/\w.cell? ⟨g,4,none⟩=some x4/\w.frozen? ⟨g,4,none⟩=false :=
 ⟨h.bx 0 _ rfl,h.frozen 0,h.bx 1 _ rfl,h.frozen 1,h.bx 2 _ rfl,h.frozen 2,h.bx 3 _ rfl,h.frozen 3,h.bx 4 _ rfl,h.frozen 4⟩
abbrev set5 (w:World) (g:Nat) (a b c d e:Value):World:=((((w.setCell ⟨g,0,none⟩ a).setCell ⟨g,1,none⟩ b).setCell ⟨g,2,none⟩ c).setCell ⟨g,3,none⟩ d).setCell ⟨g,4,none⟩ e
theorem Bk.set5 (h:Bk w g t [x0,x1,x2,x3,x4]) (a b c d e:Value):Bk (set5 w g a b c d e) g t [a,b,c,d,e]:=((((h.set 0 _).set 1 _).set 2 _).set 3 _).set 4 _
theorem bls5 {B:Nat}{v:World}(h:Below B v w) (hg:B<=g) (a b c d e:Value):Below B v (set5 w g a b c d e):=((((h.setCell (p:=⟨g,0,none⟩) hg _).setCell (p:=⟨g,1,none⟩) hg _).setCell (p:=⟨g,2,none⟩) hg _).setCell (p:=⟨g,3,none⟩) hg _).setCell (p:=⟨g,4,none⟩) hg _
theorem set5_ne {k:Nat}(hk:k≠g) (a b c d e:Value):(set5 w g a b c d e).heap[k]?=w.heap[k]? :=
 ((((heap_setCell_other _ ⟨g,4,none⟩ k _ (fun e=>hk e)).trans (heap_setCell_other _ ⟨g,3,none⟩ k _ (fun e=>hk e))).trans (heap_setCell_other _ ⟨g,2,none⟩ k _ (fun e=>hk e))).trans (heap_setCell_other _ ⟨g,1,none⟩ k _ (fun e=>hk e))).trans (heap_setCell_other _ ⟨g,0,none⟩ k _ (fun e=>hk e))
end
theorem sizeSpaceT:(Tryz.prog.info? 37).map (·.size)=some 5:=by kernel_rfl
/-- the space so far: s in its box gS, its box a copy of b -/
structure Sb (w wZ:World) (gS:Nat) (s:SpaceD) (AL:Option Addr) (nL cL:Nat) (AH:Option Addr) (nH cH:Nat) (AC:Option Addr) (nC cC:Nat) (AK:Option Addr) (nK cK:Nat) (AP:Option Addr) (nP cP:Nat) (W:World):Prop where
 kS:Bk W gS 37 [.slice AL nL cL,.slice AH nH cH,.slice AC nC cC,.slice AK nK cK,.slice AP nP cP]
 oB:∃ fb,(rBox NB).own W fb [.slice AL nL cL,.slice AH nH cH] s.fBox/\Fr w.heap.size fb/\∀ k∈fb,k<gS
 mC:MS wZ.heap.size NB 3 rInt W AC nC cC s.fCosts
 mK:MS wZ.heap.size NB 3 rInt W AK nK cK s.fChoices
 mP:MS wZ.heap.size NB 73 (rPlan NB) W AP nP cP s.fPlans
 ne:∀ k∈blk AC,k∉blk AK
 be:Below w.heap.size w W
 gs:w.heap.size<=gS/\gS<wZ.heap.size
 os:OutS (fun z=>z=gS) wZ W
section
variable {w wZ W W1 W2:World} {gS:Nat} {s:SpaceD} {AL:Option Addr} {nL cL:Nat} {AH:Option Addr} {nH cH:Nat} {AC:Option Addr} {nC cC:Nat} {AK:Option Addr} {nK cK:Nat} {AP:Option Addr} {nP cP:Nat} {A':Option Addr} {n' c':Nat}
theorem Sb.below (h:Sb w wZ gS s AL nL cL AH nH cH AC nC cC AK nK cK AP nP cP W) (hb:Below W.heap.size W W1):Sb w wZ gS s AL nL cL AH nH cH AC nC cC AK nK cK AP nP cP W1:=by
 obtain⟨fb,o,f,hl⟩:=h.oB
 exact⟨h.kS.below hb,⟨fb,(rBox_ok NB).ownB o hb,f,hl⟩,h.mC.below rInt_ok hb,h.mK.below rInt_ok hb,h.mP.below (rPlan_ok NB) hb,h.ne,h.be.trans (hb.mono h.be.size),h.gs,h.os.trans (OutS.ofBelow hb)⟩
/-- an int row's block is none of the plans' -/
theorem Sb.np (h:Sb w wZ gS s AL nL cL AH nH cH AC nC cC AK nK cK AP nP cP W) {fp:List Nat}(o:OS NB 73 (rPlan NB) W fp AP nP cP s.fPlans) {A:Option Addr}{n c:Nat}{l:List Int}(m:MS wZ.heap.size NB 3 rInt W A n c l):∀ k∈fp,k∉blk A:=fun k hk hk2=>by
 obtain⟨cur,hc⟩:=m.bI.1.blkAt k hk2
 exact o.nt (plan_nt neSI) nePI k hk _ _ hc
/-- the costs have grown -/
theorem Sb.appC (h:Sb w wZ gS s AL nL cL AH nH cH AC nC cC AK nK cK AP nP cP W) (hb1:Below W.heap.size W W1) {L':List Int}(hm:MS wZ.heap.size NB 3 rInt W2 A' n' c' L') (hb2:Below wZ.heap.size W1 W2) (hg:W1.grownBy W2 (AC.map (·.block))) (hA:A'.map (·.block)=AC.map (·.block)\/A'.map (·.block)=some W1.heap.size) :
  Sb w wZ gS ⟨s.fBox,L',s.fChoices,s.fPlans⟩ AL nL cL AH nH cH A' n' c' AK nK cK AP nP cP (W2.setCell ⟨gS,2,none⟩ (.slice A' n' c')):=by
 have H:=h.below hb1
 have hgs:=H.gs
 have hzs:=H.os.1
 have hset:∀ k,k≠gS->(W2.setCell ⟨gS,2,none⟩ (.slice A' n' c')).heap[k]?=W2.heap[k]?:=fun k hk=>heap_setCell_other _ ⟨gS,2,none⟩ k _ (fun e=>hk e)
 have hgb:∀ k,k<W1.heap.size->k∉blk AC->W2.heap[k]?=W1.heap[k]?:=fun k hk hn=>hg.block k hk (fun e=>hn (mem_blk.2 e.symm))
 have hkeep:∀ k,k<W1.heap.size->k≠gS->k∉blk AC->(W2.setCell ⟨gS,2,none⟩ (.slice A' n' c')).heap[k]?=W1.heap[k]?:=fun k h1 h2 h3=>(hset k h2).trans (hgb k h1 h3)
 have hC:=H.mC.bI.2
 have hK:=H.mK.bI.2
 obtain⟨fb,o,f,hl⟩:=H.oB
 have hlt:=H.kS.lt
 refine⟨(show Bk W2 gS _ _ from (hgb gS hlt (fun e=>by have:=(hC _ e).1;omega)).trans H.kS).set 2 _,⟨fb,(rBox_ok NB).okeep o (fun k hk=>hkeep k (by have:=hl k hk;omega) (by have:=hl k hk;omega) (fun e=>by have:=hl k hk;have:=(hC _ e).1;omega)),f,hl⟩,
  hm.keepI (fun k hk=>hset k (by have:=(hm.bI.2 k hk).1;omega)),H.mK.keepI (fun k hk=>hkeep k (hK k hk).2 (by have:=(hK k hk).1;omega) (fun e=>H.ne k e hk)),?_,fun k hk hk2=>?_,(H.be.trans (hb2.mono (by omega))).setCell (p:=⟨gS,2,none⟩) hgs.1 _,hgs,⟨by rw [World.size_setCell];exact Nat.le_trans hzs hb2.size,fun k h1 h2=>(hset k h1).trans ((hb2.block k h2).trans (H.os.2 k h1 h2))⟩⟩
 ·obtain⟨fp,op,ff⟩:=H.mP
  exact⟨fp,op.okeep (rPlan_ok NB) (fun k hk=>hkeep k (op.lt (rPlan_ok NB) k hk) (by have:=ff.ge k hk;omega) (H.np op H.mC k hk)),ff⟩
 ·rcases hA with e|e
  ·exact H.ne k (mem_blk.2 (e▸mem_blk.1 hk)) hk2
  ·have e1:=mem_blk.1 hk;rw [e]at e1;injection e1 with e1;have:=(hK k hk2).2;omega
/-- the choices have grown -/
theorem Sb.appK (h:Sb w wZ gS s AL nL cL AH nH cH AC nC cC AK nK cK AP nP cP W) (hb1:Below W.heap.size W W1) {L':List Int}(hm:MS wZ.heap.size NB 3 rInt W2 A' n' c' L') (hb2:Below wZ.heap.size W1 W2) (hg:W1.grownBy W2 (AK.map (·.block))) (hA:A'.map (·.block)=AK.map (·.block)\/A'.map (·.block)=some W1.heap.size) :
  Sb w wZ gS ⟨s.fBox,s.fCosts,L',s.fPlans⟩ AL nL cL AH nH cH AC nC cC A' n' c' AP nP cP (W2.setCell ⟨gS,3,none⟩ (.slice A' n' c')):=by
 have H:=h.below hb1
 have hgs:=H.gs
 have hzs:=H.os.1
 have hset:∀ k,k≠gS->(W2.setCell ⟨gS,3,none⟩ (.slice A' n' c')).heap[k]?=W2.heap[k]?:=fun k hk=>heap_setCell_other _ ⟨gS,3,none⟩ k _ (fun e=>hk e)
 have hgb:∀ k,k<W1.heap.size->k∉blk AK->W2.heap[k]?=W1.heap[k]?:=fun k hk hn=>hg.block k hk (fun e=>hn (mem_blk.2 e.symm))
 have hkeep:∀ k,k<W1.heap.size->k≠gS->k∉blk AK->(W2.setCell ⟨gS,3,none⟩ (.slice A' n' c')).heap[k]?=W1.heap[k]?:=fun k h1 h2 h3=>(hset k h2).trans (hgb k h1 h3)
 have hC:=H.mC.bI.2
 have hK:=H.mK.bI.2
 obtain⟨fb,o,f,hl⟩:=H.oB
 have hlt:=H.kS.lt
 refine⟨(show Bk W2 gS _ _ from (hgb gS hlt (fun e=>by have:=(hK _ e).1;omega)).trans H.kS).set 3 _,⟨fb,(rBox_ok NB).okeep o (fun k hk=>hkeep k (by have:=hl k hk;omega) (by have:=hl k hk;omega) (fun e=>by have:=hl k hk;have:=(hK _ e).1;omega)),f,hl⟩,
  H.mC.keepI (fun k hk=>hkeep k (hC k hk).2 (by have:=(hC k hk).1;omega) (fun e=>H.ne k hk e)),hm.keepI (fun k hk=>hset k (by have:=(hm.bI.2 k hk).1;omega)),?_,fun k hk hk2=>?_,(H.be.trans (hb2.mono (by omega))).setCell (p:=⟨gS,3,none⟩) hgs.1 _,hgs,⟨by rw [World.size_setCell];exact Nat.le_trans hzs hb2.size,fun k h1 h2=>(hset k h1).trans ((hb2.block k h2).trans (H.os.2 k h1 h2))⟩⟩
 ·obtain⟨fp,op,ff⟩:=H.mP
  exact⟨fp,op.okeep (rPlan_ok NB) (fun k hk=>hkeep k (op.lt (rPlan_ok NB) k hk) (by have:=ff.ge k hk;omega) (H.np op H.mK k hk)),ff⟩
 ·rcases hA with e|e
  ·exact H.ne k hk (mem_blk.2 (e▸mem_blk.1 hk2))
  ·have e1:=mem_blk.1 hk2;rw [e]at e1;injection e1 with e1;have:=(hC k hk).2;omega
/-- the plans have grown -/
theorem Sb.appP (h:Sb w wZ gS s AL nL cL AH nH cH AC nC cC AK nK cK AP nP cP W) (hb1:Below W.heap.size W W1) {L':List PlanD}(hm:MS wZ.heap.size NB 73 (rPlan NB) W2 A' n' c' L') (hb2:Below wZ.heap.size W1 W2) (hg:W1.grownBy W2 (AP.map (·.block))) :
  Sb w wZ gS ⟨s.fBox,s.fCosts,s.fChoices,L'⟩ AL nL cL AH nH cH AC nC cC AK nK cK A' n' c' (W2.setCell ⟨gS,4,none⟩ (.slice A' n' c')):=by
 have H:=h.below hb1
 have hgs:=H.gs
 have hzs:=H.os.1
 have hset:∀ k,k≠gS->(W2.setCell ⟨gS,4,none⟩ (.slice A' n' c')).heap[k]?=W2.heap[k]?:=fun k hk=>heap_setCell_other _ ⟨gS,4,none⟩ k _ (fun e=>hk e)
 have hgb:∀ k,k<W1.heap.size->k∉blk AP->W2.heap[k]?=W1.heap[k]?:=fun k hk hn=>hg.block k hk (fun e=>hn (mem_blk.2 e.symm))
 have hkeep:∀ k,k<W1.heap.size->k≠gS->k∉blk AP->(W2.setCell ⟨gS,4,none⟩ (.slice A' n' c')).heap[k]?=W1.heap[k]?:=fun k h1 h2 h3=>(hset k h2).trans (hgb k h1 h3)
 have hC:=H.mC.bI.2
 have hK:=H.mK.bI.2
 obtain⟨fb,o,f,hl⟩:=H.oB
 have hlt:=H.kS.lt
 obtain⟨fp,op,ff⟩:=H.mP
 have hPge:∀ k∈blk AP,wZ.heap.size<=k:=fun k hk=>ff.ge k (op.blkIn k hk)
 refine⟨(show Bk W2 gS _ _ from (hgb gS hlt (fun e=>by have:=hPge _ e;omega)).trans H.kS).set 4 _,⟨fb,(rBox_ok NB).okeep o (fun k hk=>hkeep k (by have:=hl k hk;omega) (by have:=hl k hk;omega) (fun e=>by have:=hl k hk;have:=hPge _ e;omega)),f,hl⟩,
  H.mC.keepI (fun k hk=>hkeep k (hC k hk).2 (by have:=(hC k hk).1;omega) (fun e=>H.np op H.mC k (op.blkIn k e) hk)),H.mK.keepI (fun k hk=>hkeep k (hK k hk).2 (by have:=(hK k hk).1;omega) (fun e=>H.np op H.mK k (op.blkIn k e) hk)),?_,H.ne,(H.be.trans (hb2.mono (by omega))).setCell (p:=⟨gS,4,none⟩) hgs.1 _,hgs,⟨by rw [World.size_setCell];exact Nat.le_trans hzs hb2.size,fun k h1 h2=>(hset k h1).trans ((hb2.block k h2).trans (H.os.2 k h1 h2))⟩⟩
 obtain⟨fq,oq,fg⟩:=hm
 exact⟨fq,oq.okeep (rPlan_ok NB) (fun k hk=>hset k (by have:=fg.ge k hk;omega)),fg⟩
/-- what is handed back -/
theorem Sb.own (h:Sb w wZ gS s AL nL cL AH nH cH AC nC cC AK nK cK AP nP cP W):∃ fp,(rSpace NB).own W fp [.slice AL nL cL,.slice AH nH cH,.slice AC nC cC,.slice AK nK cK,.slice AP nP cP] s/\Fr w.heap.size fp/\gS∉fp:=by
 obtain⟨fb,o,f,hl⟩:=h.oB
 obtain⟨_,_,_,_,_,_,f1,f2,e,rfl,o1,o2⟩:=rBox_own.1 o
 injection e with e1 e2
 injection e1 with e1 e3 e4
 injection e2 with e2 _
 injection e2 with e2 e5 e6
 subst e1 e2 e3 e4 e5 e6
 obtain⟨fp,op,ff⟩:=h.mP
 have hC:=h.mC.bI
 have hK:=h.mK.bI
 have hgs:=h.gs
 have nC:∀ k∈fp,k∉blk AC:=h.np op h.mC
 have nK:∀ k∈fp,k∉blk AK:=h.np op h.mK
 have f2':Fr wZ.heap.size (blk AK++fp):=⟨List.nodup_append.2 ⟨by cases AK<;>simp [blk],ff.nd,fun a ha b hb e=>nK b hb (e▸ha)⟩,fun k hk=>(List.mem_append.1 hk).elim (fun e=>(hK.2 k e).1) (fun e=>ff.ge k e)⟩
 have f3:Fr wZ.heap.size (blk AC++(blk AK++fp)):=⟨List.nodup_append.2 ⟨by cases AC<;>simp [blk],f2'.nd,fun a ha b hb e=>(List.mem_append.1 hb).elim (fun q=>h.ne a ha (e▸q)) (fun q=>nC b q (e▸ha))⟩,fun k hk=>(List.mem_append.1 hk).elim (fun e=>(hC.2 k e).1) (fun e=>f2'.ge k e)⟩
 have f4:=f.append f3 (fun k hk=>by have:=hl k hk;omega) (by omega)
 refine⟨_,rSpace_own.2 ⟨_,_,_,_,_,_,_,_,_,_,_,_,_,_,_,_,_,_,_,_,rfl,rfl,o1,o2,hC.1,hK.1,op⟩,f4,fun hm=>?_⟩
 rcases List.mem_append.1 hm with e|e
 ·have:=hl _ e;omega
 ·have:=f3.ge _ e;omega
end
end Go.Proofs.YtblbnbfghlkkfaaGreat
namespace Go.Proofs.YtblbnbfghlkkfaaGreat
open Go.RowKit
set_option linter.unusedVariables false
set_option linter.unusedSimpArgs false
theorem neIS:(3:TypeId)≠37:=by decide
theorem neSS:(140:TypeId)≠37:=by decide
theorem nePS:(73:TypeId)≠37:=by decide
theorem RS.chgR {M:Nat}{w w':World}{A:Option Addr}{n cap:Nat}{l:List Int}{g:Nat}(h:RS M rInt w A n cap l) (hc:Chg [g] w w') (hS:∀ k∈blk A,k≠g):RS M rInt w' A n cap l :=
 ⟨h.len,h.nb,h.nc,fun h0=>by
  obtain⟨b,off,e,hk⟩:=h.cell h0
  refine⟨b,off,e,fun j x hj=>?_⟩
  obtain⟨cs,h1,h2⟩:=hk j x hj
  exact⟨cs,h1,fun i v hi=>by rw [<- h2 i v hi];exact hc.cell (World.block_lt_of_cell? w _ (h2 i v hi)) (by simp;exact hS b (by subst e;simp [blk]))⟩⟩
/-- the space s in its box gS; all that it owns lies from B on -/
structure Spd (B gS:Nat) (s:SpaceD) (AL:Option Addr) (nL cL:Nat) (AH:Option Addr) (nH cH:Nat) (AC:Option Addr) (nC cC:Nat) (AK:Option Addr) (nK cK:Nat) (AP:Option Addr) (nP cP:Nat) (W:World):Prop where
 kS:Bk W gS 37 [.slice AL nL cL,.slice AH nH cH,.slice AC nC cC,.slice AK nK cK,.slice AP nP cP]
 oL:OS NB 3 rInt W (blk AL) AL nL cL s.fBox.fLow
 oH:OS NB 3 rInt W (blk AH) AH nH cH s.fBox.fHigh
 oC:OS NB 3 rInt W (blk AC) AC nC cC s.fCosts
 oK:OS NB 3 rInt W (blk AK) AK nK cK s.fChoices
 oP:∃ fP,OS NB 73 (rPlan NB) W fP AP nP cP s.fPlans/\∀ k∈fP,B<=k
 gL:∀ k∈blk AL,B<=k/\k∉blk AC/\k∉blk AK
 gH:∀ k∈blk AH,B<=k/\k∉blk AC/\k∉blk AK
 gC:∀ k∈blk AC,B<=k/\k∉blk AK
 gK:∀ k∈blk AK,B<=k
 hB:B<=gS
theorem Spd.new {B gS:Nat}{s:SpaceD}{W:World}{fp:List Nat}{cs:List Value}(o:(rSpace NB).own W fp cs s) (f:Fr B fp) (hk:Bk W gS 37 cs) (hB:B<=gS):∃ AL nL cL AH nH cH AC nC cC AK nK cK AP nP cP,cs=[.slice AL nL cL,.slice AH nH cH,.slice AC nC cC,.slice AK nK cK,.slice AP nP cP]/\Spd B gS s AL nL cL AH nH cH AC nC cC AK nK cK AP nP cP W:=by
 obtain⟨AL,nL,cL,AH,nH,cH,AC,nC,cC,AK,nK,cK,AP,nP,cP,fL,fH,fC,fK,fP,rfl,rfl,o1,o2,o3,o4,o5⟩:=rSpace_own.1 o
 obtain rfl:=(osInt.1 o1).1
 obtain rfl:=(osInt.1 o2).1
 obtain rfl:=(osInt.1 o3).1
 obtain rfl:=(osInt.1 o4).1
 refine⟨_,_,_,_,_,_,_,_,_,_,_,_,_,_,_,rfl,hk,o1,o2,o3,o4,⟨fP,o5,fun k h=>f.ge k (by simp [h])⟩,fun k h=>⟨f.ge k (by simp [h]),?_,?_⟩,fun k h=>⟨f.ge k (by simp [h]),?_,?_⟩,fun k h=>⟨f.ge k (by simp [h]),?_⟩,fun k h=>f.ge k (by simp [h]),hB⟩
 ·exact fun h2=>f.disj k (List.mem_append_left _ h) (List.mem_append_left _ h2)
 ·exact fun h2=>f.disj k (List.mem_append_left _ h) (List.mem_append_right _ (List.mem_append_left _ h2))
 ·exact fun h2=>f.disj k (List.mem_append_right _ h) (List.mem_append_left _ h2)
 ·exact fun h2=>f.disj k (List.mem_append_right _ h) (List.mem_append_right _ (List.mem_append_left _ h2))
 ·exact fun h2=>f.right.disj k h (List.mem_append_left _ h2)
theorem Spd.new2 {B gS:Nat}{s:SpaceD}{W:World}{fp:List Nat}{AL:Option Addr}{nL cL:Nat}{AH:Option Addr}{nH cH:Nat}{AC:Option Addr}{nC cC:Nat}{AK:Option Addr}{nK cK:Nat}{AP:Option Addr}{nP cP:Nat}(o:(rSpace NB).own W fp [.slice AL nL cL,.slice AH nH cH,.slice AC nC cC,.slice AK nK cK,.slice AP nP cP] s) (f:Fr B fp) (hk:Bk W gS 37 [.slice AL nL cL,.slice AH nH cH,.slice AC nC cC,.slice AK nK cK,.slice AP nP cP]) (hB:B<=gS):Spd B gS s AL nL cL AH nH cH AC nC cC AK nK cK AP nP cP W:=by
 obtain⟨_,_,_,_,_,_,_,_,_,_,_,_,_,_,_,e,H⟩:=Spd.new o f hk hB
 simp only [List.cons.injEq,Value.slice.injEq,and_true]at e
 obtain⟨⟨rfl,rfl,rfl⟩,⟨rfl,rfl,rfl⟩,⟨rfl,rfl,rfl⟩,⟨rfl,rfl,rfl⟩,rfl,rfl,rfl⟩:=e
 exact H
section
variable {B gS:Nat} {s:SpaceD} {AL:Option Addr} {nL cL:Nat} {AH:Option Addr} {nH cH:Nat} {AC:Option Addr} {nC cC:Nat} {AK:Option Addr} {nK cK:Nat} {AP:Option Addr} {nP cP:Nat} {W W' W2:World}
theorem Spd.keep (h:Spd B gS s AL nL cL AH nH cH AC nC cC AK nK cK AP nP cP W) (hk:∀ k,B<=k->k<W.heap.size->W'.heap[k]?=W.heap[k]?):Spd B gS s AL nL cL AH nH cH AC nC cC AK nK cK AP nP cP W':=by
 obtain⟨fP,oP,gP⟩:=h.oP
 exact⟨(hk _ h.hB h.kS.lt).trans h.kS,h.oL.okeep rInt_ok (fun k hm=>hk k (h.gL k hm).1 (h.oL.lt rInt_ok k hm)),h.oH.okeep rInt_ok (fun k hm=>hk k (h.gH k hm).1 (h.oH.lt rInt_ok k hm)),h.oC.okeep rInt_ok (fun k hm=>hk k (h.gC k hm).1 (h.oC.lt rInt_ok k hm)),h.oK.okeep rInt_ok (fun k hm=>hk k (h.gK k hm) (h.oK.lt rInt_ok k hm)),
  ⟨fP,oP.okeep (rPlan_ok NB) (fun k hm=>hk k (gP k hm) (oP.lt (rPlan_ok NB) k hm)),gP⟩,h.gL,h.gH,h.gC,h.gK,h.hB⟩
theorem Spd.below (h:Spd B gS s AL nL cL AH nH cH AC nC cC AK nK cK AP nP cP W) (hb:Below W.heap.size W W'):Spd B gS s AL nL cL AH nH cH AC nC cC AK nK cK AP nP cP W':=h.keep fun k _ hk=>hb.block k hk
theorem Spd.step {g:Nat}(h:Spd B gS s AL nL cL AH nH cH AC nC cC AK nK cK AP nP cP W) (hg:g<B) (hc:Chg [g] W W'):Spd B gS s AL nL cL AH nH cH AC nC cC AK nK cK AP nP cP W':=h.keep fun k h1 hk=>hc.block k hk (by simp;omega)
theorem Spd.np (h:Spd B gS s AL nL cL AH nH cH AC nC cC AK nK cK AP nP cP W) {fP:List Nat}(oP:OS NB 73 (rPlan NB) W fP AP nP cP s.fPlans) {A:Option Addr}{n c:Nat}{l:List Int}(m:OS NB 3 rInt W (blk A) A n c l):∀ k∈fP,k∉blk A:=fun k hk hk2=>by
 obtain⟨cur,hc⟩:=m.blkAt k hk2
 exact oP.nt (plan_nt neSI) nePI k hk _ _ hc
theorem Spd.stb (h:Spd B gS s AL nL cL AH nH cH AC nC cC AK nK cK AP nP cP W):Stb (rSpace NB) B W [.slice AL nL cL,.slice AH nH cH,.slice AC nC cC,.slice AK nK cK,.slice AP nP cP] s:=fun V hV=>by
 obtain⟨fP,oP,gP⟩:=h.oP
 exact rSpace_rep.2 ⟨AL,nL,cL,AH,nH,cH,AC,nC,cC,AK,nK,cK,AP,nP,cP,rfl,
  (h.oL.okeep rInt_ok (fun k hm=>hV.2 k (h.gL k hm).1 (h.oL.lt rInt_ok k hm))).rs rInt_ok,(h.oH.okeep rInt_ok (fun k hm=>hV.2 k (h.gH k hm).1 (h.oH.lt rInt_ok k hm))).rs rInt_ok,(h.oC.okeep rInt_ok (fun k hm=>hV.2 k (h.gC k hm).1 (h.oC.lt rInt_ok k hm))).rs rInt_ok,(h.oK.okeep rInt_ok (fun k hm=>hV.2 k (h.gK k hm) (h.oK.lt rInt_ok k hm))).rs rInt_ok,
  (oP.okeep (rPlan_ok NB) (fun k hm=>hV.2 k (gP k hm) (oP.lt (rPlan_ok NB) k hm))).rs (rPlan_ok NB)⟩
theorem Spd.mC (h:Spd B gS s AL nL cL AH nH cH AC nC cC AK nK cK AP nP cP W):MS B NB 3 rInt W AC nC cC s.fCosts:=⟨_,h.oC,⟨by cases AC<;>simp [blk],fun k hk=>(h.gC k hk).1⟩⟩
theorem Spd.mK (h:Spd B gS s AL nL cL AH nH cH AC nC cC AK nK cK AP nP cP W):MS B NB 3 rInt W AK nK cK s.fChoices:=⟨_,h.oK,⟨by cases AK<;>simp [blk],h.gK⟩⟩
/-- a cost is set -/
theorem Spd.setC {b:Nat}(h:Spd B gS s AL nL cL AH nH cH (some ⟨b,0,none⟩) nC cC AK nK cK AP nP cP W) (k:Nat) {x:Int}(hx:I64 x):Spd B gS ⟨s.fBox,s.fCosts.set k x,s.fChoices,s.fPlans⟩ AL nL cL AH nH cH (some ⟨b,0,none⟩) nC cC AK nK cK AP nP cP (W.setCell ⟨b,k,none⟩ (.int .i64 x)):=by
 have hm:=(h.mC.set k hx).bI.1
 have hs:∀ z,z≠b->(W.setCell ⟨b,k,none⟩ (.int .i64 x)).heap[z]?=W.heap[z]?:=fun z hz=>heap_setCell_other _ ⟨b,k,none⟩ z _ (fun e=>hz e)
 have hb:b∈blk (some ⟨b,0,none⟩):=by simp [blk]
 obtain⟨fP,oP,gP⟩:=h.oP
 exact⟨(hs gS (fun e=>osI_ne h.oC h.kS neIS.symm (e▸hb))).trans h.kS,h.oL.okeep rInt_ok (fun z hz=>hs z (fun e=>(h.gL z hz).2.1 (e▸hb))),h.oH.okeep rInt_ok (fun z hz=>hs z (fun e=>(h.gH z hz).2.1 (e▸hb))),hm,h.oK.okeep rInt_ok (fun z hz=>hs z (fun e=>(h.gC b hb).2 (e▸hz))),
  ⟨fP,oP.okeep (rPlan_ok NB) (fun z hz=>hs z (fun e=>h.np oP h.oC z hz (e▸hb))),gP⟩,h.gL,h.gH,h.gC,h.gK,h.hB⟩
/-- the choices have grown -/
theorem Spd.appK {A':Option Addr}{n' c':Nat}{L':List Int}(h:Spd B gS s AL nL cL AH nH cH AC nC cC AK nK cK AP nP cP W) (hm:MS B NB 3 rInt W2 A' n' c' L') (hg:W.grownBy W2 (AK.map (·.block))) (hA:A'.map (·.block)=AK.map (·.block)\/A'.map (·.block)=some W.heap.size) :
  Bk W2 gS 37 [.slice AL nL cL,.slice AH nH cH,.slice AC nC cC,.slice AK nK cK,.slice AP nP cP]/\Spd B gS ⟨s.fBox,s.fCosts,L',s.fPlans⟩ AL nL cL AH nH cH AC nC cC A' n' c' AP nP cP (W2.setCell ⟨gS,3,none⟩ (.slice A' n' c')):=by
 have hs:∀ z,z≠gS->(W2.setCell ⟨gS,3,none⟩ (.slice A' n' c')).heap[z]?=W2.heap[z]?:=fun z hz=>heap_setCell_other _ ⟨gS,3,none⟩ z _ (fun e=>hz e)
 have hgb:∀ k,k<W.heap.size->k∉blk AK->W2.heap[k]?=W.heap[k]?:=fun k hk hn=>hg.block k hk (fun e=>hn (mem_blk.2 e.symm))
 have nL_:=osI_ne h.oL h.kS neIS.symm
 have nH_:=osI_ne h.oH h.kS neIS.symm
 have nC_:=osI_ne h.oC h.kS neIS.symm
 have nK_:=osI_ne h.oK h.kS neIS.symm
 have k2:Bk W2 gS 37 [.slice AL nL cL,.slice AH nH cH,.slice AC nC cC,.slice AK nK cK,.slice AP nP cP]:=(hgb gS h.kS.lt nK_).trans h.kS
 have nA:=osI_ne hm.bI.1 k2 neIS.symm
 obtain⟨fP,oP,gP⟩:=h.oP
 have nP_:gS∉fP:=(oP.nt (plan_nt neSS) nePS).ne h.kS
 have hkeep:∀ z,z<W.heap.size->z≠gS->z∉blk AK->(W2.setCell ⟨gS,3,none⟩ (.slice A' n' c')).heap[z]?=W.heap[z]?:=fun z h1 h2 h3=>(hs z h2).trans (hgb z h1 h3)
 have hA2:∀ k,k<W.heap.size->k∉blk AK->k∉blk A':=fun k h1 h2 h3=>by
  rcases hA with e|e
  ·exact h2 (mem_blk.2 (e▸mem_blk.1 h3))
  ·have e1:=mem_blk.1 h3;rw [e]at e1;injection e1 with e1;omega
 have lL:=h.oL.lt rInt_ok
 have lH:=h.oH.lt rInt_ok
 have lC:=h.oC.lt rInt_ok
 exact⟨k2,k2.set 3 _,h.oL.okeep rInt_ok (fun z hz=>hkeep z (lL z hz) (fun e=>nL_ (e▸hz)) (h.gL z hz).2.2),h.oH.okeep rInt_ok (fun z hz=>hkeep z (lH z hz) (fun e=>nH_ (e▸hz)) (h.gH z hz).2.2),h.oC.okeep rInt_ok (fun z hz=>hkeep z (lC z hz) (fun e=>nC_ (e▸hz)) (h.gC z hz).2),hm.bI.1.okeep rInt_ok (fun z hz=>hs z (fun e=>nA (e▸hz))),
  ⟨fP,oP.okeep (rPlan_ok NB) (fun z hz=>hkeep z (oP.lt (rPlan_ok NB) z hz) (fun e=>nP_ (e▸hz)) (h.np oP h.oK z hz)),gP⟩,fun k hk=>⟨(h.gL k hk).1,(h.gL k hk).2.1,hA2 k (lL k hk) (h.gL k hk).2.2⟩,fun k hk=>⟨(h.gH k hk).1,(h.gH k hk).2.1,hA2 k (lH k hk) (h.gH k hk).2.2⟩,fun k hk=>⟨(h.gC k hk).1,hA2 k (lC k hk) (h.gC k hk).2⟩,fun k hk=>(hm.bI.2 k hk).1,h.hB⟩
/-- the plans are struck -/
theorem Spd.nilP (h:Spd B gS s AL nL cL AH nH cH AC nC cC AK nK cK AP nP cP W):Spd B gS ⟨s.fBox,s.fCosts,s.fChoices,[]⟩ AL nL cL AH nH cH AC nC cC AK nK cK none 0 0 (W.setCell ⟨gS,4,none⟩ (.slice none 0 0)):=by
 have hs:∀ z,z≠gS->(W.setCell ⟨gS,4,none⟩ (.slice none 0 0)).heap[z]?=W.heap[z]?:=fun z hz=>heap_setCell_other _ ⟨gS,4,none⟩ z _ (fun e=>hz e)
 have nL_:=osI_ne h.oL h.kS neIS.symm
 have nH_:=osI_ne h.oH h.kS neIS.symm
 have nC_:=osI_ne h.oC h.kS neIS.symm
 have nK_:=osI_ne h.oK h.kS neIS.symm
 exact⟨h.kS.set 4 _,h.oL.okeep rInt_ok (fun z hz=>hs z (fun e=>nL_ (e▸hz))),h.oH.okeep rInt_ok (fun z hz=>hs z (fun e=>nH_ (e▸hz))),h.oC.okeep rInt_ok (fun z hz=>hs z (fun e=>nC_ (e▸hz))),h.oK.okeep rInt_ok (fun z hz=>hs z (fun e=>nK_ (e▸hz))),
  ⟨[],⟨rfl,Nat.zero_le _,[],[],World.ownsRow_nil _ 0 _ _,rfl,trivial⟩,fun k hk=>(by cases hk)⟩,h.gL,h.gH,h.gC,h.gK,h.hB⟩
end
end Go.Proofs.YtblbnbfghlkkfaaGreat
