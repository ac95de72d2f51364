/-
  Sbw
-/
import Derived.Test.YtnlcfkpcmfljeaaGreatBsp
import Derived.Test.YtnlcfkpcmfljeaaGreatTbs
set_option linter.unusedSimpArgs false
set_option linter.unusedVariables false
namespace Go.Proofs.YtnlcfkpcmfljeaaGreat
open Go.RowKit
theorem stp_nt {t:TypeId}:(rPlanStep NB).NT t:=rIso_nt (rPair_nt rInt_nt (rPair_nt rInt_nt rInt_nt)) _
theorem plan_nt {t:TypeId}(h:(173:TypeId)≠t):(rPlan NB).NT t:=rIso_nt (rSlice_nt stp_nt h) _
theorem neSI:(173:TypeId)≠3:=by decide
theorem nePI:(76:TypeId)≠3:=by decide
theorem OS.blkAt {α:Type}{r:Rp α}{M:Nat}{e:TypeId}{w:World}{fp:List Nat}{A:Option Addr}{n cap:Nat}{l:List α}(o:OS M e r w fp A n cap l):∀ k∈blk A,∃ cur,w.heap[k]?=some (.cells cur e (0,0)):=by
 obtain⟨css,fps,h3,rfl,h4⟩:=o.ex;intro k hk;rcases h3.2 with ⟨h1,_⟩|⟨g,c,cur,h1,_,hg,_⟩
 ·injection h1 with h1;subst h1;cases hk
 ·injection h1 with h1;subst h1
  simp [blk]at hk;subst hk;exact⟨_,hg⟩
theorem OS.blkIn {α:Type}{r:Rp α}{M:Nat}{e:TypeId}{w:World}{fp:List Nat}{A:Option Addr}{n cap:Nat}{l:List α}(o:OS M e r w fp A n cap l):∀ k∈blk A,k∈fp:=by
 obtain⟨css,fps,h3,rfl,h4⟩:=o.ex;exact fun k hk=>List.mem_append_left _ hk
section
variable {w:World} {g:Nat} {t:TypeId} {x0 x1 x2 x3 x4:Value}
theorem Bk.r5 (h:Bk w g t [x0,x1,x2,x3,x4]):w.cell? ⟨g,0,none⟩=some x0/\w.frozen? ⟨g,0,none⟩=false/\w.cell? ⟨g,1,none⟩=some x1/\w.frozen? ⟨g,1,none⟩=false/\w.cell? ⟨g,2,none⟩=some x2/\w.frozen? ⟨g,2,none⟩=false/\w.cell? ⟨g,3,none⟩=some x3/\w.frozen? ⟨g,3,none⟩=false/\w.cell? ⟨g,4,none⟩=some x4/\w.frozen? ⟨g,4,none⟩=false :=
 ⟨h.bx 0 _ rfl,h.frozen 0,h.bx 1 _ rfl,h.frozen 1,h.bx 2 _ rfl,h.frozen 2,h.bx 3 _ rfl,h.frozen 3,h.bx 4 _ rfl,h.frozen 4⟩
abbrev set5 (w:World) (g:Nat) (a b c d e:Value):World:=((((w.setCell ⟨g,0,none⟩ a).setCell ⟨g,1,none⟩ b).setCell ⟨g,2,none⟩ c).setCell ⟨g,3,none⟩ d).setCell ⟨g,4,none⟩ e
theorem Bk.set5 (h:Bk w g t [x0,x1,x2,x3,x4]) (a b c d e:Value):Bk (set5 w g a b c d e) g t [a,b,c,d,e]:=((((h.set 0 _).set 1 _).set 2 _).set 3 _).set 4 _
theorem bls5 {B:Nat}{v:World}(h:Below B v w) (hg:B<=g) (a b c d e:Value):Below B v (set5 w g a b c d e):=((((h.setCell (p:=⟨g,0,none⟩) hg _).setCell (p:=⟨g,1,none⟩) hg _).setCell (p:=⟨g,2,none⟩) hg _).setCell (p:=⟨g,3,none⟩) hg _).setCell (p:=⟨g,4,none⟩) hg _
theorem set5_ne {k:Nat}(hk:k≠g) (a b c d e:Value):(set5 w g a b c d e).heap[k]?=w.heap[k]? :=
 ((((heap_setCell_other _ ⟨g,4,none⟩ k _ (fun e=>hk e)).trans (heap_setCell_other _ ⟨g,3,none⟩ k _ (fun e=>hk e))).trans (heap_setCell_other _ ⟨g,2,none⟩ k _ (fun e=>hk e))).trans (heap_setCell_other _ ⟨g,1,none⟩ k _ (fun e=>hk e))).trans (heap_setCell_other _ ⟨g,0,none⟩ k _ (fun e=>hk e))
end
theorem sizeSpaceT:(Tryz.prog.info? 39).map (·.size)=some 5:=by kernel_rfl
structure Sb (w wZ:World) (gS:Nat) (s:SpaceD) (AL:Option Addr) (nL cL:Nat) (AH:Option Addr) (nH cH:Nat) (AC:Option Addr) (nC cC:Nat) (AK:Option Addr) (nK cK:Nat) (AP:Option Addr) (nP cP:Nat) (W:World):Prop where
 kS:Bk W gS 39 [.slice AL nL cL,.slice AH nH cH,.slice AC nC cC,.slice AK nK cK,.slice AP nP cP]
 oB:∃ fb,(rBox NB).own W fb [.slice AL nL cL,.slice AH nH cH] s.fBox/\Fr w.heap.size fb/\∀ k∈fb,k<gS
 mC:MS wZ.heap.size NB 3 rInt W AC nC cC s.fCosts
 mK:MS wZ.heap.size NB 3 rInt W AK nK cK s.fChoices
 mP:MS wZ.heap.size NB 76 (rPlan NB) W AP nP cP s.fPlans
 ne:∀ k∈blk AC,k∉blk AK
 be:Below w.heap.size w W
 gs:w.heap.size<=gS/\gS<wZ.heap.size
 os:OutS (fun z=>z=gS) wZ W
section
variable {w wZ W W1 W2:World} {gS:Nat} {s:SpaceD} {AL:Option Addr} {nL cL:Nat} {AH:Option Addr} {nH cH:Nat} {AC:Option Addr} {nC cC:Nat} {AK:Option Addr} {nK cK:Nat} {AP:Option Addr} {nP cP:Nat} {A':Option Addr} {n' c':Nat}
theorem Sb.below (h:Sb w wZ gS s AL nL cL AH nH cH AC nC cC AK nK cK AP nP cP W) (hb:Below W.heap.size W W1):Sb w wZ gS s AL nL cL AH nH cH AC nC cC AK nK cK AP nP cP W1:=by
 obtain⟨fb,o,f,hl⟩:=h.oB;exact⟨h.kS.below hb,⟨fb,(rBox_ok NB).ownB o hb,f,hl⟩,h.mC.below rInt_ok hb,h.mK.below rInt_ok hb,h.mP.below (rPlan_ok NB) hb,h.ne,h.be.trans (hb.mono h.be.size),h.gs,h.os.trans (OutS.ofBelow hb)⟩
theorem Sb.np (h:Sb w wZ gS s AL nL cL AH nH cH AC nC cC AK nK cK AP nP cP W) {fp:List Nat}(o:OS NB 76 (rPlan NB) W fp AP nP cP s.fPlans) {A:Option Addr}{n c:Nat}{l:List Int}(m:MS wZ.heap.size NB 3 rInt W A n c l):∀ k∈fp,k∉blk A:=fun k hk hk2=>by
 obtain⟨cur,hc⟩:=m.bI.1.blkAt k hk2;exact o.nt (plan_nt neSI) nePI k hk _ _ hc
theorem Sb.appC (h:Sb w wZ gS s AL nL cL AH nH cH AC nC cC AK nK cK AP nP cP W) (hb1:Below W.heap.size W W1) {L':List Int}(hm:MS wZ.heap.size NB 3 rInt W2 A' n' c' L') (hb2:Below wZ.heap.size W1 W2) (hg:W1.grownBy W2 (AC.map (·.block))) (hA:A'.map (·.block)=AC.map (·.block)\/A'.map (·.block)=some W1.heap.size) :
  Sb w wZ gS ⟨s.fBox,L',s.fChoices,s.fPlans⟩ AL nL cL AH nH cH A' n' c' AK nK cK AP nP cP (W2.setCell ⟨gS,2,none⟩ (.slice A' n' c')):=by
 have H:=h.below hb1;have hgs:=H.gs;have hzs:=H.os.1;have hset:∀ k,k≠gS->(W2.setCell ⟨gS,2,none⟩ (.slice A' n' c')).heap[k]?=W2.heap[k]?:=fun k hk=>heap_setCell_other _ ⟨gS,2,none⟩ k _ (fun e=>hk e);have hgb:∀ k,k<W1.heap.size->k∉blk AC->W2.heap[k]?=W1.heap[k]?:=fun k hk hn=>hg.block k hk (fun e=>hn (mem_blk.2 e.symm));have hkeep:∀ k,k<W1.heap.size->k≠gS->k∉blk AC->(W2.setCell ⟨gS,2,none⟩ (.slice A' n' c')).heap[k]?=W1.heap[k]?:=fun k h1 h2 h3=>(hset k h2).trans (hgb k h1 h3);have hC:=H.mC.bI.2;have hK:=H.mK.bI.2;obtain⟨fb,o,f,hl⟩:=H.oB;have hlt:=H.kS.lt
 refine⟨(show Bk W2 gS _ _ from (hgb gS hlt (fun e=>by have:=(hC _ e).1;omega)).trans H.kS).set 2 _,⟨fb,(rBox_ok NB).okeep o (fun k hk=>hkeep k (by have:=hl k hk;omega) (by have:=hl k hk;omega) (fun e=>by have:=hl k hk;have:=(hC _ e).1;omega)),f,hl⟩,
  hm.keepI (fun k hk=>hset k (by have:=(hm.bI.2 k hk).1;omega)),H.mK.keepI (fun k hk=>hkeep k (hK k hk).2 (by have:=(hK k hk).1;omega) (fun e=>H.ne k e hk)),?_,fun k hk hk2=>?_,(H.be.trans (hb2.mono (by omega))).setCell (p:=⟨gS,2,none⟩) hgs.1 _,hgs,⟨by rw [World.size_setCell];exact Nat.le_trans hzs hb2.size,fun k h1 h2=>(hset k h1).trans ((hb2.block k h2).trans (H.os.2 k h1 h2))⟩⟩
 ·obtain⟨fp,op,ff⟩:=H.mP
  exact⟨fp,op.okeep (rPlan_ok NB) (fun k hk=>hkeep k (op.lt (rPlan_ok NB) k hk) (by have:=ff.ge k hk;omega) (H.np op H.mC k hk)),ff⟩
 ·rcases hA with e|e
  ·exact H.ne k (mem_blk.2 (e▸mem_blk.1 hk)) hk2
  ·have e1:=mem_blk.1 hk;rw [e]at e1;injection e1 with e1;have:=(hK k hk2).2;omega
theorem Sb.appK (h:Sb w wZ gS s AL nL cL AH nH cH AC nC cC AK nK cK AP nP cP W) (hb1:Below W.heap.size W W1) {L':List Int}(hm:MS wZ.heap.size NB 3 rInt W2 A' n' c' L') (hb2:Below wZ.heap.size W1 W2) (hg:W1.grownBy W2 (AK.map (·.block))) (hA:A'.map (·.block)=AK.map (·.block)\/A'.map (·.block)=some W1.heap.size) :
  Sb w wZ gS ⟨s.fBox,s.fCosts,L',s.fPlans⟩ AL nL cL AH nH cH AC nC cC A' n' c' AP nP cP (W2.setCell ⟨gS,3,none⟩ (.slice A' n' c')):=by
 have H:=h.below hb1;have hgs:=H.gs;have hzs:=H.os.1;have hset:∀ k,k≠gS->(W2.setCell ⟨gS,3,none⟩ (.slice A' n' c')).heap[k]?=W2.heap[k]?:=fun k hk=>heap_setCell_other _ ⟨gS,3,none⟩ k _ (fun e=>hk e);have hgb:∀ k,k<W1.heap.size->k∉blk AK->W2.heap[k]?=W1.heap[k]?:=fun k hk hn=>hg.block k hk (fun e=>hn (mem_blk.2 e.symm));have hkeep:∀ k,k<W1.heap.size->k≠gS->k∉blk AK->(W2.setCell ⟨gS,3,none⟩ (.slice A' n' c')).heap[k]?=W1.heap[k]?:=fun k h1 h2 h3=>(hset k h2).trans (hgb k h1 h3);have hC:=H.mC.bI.2;have hK:=H.mK.bI.2;obtain⟨fb,o,f,hl⟩:=H.oB;have hlt:=H.kS.lt
 refine⟨(show Bk W2 gS _ _ from (hgb gS hlt (fun e=>by have:=(hK _ e).1;omega)).trans H.kS).set 3 _,⟨fb,(rBox_ok NB).okeep o (fun k hk=>hkeep k (by have:=hl k hk;omega) (by have:=hl k hk;omega) (fun e=>by have:=hl k hk;have:=(hK _ e).1;omega)),f,hl⟩,
  H.mC.keepI (fun k hk=>hkeep k (hC k hk).2 (by have:=(hC k hk).1;omega) (fun e=>H.ne k hk e)),hm.keepI (fun k hk=>hset k (by have:=(hm.bI.2 k hk).1;omega)),?_,fun k hk hk2=>?_,(H.be.trans (hb2.mono (by omega))).setCell (p:=⟨gS,3,none⟩) hgs.1 _,hgs,⟨by rw [World.size_setCell];exact Nat.le_trans hzs hb2.size,fun k h1 h2=>(hset k h1).trans ((hb2.block k h2).trans (H.os.2 k h1 h2))⟩⟩
 ·obtain⟨fp,op,ff⟩:=H.mP
  exact⟨fp,op.okeep (rPlan_ok NB) (fun k hk=>hkeep k (op.lt (rPlan_ok NB) k hk) (by have:=ff.ge k hk;omega) (H.np op H.mK k hk)),ff⟩
 ·rcases hA with e|e
  ·exact H.ne k hk (mem_blk.2 (e▸mem_blk.1 hk2))
  ·have e1:=mem_blk.1 hk2;rw [e]at e1;injection e1 with e1;have:=(hC k hk).2;omega
theorem Sb.appP (h:Sb w wZ gS s AL nL cL AH nH cH AC nC cC AK nK cK AP nP cP W) (hb1:Below W.heap.size W W1) {L':List PlanD}(hm:MS wZ.heap.size NB 76 (rPlan NB) W2 A' n' c' L') (hb2:Below wZ.heap.size W1 W2) (hg:W1.grownBy W2 (AP.map (·.block))) :
  Sb w wZ gS ⟨s.fBox,s.fCosts,s.fChoices,L'⟩ AL nL cL AH nH cH AC nC cC AK nK cK A' n' c' (W2.setCell ⟨gS,4,none⟩ (.slice A' n' c')):=by
 have H:=h.below hb1;have hgs:=H.gs;have hzs:=H.os.1;have hset:∀ k,k≠gS->(W2.setCell ⟨gS,4,none⟩ (.slice A' n' c')).heap[k]?=W2.heap[k]?:=fun k hk=>heap_setCell_other _ ⟨gS,4,none⟩ k _ (fun e=>hk e);have hgb:∀ k,k<W1.heap.size->k∉blk AP->W2.heap[k]?=W1.heap[k]?:=fun k hk hn=>hg.block k hk (fun e=>hn (mem_blk.2 e.symm));have hkeep:∀ k,k<W1.heap.size->k≠gS->k∉blk AP->(W2.setCell ⟨gS,4,none⟩ (.slice A' n' c')).heap[k]?=W1.heap[k]?:=fun k h1 h2 h3=>(hset k h2).trans (hgb k h1 h3);have hC:=H.mC.bI.2;have hK:=H.mK.bI.2;obtain⟨fb,o,f,hl⟩:=H.oB;have hlt:=H.kS.lt;obtain⟨fp,op,ff⟩:=H.mP;have hPge:∀ k∈blk AP,wZ.heap.size<=k:=fun k hk=>ff.ge k (op.blkIn k hk)
 refine⟨(show Bk W2 gS _ _ from (hgb gS hlt (fun e=>by have:=hPge _ e;omega)).trans H.kS).set 4 _,⟨fb,(rBox_ok NB).okeep o (fun k hk=>hkeep k (by have:=hl k hk;omega) (by have:=hl k hk;omega) (fun e=>by have:=hl k hk;have:=hPge _ e;omega)),f,hl⟩,
  H.mC.keepI (fun k hk=>hkeep k (hC k hk).2 (by have:=(hC k hk).1;omega) (fun e=>H.np op H.mC k (op.blkIn k e) hk)),H.mK.keepI (fun k hk=>hkeep k (hK k hk).2 (by have:=(hK k hk).1;omega) (fun e=>H.np op H.mK k (op.blkIn k e) hk)),?_,H.ne,(H.be.trans (hb2.mono (by omega))).setCell (p:=⟨gS,4,none⟩) hgs.1 _,hgs,⟨by rw [World.size_setCell];exact Nat.le_trans hzs hb2.size,fun k h1 h2=>(hset k h1).trans ((hb2.block k h2).trans (H.os.2 k h1 h2))⟩⟩
 obtain⟨fq,oq,fg⟩:=hm;exact⟨fq,oq.okeep (rPlan_ok NB) (fun k hk=>hset k (by have:=fg.ge k hk;omega)),fg⟩
theorem Sb.own (h:Sb w wZ gS s AL nL cL AH nH cH AC nC cC AK nK cK AP nP cP W):∃ fp,(rSpace NB).own W fp [.slice AL nL cL,.slice AH nH cH,.slice AC nC cC,.slice AK nK cK,.slice AP nP cP] s/\Fr w.heap.size fp/\gS∉fp:=by
 obtain⟨fb,o,f,hl⟩:=h.oB;obtain⟨_,_,_,_,_,_,f1,f2,e,rfl,o1,o2⟩:=rBox_own.1 o;injection e with e1 e2;injection e1 with e1 e3 e4;injection e2 with e2 _;injection e2 with e2 e5 e6;subst e1 e2 e3 e4 e5 e6;obtain⟨fp,op,ff⟩:=h.mP;have hC:=h.mC.bI;have hK:=h.mK.bI;have hgs:=h.gs;have nC:∀ k∈fp,k∉blk AC:=h.np op h.mC;have nK:∀ k∈fp,k∉blk AK:=h.np op h.mK;have f2':Fr wZ.heap.size (blk AK++fp):=⟨List.nodup_append.2 ⟨by cases AK<;>simp [blk],ff.nd,fun a ha b hb e=>nK b hb (e▸ha)⟩,fun k hk=>(List.mem_append.1 hk).elim (fun e=>(hK.2 k e).1) (fun e=>ff.ge k e)⟩;have f3:Fr wZ.heap.size (blk AC++(blk AK++fp)):=⟨List.nodup_append.2 ⟨by cases AC<;>simp [blk],f2'.nd,fun a ha b hb e=>(List.mem_append.1 hb).elim (fun q=>h.ne a ha (e▸q)) (fun q=>nC b q (e▸ha))⟩,fun k hk=>(List.mem_append.1 hk).elim (fun e=>(hC.2 k e).1) (fun e=>f2'.ge k e)⟩
 have f4:=f.append f3 (fun k hk=>by have:=hl k hk;omega) (by omega);refine⟨_,rSpace_own.2 ⟨_,_,_,_,_,_,_,_,_,_,_,_,_,_,_,_,_,_,_,_,rfl,rfl,o1,o2,hC.1,hK.1,op⟩,f4,fun hm=>?_⟩;rcases List.mem_append.1 hm with e|e
 ·have:=hl _ e;omega
 ·have:=f3.ge _ e;omega
end
end Go.Proofs.YtnlcfkpcmfljeaaGreat
