/-
  Sbw
-/
import Derived.Test.YtnlcfkpcmfljeaaGreatBsp
import Derived.Test.YtnlcfkpcmfljeaaGreatTbs
set_option linter.unusedSimpArgs false
set_option linter.unusedVariables false
namespace Go.Proofs.YtnlcfkpcmfljeaaGreat
open Go.RowKit
theorem stp_nt {t:TypeId}:(rPlanStep NB).NT t:=rIso_nt (rPair_nt rInt_nt (rPair_nt rInt_nt rInt_nt)) _
theorem plan_nt {t:TypeId}(h:(173:TypeId)≠t):(rPlan NB).NT t:=rIso_nt (rSlice_nt stp_nt h) _
theorem neSI:(173:TypeId)≠3:=by decide
theorem nePI:(76:TypeId)≠3:=by decide
theorem OS.blkAt {α:Type}{r:Rp α}{M:Nat}{e:TypeId}{w:World}{fp:List Nat}{A:Option Addr}{n cap:Nat}{l:List α}(o:OS M e r w fp A n cap l):∀ k∈blk A,∃ cur,w.heap[k]?=some (.cells cur e (0,0)):=by
 obtain⟨css,fps,h3,rfl,h4⟩:=o.ex;intro k hk;rcases h3.2 with ⟨h1,_⟩|⟨g,c,cur,h1,_,hg,_⟩
 ·injection h1 with h1;subst h1;cases hk
 ·injection h1 with h1;subst h1
  simp [blk]at hk;subst hk;exact⟨_,hg⟩
section
variable {w:World} {g:Nat} {t:TypeId} {x0 x1 x2 x3 x4:Value}
theorem Bk.r5 (h:Bk w g t [x0,x1,x2,x3,x4]):w.cell? ⟨g,0,none⟩=some x0/\w.frozen? ⟨g,0,none⟩=false/\w.cell? ⟨g,1,none⟩=some x1/\w.frozen? ⟨g,1,none⟩=false/\w.cell? ⟨g,2,none⟩=some x2/\w.frozen? ⟨g,2,none⟩=false/\w.cell? ⟨g,3,none⟩=some x3/\w.frozen? ⟨g,3,none⟩=false/\w.cell? ⟨g,4,none⟩=some x4/\w.frozen? ⟨g,4,none⟩=false :=
 ⟨h.bx 0 _ rfl,h.frozen 0,h.bx 1 _ rfl,h.frozen 1,h.bx 2 _ rfl,h.frozen 2,h.bx 3 _ rfl,h.frozen 3,h.bx 4 _ rfl,h.frozen 4⟩
end
structure Sb (w wZ:World) (gS:Nat) (s:SpaceD) (AL:Option Addr) (nL cL:Nat) (AH:Option Addr) (nH cH:Nat) (AC:Option Addr) (nC cC:Nat) (AK:Option Addr) (nK cK:Nat) (AP:Option Addr) (nP cP:Nat) (W:World):Prop where
 kS:Bk W gS 39 [.slice AL nL cL,.slice AH nH cH,.slice AC nC cC,.slice AK nK cK,.slice AP nP cP]
 oB:∃ fb,(rBox NB).own W fb [.slice AL nL cL,.slice AH nH cH] s.fBox/\Fr w.heap.size fb/\∀ k∈fb,k<gS
 mC:MS wZ.heap.size NB 3 rInt W AC nC cC s.fCosts
 mK:MS wZ.heap.size NB 3 rInt W AK nK cK s.fChoices
 mP:MS wZ.heap.size NB 76 (rPlan NB) W AP nP cP s.fPlans
 ne:∀ k∈blk AC,k∉blk AK
 be:Below w.heap.size w W
 gs:w.heap.size<=gS/\gS<wZ.heap.size
 os:OutS (fun z=>z=gS) wZ W
section
variable {w wZ W W1 W2:World} {gS:Nat} {s:SpaceD} {AL:Option Addr} {nL cL:Nat} {AH:Option Addr} {nH cH:Nat} {AC:Option Addr} {nC cC:Nat} {AK:Option Addr} {nK cK:Nat} {AP:Option Addr} {nP cP:Nat} {A':Option Addr} {n' c':Nat}
theorem Sb.below (h:Sb w wZ gS s AL nL cL AH nH cH AC nC cC AK nK cK AP nP cP W) (hb:Below W.heap.size W W1):Sb w wZ gS s AL nL cL AH nH cH AC nC cC AK nK cK AP nP cP W1:=by
 obtain⟨fb,o,f,hl⟩:=h.oB;exact⟨h.kS.below hb,⟨fb,(rBox_ok NB).ownB o hb,f,hl⟩,h.mC.below rInt_ok hb,h.mK.below rInt_ok hb,h.mP.below (rPlan_ok NB) hb,h.ne,h.be.trans (hb.mono h.be.size),h.gs,h.os.trans (OutS.ofBelow hb)⟩
theorem Sb.np (h:Sb w wZ gS s AL nL cL AH nH cH AC nC cC AK nK cK AP nP cP W) {fp:List Nat}(o:OS NB 76 (rPlan NB) W fp AP nP cP s.fPlans) {A:Option Addr}{n c:Nat}{l:List Int}(m:MS wZ.heap.size NB 3 rInt W A n c l):∀ k∈fp,k∉blk A:=fun k hk hk2=>by
 obtain⟨cur,hc⟩:=m.bI.1.blkAt k hk2;exact o.nt (plan_nt neSI) nePI k hk _ _ hc
theorem Sb.own (h:Sb w wZ gS s AL nL cL AH nH cH AC nC cC AK nK cK AP nP cP W):∃ fp,(rSpace NB).own W fp [.slice AL nL cL,.slice AH nH cH,.slice AC nC cC,.slice AK nK cK,.slice AP nP cP] s/\Fr w.heap.size fp/\gS∉fp:=by
 obtain⟨fb,o,f,hl⟩:=h.oB;obtain⟨_,_,_,_,_,_,f1,f2,e,rfl,o1,o2⟩:=rBox_own.1 o;injection e with e1 e2;injection e1 with e1 e3 e4;injection e2 with e2 _;injection e2 with e2 e5 e6;subst e1 e2 e3 e4 e5 e6;obtain⟨fp,op,ff⟩:=h.mP;have hC:=h.mC.bI;have hK:=h.mK.bI;have hgs:=h.gs;have nC:∀ k∈fp,k∉blk AC:=h.np op h.mC;have nK:∀ k∈fp,k∉blk AK:=h.np op h.mK;have f2':Fr wZ.heap.size (blk AK++fp):=⟨List.nodup_append.2 ⟨by cases AK<;>simp [blk],ff.nd,fun a ha b hb e=>nK b hb (e▸ha)⟩,fun k hk=>(List.mem_append.1 hk).elim (fun e=>(hK.2 k e).1) (fun e=>ff.ge k e)⟩;have f3:Fr wZ.heap.size (blk AC++(blk AK++fp)):=⟨List.nodup_append.2 ⟨by cases AC<;>simp [blk],f2'.nd,fun a ha b hb e=>(List.mem_append.1 hb).elim (fun q=>h.ne a ha (e▸q)) (fun q=>nC b q (e▸ha))⟩,fun k hk=>(List.mem_append.1 hk).elim (fun e=>(hC.2 k e).1) (fun e=>f2'.ge k e)⟩
 have f4:=f.append f3 (fun k hk=>by have:=hl k hk;omega) (by omega);refine⟨_,rSpace_own.2 ⟨_,_,_,_,_,_,_,_,_,_,_,_,_,_,_,_,_,_,_,_,rfl,rfl,o1,o2,hC.1,hK.1,op⟩,f4,fun hm=>?_⟩;rcases List.mem_append.1 hm with e|e
 ·have:=hl _ e;omega
 ·have:=f3.ge _ e;omega
end
end Go.Proofs.YtnlcfkpcmfljeaaGreat
