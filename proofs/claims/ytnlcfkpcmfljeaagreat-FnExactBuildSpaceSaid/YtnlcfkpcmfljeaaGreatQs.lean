/-
  Qs
-/
import Derived.Test.YtnlcfkpcmfljeaaGreatKeep
import Derived.Test.YtnlcfkpcmfljeaaGreatQi
import Derived.Deep.RegionHeld3
namespace Go.Proofs.YtnlcfkpcmfljeaaGreat
open Go.RowKit
set_option linter.unusedVariables false
set_option linter.unusedSimpArgs false
def stepTail (q:QueryD) (x:PlanStepD) (y z:StepInfoD) (j i:Int):Option (StepInfoD × Nat) :=
 if x.fKind=4 then
  if hasV q.fAtoms y.fMask x.fOrder&&hasV q.fAtoms z.fMask x.fOrder&&decide (y.fOrder=x.fOrder)&&decide (z.fOrder=x.fOrder) then some (⟨orI y.fMask z.fMask,x.fOrder,j,i⟩,2) else none
 else if inR x.fKind 3 5 then
  if x.fOrder=0 then some (⟨orI y.fMask z.fMask,if x.fKind=5 then y.fOrder else -1,j,i⟩,2) else none
 else none
theorem stepTail_of {q:QueryD}{x:PlanStepD}{l:List StepInfoD}{st:List Int}{y z:StepInfoD}{j i:Int}(k1:¬ x.fKind=1) (k2:¬ x.fKind=2) (a0:x.fAtom=0) (h2:2<=st.length) (hy:infoAt l (topAt st 2)=y) (hz:infoAt l (topAt st 1)=z) (hj:topAt st 2=j) (hi:topAt st 1=i) :
  stepInfo q x l st=if joinOk q y z then stepTail q x y z j i else none:=by
 unfold stepInfo stepTail
 rw [if_neg k1,if_neg (fun h=>h a0),if_neg k2,decide_eq_true h2,hy,hz,hj,hi]
 cases hk:inR x.fKind 3 5
 ·have h:=inR_f.1 hk
  rw [if_neg (show ¬ x.fKind=4 by omega),if_neg (show ¬ x.fKind=4 by omega)]
  cases joinOk q y z<;>rfl
 ·cases joinOk q y z<;>rfl
structure TopRead (w:World) (l:List StepInfoD) (st:List Int) (As Al:Option Addr) (ni t k n:Nat) (j:Nat) (y:StepInfoD) (bS oS bI oI:Nat):Prop where
 eS:As=some ⟨bS,oS,none⟩
 eI:Al=some ⟨bI,oI,none⟩
 cS:w.cell? ⟨bS,oS+t,none⟩=some (.int .i64 j)
 hj:j<ni
 c0:w.cell? ⟨bI,oI+j*4,none⟩=some (.int .i64 y.fMask)
 c1:w.cell? ⟨bI,oI+j*4+1,none⟩=some (.int .i64 y.fOrder)
 c2:w.cell? ⟨bI,oI+j*4+2,none⟩=some (.int .i64 y.fLeft)
 c3:w.cell? ⟨bI,oI+j*4+3,none⟩=some (.int .i64 y.fRight)
 tj:topAt st k=(j:Int)
 yj:infoAt l (topAt st k)=y
 m0:1<=y.fMask
 m1:y.fMask<((2 ^ n:Nat):Int)
 io:I64 y.fOrder
theorem topRead {w:World}{l:List StepInfoD}{st:List Int}{As Al:Option Addr}{ns cs ni ci n:Nat}(hR:Run n l st) (hst:RS NB rInt w As ns cs st) (hl:RS NB (rStepInfo NB) w Al ni ci l) {t k:Nat}(ht:t+k=ns) (hk:1<=k) :
  ∃ (j:Nat) (y:StepInfoD) (bS oS bI oI:Nat),TopRead w l st As Al ni t k n j y bS oS bI oI:=by
 have hls:=hst.len
 have hli:=hl.len
 obtain⟨j,e1,e2,e3⟩:=hR.top (k:=k) hk (by omega)
 obtain⟨bS,oS,x,e4,c,_,hx⟩:=hst.ati (k:=t) (by omega)
 have hx:=hx.out
 have e5:x=(j:Int):=by
  unfold topAt at e1
  rw [show st.length - k=t by omega,hx]at e1
  exact e1
 subst e5
 obtain⟨bI,oI,y,e6,d0,d1,d2,d3,i0,i1,i2,i3,hy⟩:=hl.eStepInfo (k:=j) (by omega)
 have hy:=hy.out
 rw [e3]at hy;injection hy with hy
 have hm:=hR.mask _ (mem_of_at e3)
 exact⟨j,y,bS,oS,bI,oI,e4,e6,c,by omega,d0,d1,d2,d3,e1,hy,hy▸hm.1,hy▸hm.2,i1⟩
theorem TopRead.below {w w':World}{l:List StepInfoD}{st:List Int}{As Al:Option Addr}{ni t k n j:Nat}{y:StepInfoD}{bS oS bI oI:Nat}(h:TopRead w l st As Al ni t k n j y bS oS bI oI) (hb:Below w.heap.size w w'):TopRead w' l st As Al ni t k n j y bS oS bI oI :=
 ⟨h.eS,h.eI,cells_below hb _ _ h.cS,h.hj,cells_below hb _ _ h.c0,cells_below hb _ _ h.c1,cells_below hb _ _ h.c2,cells_below hb _ _ h.c3,h.tj,h.yj,h.m0,h.m1,h.io⟩
theorem Bk.setNe {w:World}{g k j:Nat}{t:TypeId}{cs:List Value}{v:Value}(h:Bk w g t cs) (hne:g≠k):Bk (w.setCell ⟨k,j,none⟩ v) g t cs:=(heap_setCell_other w ⟨k,j,none⟩ g v hne).trans h
theorem pow_le16 {n:Nat}(h:n<=4):(2:Nat) ^ n<=16:=by
 have:(2:Nat) ^ n<=2 ^ 4:=Nat.pow_le_pow_right (by omega) h
 omega
end Go.Proofs.YtnlcfkpcmfljeaaGreat
