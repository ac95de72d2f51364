/-
  Ibf
-/
import Derived.Test.YtadgmjdafkihfaaGreatSpace
import Derived.Test.YtadgmjdafkihfaaGreatBloc
import Derived.Deep.RegionHeld3
import Derived.Deep.DrawnRows
import Derived.Test.YtadgmjdafkihfaaGreatLoc
import Derived.Test.YtadgmjdafkihfaaGreatOper
namespace Go.Proofs.YtadgmjdafkihfaaGreat
open Go.RowKit
set_option linter.unusedVariables false
set_option linter.unusedSimpArgs false

theorem idxOf_any {α:Type}(p:α->Bool) (l:List α):decide (0<=idxOf p l)=l.any p:=by
 unfold idxOf
 cases hf:l.findIdx? p with
 | none =>
  rw [List.findIdx?_eq_none_iff]at hf
  have:l.any p=false:=by rw [List.any_eq_false];intro x hx;simpa using hf x hx
  rw [this];rfl
 | some i =>
  rw [List.findIdx?_eq_some_iff_getElem]at hf
  obtain⟨hi,hb,_⟩:=hf
  have:l.any p=true:=by rw [List.any_eq_true];exact⟨l[i],List.getElem_mem hi,hb⟩
  rw [this];simp

theorem indexFunc_IsBelowFrontier_1_c (A:Option Addr) (n cap:Nat) (l:List Int) (cp1:Value) (cp2:Value) (p:Int->Bool) (w:World) (hr:RS NB rInt w A n cap l)
  (hf:∀ x W,x∈l->Below w.heap.size w W->Calls Tryz.prog 66 #[.int .i64 x,cp1,cp2] W fun e w'=>e=.returned (.bool (p x))/\Below W.heap.size W w') :
  Calls Tryz.prog 139 #[.slice A n cap,.func (.func 66) #[] #[cp1,cp2]] w fun e w'=>e=.returned (.int .i64 (idxOf p l))/\Below w.heap.size w w':=by
 have hn:=hr.bound
 have HF:=Lib.hid hf;clear hf
 go_enter Tryz.func139,Tryz.ntmps139
 go_wp2
 go_loopw [8] (fun i wr=>∃ k:Nat,k<=n/\i=.int .i64 k/\(l.take k).all (fun b=>!p b)=true/\Below w.heap.size w wr) (fun i _=>n - (intOf i).toNat)
 case atStart=>exact⟨0,Nat.zero_le _,rfl,rfl,Below.refl _ _⟩
 case round =>
  obtain⟨k,hk,rfl,hall,hb⟩:=hrel
  have Hall:=Lib.hid hall;clear hall
  by_cases hlt:k<n
  ·obtain⟨b,off,x,rfl,hc,hI,hxk⟩:=(hr.below rInt_ok hb).ati hlt
   cases hx:p x
   ·go_wp2_with (go_at_call 66;refine(HF.out x wr (mem_of_at hxk.out) hb).mono ?_;rintro e w1 ⟨rfl,hb1⟩)
    go_roundw
    case rel=>exact⟨k+1,by omega,by go_num,all_snoc' Hall.out hxk.out (by simp [hx]),hb.trans (hb1.mono hb.size)⟩
    case measure=>simp [intOf];omega
   ·go_wp2_with (go_at_call 66;refine(HF.out x wr (mem_of_at hxk.out) hb).mono ?_;rintro e w1 ⟨rfl,hb1⟩)
    go_ret
    exact⟨ret_int (idxOf_yes Hall.out hxk.out hx).symm,hb.trans (hb1.mono hb.size)⟩
  ·go_wp2
   go_ret
   exact⟨ret_int (a:=-1) (idxOf_no (take_all hr.len hlt▸Hall.out)).symm,hb⟩
theorem containsFunc_IsBelowFrontier_1_c (A:Option Addr) (n cap:Nat) (l:List Int) (cp1:Value) (cp2:Value) (p:Int->Bool) (w:World) (hr:RS NB rInt w A n cap l)
  (hf:∀ x W,x∈l->Below w.heap.size w W->Calls Tryz.prog 66 #[.int .i64 x,cp1,cp2] W fun e w'=>e=.returned (.bool (p x))/\Below W.heap.size W w') :
  Calls Tryz.prog 57 #[.slice A n cap,.func (.func 66) #[] #[cp1,cp2]] w fun e w'=>e=.returned (.bool (l.any p))/\Below w.heap.size w w':=by
 go_enter Tryz.func57,Tryz.ntmps57
 go_wp2_with fail
 refine(indexFunc_IsBelowFrontier_1_c A n cap l _ _ p w hr hf).mono ?_
 rintro e w1 ⟨rfl,hb1⟩
 generalize hk:idxOf p l=k
 have HK:=Lib.hid hk;clear hk
 go_wp2
 go_ret
 exact⟨ret_bool (by rw [<- idxOf_any,HK.out]),hb1⟩
def belowAt (x:SpaceD) (l:List Int) (k:Int):Bool:=(boxLoc x.fBox k).2&&dom (boxLoc x.fBox k).1 l
def belowFrontier (x:SpaceD) (f l:List Int):Bool:=validSpace x&&f.any (belowAt x l)
set_option maxRecDepth 100000 in
set_option maxHeartbeats 1600000 in
theorem iIsBelowFrontier_c (csx:List Value) (x:SpaceD) (Af:Option Addr) (nf cf:Nat) (f:List Int) (Al:Option Addr) (nl cl:Nat) (l:List Int) (w:World) (hx:(rSpace NB).rep w csx x) (hf:RS NB rInt w Af nf cf f) (hl:RS NB rInt w Al nl cl l) :
  Calls Tryz.prog 20 #[.agg csx.toArray,.slice Af nf cf,.slice Al nl cl] w fun e w'=>e=.returned (.bool (belowFrontier x f l))/\Below w.heap.size w w':=by
 have rx:=hx
 obtain⟨AxBoxLow,nxBoxLow,cxBoxLow,AxBoxHigh,nxBoxHigh,cxBoxHigh,AxCosts,nxCosts,cxCosts,AxChoices,nxChoices,cxChoices,AxPlans,nxPlans,cxPlans,rfl,hxBoxLow,hxBoxHigh,hxCosts,hxChoices,hxPlans⟩:=rSpace_rep.1 hx
 clear hx
 have hB:Below w.heap.size w w:=Below.refl _ _
 have hAx:=(Below.refl (World.heap (w)).size (w)).alloc (Nat.le_refl _) (.cells #[.slice AxBoxLow nxBoxLow cxBoxLow,.slice AxBoxHigh nxBoxHigh cxBoxHigh,.slice AxCosts nxCosts cxCosts,.slice AxChoices nxChoices cxChoices,.slice AxPlans nxPlans cxPlans] 29)
 replace hB:=hB.trans (hAx.mono hB.size)
 have bxx:=Bx.new (w) [.slice AxBoxLow nxBoxLow cxBoxLow,.slice AxBoxHigh nxBoxHigh cxBoxHigh,.slice AxCosts nxCosts cxCosts,.slice AxChoices nxChoices cxChoices,.slice AxPlans nxPlans cxPlans] 29
 clear hAx
 obtain⟨wa,hwa⟩:∃ wa,wa=w.alloc (.cells #[.slice AxBoxLow nxBoxLow cxBoxLow,.slice AxBoxHigh nxBoxHigh cxBoxHigh,.slice AxCosts nxCosts cxCosts,.slice AxChoices nxChoices cxChoices,.slice AxPlans nxPlans cxPlans] 29):=⟨_,rfl⟩
 rw [<- hwa]at hB bxx
 have hBA:=(Below.refl wa.heap.size wa).alloc (Nat.le_refl _) (.cells #[.slice Al nl cl] 24)
 have bxl:=Bx.new wa [.slice Al nl cl] 24
 replace hB:=hB.trans (hBA.mono hB.size)
 replace bxx:=bxx.below hBA
 clear hBA
 rw [hwa]at hB bxx bxl
 simp only [World.size_alloc]at bxl
 clear hwa
 go_enter Tryz.func20,Tryz.ntmps20
 go_wp2_with fail
 refine(iIsValidSpace_c _ x _ ((rSpace_ok NB).keep rx (cells_below hB))).mono ?_
 rintro e w1 ⟨rfl,hb1⟩
 replace hB:=hB.trans (hb1.mono hB.size)
 replace bxx:=bxx.below hb1
 replace bxl:=bxl.below hb1
 clear hb1
 cases e1:validSpace x
 ·go_wp2
  go_ret
  exact⟨ret_bool (a:=false) (by simp [belowFrontier,e1]),hB⟩
 go_wp2_with fail
 refine(containsFunc_IsBelowFrontier_1_c _ _ _ f _ _ (belowAt x l) _ (hf.below rInt_ok hB) ?_).mono ?_
 ·intro k W hk hbW
  have hIk:=hf.rng k hk
  have k0:=bxx.below hbW 0 _ rfl
  have k1:=bxx.below hbW 1 _ rfl
  have kl:=bxl.below hbW 0 _ rfl
  have hBW:=hB.trans (hbW.mono hB.size)
  go_enter Tryz.func66,Tryz.ntmps66
  go_wp2_with fail
  refine(iBoxLocation_c _ x.fBox k _ (rBox_rep.2 ⟨AxBoxLow,nxBoxLow,cxBoxLow,AxBoxHigh,nxBoxHigh,cxBoxHigh,rfl,hxBoxLow.below rInt_ok hBW,hxBoxHigh.below rInt_ok hBW⟩) hIk).mono ?_
  rintro e w5 ⟨A5,n5,c5,rfl,M5,hb5⟩
  replace kl:=cells_below hb5 _ _ kl
  have hB5:=hBW.trans (hb5.mono hBW.size)
  clear k0 k1
  cases h2:(boxLoc x.fBox k).2
  ·go_wp2
   go_ret
   exact⟨ret_bool (a:=false) (by simp [belowAt,h2]),hb5⟩
  ·go_wp2_with fail
   refine(iDominatesLocation_c _ _ _ _ _ _ _ _ _ (M5.rs rInt_ok) (hl.below rInt_ok hB5)).mono ?_
   rintro e w6 ⟨rfl,hq6⟩
   go_wp2
   go_ret
   exact⟨ret_bool (by simp [belowAt,h2]),hb5.trans (hq6.belowS.mono hb5.size)⟩
 ·rintro e w7 ⟨rfl,hb7⟩
  go_wp2
  go_ret
  exact⟨ret_bool (by simp [belowFrontier,e1]),hB.trans (hb7.mono hB.size)⟩
end Go.Proofs.YtadgmjdafkihfaaGreat
namespace Go.Proofs.YtadgmjdafkihfaaGreat
open Go.RowKit
set_option linter.unusedVariables false
set_option linter.unusedSimpArgs false

/-- the number of the location that is greater by one in coordinate k -/
def upIdx (b:BoxD) (l:List Int) (k:Nat):Int:=boxIndex b (l.set k ((l[k]?).getD 0+1))
/-- those of them that lie in the box, from coordinate 0 to m - 1 -/
def aboveTo (b:BoxD) (l:List Int):Nat->List Int
 | 0=>[]
 | m+1=>if 0<=upIdx b l m then aboveTo b l m++[upIdx b l m] else aboveTo b l m
theorem aboveTo_len (b:BoxD) (l:List Int) (m:Nat):(aboveTo b l m).length<=m:=by
 induction m with
 | zero=>simp [aboveTo]
 | succ m ih =>
  unfold aboveTo
  split
  ·rw [List.length_append];simp only [List.length_cons,List.length_nil];omega
  ·omega
theorem aboveTo_mem {b:BoxD}{l:List Int}{m:Nat}{j:Int}(h:j∈aboveTo b l m):0<=j/\j<volume b:=by
 induction m with
 | zero=>simp [aboveTo]at h
 | succ m ih =>
  unfold aboveTo at h
  split at h
  ·rename_i h0
   rcases List.mem_append.1 h with h|h
   ·exact ih h
   ·simp at h;subst h;exact⟨h0,boxIndex_lt.2.2 h0⟩
  ·exact ih h
def aboveL (b:BoxD) (k:Int):List Int:=aboveTo b (boxLoc b k).1 (boxLoc b k).1.length
theorem digs_mem {ws:List Int}{i:Int}(h:∀ x∈ws,1<=x/\x<=8):∀ d∈(digs ws i).1,0<=d/\d<=7:=by
 induction ws with
 | nil=>intro d hd;simp [digs]at hd
 | cons v ws ih =>
  intro d hd
  simp only [digs,List.mem_cons]at hd
  rcases hd with rfl|hd
  ·have hv:=h v List.mem_cons_self
   have h1:0<=(digs ws i).2 % v:=Int.emod_nonneg _ (by omega)
   have h2:(digs ws i).2 % v<v:=Int.emod_lt_of_pos _ (by omega)
   omega
  ·exact ih (fun x hx=>h x (List.mem_cons_of_mem _ hx)) d hd
theorem mem_zipAdd {a b:List Int}{z:Int}(h:z∈List.zipWith (·+·) a b):∃ x∈a,∃ y∈b,z=x+y:=by
 induction a generalizing b with
 | nil=>simp at h
 | cons x a ih =>
  cases b with
  | nil=>simp at h
  | cons y b =>
   simp only [List.zipWith_cons_cons,List.mem_cons]at h
   rcases h with rfl|h
   ·exact⟨x,List.mem_cons_self,y,List.mem_cons_self,rfl⟩
   ·obtain⟨x',hx,y',hy,e⟩:=ih h
    exact⟨x',List.mem_cons_of_mem _ hx,y',List.mem_cons_of_mem _ hy,e⟩
theorem boxLoc_small (b:BoxD) (k:Int):(boxLoc b k).1.length<=16/\∀ z∈(boxLoc b k).1,0<=z/\z<=14:=by
 unfold boxLoc
 split
 ·rename_i h
  have hv:validBox b=true:=by simp only [Bool.and_eq_true]at h;exact h.1
  have h1:=isLoc_at (validBox_parts hv).1
  refine⟨?_,fun z hz=>?_⟩
  ·show(List.zipWith (·+·) b.fLow (digs (widths b) k).1).length<=16
   rw [List.length_zipWith];have:=h1.1;omega
  ·obtain⟨x,hx,y,hy,rfl⟩:=mem_zipAdd hz
   obtain⟨n,hn⟩:=List.getElem?_of_mem hx
   have:=h1.2 n x hn
   have:=digs_mem (widths_mem hv) y hy
   omega
 ·simp
theorem MS.lowI {B T:Nat}{w w':World}{g n cap:Nat}{l:List Int}(h:MS B NB 3 rInt w (some ⟨g,0,none⟩) n cap l) (hg:g<T) (hb:Below T w w'):MS B NB 3 rInt w' (some ⟨g,0,none⟩) n cap l:=by
 obtain⟨o,hB⟩:=h.blkI
 exact⟨_,o.below rInt_ok hb (fun k hk=>by simp [blk]at hk;omega),by simp [blk],hB⟩
theorem aboveTo_yes {b:BoxD}{l:List Int}{k:Nat}(h:0<=upIdx b l k):aboveTo b l (k+1)=aboveTo b l k++[upIdx b l k]:=by
 show(if 0<=upIdx b l k then _ else _)=_;rw [if_pos h]
theorem aboveTo_no {b:BoxD}{l:List Int}{k:Nat}(h:¬ 0<=upIdx b l k):aboveTo b l (k+1)=aboveTo b l k:=by
 show(if 0<=upIdx b l k then _ else _)=_;rw [if_neg h]
theorem upIdx_at {b:BoxD}{l:List Int}{k:Nat}{u:Int}(h:l[k]?=some u):upIdx b l k=boxIndex b (l.set k (u+1)):=by
 unfold upIdx;rw [h];rfl
theorem set_back {l:List Int}{k:Nat}{u v:Int}(h:l[k]?=some u):(l.set k v).set k u=l:=by
 obtain⟨hk,rfl⟩:=List.getElem?_eq_some_iff.1 h
 rw [List.set_set];exact List.set_getElem_self hk

theorem cell_setCell_other {w:World}{a g j i:Nat}{v:Value}(h:a≠g):(w.setCell ⟨g,i,none⟩ v).cell? ⟨a,j,none⟩=w.cell? ⟨a,j,none⟩:=by
 have:=setCells_other w g i [v] a h
 simp only [setCells]at this
 unfold World.cell?
 rw [this]
theorem low_cell {T:Nat}{w w':World}(h:Below T w w') {a:Nat}(ha:a<T) (j:Nat):w'.cell? ⟨a,j,none⟩=w.cell? ⟨a,j,none⟩:=by
 unfold World.cell?
 rw [h.block a ha]
theorem upIdx_I64 (b:BoxD) (l:List Int) (k:Nat):I64 (upIdx b l k):=by
 have h:=boxIndex_lt (x:=b) (l:=l.set k ((l[k]?).getD 0+1))
 unfold upIdx
 refine⟨by omega,?_⟩
 by_cases h0:0<=boxIndex b (l.set k ((l[k]?).getD 0+1))
 ·have h1:=h.2.2 h0
  have hv:=(inBox_parts (h.2.1 h0)).1
  have h2:=(prod_take_bd hv (widths b).length).2
  rw [List.take_length]at h2
  have h3:volume b<=281474976710656:=h2
  omega
 ·omega

set_option maxRecDepth 100000 in
set_option maxHeartbeats 1600000 in
theorem sUp_c (csb:List Value) (b:BoxD) (Al:Option Addr) (nl cl:Nat) (l:List Int) (k:Int) (w:World) (hb:(rBox NB).rep w csb b) (hl:RS NB rInt w Al nl cl l) (hk0:0<=k) (hk1:k<l.length) (hz:∀ z∈l,0<=z/\z<=14) :
  Calls Tryz.prog 60 #[.agg csb.toArray,.slice Al nl cl,.int .i64 k] w fun e w'=>e=.returned (.int .i64 (upIdx b l k.toNat))/\Below w.heap.size w w':=by
 have rb:=hb
 obtain⟨AbLow,nbLow,cbLow,AbHigh,nbHigh,cbHigh,rfl,hbLow,hbHigh⟩:=rBox_rep.1 hb
 clear hb
 have hB:Below w.heap.size w w:=Below.refl _ _
 have hAb:=(Below.refl (World.heap (w)).size (w)).alloc (Nat.le_refl _) (.cells #[.slice AbLow nbLow cbLow,.slice AbHigh nbHigh cbHigh] 26)
 replace hB:=hB.trans (hAb.mono hB.size)
 have bxb:=Bx.new (w) [.slice AbLow nbLow cbLow,.slice AbHigh nbHigh cbHigh] 26
 clear hAb
 obtain⟨j,rfl⟩:∃ j:Nat,k=j:=⟨k.toNat,by omega⟩
 have hjn:j<nl:=by have:=hl.len;omega
 have hnl:=hl.bound
 simp only [Int.toNat_natCast]
 go_enter Tryz.func60,Tryz.ntmps60
 have hnew:=heap_alloc_new (w.alloc (.cells #[.slice AbLow nbLow cbLow,.slice AbHigh nbHigh cbHigh] 26)) (.cells #[] 3)
 rw [World.size_alloc]at hnew
 go_upto_region 2 with (at_builtin;refine wpList_appe (r:=rInt) (M:=NB) rfl _ _ 24 rfl _ 8 eiInt rInt_ok rInt_flat rfl hnew rfl (hl.below rInt_ok (hB.alloc hB.size _)) hl.nb (Nat.le_refl _) (by omega) ?_;intro A3 c3 w3 o3 g3 hb3)
 obtain⟨w0,hw0⟩:∃ w0,w0=w.alloc (.cells #[.slice AbLow nbLow cbLow,.slice AbHigh nbHigh cbHigh] 26):=⟨_,rfl⟩
 have hz0:w0.heap.size=w.heap.size+1:=by rw [hw0];simp
 rw [<- hw0]at hB bxb hb3 g3
 have hE:Below w0.heap.size w0 w3:=((Below.refl w0.heap.size w0).alloc (Nat.le_refl _) (.cells #[] 3)).trans (hb3.mono (by simp))
 have hM:MS w0.heap.size NB 3 rInt w3 A3 nl c3 l:=⟨_,o3,by cases A3<;>simp [blk],fun k hk=>by have:=g3 k hk;simp at this;omega⟩
 clear o3 g3 hb3 hw0
 obtain⟨g,rfl,hgl,hgB⟩:=hM.form (by omega)
 obtain⟨u,hu,hIu,huk⟩:=hM.celli hjn
 have hu14:=hz u (mem_of_at huk.out)
 have hfz:=hM.frozen j
 have m1:IntKind.i64.wrap (u+1)=u+1:=IntWalk.i64_in _ (by omega)
 go_upto_region 3 with fail
 have hS:=hM.set j (x:=u+1) ⟨by omega,by omega⟩
 have hES:=hE.setCell (p:=⟨g,j,none⟩) hgB (.int .i64 (u+1))
 obtain⟨ws,hws⟩:∃ ws,ws=w3.setCell ⟨g,j,none⟩ (.int .i64 (u+1)):=⟨_,rfl⟩
 rw [<- hws]at hS hES
 rw [<- hws]
 clear hws hu hfz hM hE
 replace hB:=hB.trans (hES.mono hB.size)
 replace bxb:=bxb.below hES
 clear hES
 have kb_0:=bxb 0 _ rfl
 have kb_1:=bxb 1 _ rfl
 go_wp2_with fail
 refine(sBoxIndex_c _ b _ _ _ _ _ ((rBox_ok NB).keep rb (cells_below hB)) (hS.rs rInt_ok)).mono ?_
 rintro e w1 ⟨rfl,hb1⟩
 replace hB:=hB.trans (hb1.mono hB.size)
 replace bxb:=bxb.below hb1
 clear hb1 kb_0 kb_1
 go_wp2
 go_ret
 exact⟨ret_int (by rw [upIdx_at huk.out]),hB⟩

set_option maxRecDepth 100000 in
set_option maxHeartbeats 1600000 in
theorem iAbove_c (csx:List Value) (x:SpaceD) (k:Int) (w:World) (hx:(rSpace NB).rep w csx x) (hI:I64 k) :
  Calls Tryz.prog 58 #[.agg csx.toArray,.int .i64 k] w (RetS 3 rInt (aboveL x.fBox k) w):=by
 have rx:=hx
 obtain⟨AxBoxLow,nxBoxLow,cxBoxLow,AxBoxHigh,nxBoxHigh,cxBoxHigh,AxCosts,nxCosts,cxCosts,AxChoices,nxChoices,cxChoices,AxPlans,nxPlans,cxPlans,rfl,hxBoxLow,hxBoxHigh,hxCosts,hxChoices,hxPlans⟩:=rSpace_rep.1 hx
 clear hx
 have hB:Below w.heap.size w w:=Below.refl _ _
 have hAx:=(Below.refl (World.heap (w)).size (w)).alloc (Nat.le_refl _) (.cells #[.slice AxBoxLow nxBoxLow cxBoxLow,.slice AxBoxHigh nxBoxHigh cxBoxHigh,.slice AxCosts nxCosts cxCosts,.slice AxChoices nxChoices cxChoices,.slice AxPlans nxPlans cxPlans] 29)
 replace hB:=hB.trans (hAx.mono hB.size)
 have bxx:=Bx.new (w) [.slice AxBoxLow nxBoxLow cxBoxLow,.slice AxBoxHigh nxBoxHigh cxBoxHigh,.slice AxCosts nxCosts cxCosts,.slice AxChoices nxChoices cxChoices,.slice AxPlans nxPlans cxPlans] 29
 clear hAx
 have kx_0:=bxx 0 _ rfl
 have kx_1:=bxx 1 _ rfl
 go_enter Tryz.func58,Tryz.ntmps58
 go_wp2_with fail
 refine(iBoxLocation_c _ x.fBox k _ (rBox_rep.2 ⟨AxBoxLow,nxBoxLow,cxBoxLow,AxBoxHigh,nxBoxHigh,cxBoxHigh,rfl,hxBoxLow.below rInt_ok hB,hxBoxHigh.below rInt_ok hB⟩) hI).mono ?_
 rintro e w1 ⟨A1,n1,c1,rfl,M1,hb1⟩
 have hz1:=hb1.size
 replace hB:=hB.trans (hb1.mono hB.size)
 replace bxx:=bxx.below hb1
 clear hb1 kx_0 kx_1
 simp only [World.size_alloc]at M1
 have hsm:=boxLoc_small x.fBox k
 have HA:Hid (aboveL x.fBox k=aboveTo x.fBox (boxLoc x.fBox k).1 (boxLoc x.fBox k).1.length):=Lib.hid rfl
 generalize (boxLoc x.fBox k).1=l at M1 hsm HA
 have HL:=Lib.hid M1.len
 have hn1:n1<=16:=by rw [<- HL.out];exact hsm.1
 have HZ:=Lib.hid hsm.2;clear hsm
 have hw1:w.heap.size<w1.heap.size:=by have:=hz1;simp at this;omega
 clear hz1
 go_wp2
 go_loopw [7,20] (fun v i wr=>∃ (q n c:Nat) (A:Option Addr),q<=n1/\n<=q/\i=.int .i64 q/\v=.slice A n c/\MS (w.heap.size+1) NB 3 rInt wr A1 n1 c1 l/\MS w1.heap.size NB 3 rInt wr A n c (aboveTo x.fBox l q)/\(∀ g∈blk A1,g<w1.heap.size)/\w1.heap.size<=wr.heap.size/\Below w.heap.size w wr/\Bx wr w.heap.size [.slice AxBoxLow nxBoxLow cxBoxLow,.slice AxBoxHigh nxBoxHigh cxBoxHigh,.slice AxCosts nxCosts cxCosts,.slice AxChoices nxChoices cxChoices,.slice AxPlans nxPlans cxPlans]) (fun _ i _=>n1 - (intOf i).toNat)
 case atStart =>
  have hA:=(Below.refl w1.heap.size w1).alloc (Nat.le_refl _) (.cells #[] 3)
  exact⟨0,0,0,_,Nat.zero_le _,Nat.le_refl _,rfl,rfl,M1.below rInt_ok hA,MS.empty _ (Nat.le_refl _),fun g hg=>M1.blkI.1.lt rInt_ok g hg,hA.size,hB.trans (hA.mono hB.size),bxx.below hA⟩
 case round =>
  clear M1 hB bxx
  obtain⟨q,n,c,A,hq,hnq,rfl,rfl,hM1,hM,hlow,hsz,hB,bxx⟩:=hrel
  by_cases hlt:q<n1
  ·obtain⟨g,rfl,hgl,hgB⟩:=hM1.form (by omega)
   have hg1:g<w1.heap.size:=hlow g (by simp [blk])
   obtain⟨u,hu,hIu,huk⟩:=hM1.celli hlt
   have hu14:=HZ.out u (mem_of_at huk.out)
   have hfz:=hM1.frozen q
   have m1:IntKind.i64.wrap (u+1)=u+1:=IntWalk.i64_in _ (by omega)
   go_upto_region 7 with fail
   have hS:=hM1.set q (x:=u+1) ⟨by omega,by omega⟩
   have hMs:=hM.out rInt_ok ((Out.refl w1.heap.size wr).setCell (p:=⟨g,q,none⟩) hg1 (.int .i64 (u+1)))
   have hbs:Below w.heap.size wr (wr.setCell ⟨g,q,none⟩ (.int .i64 (u+1))):=(Below.refl w.heap.size wr).setCell (by show w.heap.size<=g;omega) _
   have hgx:w.heap.size≠g:=by omega
   have bxs:Bx (wr.setCell ⟨g,q,none⟩ (.int .i64 (u+1))) w.heap.size [.slice AxBoxLow nxBoxLow cxBoxLow,.slice AxBoxHigh nxBoxHigh cxBoxHigh,.slice AxCosts nxCosts cxCosts,.slice AxChoices nxChoices cxChoices,.slice AxPlans nxPlans cxPlans]:=fun j v hj=>by rw [cell_setCell_other hgx];exact bxx j v hj
   have hzs:w1.heap.size<=(wr.setCell ⟨g,q,none⟩ (.int .i64 (u+1))).heap.size:=by simpa using hsz
   replace hB:=hB.trans hbs
   obtain⟨ws,hws⟩:∃ ws,ws=wr.setCell ⟨g,q,none⟩ (.int .i64 (u+1)):=⟨_,rfl⟩
   rw [<- hws]at hS hMs bxs hB hzs
   rw [<- hws]
   clear hws hu hfz hM1 hM hbs bxx
   have bxx:=bxs;clear bxs
   have kx_0:=bxx 0 _ rfl
   have kx_1:=bxx 1 _ rfl
   have hz5:=hzs
   go_wp2_with fail
   refine(iBoxIndex_c _ x.fBox _ _ _ _ _ (rBox_rep.2 ⟨AxBoxLow,nxBoxLow,cxBoxLow,AxBoxHigh,nxBoxHigh,cxBoxHigh,rfl,hxBoxLow.below rInt_ok hB,hxBoxHigh.below rInt_ok hB⟩) (hS.rs rInt_ok)).mono ?_
   rintro e w5 ⟨rfl,hb5⟩
   replace hzs:=Nat.le_trans hzs hb5.size
   replace hB:=hB.trans (hb5.mono hB.size)
   replace bxx:=bxx.below hb5
   replace hS:=hS.below rInt_ok hb5
   replace hMs:=hMs.below rInt_ok hb5
   clear hb5 kx_0 kx_1
   have HU:=Lib.hid (upIdx_at (b:=x.fBox) huk.out)
   rw [<- HU.out]
   have hup:=boxIndex_lt (x:=x.fBox) (l:=l.set q (u+1))
   rw [<- HU.out]at hup
   have hvol:Hid (True):=Lib.hid trivial
   have HY:=fun h=>aboveTo_yes (b:=x.fBox) (l:=l) (k:=q) h
   have HN:=fun h=>aboveTo_no (b:=x.fBox) (l:=l) (k:=q) h
   have HYN:=Lib.hid (And.intro HY HN);clear HY HN HU
   have hIj:I64 (upIdx x.fBox l q):=upIdx_I64 _ _ _
   generalize upIdx x.fBox l q=jj at hup HYN hIj
   by_cases h0:0<=jj
   ·have HJ:=Lib.hid (HYN.out.1 h0)
    go_upto_region 10 with (at_builtin;refine wpList_app (r:=rInt) rfl _ _ 24 rfl _ 8 eiInt rInt_ok rfl hMs ((Below.refl _ _).alloc (Nat.le_refl _) _) hzs ⟨w5.heap.size,0,none⟩ rfl [] [.int .i64 jj] jj ⟨rfl,rfl,hIj⟩ (Fr.nil _) (cell_one_new _ _ _) (by unfold NB;omega) (Nat.le_refl _) (by omega) ?_;intro A2 k2 w6 hM2 hb2 hg2)
    have hS5:=hS.below rInt_ok ((Below.refl _ _).alloc (Nat.le_refl _) (.cells #[.int .i64 jj] 3))
    have hS6:=hS5.lowI hg1 hb2
    have hB6:=(hB.alloc hB.size (.cells #[.int .i64 jj] 3)).trans (hb2.mono (Nat.le_of_lt hw1))
    have bx6:=fun j v (hj:_)=>(low_cell hb2 hw1 j).trans ((bxx.below ((Below.refl _ _).alloc (Nat.le_refl _) (.cells #[.int .i64 jj] 3))) j v hj)
    have hz6:=Nat.le_trans (Nat.le_trans hzs (by simp)) hb2.size
    obtain⟨u2,hu,hIu2,huk2⟩:=hS6.celli hlt
    obtain rfl:u2=u+1:=by have:=huk2.out;rw [List.getElem?_set_self (lt_of_at huk.out)]at this;injection this with this;exact this.symm
    have hfz:=hS6.frozen q
    have m2:IntKind.i64.wrap (u+1 - 1)=u:=by rw [show u+1 - 1=u by omega];exact IntWalk.i64_in _ (by omega)
    go_wp2
    go_roundw
    case rel=>exact⟨q+1,n+1,k2,_,by omega,by omega,by go_num,rfl,set_back huk.out▸hS6.set q hIu,(HJ.out▸hM2).out rInt_ok ((Out.refl _ _).setCell (p:=⟨g,q,none⟩) hg1 _),fun k hk=>by simp [blk]at hk;omega,by simpa using hz6,hB6.setCell (by show w.heap.size<=g;omega) _,fun j v hj=>by rw [cell_setCell_other (by omega)];exact bx6 j v hj⟩
    case measure=>simp [intOf];omega
   ·have HJ:=Lib.hid (HYN.out.2 h0)
    obtain⟨u2,hu,hIu2,huk2⟩:=hS.celli hlt
    obtain rfl:u2=u+1:=by have:=huk2.out;rw [List.getElem?_set_self (lt_of_at huk.out)]at this;injection this with this;exact this.symm
    have hfz:=hS.frozen q
    have m2:IntKind.i64.wrap (u+1 - 1)=u:=by rw [show u+1 - 1=u by omega];exact IntWalk.i64_in _ (by omega)
    go_wp2
    go_roundw
    case rel=>exact⟨q+1,n,c,_,by omega,by omega,by go_num,rfl,set_back huk.out▸hS.set q hIu,(HJ.out▸hMs).out rInt_ok ((Out.refl _ _).setCell (p:=⟨g,q,none⟩) hg1 _),fun k hk=>by simp [blk]at hk;omega,by simpa using hzs,hB.setCell (by show w.heap.size<=g;omega) _,fun j v hj=>by rw [cell_setCell_other (by omega)];exact bxx j v hj⟩
    case measure=>simp [intOf];omega
  ·go_wp2
   go_ret
   exact⟨_,_,_,rfl,by rw [HA.out,HL.out,show n1=q by omega];exact hM.base (by omega),hB⟩
end Go.Proofs.YtadgmjdafkihfaaGreat
namespace Go.Proofs.YtadgmjdafkihfaaGreat
open Go.RowKit
set_option linter.unusedVariables false
set_option linter.unusedSimpArgs false

def costN (s:SpaceD) (n:Int):Int:=(s.fCosts[n.toNat]?).getD 0
theorem costN_at {s:SpaceD}{j:Nat}{c:Int}(h:s.fCosts[j]?=some c):costN s j=c:=by simp [costN,h]
def monoAt (s:SpaceD) (i:Nat):Bool:=(aboveL s.fBox i).all (fun n=>!decide (costN s n<costN s i))
def monoSpace (s:SpaceD):Bool:=validSpace s&&(List.range s.fCosts.length).all (monoAt s)
theorem range_snoc_all {p:Nat->Bool}{k:Nat}(h:(List.range k).all p=true) (hk:p k=true):(List.range (k+1)).all p=true:=by
 rw [List.range_succ,List.all_append,h];simp [hk]
theorem range_no_all {p:Nat->Bool}{k n:Nat}(hk:p k=false) (h:k<n):(List.range n).all p=false:=by
 rw [List.all_eq_false];exact⟨k,List.mem_range.2 h,by simp [hk]⟩
theorem aboveL_mem {s:SpaceD}(h:validSpace s=true) {i j:Int}(hj:j∈aboveL s.fBox i):0<=j/\j<s.fCosts.length:=by
 have h1:=aboveTo_mem hj
 obtain⟨_,_,_,h4,_⟩:=validSpace_parts h
 omega
theorem aboveL_len (b:BoxD) (i:Int):(aboveL b i).length<=16:=Nat.le_trans (aboveTo_len _ _ _) (boxLoc_small b i).1
theorem mono_no {s:SpaceD}{i:Nat}{j:Int}(hj:j∈aboveL s.fBox i) (h:costN s j<costN s i):monoAt s i=false:=by
 unfold monoAt;rw [List.all_eq_false];exact⟨j,hj,by simp [h]⟩
theorem aboveTo_sub {b:BoxD}{l:List Int}{m n:Nat}{j:Int}(hj:j∈aboveTo b l m) (h:m<=n):j∈aboveTo b l n:=by
 induction n with
 | zero =>
  obtain rfl:m=0:=by omega
  exact hj
 | succ n ih =>
  by_cases hm:m=n+1
  ·subst hm;exact hj
  ·have h1:=ih (by omega)
   unfold aboveTo;split
   ·exact List.mem_append_left _ h1
   ·exact h1
theorem aboveTo_new {b:BoxD}{l:List Int}{k:Nat}(h:0<=upIdx b l k):upIdx b l k∈aboveTo b l (k+1):=by
 rw [aboveTo_yes h];exact List.mem_append_right _ List.mem_cons_self

set_option maxRecDepth 100000 in
set_option maxHeartbeats 1600000 in
theorem iIsMonotoneSpace_c (csx:List Value) (x:SpaceD) (w:World) (hx:(rSpace NB).rep w csx x) :
  Calls Tryz.prog 41 #[.agg csx.toArray] w fun e w'=>e=.returned (.bool (monoSpace x))/\Below w.heap.size w w':=by
 have rx:=hx
 obtain⟨AxBoxLow,nxBoxLow,cxBoxLow,AxBoxHigh,nxBoxHigh,cxBoxHigh,AxCosts,nxCosts,cxCosts,AxChoices,nxChoices,cxChoices,AxPlans,nxPlans,cxPlans,rfl,hxBoxLow,hxBoxHigh,hxCosts,hxChoices,hxPlans⟩:=rSpace_rep.1 hx
 clear hx
 have hB:Below w.heap.size w w:=Below.refl _ _
 have hAx:=(Below.refl (World.heap (w)).size (w)).alloc (Nat.le_refl _) (.cells #[.slice AxBoxLow nxBoxLow cxBoxLow,.slice AxBoxHigh nxBoxHigh cxBoxHigh,.slice AxCosts nxCosts cxCosts,.slice AxChoices nxChoices cxChoices,.slice AxPlans nxPlans cxPlans] 29)
 replace hB:=hB.trans (hAx.mono hB.size)
 have bxx:=Bx.new (w) [.slice AxBoxLow nxBoxLow cxBoxLow,.slice AxBoxHigh nxBoxHigh cxBoxHigh,.slice AxCosts nxCosts cxCosts,.slice AxChoices nxChoices cxChoices,.slice AxPlans nxPlans cxPlans] 29
 clear hAx
 have hnC:=hxCosts.bound
 have HL:=Lib.hid hxCosts.len
 go_enter Tryz.func41,Tryz.ntmps41
 go_wp2_with fail
 refine(iIsValidSpace_c _ x _ ((rSpace_ok NB).keep rx (cells_below hB))).mono ?_
 rintro e w1 ⟨rfl,hb1⟩
 replace hB:=hB.trans (hb1.mono hB.size)
 replace bxx:=bxx.below hb1
 clear hb1
 cases e1:validSpace x
 ·go_wp2
  go_ret
  exact⟨ret_bool (a:=false) (by simp [monoSpace,e1]),hB⟩
 have HV:=Lib.hid e1;clear e1
 have kx_2:=bxx 2 _ rfl
 go_wp2
 go_loopw [13] (fun i wr=>∃ k:Nat,k<=nxCosts/\i=.int .i64 k/\(List.range k).all (monoAt x)=true/\Below w.heap.size w wr/\Bx wr w.heap.size [.slice AxBoxLow nxBoxLow cxBoxLow,.slice AxBoxHigh nxBoxHigh cxBoxHigh,.slice AxCosts nxCosts cxCosts,.slice AxChoices nxChoices cxChoices,.slice AxPlans nxPlans cxPlans]) (fun i _=>nxCosts - (intOf i).toNat)
 case atStart=>exact⟨0,Nat.zero_le _,rfl,rfl,hB,bxx⟩
 case round =>
  clear hB bxx kx_2
  obtain⟨k,hk,rfl,hall,hB,bxx⟩:=hrel
  have HA:=Lib.hid hall;clear hall
  by_cases hlt:k<nxCosts
  ·obtain⟨b,off,y,rfl,hc,hI,hy⟩:=(hxCosts.below rInt_ok hB).ati hlt
   have hIk:I64 (k:Int):=⟨by omega,by omega⟩
   have Hcy:=Lib.hid (costN_at hy.out)
   have kx_0:=bxx 0 _ rfl
   have kx_1:=bxx 1 _ rfl
   have kx_2:=bxx 2 _ rfl
   have kx_3:=bxx 3 _ rfl
   have kx_4:=bxx 4 _ rfl
   go_wp2_with fail
   refine(iAbove_c _ x k _ ((rSpace_ok NB).keep rx (cells_below hB)) hIk).mono ?_
   rintro e w2 ⟨A2,n2,c2,rfl,M2,hb2⟩
   replace hB:=hB.trans (hb2.mono hB.size)
   replace bxx:=bxx.below hb2
   clear hb2 kx_0 kx_1 kx_2 kx_3 kx_4
   have hR2:=M2.rs rInt_ok
   have HL2:=Lib.hid hR2.len
   have hn2:n2<=16:=by rw [<- HL2.out];exact aboveL_len _ _
   clear hc
   go_wp2
   go_loopw [22] (fun i wr=>∃ q:Nat,q<=n2/\i=.int .i64 q/\((aboveL x.fBox k).take q).all (fun n=>!decide (costN x n<costN x k))=true/\Below w.heap.size w wr/\RS NB rInt wr A2 n2 c2 (aboveL x.fBox k)/\Bx wr w.heap.size [.slice AxBoxLow nxBoxLow cxBoxLow,.slice AxBoxHigh nxBoxHigh cxBoxHigh,.slice (some ⟨b,off,none⟩) nxCosts cxCosts,.slice AxChoices nxChoices cxChoices,.slice AxPlans nxPlans cxPlans]) (fun i _=>n2 - (intOf i).toNat)
   case atStart=>exact⟨0,Nat.zero_le _,rfl,rfl,hB,hR2,bxx⟩
   case round =>
    clear hB bxx hR2 M2
    obtain⟨q,hq,rfl,hall,hB,hR2,bxx⟩:=hrel
    have HA2:=Lib.hid hall;clear hall
    by_cases hlt2:q<n2
    ·obtain⟨b2,off2,z,rfl,hc2,hI2,hz⟩:=hR2.ati hlt2
     have hzz:=aboveL_mem HV.out (mem_of_at hz.out)
     obtain⟨j,rfl⟩:∃ j:Nat,z=j:=⟨z.toNat,by omega⟩
     have hj:j<nxCosts:=by have:=HL.out;omega
     obtain⟨b3,off3,t,e3,hc3,hI3,ht⟩:=(hxCosts.below rInt_ok hB).ati hj
     injection e3 with e3;injection e3 with e3 e4;subst e3;subst e4
     have Hct:=Lib.hid (costN_at ht.out)
     have kx_2:=bxx 2 _ rfl
     by_cases hcc:t<y
     ·go_wp2
      go_ret
      exact⟨ret_bool (a:=false) (by rw [monoSpace,range_no_all (mono_no (mem_of_at hz.out) (by rw [Hct.out,Hcy.out];exact hcc)) (by rw [HL.out];exact hlt),Bool.and_false]),hB⟩
     ·go_wp2
      go_roundw
      case rel=>exact⟨q+1,by omega,by go_num,all_snoc' HA2.out hz.out (by rw [Hct.out,Hcy.out];simp;omega),hB,hR2,bxx⟩
      case measure=>simp [intOf];omega
    ·go_wp2
     go_roundw
     case rel=>exact⟨k+1,by omega,by go_num,range_snoc_all HA.out (by have:=HA2.out;rw [take_all HL2.out hlt2]at this;exact this),hB,bxx⟩
     case measure=>simp [intOf];omega
  ·go_wp2
   go_ret
   exact⟨ret_bool (a:=true) (by rw [monoSpace,HV.out,HL.out,show nxCosts=k by omega,HA.out];rfl),hB⟩
set_option maxRecDepth 100000 in
set_option maxHeartbeats 1600000 in
theorem sIsMonotoneSpace_c (csx:List Value) (x:SpaceD) (w:World) (hx:(rSpace NB).rep w csx x) :
  Calls Tryz.prog 21 #[.agg csx.toArray] w fun e w'=>e=.returned (.bool (monoSpace x))/\Below w.heap.size w w':=by
 have rx:=hx
 obtain⟨AxBoxLow,nxBoxLow,cxBoxLow,AxBoxHigh,nxBoxHigh,cxBoxHigh,AxCosts,nxCosts,cxCosts,AxChoices,nxChoices,cxChoices,AxPlans,nxPlans,cxPlans,rfl,hxBoxLow,hxBoxHigh,hxCosts,hxChoices,hxPlans⟩:=rSpace_rep.1 hx
 clear hx
 have hB:Below w.heap.size w w:=Below.refl _ _
 have hAx:=(Below.refl (World.heap (w)).size (w)).alloc (Nat.le_refl _) (.cells #[.slice AxBoxLow nxBoxLow cxBoxLow,.slice AxBoxHigh nxBoxHigh cxBoxHigh,.slice AxCosts nxCosts cxCosts,.slice AxChoices nxChoices cxChoices,.slice AxPlans nxPlans cxPlans] 29)
 replace hB:=hB.trans (hAx.mono hB.size)
 have bxx:=Bx.new (w) [.slice AxBoxLow nxBoxLow cxBoxLow,.slice AxBoxHigh nxBoxHigh cxBoxHigh,.slice AxCosts nxCosts cxCosts,.slice AxChoices nxChoices cxChoices,.slice AxPlans nxPlans cxPlans] 29
 clear hAx
 have hnC:=hxCosts.bound
 have HL:=Lib.hid hxCosts.len
 go_enter Tryz.func21,Tryz.ntmps21
 go_wp2_with fail
 refine(sIsValidSpace_c _ x _ ((rSpace_ok NB).keep rx (cells_below hB))).mono ?_
 rintro e w1 ⟨rfl,hb1⟩
 replace hB:=hB.trans (hb1.mono hB.size)
 replace bxx:=bxx.below hb1
 clear hb1
 cases e1:validSpace x
 ·go_wp2
  go_ret
  exact⟨ret_bool (a:=false) (by simp [monoSpace,e1]),hB⟩
 have HV:=Lib.hid e1;clear e1
 go_wp2
 go_loopw [3] (fun i wr=>∃ k:Nat,k<=nxCosts/\i=.int .i64 k/\(List.range k).all (monoAt x)=true/\Below w.heap.size w wr/\Bx wr w.heap.size [.slice AxBoxLow nxBoxLow cxBoxLow,.slice AxBoxHigh nxBoxHigh cxBoxHigh,.slice AxCosts nxCosts cxCosts,.slice AxChoices nxChoices cxChoices,.slice AxPlans nxPlans cxPlans]) (fun i _=>nxCosts - (intOf i).toNat)
 case atStart=>exact⟨0,Nat.zero_le _,rfl,rfl,hB,bxx⟩
 case round =>
  clear hB bxx
  obtain⟨k,hk,rfl,hall,hB,bxx⟩:=hrel
  have HA:=Lib.hid hall;clear hall
  by_cases hlt:k<nxCosts
  ·obtain⟨y,hy⟩:∃ y,Hid (x.fCosts[k]?=some y):=by
    obtain⟨_,_,y,_,_,_,hy⟩:=hxCosts.ati hlt;exact⟨y,hy⟩
   have hIk:I64 (k:Int):=⟨by omega,by omega⟩
   have Hcy:=Lib.hid (costN_at hy.out)
   have kx_0:=bxx 0 _ rfl
   have kx_1:=bxx 1 _ rfl
   have kx_2:=bxx 2 _ rfl
   have kx_3:=bxx 3 _ rfl
   have kx_4:=bxx 4 _ rfl
   go_wp2_with fail
   refine(sBoxLocation_c _ x.fBox k _ (rBox_rep.2 ⟨AxBoxLow,nxBoxLow,cxBoxLow,AxBoxHigh,nxBoxHigh,cxBoxHigh,rfl,hxBoxLow.below rInt_ok hB,hxBoxHigh.below rInt_ok hB⟩) hIk).mono ?_
   rintro e w2 ⟨A2,n2,c2,rfl,M2,hb2⟩
   replace hB:=hB.trans (hb2.mono hB.size)
   replace bxx:=bxx.below hb2
   clear hb2 kx_0 kx_1 kx_2 kx_3 kx_4
   have hsm:=boxLoc_small x.fBox k
   have HUP:Hid (aboveL x.fBox k=aboveTo x.fBox (boxLoc x.fBox k).1 (boxLoc x.fBox k).1.length):=Lib.hid rfl
   generalize (boxLoc x.fBox k).1=l at M2 hsm HUP
   have HL2:=Lib.hid M2.len
   have hn2:n2<=16:=by rw [<- HL2.out];exact hsm.1
   have HZ:=Lib.hid hsm.2;clear hsm
   have hR2:=M2.rs rInt_ok;clear M2
   go_wp2
   go_loopw [6] (fun i wr=>∃ q:Nat,q<=n2/\i=.int .i64 q/\(aboveTo x.fBox l q).all (fun n=>!decide (costN x n<costN x k))=true/\Below w.heap.size w wr/\RS NB rInt wr A2 n2 c2 l/\Bx wr w.heap.size [.slice AxBoxLow nxBoxLow cxBoxLow,.slice AxBoxHigh nxBoxHigh cxBoxHigh,.slice AxCosts nxCosts cxCosts,.slice AxChoices nxChoices cxChoices,.slice AxPlans nxPlans cxPlans]) (fun i _=>n2 - (intOf i).toNat)
   case atStart=>exact⟨0,Nat.zero_le _,rfl,rfl,hB,hR2,bxx⟩
   case round =>
    clear hB bxx hR2
    obtain⟨q,hq,rfl,hall,hB,hR2,bxx⟩:=hrel
    have HA2:=Lib.hid hall;clear hall
    by_cases hlt2:q<n2
    ·have hq0:(0:Int)<=(q:Int):=by omega
     have hql:(q:Int)<l.length:=by rw [HL2.out];omega
     have kx_0:=bxx 0 _ rfl
     have kx_1:=bxx 1 _ rfl
     go_wp2_with fail
     refine(sUp_c _ x.fBox _ _ _ l q _ (rBox_rep.2 ⟨AxBoxLow,nxBoxLow,cxBoxLow,AxBoxHigh,nxBoxHigh,cxBoxHigh,rfl,hxBoxLow.below rInt_ok hB,hxBoxHigh.below rInt_ok hB⟩) hR2 hq0 hql HZ.out).mono ?_
     rintro e w5 ⟨rfl,hb5⟩
     replace hR2:=hR2.below rInt_ok hb5
     replace hB:=hB.trans (hb5.mono hB.size)
     replace bxx:=bxx.below hb5
     clear hb5 kx_0 kx_1
     simp only [Int.toNat_natCast]
     have HYN:=Lib.hid (And.intro (fun h=>And.intro (aboveTo_yes (b:=x.fBox) (l:=l) (k:=q) h) (aboveTo_new (b:=x.fBox) (l:=l) (k:=q) h)) (fun h=>aboveTo_no (b:=x.fBox) (l:=l) (k:=q) h))
     generalize upIdx x.fBox l q=jj at HYN
     by_cases h0:0<=jj
     ·have HJ:=Lib.hid (HYN.out.1 h0);clear HYN
      have hjm:jj∈aboveL x.fBox k:=by rw [HUP.out,HL2.out];exact aboveTo_sub HJ.out.2 (by omega)
      have hzz:=aboveL_mem HV.out hjm
      obtain⟨j,rfl⟩:∃ j:Nat,jj=j:=⟨jj.toNat,by omega⟩
      have hj:j<nxCosts:=by have:=HL.out;omega
      have HM:=Lib.hid hjm;clear hjm
      obtain⟨b,off,y',rfl,hc,hI,hy'⟩:=(hxCosts.below rInt_ok hB).ati hlt
      obtain rfl:y'=y:=by have:=hy'.out;rw [hy.out]at this;injection this with this;exact this.symm
      clear hy'
      obtain⟨b3,off3,t,e3,hc3,hI3,ht⟩:=(hxCosts.below rInt_ok hB).ati hj
      injection e3 with e3;injection e3 with e3 e4;subst e3;subst e4
      have Hct:=Lib.hid (costN_at ht.out)
      have kx_2:=bxx 2 _ rfl
      have dj:decide ((0:Int)<=(j:Int))=true:=by simp
      have hjI:(j:Int)<(nxCosts:Int):=by omega
      have hkI:(k:Int)<(nxCosts:Int):=by omega
      by_cases hcc:t<y'
      ·have dcc:decide (t<y')=true:=by simp [hcc]
       go_wp2
       go_quiet (fail)
       go_wp2
       go_ret
       exact⟨ret_bool (a:=false) (by rw [monoSpace,range_no_all (mono_no HM.out (by rw [Hct.out,Hcy.out];exact hcc)) (by rw [HL.out];exact hlt),Bool.and_false]),below_drewN hB _⟩
      ·have dcc:decide (t<y')=false:=by simp;omega
       go_wp2
       go_quiet (fail)
       go_wp2
       go_roundw
       case rel=>exact⟨q+1,by omega,by go_num,by rw [HJ.out.1,List.all_append,HA2.out];simp only [List.all_cons,List.all_nil,Bool.and_true,Bool.true_and];rw [Hct.out,Hcy.out];simp;omega,below_drewN hB _,hR2.below rInt_ok (below_drewN (Below.refl _ _) _),bxx.below (below_drewN (Below.refl _ _) _)⟩
       case measure=>simp [intOf];omega
     ·have HJ:=Lib.hid (HYN.out.2 h0);clear HYN
      have dj:decide ((0:Int)<=jj)=false:=by simp;omega
      have kx_2:=bxx 2 _ rfl
      go_wp2
      go_quiet (fail)
      go_wp2
      go_roundw
      case rel=>exact⟨q+1,by omega,by go_num,by rw [HJ.out];exact HA2.out,below_drewN hB _,hR2.below rInt_ok (below_drewN (Below.refl _ _) _),bxx.below (below_drewN (Below.refl _ _) _)⟩
      case measure=>simp [intOf];omega
    ·go_wp2
     go_roundw
     case rel=>exact⟨k+1,by omega,by go_num,range_snoc_all HA.out (by unfold monoAt;rw [HUP.out,HL2.out,show n2=q by omega];exact HA2.out),hB,bxx⟩
     case measure=>simp [intOf];omega
  ·have kx_2:=bxx 2 _ rfl
   go_wp2
   go_ret
   exact⟨ret_bool (a:=true) (by rw [monoSpace,HV.out,HL.out,show nxCosts=k by omega,HA.out];rfl),hB⟩
end Go.Proofs.YtadgmjdafkihfaaGreat
namespace Go.Proofs.YtadgmjdafkihfaaGreat
open Go.RowKit
set_option linter.unusedVariables false
set_option linter.unusedSimpArgs false

def cheapAt (s:SpaceD) (b:Int) (n:Int):Bool:=decide (costN s n<=b)
def frontAt (s:SpaceD) (b:Int) (i:Nat):Bool:=decide (costN s i<=b)&&!(aboveL s.fBox i).any (cheapAt s b)
/-- the frontier among the first m locations -/
def frontTo (s:SpaceD) (b:Int):Nat->List Int
 | 0=>[]
 | m+1=>if frontAt s b m then frontTo s b m++[(m:Int)] else frontTo s b m
def frontier (s:SpaceD) (b:Int):List Int:=if validSpace s then frontTo s b s.fCosts.length else []
theorem frontTo_len (s:SpaceD) (b:Int) (m:Nat):(frontTo s b m).length<=m:=by
 induction m with
 | zero=>simp [frontTo]
 | succ m ih =>
  unfold frontTo
  split
  ·rw [List.length_append];simp only [List.length_cons,List.length_nil];omega
  ·omega
theorem frontTo_yes {s:SpaceD}{b:Int}{m:Nat}(h:frontAt s b m=true):frontTo s b (m+1)=frontTo s b m++[(m:Int)]:=by
 show(if frontAt s b m then _ else _)=_;rw [if_pos h]
theorem frontTo_no {s:SpaceD}{b:Int}{m:Nat}(h:frontAt s b m=false):frontTo s b (m+1)=frontTo s b m:=by
 show(if frontAt s b m then _ else _)=_;rw [h];rfl
theorem costs_len {s:SpaceD}(h:validSpace s=true):s.fCosts.length<=400:=by have:=validSpace_parts h;omega

theorem indexFunc_Frontier_1_c (A:Option Addr) (n cap:Nat) (l:List Int) (cp1:Value) (cp2:Value) (p:Int->Bool) (w:World) (hr:RS NB rInt w A n cap l)
  (hf:∀ x W,x∈l->Below w.heap.size w W->Calls Tryz.prog 59 #[.int .i64 x,cp1,cp2] W fun e w'=>e=.returned (.bool (p x))/\Below W.heap.size W w') :
  Calls Tryz.prog 139 #[.slice A n cap,.func (.func 59) #[] #[cp1,cp2]] w fun e w'=>e=.returned (.int .i64 (idxOf p l))/\Below w.heap.size w w':=by
 have hn:=hr.bound
 have HF:=Lib.hid hf;clear hf
 go_enter Tryz.func139,Tryz.ntmps139
 go_wp2
 go_loopw [8] (fun i wr=>∃ k:Nat,k<=n/\i=.int .i64 k/\(l.take k).all (fun b=>!p b)=true/\Below w.heap.size w wr) (fun i _=>n - (intOf i).toNat)
 case atStart=>exact⟨0,Nat.zero_le _,rfl,rfl,Below.refl _ _⟩
 case round =>
  obtain⟨k,hk,rfl,hall,hb⟩:=hrel
  have Hall:=Lib.hid hall;clear hall
  by_cases hlt:k<n
  ·obtain⟨b,off,x,rfl,hc,hI,hxk⟩:=(hr.below rInt_ok hb).ati hlt
   cases hx:p x
   ·go_wp2_with (go_at_call 59;refine(HF.out x wr (mem_of_at hxk.out) hb).mono ?_;rintro e w1 ⟨rfl,hb1⟩)
    go_roundw
    case rel=>exact⟨k+1,by omega,by go_num,all_snoc' Hall.out hxk.out (by simp [hx]),hb.trans (hb1.mono hb.size)⟩
    case measure=>simp [intOf];omega
   ·go_wp2_with (go_at_call 59;refine(HF.out x wr (mem_of_at hxk.out) hb).mono ?_;rintro e w1 ⟨rfl,hb1⟩)
    go_ret
    exact⟨ret_int (idxOf_yes Hall.out hxk.out hx).symm,hb.trans (hb1.mono hb.size)⟩
  ·go_wp2
   go_ret
   exact⟨ret_int (a:=-1) (idxOf_no (take_all hr.len hlt▸Hall.out)).symm,hb⟩
theorem containsFunc_Frontier_1_c (A:Option Addr) (n cap:Nat) (l:List Int) (cp1:Value) (cp2:Value) (p:Int->Bool) (w:World) (hr:RS NB rInt w A n cap l)
  (hf:∀ x W,x∈l->Below w.heap.size w W->Calls Tryz.prog 59 #[.int .i64 x,cp1,cp2] W fun e w'=>e=.returned (.bool (p x))/\Below W.heap.size W w') :
  Calls Tryz.prog 57 #[.slice A n cap,.func (.func 59) #[] #[cp1,cp2]] w fun e w'=>e=.returned (.bool (l.any p))/\Below w.heap.size w w':=by
 go_enter Tryz.func57,Tryz.ntmps57
 go_wp2_with fail
 refine(indexFunc_Frontier_1_c A n cap l _ _ p w hr hf).mono ?_
 rintro e w1 ⟨rfl,hb1⟩
 generalize hk:idxOf p l=k
 have HK:=Lib.hid hk;clear hk
 go_wp2
 go_ret
 exact⟨ret_bool (by rw [<- idxOf_any,HK.out]),hb1⟩

set_option maxRecDepth 100000 in
set_option maxHeartbeats 1600000 in
theorem iFrontier_c (csx:List Value) (x:SpaceD) (bud:Int) (w:World) (hx:(rSpace NB).rep w csx x) :
  Calls Tryz.prog 10 #[.agg csx.toArray,.int .i64 bud] w (RetS 3 rInt (frontier x bud) w):=by
 have rx:=hx
 obtain⟨AxBoxLow,nxBoxLow,cxBoxLow,AxBoxHigh,nxBoxHigh,cxBoxHigh,AxCosts,nxCosts,cxCosts,AxChoices,nxChoices,cxChoices,AxPlans,nxPlans,cxPlans,rfl,hxBoxLow,hxBoxHigh,hxCosts,hxChoices,hxPlans⟩:=rSpace_rep.1 hx
 clear hx
 have hB:Below w.heap.size w w:=Below.refl _ _
 have hAx:=(Below.refl (World.heap (w)).size (w)).alloc (Nat.le_refl _) (.cells #[.slice AxBoxLow nxBoxLow cxBoxLow,.slice AxBoxHigh nxBoxHigh cxBoxHigh,.slice AxCosts nxCosts cxCosts,.slice AxChoices nxChoices cxChoices,.slice AxPlans nxPlans cxPlans] 29)
 replace hB:=hB.trans (hAx.mono hB.size)
 have bxx:=Bx.new (w) [.slice AxBoxLow nxBoxLow cxBoxLow,.slice AxBoxHigh nxBoxHigh cxBoxHigh,.slice AxCosts nxCosts cxCosts,.slice AxChoices nxChoices cxChoices,.slice AxPlans nxPlans cxPlans] 29
 clear hAx
 have hnC:=hxCosts.bound
 have HL:=Lib.hid hxCosts.len
 obtain⟨wa,hwa⟩:∃ wa,wa=w.alloc (.cells #[.slice AxBoxLow nxBoxLow cxBoxLow,.slice AxBoxHigh nxBoxHigh cxBoxHigh,.slice AxCosts nxCosts cxCosts,.slice AxChoices nxChoices cxChoices,.slice AxPlans nxPlans cxPlans] 29):=⟨_,rfl⟩
 rw [<- hwa]at hB bxx
 have hBA:=(Below.refl wa.heap.size wa).alloc (Nat.le_refl _) (.cells #[.int .i64 bud] 3)
 have bxb:=Bx.new wa [.int .i64 bud] 3
 replace hB:=hB.trans (hBA.mono hB.size)
 replace bxx:=bxx.below hBA
 clear hBA
 rw [hwa]at hB bxx bxb
 simp only [World.size_alloc]at bxb
 clear hwa
 go_enter Tryz.func10,Tryz.ntmps10
 go_wp2_with fail
 refine(iIsValidSpace_c _ x _ ((rSpace_ok NB).keep rx (cells_below hB))).mono ?_
 rintro e w1 ⟨rfl,hb1⟩
 replace hB:=hB.trans (hb1.mono hB.size)
 replace bxx:=bxx.below hb1
 replace bxb:=bxb.below hb1
 clear hb1
 cases e1:validSpace x
 ·go_wp2
  go_ret
  exact⟨_,_,_,rfl,by rw [frontier,e1];exact MS.nil _ (by unfold NB;omega),hB⟩
 have HV:=Lib.hid e1
 have hn4:nxCosts<=400:=by rw [<- HL.out];exact costs_len e1
 clear e1
 have hw1:w.heap.size+1<w1.heap.size:=by
  have h1:=World.block_lt_of_cell? _ _ (bxb 0 _ rfl)
  exact h1
 have hw0:w.heap.size<w1.heap.size:=by omega
 have hAA:=(Below.refl w1.heap.size w1).alloc (Nat.le_refl _) (.cells #[] 3)
 have kxa:=bxx.below hAA 2 _ rfl
 clear hAA
 have kx_1:=bxx 1 _ rfl
 have kx_2:=bxx 2 _ rfl
 go_wp2
 go_loopw [5,16] (fun v i wr=>∃ (k n c:Nat) (A:Option Addr),k<=nxCosts/\n<=k/\i=.int .i64 k/\v=.slice A n c/\MS w1.heap.size NB 3 rInt wr A n c (frontTo x bud k)/\w1.heap.size<=wr.heap.size/\Below w.heap.size w wr/\Bx wr (w.heap.size+1) [.int .i64 bud]/\Bx wr w.heap.size [.slice AxBoxLow nxBoxLow cxBoxLow,.slice AxBoxHigh nxBoxHigh cxBoxHigh,.slice AxCosts nxCosts cxCosts,.slice AxChoices nxChoices cxChoices,.slice AxPlans nxPlans cxPlans]) (fun _ i _=>nxCosts - (intOf i).toNat)
 case atStart =>
  have hA:=(Below.refl w1.heap.size w1).alloc (Nat.le_refl _) (.cells #[] 3)
  exact⟨0,0,0,_,Nat.zero_le _,Nat.le_refl _,rfl,rfl,MS.empty _ (Nat.le_refl _),hA.size,hB.trans (hA.mono hB.size),bxb.below hA,bxx.below hA⟩
 case round =>
  clear hB bxx bxb kx_1 kx_2 kxa
  obtain⟨k,n,c,A,hk,hnk,rfl,rfl,hM,hsz,hB,bxb,bxx⟩:=hrel
  by_cases hlt:k<nxCosts
  ·obtain⟨b,off,y,rfl,hc,hI,hy⟩:=(hxCosts.below rInt_ok hB).ati hlt
   have hIk:I64 (k:Int):=⟨by omega,by omega⟩
   have Hcy:=Lib.hid (costN_at hy.out)
   have kx_0:=bxx 0 _ rfl
   have kx_1:=bxx 1 _ rfl
   have kx_2:=bxx 2 _ rfl
   have kx_3:=bxx 3 _ rfl
   have kx_4:=bxx 4 _ rfl
   go_wp2_with fail
   refine(iAbove_c _ x k _ ((rSpace_ok NB).keep rx (cells_below hB)) hIk).mono ?_
   rintro e w2 ⟨A2,n2,c2,rfl,M2,hb2⟩
   replace hsz:=Nat.le_trans hsz hb2.size
   replace hB:=hB.trans (hb2.mono hB.size)
   replace bxx:=bxx.below hb2
   replace bxb:=bxb.below hb2
   replace hM:=hM.below rInt_ok hb2
   clear hb2 kx_0 kx_1 kx_2 kx_3 kx_4
   have hR2:=M2.rs rInt_ok
   clear hc
   go_wp2_with fail
   refine(containsFunc_Frontier_1_c _ _ _ (aboveL x.fBox k) _ _ (cheapAt x bud) _ hR2 ?_).mono ?_
   ·intro z W hz hbW
    have hzz:=aboveL_mem HV.out hz
    obtain⟨j,rfl⟩:∃ j:Nat,z=j:=⟨z.toNat,by omega⟩
    have hj:j<nxCosts:=by have:=HL.out;omega
    have hBW:=hB.trans (hbW.mono hB.size)
    obtain⟨b3,off3,t,e3,hc3,hI3,ht⟩:=(hxCosts.below rInt_ok hBW).ati hj
    injection e3 with e3;injection e3 with e3 e4;subst e3;subst e4
    have Hct:=Lib.hid (costN_at ht.out)
    have k1:=bxx.below hbW 1 _ rfl
    have k2:=bxx.below hbW 2 _ rfl
    have kb:=bxb.below hbW 0 _ rfl
    have hjI:(j:Int)<(nxCosts:Int):=by omega
    clear hz hzz
    go_enter Tryz.func59,Tryz.ntmps59
    go_wp2
    go_quiet (fail)
    go_wp2
    go_ret
    exact⟨ret_bool (by rw [cheapAt,Hct.out]),below_drewN (Below.refl _ _) _⟩
   rintro e w3 ⟨rfl,hb3⟩
   replace hsz:=Nat.le_trans hsz hb3.size
   replace hB:=hB.trans (hb3.mono hB.size)
   replace bxx:=bxx.below hb3
   replace bxb:=bxb.below hb3
   replace hM:=hM.below rInt_ok hb3
   clear hb3
   have HF:Hid (frontAt x bud k=(decide (y<=bud)&&!(aboveL x.fBox k).any (cheapAt x bud))):=by show frontAt x bud k=_;rw [frontAt,Hcy.out]
   generalize (aboveL x.fBox k).any (cheapAt x bud)=ch at HF
   have kb:=bxb 0 _ rfl
   clear M2 hR2
   by_cases hyb:y<=bud
   ·cases ch
    ·have HY:=Lib.hid (frontTo_yes (HF.out.trans (by simp [hyb])))
     go_upto_region 9 with fail
     go_wp2_with (at_builtin;refine wpList_app (r:=rInt) rfl _ _ 24 rfl _ 8 eiInt rInt_ok rfl hM ((Below.refl _ _).alloc (Nat.le_refl _) _) hsz ⟨w3.heap.size,0,none⟩ rfl [] [.int .i64 k] k ⟨rfl,rfl,hIk⟩ (Fr.nil _) (cell_one_new _ _ _) (by unfold NB;omega) (Nat.le_refl _) (by omega) ?_;intro A4 k4 w4 hM4 hb4 hg4)
     have hBa:=(Below.refl w3.heap.size w3).alloc (Nat.le_refl _) (.cells #[.int .i64 k] 3)
     have hz4:=Nat.le_trans (Nat.le_trans hsz hBa.size) hb4.size
     have hB4:=(hB.trans (hBa.mono hB.size)).trans (hb4.mono (Nat.le_of_lt (Nat.lt_of_succ_lt hw1)))
     have bxb4:Bx w4 (w.heap.size+1) [.int .i64 bud]:=fun j v (hj:_)=>(low_cell hb4 hw1 j).trans ((bxb.below hBa) j v hj)
     have bxx4:Bx w4 w.heap.size _:=fun j v (hj:_)=>(low_cell hb4 (Nat.lt_of_succ_lt hw1) j).trans ((bxx.below hBa) j v hj)
     go_roundw
     case rel=>exact⟨k+1,n+1,k4,_,by omega,by omega,by go_num,rfl,HY.out▸hM4,hz4,hB4,bxb4,bxx4⟩
     case measure=>simp [intOf];omega
    ·have HN:=Lib.hid (frontTo_no (HF.out.trans (by simp)))
     go_wp2
     go_roundw
     case rel=>exact⟨k+1,n,c,_,by omega,by omega,by go_num,rfl,HN.out▸hM,hsz,hB,bxb,bxx⟩
     case measure=>simp [intOf];omega
   ·have HN:=Lib.hid (frontTo_no (HF.out.trans (by simp [hyb])))
    go_wp2
    go_roundw
    case rel=>exact⟨k+1,n,c,_,by omega,by omega,by go_num,rfl,HN.out▸hM,hsz,hB,bxb,bxx⟩
    case measure=>simp [intOf];omega
  ·go_wp2
   go_ret
   exact⟨_,_,_,rfl,by rw [frontier,HV.out,HL.out,show nxCosts=k by omega];exact hM.base (by omega),hB⟩
set_option maxRecDepth 100000 in
set_option maxHeartbeats 1600000 in
theorem sFrontier_c (csx:List Value) (x:SpaceD) (bud:Int) (w:World) (hx:(rSpace NB).rep w csx x) :
  Calls Tryz.prog 12 #[.agg csx.toArray,.int .i64 bud] w (RetS 3 rInt (frontier x bud) w):=by
 have rx:=hx
 obtain⟨AxBoxLow,nxBoxLow,cxBoxLow,AxBoxHigh,nxBoxHigh,cxBoxHigh,AxCosts,nxCosts,cxCosts,AxChoices,nxChoices,cxChoices,AxPlans,nxPlans,cxPlans,rfl,hxBoxLow,hxBoxHigh,hxCosts,hxChoices,hxPlans⟩:=rSpace_rep.1 hx
 clear hx
 have hB:Below w.heap.size w w:=Below.refl _ _
 have hAx:=(Below.refl (World.heap (w)).size (w)).alloc (Nat.le_refl _) (.cells #[.slice AxBoxLow nxBoxLow cxBoxLow,.slice AxBoxHigh nxBoxHigh cxBoxHigh,.slice AxCosts nxCosts cxCosts,.slice AxChoices nxChoices cxChoices,.slice AxPlans nxPlans cxPlans] 29)
 replace hB:=hB.trans (hAx.mono hB.size)
 have bxx:=Bx.new (w) [.slice AxBoxLow nxBoxLow cxBoxLow,.slice AxBoxHigh nxBoxHigh cxBoxHigh,.slice AxCosts nxCosts cxCosts,.slice AxChoices nxChoices cxChoices,.slice AxPlans nxPlans cxPlans] 29
 clear hAx
 have hnC:=hxCosts.bound
 have HL:=Lib.hid hxCosts.len
 obtain⟨wa,hwa⟩:∃ wa,wa=w.alloc (.cells #[.slice AxBoxLow nxBoxLow cxBoxLow,.slice AxBoxHigh nxBoxHigh cxBoxHigh,.slice AxCosts nxCosts cxCosts,.slice AxChoices nxChoices cxChoices,.slice AxPlans nxPlans cxPlans] 29):=⟨_,rfl⟩
 rw [<- hwa]at hB bxx
 have hsa:w.heap.size+1=wa.heap.size:=by rw [hwa];simp
 have hBA:=(Below.refl wa.heap.size wa).alloc (Nat.le_refl _) (.cells #[] 3)
 have hM:MS wa.heap.size NB 3 rInt (wa.alloc (.cells #[] 3)) (some ⟨wa.heap.size,0,none⟩) 0 0 []:=MS.empty _ (Nat.le_refl _)
 replace hB:=hB.trans (hBA.mono hB.size)
 replace bxx:=bxx.below hBA
 clear hBA
 rw [<- hsa]at hM
 rw [hwa]at hB bxx hM
 clear hwa hsa
 have kx_0:=bxx 0 _ rfl
 have kx_1:=bxx 1 _ rfl
 have kx_2:=bxx 2 _ rfl
 have kx_3:=bxx 3 _ rfl
 have kx_4:=bxx 4 _ rfl
 go_enter Tryz.func12,Tryz.ntmps12
 go_wp2_with fail
 refine(sIsValidSpace_c _ x _ ((rSpace_ok NB).keep rx (cells_below hB))).mono ?_
 rintro e w1 ⟨rfl,hb1⟩
 replace hB:=hB.trans (hb1.mono hB.size)
 replace bxx:=bxx.below hb1
 replace hM:=hM.below rInt_ok hb1
 clear hb1 kx_0 kx_1 kx_2 kx_3 kx_4
 cases e1:validSpace x
 ·go_wp2
  go_ret
  exact⟨_,_,_,rfl,by rw [frontier,e1];exact hM.base (by omega),hB⟩
 have HV:=Lib.hid e1
 have hn4:nxCosts<=400:=by rw [<- HL.out];exact costs_len e1
 clear e1
 have hw1:w.heap.size+1<=w1.heap.size:=World.block_lt_of_cell? _ _ (bxx 0 _ rfl)
 go_wp2
 go_loopw [5,6] (fun v i wr=>∃ (k n c:Nat) (A:Option Addr),k<=nxCosts/\n<=k/\i=.int .i64 k/\v=.slice A n c/\MS (w.heap.size+1) NB 3 rInt wr A n c (frontTo x bud k)/\w.heap.size+1<=wr.heap.size/\Below w.heap.size w wr/\Bx wr w.heap.size [.slice AxBoxLow nxBoxLow cxBoxLow,.slice AxBoxHigh nxBoxHigh cxBoxHigh,.slice AxCosts nxCosts cxCosts,.slice AxChoices nxChoices cxChoices,.slice AxPlans nxPlans cxPlans]) (fun _ i _=>nxCosts - (intOf i).toNat)
 case atStart=>exact⟨0,0,0,_,Nat.zero_le _,Nat.le_refl _,rfl,rfl,hM,hw1,hB,bxx⟩
 case round =>
  clear hB bxx hM hw1
  obtain⟨k,n,c,A,hk,hnk,rfl,rfl,hM,hsz,hB,bxx⟩:=hrel
  by_cases hlt:k<nxCosts
  ·obtain⟨b,off,y,rfl,hc,hI,hy⟩:=(hxCosts.below rInt_ok hB).ati hlt
   have hIk:I64 (k:Int):=⟨by omega,by omega⟩
   have Hcy:=Lib.hid (costN_at hy.out)
   have kx_0:=bxx 0 _ rfl
   have kx_1:=bxx 1 _ rfl
   have kx_2:=bxx 2 _ rfl
   by_cases hyb':bud<y
   ·have HN:=Lib.hid (frontTo_no (s:=x) (b:=bud) (m:=k) (by rw [frontAt,Hcy.out];simp;omega))
    go_wp2
    go_roundw
    case rel=>exact⟨k+1,n,c,_,by omega,by omega,by go_num,rfl,HN.out▸hM,hsz,hB,bxx⟩
    case measure=>simp [intOf];omega
   have hyb:y<=bud:=by omega
   go_wp2_with fail
   refine(sBoxLocation_c _ x.fBox k _ (rBox_rep.2 ⟨AxBoxLow,nxBoxLow,cxBoxLow,AxBoxHigh,nxBoxHigh,cxBoxHigh,rfl,hxBoxLow.below rInt_ok hB,hxBoxHigh.below rInt_ok hB⟩) hIk).mono ?_
   rintro e w2 ⟨A2,n2,c2,rfl,M2,hb2⟩
   replace hsz:=Nat.le_trans hsz hb2.size
   clear hc
   replace hB:=hB.trans (hb2.mono hB.size)
   replace bxx:=bxx.below hb2
   replace hM:=hM.below rInt_ok hb2
   clear hb2 kx_0 kx_1 kx_2
   have hsm:=boxLoc_small x.fBox k
   have HUP:Hid (aboveL x.fBox k=aboveTo x.fBox (boxLoc x.fBox k).1 (boxLoc x.fBox k).1.length):=Lib.hid rfl
   generalize (boxLoc x.fBox k).1=l at M2 hsm HUP
   have HL2:=Lib.hid M2.len
   have hn2:n2<=16:=by rw [<- HL2.out];exact hsm.1
   have HZ:=Lib.hid hsm.2;clear hsm
   have hR2:=M2.rs rInt_ok;clear M2
   go_wp2
   go_loopw [9,10] (fun t i wr=>∃ (q:Nat) (tt:Bool),q<=n2/\i=.int .i64 q/\t=.bool tt/\tt=!(aboveTo x.fBox l q).any (cheapAt x bud)/\MS (w.heap.size+1) NB 3 rInt wr A n c (frontTo x bud k)/\w.heap.size+1<=wr.heap.size/\Below w.heap.size w wr/\RS NB rInt wr A2 n2 c2 l/\Bx wr w.heap.size [.slice AxBoxLow nxBoxLow cxBoxLow,.slice AxBoxHigh nxBoxHigh cxBoxHigh,.slice (some ⟨b,off,none⟩) nxCosts cxCosts,.slice AxChoices nxChoices cxChoices,.slice AxPlans nxPlans cxPlans]) (fun _ i _=>n2 - (intOf i).toNat)
   case atStart=>exact⟨0,true,Nat.zero_le _,rfl,rfl,rfl,hM,hsz,hB,hR2,bxx⟩
   case round =>
    clear hB bxx hR2 hM hsz
    obtain⟨q,tt,hq,rfl,rfl,hall,hM,hsz,hB,hR2,bxx⟩:=hrel
    have HA2:=Lib.hid hall;clear hall
    by_cases hlt2:q<n2
    ·have hq0:(0:Int)<=(q:Int):=by omega
     have hql:(q:Int)<l.length:=by rw [HL2.out];omega
     have kx_0:=bxx 0 _ rfl
     have kx_1:=bxx 1 _ rfl
     go_wp2_with fail
     refine(sUp_c _ x.fBox _ _ _ l q _ (rBox_rep.2 ⟨AxBoxLow,nxBoxLow,cxBoxLow,AxBoxHigh,nxBoxHigh,cxBoxHigh,rfl,hxBoxLow.below rInt_ok hB,hxBoxHigh.below rInt_ok hB⟩) hR2 hq0 hql HZ.out).mono ?_
     rintro e w5 ⟨rfl,hb5⟩
     replace hR2:=hR2.below rInt_ok hb5
     replace hsz:=Nat.le_trans hsz hb5.size
     replace hB:=hB.trans (hb5.mono hB.size)
     replace bxx:=bxx.below hb5
     replace hM:=hM.below rInt_ok hb5
     clear hb5 kx_0 kx_1
     simp only [Int.toNat_natCast]
     have HYN:=Lib.hid (And.intro (fun h=>And.intro (aboveTo_yes (b:=x.fBox) (l:=l) (k:=q) h) (aboveTo_new (b:=x.fBox) (l:=l) (k:=q) h)) (fun h=>aboveTo_no (b:=x.fBox) (l:=l) (k:=q) h))
     generalize upIdx x.fBox l q=jj at HYN
     have kx_2:=bxx 2 _ rfl
     by_cases h0:0<=jj
     ·have HJ:=Lib.hid (HYN.out.1 h0);clear HYN
      have hjm:jj∈aboveL x.fBox k:=by rw [HUP.out,HL2.out];exact aboveTo_sub HJ.out.2 (by omega)
      have hzz:=aboveL_mem HV.out hjm
      obtain⟨j,rfl⟩:∃ j:Nat,jj=j:=⟨jj.toNat,by omega⟩
      have hj:j<nxCosts:=by have:=HL.out;omega
      clear hjm
      obtain⟨b3,off3,t,e3,hc3,hI3,ht⟩:=(hxCosts.below rInt_ok hB).ati hj
      injection e3 with e3;injection e3 with e3 e4;subst e3;subst e4
      have Hct:=Lib.hid (costN_at ht.out)
      have dj:decide ((j:Int)<0)=false:=by simp
      have hjI:(j:Int)<(nxCosts:Int):=by omega
      have HS:Hid ((aboveTo x.fBox l (q+1)).any (cheapAt x bud)=((aboveTo x.fBox l q).any (cheapAt x bud)||decide (t<=bud))):=by
       show _=_
       rw [HJ.out.1,List.any_append];simp only [List.any_cons,List.any_nil,Bool.or_false,cheapAt,Hct.out]
      cases tt<;>by_cases hcc:t<=bud
      all_goals
       first|(have dcc:decide (bud<t)=false:=by(simp;omega))|(have dcc:decide (bud<t)=true:=by(simp;omega))
       go_wp2
       go_roundw
       case rel=>exact⟨q+1,_,by omega,by go_num,rfl,by rw [HS.out,Bool.not_or,<- HA2.out];simp [hcc],hM,hsz,hB,hR2,bxx⟩
       case measure=>simp [intOf];omega
     ·have HJ:=Lib.hid (HYN.out.2 h0);clear HYN
      have dj:decide (jj<0)=true:=by simp;omega
      cases tt
      all_goals
       go_wp2
       go_roundw
       case rel=>exact⟨q+1,_,by omega,by go_num,rfl,by rw [HJ.out];exact HA2.out,hM,hsz,hB,hR2,bxx⟩
       case measure=>simp [intOf];omega
    ·have HF:Hid (frontAt x bud k=tt):=by
      show frontAt x bud k=tt
      rw [frontAt,Hcy.out,HUP.out,HL2.out,show n2=q by omega,<- HA2.out];simp [hyb]
     cases tt
     ·have HN:=Lib.hid (frontTo_no HF.out)
      go_wp2
      go_roundw
      case rel=>exact⟨k+1,n,c,_,by omega,by omega,by go_num,rfl,HN.out▸hM,hsz,hB,bxx⟩
      case measure=>simp [intOf];omega
     ·have HY:=Lib.hid (frontTo_yes HF.out)
      go_upto_region 16 with fail
      go_wp2_with (at_builtin;refine wpList_app (r:=rInt) rfl _ _ 24 rfl _ 8 eiInt rInt_ok rfl hM ((Below.refl _ _).alloc (Nat.le_refl _) _) hsz ⟨wr.heap.size,0,none⟩ rfl [] [.int .i64 k] k ⟨rfl,rfl,hIk⟩ (Fr.nil _) (cell_one_new _ _ _) (by unfold NB;omega) (Nat.le_refl _) (by omega) ?_;intro A4 k4 w4 hM4 hb4 hg4)
      have hBa:=(Below.refl wr.heap.size wr).alloc (Nat.le_refl _) (.cells #[.int .i64 k] 3)
      have hz4:=Nat.le_trans (Nat.le_trans hsz hBa.size) hb4.size
      have hB4:=(hB.trans (hBa.mono hB.size)).trans (hb4.mono (Nat.le_succ _))
      have bxx4:Bx w4 w.heap.size _:=fun j v (hj:_)=>(low_cell hb4 (Nat.lt_succ_self _) j).trans ((bxx.below hBa) j v hj)
      go_roundw
      case rel=>exact⟨k+1,n+1,k4,_,by omega,by omega,by go_num,rfl,HY.out▸hM4,hz4,hB4,bxx4⟩
      case measure=>simp [intOf];omega
  ·have kx_2:=bxx 2 _ rfl
   go_wp2
   go_ret
   exact⟨_,_,_,rfl,by rw [frontier,HV.out,HL.out,show nxCosts=k by omega];exact hM.base (by omega),hB⟩
end Go.Proofs.YtadgmjdafkihfaaGreat
namespace Go.Proofs.YtadgmjdafkihfaaGreat
open Go.RowKit
set_option linter.unusedVariables false
set_option linter.unusedSimpArgs false
def sumI (l:List Int):Int:=l.foldr (·+·) 0
theorem sumI_set:∀ {l:List Int}{k:Nat}{u:Int}(v:Int),l[k]?=some u->sumI (l.set k v)=sumI l - u+v
 | a::l,0,u,v,h=>by simp at h;subst h;simp [sumI];omega
 | a::l,k+1,u,v,h=>by
  simp at h
  have:=sumI_set v h
  simp only [sumI,List.set_cons_succ,List.foldr_cons]at this ⊢
  omega
 | [],_,_,_,h=>by simp at h
theorem sumI_dom:∀ {a b:List Int},a.length=b.length->(∀ (k:Nat) (x y:Int),a[k]?=some x->b[k]?=some y->y<=x)->sumI b<=sumI a/\(sumI b=sumI a->a=b)
 | [],[],_,_=>⟨Int.le_refl _,fun _=>rfl⟩
 | x::a,y::b,h,hk=>by
  have h0:=hk 0 x y rfl rfl
  obtain⟨h1,h2⟩:=sumI_dom (a:=a) (b:=b) (by simpa using h) (fun k x y hx hy=>hk (k+1) x y (by simpa using hx) (by simpa using hy))
  simp only [sumI,List.foldr_cons]at h1 h2 ⊢
  refine⟨by omega,fun e=>?_⟩
  have:x=y:=by omega
  subst this
  rw [h2 (by omega)]
 | [],_::_,h,_=>by simp at h
 | _::_,[],h,_=>by simp at h
theorem set_dom {l:List Int}{k:Nat}{u:Int}(h:l[k]?=some u) {x:List Int}(hd:dom x (l.set k (u+1))=true):dom x l=true:=by
 obtain⟨h1,h2⟩:=dom_at hd
 refine dom_of (by simpa using h1) fun j a b ha hb=>?_
 by_cases hj:j=k
 ·subst hj
  rw [h]at hb;injection hb with hb;subst hb
  have:=h2 j a (u+1) ha (by rw [List.getElem?_set_self (lt_of_at h)])
  omega
 ·exact h2 j a b ha (by rw [List.getElem?_set_ne (Ne.symm hj)];exact hb)
theorem aboveTo_of {b:BoxD}{l:List Int}{m:Nat}{j:Int}(h:j∈aboveTo b l m):∃ k,k<m/\j=upIdx b l k/\0<=j:=by
 induction m with
 | zero=>cases h
 | succ m ih =>
  by_cases h0:0<=upIdx b l m
  ·rw [aboveTo_yes h0]at h
   rcases List.mem_append.1 h with h|h
   ·obtain⟨k,h1,h2⟩:=ih h;exact⟨k,by omega,h2⟩
   ·rw [List.mem_singleton]at h;subst h;exact⟨m,by omega,rfl,h0⟩
  ·rw [aboveTo_no h0]at h
   obtain⟨k,h1,h2⟩:=ih h;exact⟨k,by omega,h2⟩
theorem frontTo_mem {s:SpaceD}{b:Int}{m:Nat}{x:Int}:x∈frontTo s b m↔∃ i:Nat,i<m/\x=i/\frontAt s b i=true:=by
 induction m with
 | zero=>simp [frontTo]
 | succ m ih =>
  cases hf:frontAt s b m with
  | true =>
   rw [frontTo_yes hf,List.mem_append,List.mem_singleton,ih]
   constructor
   ·rintro(⟨i,h1,h2⟩|rfl)
    ·exact⟨i,by omega,h2⟩
    ·exact⟨m,by omega,rfl,hf⟩
   ·rintro⟨i,h1,h2,h3⟩
    by_cases e:i=m
    ·subst e;exact .inr h2
    ·exact .inl ⟨i,by omega,h2,h3⟩
  | false =>
   rw [frontTo_no hf,ih]
   constructor
   ·rintro⟨i,h1,h2⟩;exact⟨i,by omega,h2⟩
   ·rintro⟨i,h1,h2,h3⟩
    by_cases e:i=m
    ·subst e;rw [hf]at h3;cases h3
    ·exact⟨i,by omega,h2,h3⟩
theorem dom_refl (l:List Int):dom l l=true:=dom_of rfl fun k x y hx hy=>by rw [hx]at hy;injection hy with hy;omega
theorem below_of {s:SpaceD}(hv:validSpace s=true) {b:Int}:∀ (m:Nat) {l:List Int},inBox s.fBox l=true->sumI s.fBox.fHigh - sumI l<=m->costN s (boxIndex s.fBox l)<=b ->
  ∃ i:Nat,i<s.fCosts.length/\frontAt s b i=true/\dom (boxLoc s.fBox i).1 l=true:=by
 intro m
 induction m with
 | zero =>
  intro l hl hm hc
  obtain⟨h1,h2,h3,h4,h5⟩:=inBox_parts hl
  obtain⟨i0,i1⟩:=idx_loc hl
  have hs:=sumI_dom (a:=s.fBox.fHigh) (b:=l) (by omega) h5
  have el:s.fBox.fHigh=l:=hs.2 (by omega)
  obtain⟨n,hn⟩:∃ n:Nat,boxIndex s.fBox l=n:=⟨_,(Int.toNat_of_nonneg i0).symm⟩
  have hlt:=(boxIndex_lt (x:=s.fBox) (l:=l)).2.2 i0
  have hsp:=validSpace_parts hv
  rw [hn]at i1 hc hlt
  refine⟨n,by omega,?_,by rw [i1];exact dom_refl l⟩
  unfold frontAt
  rw [decide_eq_true hc,Bool.true_and]
  simp only [Bool.not_eq_true',Bool.eq_false_iff]
  intro ha
  rw [List.any_eq_true]at ha
  obtain⟨j,hj,_⟩:=ha
  unfold aboveL at hj
  rw [i1]at hj
  obtain⟨k,hk,rfl,h0⟩:=aboveTo_of hj
  have hu:=List.getElem?_eq_getElem (l:=l) (i:=k) hk
  rw [upIdx_at hu]at h0
  have:=(inBox_parts ((boxIndex_lt).2.1 h0)).2.2.2.2 k (l[k]) (l[k]+1) (by rw [el];exact hu) (by rw [List.getElem?_set_self hk])
  omega
 | succ m ih =>
  intro l hl hm hc
  obtain⟨i0,i1⟩:=idx_loc hl
  obtain⟨n,hn⟩:∃ n:Nat,boxIndex s.fBox l=n:=⟨_,(Int.toNat_of_nonneg i0).symm⟩
  have hlt:=(boxIndex_lt (x:=s.fBox) (l:=l)).2.2 i0
  have hsp:=validSpace_parts hv
  rw [hn]at i1 hc hlt
  cases hf:frontAt s b n with
  | true=>exact⟨n,by omega,hf,by rw [i1];exact dom_refl l⟩
  | false =>
   unfold frontAt at hf
   rw [decide_eq_true hc,Bool.true_and,Bool.not_eq_false',List.any_eq_true]at hf
   obtain⟨j,hj,hcj⟩:=hf
   unfold aboveL at hj
   rw [i1]at hj
   obtain⟨k,hk,rfl,h0⟩:=aboveTo_of hj
   have hu:=List.getElem?_eq_getElem (l:=l) (i:=k) hk
   rw [upIdx_at hu]at h0 hcj
   have hin:=(boxIndex_lt (x:=s.fBox) (l:=l.set k (l[k]+1))).2.1 h0
   obtain⟨i,g1,g2,g3⟩:=ih hin (by rw [sumI_set _ hu];omega) (of_decide_eq_true hcj)
   exact⟨i,g1,g2,set_dom hu g3⟩
theorem mono_path {s:SpaceD}(hm:monoSpace s=true) {x:List Int}(hx:inBox s.fBox x=true):∀ (m:Nat) {l:List Int},inBox s.fBox l=true->dom x l=true->sumI x - sumI l<=m->costN s (boxIndex s.fBox l)<=costN s (boxIndex s.fBox x):=by
 unfold monoSpace at hm
 simp only [Bool.and_eq_true,List.all_eq_true]at hm
 obtain⟨hv,hall⟩:=hm
 have hsp:=validSpace_parts hv
 intro m
 induction m with
 | zero =>
  intro l hl hd hs
  obtain⟨d1,d2⟩:=dom_at hd
  have:=sumI_dom d1 d2
  rw [this.2 (by omega)];exact Int.le_refl _
 | succ m ih =>
  intro l hl hd hs
  obtain⟨d1,d2⟩:=dom_at hd
  by_cases e:x=l
  ·rw [e];exact Int.le_refl _
  ·obtain⟨k,hk,hlt⟩:∃ k,∃ hk:k<l.length,l[k]<x[k]'(by omega):=by
    refine Classical.byContradiction fun hn=>e ?_
    refine(sumI_dom d1 d2).2 ?_
    have:sumI x<=sumI l:=(sumI_dom d1.symm (fun k a b ha hb=>by
     obtain⟨h1,rfl⟩:=List.getElem?_eq_some_iff.1 ha
     obtain⟨h2,rfl⟩:=List.getElem?_eq_some_iff.1 hb
     exact Int.not_lt.1 fun h=>hn ⟨k,h1,h⟩)).1
    have:=(sumI_dom d1 d2).1
    omega
   have hu:=List.getElem?_eq_getElem (l:=l) (i:=k) hk
   have hxk:=List.getElem?_eq_getElem (l:=x) (i:=k) (by omega)
   obtain⟨h1,h2,h3,h4,h5⟩:=inBox_parts hl
   have hx5:=(inBox_parts hx).2.2.2.2
   have get:∀ (j:Nat) (a:Int),(l.set k (l[k]+1))[j]?=some a->(j=k/\a=l[k]+1)\/l[j]?=some a:=by
    intro j a ha
    by_cases hj:j=k
    ·subst hj
     rw [List.getElem?_set_self hk]at ha
     exact .inl ⟨rfl,by injection ha with ha;exact ha.symm⟩
    ·rw [List.getElem?_set_ne (Ne.symm hj)]at ha;exact .inr ha
   have hin:inBox s.fBox (l.set k (l[k]+1))=true:=by
    refine inBox_of h1 (by simpa using h2) (fun j a b ha hb=>?_) (fun j z a hz ha=>?_)
    ·rcases get j a ha with ⟨rfl,rfl⟩|ha
     ·have:=h4 j _ _ hu hb;omega
     ·exact h4 j a b ha hb
    ·rcases get j a ha with ⟨rfl,rfl⟩|ha
     ·have:=hx5 j z _ hz hxk;omega
     ·exact h5 j z a hz ha
   have hd2:dom x (l.set k (l[k]+1))=true:=by
    refine dom_of (by simpa using d1) fun j a b ha hb=>?_
    rcases get j b hb with ⟨rfl,rfl⟩|hb
    ·rw [hxk]at ha;injection ha with ha;omega
    ·exact d2 j a b ha hb
   refine Int.le_trans ?_ (ih hin hd2 (by rw [sumI_set _ hu];omega))
   obtain⟨i0,i1⟩:=idx_loc hl
   obtain⟨j0,j1⟩:=idx_loc hin
   obtain⟨n,hn⟩:∃ n:Nat,boxIndex s.fBox l=n:=⟨_,(Int.toNat_of_nonneg i0).symm⟩
   have hlt2:=(boxIndex_lt (x:=s.fBox) (l:=l)).2.2 i0
   have hmn:=hall n (List.mem_range.2 (by omega))
   rw [hn]at i1
   unfold monoAt at hmn
   rw [List.all_eq_true]at hmn
   have hj:boxIndex s.fBox (l.set k (l[k]+1))∈aboveL s.fBox n:=by
    unfold aboveL
    rw [i1]
    have e2:=upIdx_at (b:=s.fBox) hu
    rw [<- e2]
    exact aboveTo_sub (aboveTo_new (by rw [e2];exact j0)) hk
   have:=hmn _ hj
   simp only [Bool.not_eq_true',decide_eq_false_iff_not]at this
   rw [hn];omega
theorem contour_in {s:SpaceD}{b:Int}(hv:validSpace s=true) {k:Nat}(hk:k<s.fCosts.length) (hc:costN s k<=b):belowFrontier s (frontier s b) (boxLoc s.fBox k).1=true:=by
 have hsp:=validSpace_parts hv
 obtain⟨l,h1,h2,h3⟩:=loc_in hsp.1 (i:=k) (by omega) (by omega)
 obtain⟨i,g1,g2,g3⟩:=below_of hv (b:=b) (sumI s.fBox.fHigh - sumI l).toNat h2 (by omega) (by rw [h3];exact hc)
 obtain⟨l2,e1,e2,e3⟩:=loc_in hsp.1 (i:=i) (by omega) (by omega)
 unfold belowFrontier frontier
 rw [hv,if_pos rfl,Bool.true_and,List.any_eq_true]
 refine⟨(i:Int),frontTo_mem.2 ⟨i,g1,rfl,g2⟩,?_⟩
 unfold belowAt
 rw [h1,e1]
 rw [e1]at g3
 exact g3
theorem contour_out {s:SpaceD}{b:Int}(hm:monoSpace s=true) {k:Nat}(hk:k<s.fCosts.length) (hc:¬ costN s k<=b):belowFrontier s (frontier s b) (boxLoc s.fBox k).1=false:=by
 have hv:validSpace s=true:=by unfold monoSpace at hm;simp only [Bool.and_eq_true]at hm;exact hm.1
 have hsp:=validSpace_parts hv
 obtain⟨l,h1,h2,h3⟩:=loc_in hsp.1 (i:=k) (by omega) (by omega)
 rw [Bool.eq_false_iff]
 intro hb
 unfold belowFrontier frontier at hb
 rw [hv,if_pos rfl,Bool.true_and,List.any_eq_true]at hb
 obtain⟨x,hx,hbx⟩:=hb
 obtain⟨i,g1,rfl,g2⟩:=frontTo_mem.1 hx
 obtain⟨l2,e1,e2,e3⟩:=loc_in hsp.1 (i:=i) (by omega) (by omega)
 unfold belowAt at hbx
 rw [h1,e1]at hbx
 have hd:dom l2 l=true:=by simpa using hbx
 have hle:=mono_path hm e2 (sumI l2 - sumI l).toNat h2 hd (by omega)
 rw [e3,h3]at hle
 unfold frontAt at g2
 simp only [Bool.and_eq_true,decide_eq_true_eq]at g2
 omega
end Go.Proofs.YtadgmjdafkihfaaGreat
