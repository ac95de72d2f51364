/-
  Ibf
-/
import Derived.Test.YtblbnbfghlkkfaaGreatSpace
import Derived.Test.YtblbnbfghlkkfaaGreatBloc
import Derived.Deep.RegionHeld3
import Derived.Deep.DrawnRows
import Derived.Test.YtblbnbfghlkkfaaGreatLoc
import Derived.Test.YtblbnbfghlkkfaaGreatOper
namespace Go.Proofs.YtblbnbfghlkkfaaGreat
open Go.RowKit
set_option linter.unusedVariables false
set_option linter.unusedSimpArgs false

end Go.Proofs.YtblbnbfghlkkfaaGreat
namespace Go.Proofs.YtblbnbfghlkkfaaGreat
open Go.RowKit
set_option linter.unusedVariables false
set_option linter.unusedSimpArgs false

def upIdx (b:BoxD) (l:List Int) (k:Nat):Int:=boxIndex b (l.set k ((l[k]?).getD 0+1))
def aboveTo (b:BoxD) (l:List Int):Nat->List Int
 | 0=>[]
 | m+1=>if 0<=upIdx b l m then aboveTo b l m++[upIdx b l m] else aboveTo b l m
theorem aboveTo_mem {b:BoxD}{l:List Int}{m:Nat}{j:Int}(h:j∈aboveTo b l m):0<=j/\j<volume b:=by
 induction m with
 | zero=>simp [aboveTo]at h
 | succ m ih =>
  unfold aboveTo at h
  split at h
  ·rename_i h0
   rcases List.mem_append.1 h with h|h
   ·exact ih h
   ·simp at h;subst h;exact⟨h0,boxIndex_lt.2.2 h0⟩
  ·exact ih h
def aboveL (b:BoxD) (k:Int):List Int:=aboveTo b (boxLoc b k).1 (boxLoc b k).1.length
theorem digs_mem {ws:List Int}{i:Int}(h:∀ x∈ws,1<=x/\x<=8):∀ d∈(digs ws i).1,0<=d/\d<=7:=by
 induction ws with
 | nil=>intro d hd;simp [digs]at hd
 | cons v ws ih =>
  intro d hd
  simp only [digs,List.mem_cons]at hd
  rcases hd with rfl|hd
  ·have hv:=h v List.mem_cons_self
   have h1:0<=(digs ws i).2 % v:=Int.emod_nonneg _ (by omega)
   have h2:(digs ws i).2 % v<v:=Int.emod_lt_of_pos _ (by omega)
   omega
  ·exact ih (fun x hx=>h x (List.mem_cons_of_mem _ hx)) d hd
theorem mem_zipAdd {a b:List Int}{z:Int}(h:z∈List.zipWith (·+·) a b):∃ x∈a,∃ y∈b,z=x+y:=by
 induction a generalizing b with
 | nil=>simp at h
 | cons x a ih =>
  cases b with
  | nil=>simp at h
  | cons y b =>
   simp only [List.zipWith_cons_cons,List.mem_cons]at h
   rcases h with rfl|h
   ·exact⟨x,List.mem_cons_self,y,List.mem_cons_self,rfl⟩
   ·obtain⟨x',hx,y',hy,e⟩:=ih h
    exact⟨x',List.mem_cons_of_mem _ hx,y',List.mem_cons_of_mem _ hy,e⟩
theorem boxLoc_small (b:BoxD) (k:Int):(boxLoc b k).1.length<=16/\∀ z∈(boxLoc b k).1,0<=z/\z<=14:=by
 unfold boxLoc
 split
 ·rename_i h
  have hv:validBox b=true:=by simp only [Bool.and_eq_true]at h;exact h.1
  have h1:=isLoc_at (validBox_parts hv).1
  refine⟨?_,fun z hz=>?_⟩
  ·show(List.zipWith (·+·) b.fLow (digs (widths b) k).1).length<=16
   rw [List.length_zipWith];have:=h1.1;omega
  ·obtain⟨x,hx,y,hy,rfl⟩:=mem_zipAdd hz
   obtain⟨n,hn⟩:=List.getElem?_of_mem hx
   have:=h1.2 n x hn
   have:=digs_mem (widths_mem hv) y hy
   omega
 ·simp
theorem aboveTo_yes {b:BoxD}{l:List Int}{k:Nat}(h:0<=upIdx b l k):aboveTo b l (k+1)=aboveTo b l k++[upIdx b l k]:=by
 show(if 0<=upIdx b l k then _ else _)=_;rw [if_pos h]
theorem aboveTo_no {b:BoxD}{l:List Int}{k:Nat}(h:¬ 0<=upIdx b l k):aboveTo b l (k+1)=aboveTo b l k:=by
 show(if 0<=upIdx b l k then _ else _)=_;rw [if_neg h]
theorem upIdx_at {b:BoxD}{l:List Int}{k:Nat}{u:Int}(h:l[k]?=some u):upIdx b l k=boxIndex b (l.set k (u+1)):=by
 unfold upIdx;rw [h];rfl
theorem low_cell {T:Nat}{w w':World}(h:Below T w w') {a:Nat}(ha:a<T) (j:Nat):w'.cell? ⟨a,j,none⟩=w.cell? ⟨a,j,none⟩:=by
 unfold World.cell?
 rw [h.block a ha]
set_option maxRecDepth 100000 in
set_option maxHeartbeats 1600000 in
theorem sUp_c (csb:List Value) (b:BoxD) (Al:Option Addr) (nl cl:Nat) (l:List Int) (k:Int) (w:World) (hb:(rBox NB).rep w csb b) (hl:RS NB rInt w Al nl cl l) (hk0:0<=k) (hk1:k<l.length) (hz:∀ z∈l,0<=z/\z<=14) :
  Calls Tryz.prog 48 #[.agg csb.toArray,.slice Al nl cl,.int .i64 k] w fun e w'=>e=.returned (.int .i64 (upIdx b l k.toNat))/\Below w.heap.size w w':=by
 have rb:=hb
 obtain⟨AbLow,nbLow,cbLow,AbHigh,nbHigh,cbHigh,rfl,hbLow,hbHigh⟩:=rBox_rep.1 hb
 clear hb
 have hB:Below w.heap.size w w:=Below.refl _ _
 have hAb:=(Below.refl (World.heap (w)).size (w)).alloc (Nat.le_refl _) (.cells #[.slice AbLow nbLow cbLow,.slice AbHigh nbHigh cbHigh] 34)
 replace hB:=hB.trans (hAb.mono hB.size)
 have bxb:=Bx.new (w) [.slice AbLow nbLow cbLow,.slice AbHigh nbHigh cbHigh] 34
 clear hAb
 obtain⟨j,rfl⟩:∃ j:Nat,k=j:=⟨k.toNat,by omega⟩
 have hjn:j<nl:=by have:=hl.len;omega
 have hnl:=hl.bound
 simp only [Int.toNat_natCast]
 go_enter Tryz.func48,Tryz.ntmps48
 have hnew:=heap_alloc_new (w.alloc (.cells #[.slice AbLow nbLow cbLow,.slice AbHigh nbHigh cbHigh] 34)) (.cells #[] 3)
 rw [World.size_alloc]at hnew
 go_upto_region 2 with (at_builtin;refine wpList_appe (r:=rInt) (M:=NB) rfl _ _ 32 rfl _ 8 eiInt rInt_ok rInt_flat rfl hnew rfl (hl.below rInt_ok (hB.alloc hB.size _)) hl.nb (Nat.le_refl _) (by omega) ?_;intro A3 c3 w3 o3 g3 hb3)
 obtain⟨w0,hw0⟩:∃ w0,w0=w.alloc (.cells #[.slice AbLow nbLow cbLow,.slice AbHigh nbHigh cbHigh] 34):=⟨_,rfl⟩
 have hz0:w0.heap.size=w.heap.size+1:=by rw [hw0];simp
 rw [<- hw0]at hB bxb hb3 g3
 have hE:Below w0.heap.size w0 w3:=((Below.refl w0.heap.size w0).alloc (Nat.le_refl _) (.cells #[] 3)).trans (hb3.mono (by simp))
 have hM:MS w0.heap.size NB 3 rInt w3 A3 nl c3 l:=⟨_,o3,by cases A3<;>simp [blk],fun k hk=>by have:=g3 k hk;simp at this;omega⟩
 clear o3 g3 hb3 hw0
 obtain⟨g,rfl,hgl,hgB⟩:=hM.form (by omega)
 obtain⟨u,hu,hIu,huk⟩:=hM.celli hjn
 have hu14:=hz u (mem_of_at huk.out)
 have hfz:=hM.frozen j
 have m1:IntKind.i64.wrap (u+1)=u+1:=IntWalk.i64_in _ (by omega)
 go_upto_region 3 with fail
 have hS:=hM.set j (x:=u+1) ⟨by omega,by omega⟩
 have hES:=hE.setCell (p:=⟨g,j,none⟩) hgB (.int .i64 (u+1))
 obtain⟨ws,hws⟩:∃ ws,ws=w3.setCell ⟨g,j,none⟩ (.int .i64 (u+1)):=⟨_,rfl⟩
 rw [<- hws]at hS hES
 rw [<- hws]
 clear hws hu hfz hM hE
 replace hB:=hB.trans (hES.mono hB.size)
 replace bxb:=bxb.below hES
 clear hES
 have kb_0:=bxb 0 _ rfl
 have kb_1:=bxb 1 _ rfl
 go_wp2_with fail
 refine(sBoxIndex_c _ b _ _ _ _ _ ((rBox_ok NB).keep rb (cells_below hB)) (hS.rs rInt_ok)).mono ?_
 rintro e w1 ⟨rfl,hb1⟩
 replace hB:=hB.trans (hb1.mono hB.size)
 replace bxb:=bxb.below hb1
 clear hb1 kb_0 kb_1
 go_wp2
 go_ret
 exact⟨ret_int (by rw [upIdx_at huk.out]),hB⟩

end Go.Proofs.YtblbnbfghlkkfaaGreat
namespace Go.Proofs.YtblbnbfghlkkfaaGreat
open Go.RowKit
set_option linter.unusedVariables false
set_option linter.unusedSimpArgs false

def costN (s:SpaceD) (n:Int):Int:=(s.fCosts[n.toNat]?).getD 0
theorem costN_at {s:SpaceD}{j:Nat}{c:Int}(h:s.fCosts[j]?=some c):costN s j=c:=by simp [costN,h]
theorem aboveL_mem {s:SpaceD}(h:validSpace s=true) {i j:Int}(hj:j∈aboveL s.fBox i):0<=j/\j<s.fCosts.length:=by
 have h1:=aboveTo_mem hj
 obtain⟨_,_,_,h4,_⟩:=validSpace_parts h
 omega
theorem aboveTo_sub {b:BoxD}{l:List Int}{m n:Nat}{j:Int}(hj:j∈aboveTo b l m) (h:m<=n):j∈aboveTo b l n:=by
 induction n with
 | zero =>
  obtain rfl:m=0:=by omega
  exact hj
 | succ n ih =>
  by_cases hm:m=n+1
  ·subst hm;exact hj
  ·have h1:=ih (by omega)
   unfold aboveTo;split
   ·exact List.mem_append_left _ h1
   ·exact h1
theorem aboveTo_new {b:BoxD}{l:List Int}{k:Nat}(h:0<=upIdx b l k):upIdx b l k∈aboveTo b l (k+1):=by
 rw [aboveTo_yes h];exact List.mem_append_right _ List.mem_cons_self

end Go.Proofs.YtblbnbfghlkkfaaGreat
namespace Go.Proofs.YtblbnbfghlkkfaaGreat
open Go.RowKit
set_option linter.unusedVariables false
set_option linter.unusedSimpArgs false

def cheapAt (s:SpaceD) (b:Int) (n:Int):Bool:=decide (costN s n<=b)
def frontAt (s:SpaceD) (b:Int) (i:Nat):Bool:=decide (costN s i<=b)&&!(aboveL s.fBox i).any (cheapAt s b)
/-- the frontier among the first m locations -/
def frontTo (s:SpaceD) (b:Int):Nat->List Int
 | 0=>[]
 | m+1=>if frontAt s b m then frontTo s b m++[(m:Int)] else frontTo s b m
def frontier (s:SpaceD) (b:Int):List Int:=if validSpace s then frontTo s b s.fCosts.length else []
theorem frontTo_len (s:SpaceD) (b:Int) (m:Nat):(frontTo s b m).length<=m:=by
 induction m with
 | zero=>simp [frontTo]
 | succ m ih =>
  unfold frontTo
  split
  ·rw [List.length_append];simp only [List.length_cons,List.length_nil];omega
  ·omega
theorem frontTo_yes {s:SpaceD}{b:Int}{m:Nat}(h:frontAt s b m=true):frontTo s b (m+1)=frontTo s b m++[(m:Int)]:=by
 show(if frontAt s b m then _ else _)=_;rw [if_pos h]
theorem frontTo_no {s:SpaceD}{b:Int}{m:Nat}(h:frontAt s b m=false):frontTo s b (m+1)=frontTo s b m:=by
 show(if frontAt s b m then _ else _)=_;rw [h];rfl
theorem costs_len {s:SpaceD}(h:validSpace s=true):s.fCosts.length<=400:=by have:=validSpace_parts h;omega


set_option maxRecDepth 100000 in
set_option maxHeartbeats 1600000 in
theorem sFrontier_c (csx:List Value) (x:SpaceD) (bud:Int) (w:World) (hx:(rSpace NB).rep w csx x) :
  Calls Tryz.prog 31 #[.agg csx.toArray,.int .i64 bud] w (RetS 3 rInt (frontier x bud) w):=by
 have rx:=hx
 obtain⟨AxBoxLow,nxBoxLow,cxBoxLow,AxBoxHigh,nxBoxHigh,cxBoxHigh,AxCosts,nxCosts,cxCosts,AxChoices,nxChoices,cxChoices,AxPlans,nxPlans,cxPlans,rfl,hxBoxLow,hxBoxHigh,hxCosts,hxChoices,hxPlans⟩:=rSpace_rep.1 hx
 clear hx
 have hB:Below w.heap.size w w:=Below.refl _ _
 have hAx:=(Below.refl (World.heap (w)).size (w)).alloc (Nat.le_refl _) (.cells #[.slice AxBoxLow nxBoxLow cxBoxLow,.slice AxBoxHigh nxBoxHigh cxBoxHigh,.slice AxCosts nxCosts cxCosts,.slice AxChoices nxChoices cxChoices,.slice AxPlans nxPlans cxPlans] 37)
 replace hB:=hB.trans (hAx.mono hB.size)
 have bxx:=Bx.new (w) [.slice AxBoxLow nxBoxLow cxBoxLow,.slice AxBoxHigh nxBoxHigh cxBoxHigh,.slice AxCosts nxCosts cxCosts,.slice AxChoices nxChoices cxChoices,.slice AxPlans nxPlans cxPlans] 37
 clear hAx
 have hnC:=hxCosts.bound
 have HL:=Lib.hid hxCosts.len
 obtain⟨wa,hwa⟩:∃ wa,wa=w.alloc (.cells #[.slice AxBoxLow nxBoxLow cxBoxLow,.slice AxBoxHigh nxBoxHigh cxBoxHigh,.slice AxCosts nxCosts cxCosts,.slice AxChoices nxChoices cxChoices,.slice AxPlans nxPlans cxPlans] 37):=⟨_,rfl⟩
 rw [<- hwa]at hB bxx
 have hsa:w.heap.size+1=wa.heap.size:=by rw [hwa];simp
 have hBA:=(Below.refl wa.heap.size wa).alloc (Nat.le_refl _) (.cells #[] 3)
 have hM:MS wa.heap.size NB 3 rInt (wa.alloc (.cells #[] 3)) (some ⟨wa.heap.size,0,none⟩) 0 0 []:=MS.empty _ (Nat.le_refl _)
 replace hB:=hB.trans (hBA.mono hB.size)
 replace bxx:=bxx.below hBA
 clear hBA
 rw [<- hsa]at hM
 rw [hwa]at hB bxx hM
 clear hwa hsa
 have kx_0:=bxx 0 _ rfl
 have kx_1:=bxx 1 _ rfl
 have kx_2:=bxx 2 _ rfl
 have kx_3:=bxx 3 _ rfl
 have kx_4:=bxx 4 _ rfl
 go_enter Tryz.func31,Tryz.ntmps31
 go_wp2_with fail
 refine(sIsValidSpace_c _ x _ ((rSpace_ok NB).keep rx (cells_below hB))).mono ?_
 rintro e w1 ⟨rfl,hb1⟩
 replace hB:=hB.trans (hb1.mono hB.size)
 replace bxx:=bxx.below hb1
 replace hM:=hM.below rInt_ok hb1
 clear hb1 kx_0 kx_1 kx_2 kx_3 kx_4
 cases e1:validSpace x
 ·go_wp2
  go_ret
  exact⟨_,_,_,rfl,by rw [frontier,e1];exact hM.base (by omega),hB⟩
 have HV:=Lib.hid e1
 have hn4:nxCosts<=400:=by rw [<- HL.out];exact costs_len e1
 clear e1
 have hw1:w.heap.size+1<=w1.heap.size:=World.block_lt_of_cell? _ _ (bxx 0 _ rfl)
 go_wp2
 go_loopw [5,6] (fun v i wr=>∃ (k n c:Nat) (A:Option Addr),k<=nxCosts/\n<=k/\i=.int .i64 k/\v=.slice A n c/\MS (w.heap.size+1) NB 3 rInt wr A n c (frontTo x bud k)/\w.heap.size+1<=wr.heap.size/\Below w.heap.size w wr/\Bx wr w.heap.size [.slice AxBoxLow nxBoxLow cxBoxLow,.slice AxBoxHigh nxBoxHigh cxBoxHigh,.slice AxCosts nxCosts cxCosts,.slice AxChoices nxChoices cxChoices,.slice AxPlans nxPlans cxPlans]) (fun _ i _=>nxCosts - (intOf i).toNat)
 case atStart=>exact⟨0,0,0,_,Nat.zero_le _,Nat.le_refl _,rfl,rfl,hM,hw1,hB,bxx⟩
 case round =>
  clear hB bxx hM hw1
  obtain⟨k,n,c,A,hk,hnk,rfl,rfl,hM,hsz,hB,bxx⟩:=hrel
  by_cases hlt:k<nxCosts
  ·obtain⟨b,off,y,rfl,hc,hI,hy⟩:=(hxCosts.below rInt_ok hB).ati hlt
   have hIk:I64 (k:Int):=⟨by omega,by omega⟩
   have Hcy:=Lib.hid (costN_at hy.out)
   have kx_0:=bxx 0 _ rfl
   have kx_1:=bxx 1 _ rfl
   have kx_2:=bxx 2 _ rfl
   by_cases hyb':bud<y
   ·have HN:=Lib.hid (frontTo_no (s:=x) (b:=bud) (m:=k) (by rw [frontAt,Hcy.out];simp;omega))
    go_wp2
    go_roundw
    case rel=>exact⟨k+1,n,c,_,by omega,by omega,by go_num,rfl,HN.out▸hM,hsz,hB,bxx⟩
    case measure=>simp [intOf];omega
   have hyb:y<=bud:=by omega
   go_wp2_with fail
   refine(sBoxLocation_c _ x.fBox k _ (rBox_rep.2 ⟨AxBoxLow,nxBoxLow,cxBoxLow,AxBoxHigh,nxBoxHigh,cxBoxHigh,rfl,hxBoxLow.below rInt_ok hB,hxBoxHigh.below rInt_ok hB⟩) hIk).mono ?_
   rintro e w2 ⟨A2,n2,c2,rfl,M2,hb2⟩
   replace hsz:=Nat.le_trans hsz hb2.size
   clear hc
   replace hB:=hB.trans (hb2.mono hB.size)
   replace bxx:=bxx.below hb2
   replace hM:=hM.below rInt_ok hb2
   clear hb2 kx_0 kx_1 kx_2
   have hsm:=boxLoc_small x.fBox k
   have HUP:Hid (aboveL x.fBox k=aboveTo x.fBox (boxLoc x.fBox k).1 (boxLoc x.fBox k).1.length):=Lib.hid rfl
   generalize (boxLoc x.fBox k).1=l at M2 hsm HUP
   have HL2:=Lib.hid M2.len
   have hn2:n2<=16:=by rw [<- HL2.out];exact hsm.1
   have HZ:=Lib.hid hsm.2;clear hsm
   have hR2:=M2.rs rInt_ok;clear M2
   go_wp2
   go_loopw [9,10] (fun t i wr=>∃ (q:Nat) (tt:Bool),q<=n2/\i=.int .i64 q/\t=.bool tt/\tt=!(aboveTo x.fBox l q).any (cheapAt x bud)/\MS (w.heap.size+1) NB 3 rInt wr A n c (frontTo x bud k)/\w.heap.size+1<=wr.heap.size/\Below w.heap.size w wr/\RS NB rInt wr A2 n2 c2 l/\Bx wr w.heap.size [.slice AxBoxLow nxBoxLow cxBoxLow,.slice AxBoxHigh nxBoxHigh cxBoxHigh,.slice (some ⟨b,off,none⟩) nxCosts cxCosts,.slice AxChoices nxChoices cxChoices,.slice AxPlans nxPlans cxPlans]) (fun _ i _=>n2 - (intOf i).toNat)
   case atStart=>exact⟨0,true,Nat.zero_le _,rfl,rfl,rfl,hM,hsz,hB,hR2,bxx⟩
   case round =>
    clear hB bxx hR2 hM hsz
    obtain⟨q,tt,hq,rfl,rfl,hall,hM,hsz,hB,hR2,bxx⟩:=hrel
    have HA2:=Lib.hid hall;clear hall
    by_cases hlt2:q<n2
    ·have hq0:(0:Int)<=(q:Int):=by omega
     have hql:(q:Int)<l.length:=by rw [HL2.out];omega
     have kx_0:=bxx 0 _ rfl
     have kx_1:=bxx 1 _ rfl
     go_wp2_with fail
     refine(sUp_c _ x.fBox _ _ _ l q _ (rBox_rep.2 ⟨AxBoxLow,nxBoxLow,cxBoxLow,AxBoxHigh,nxBoxHigh,cxBoxHigh,rfl,hxBoxLow.below rInt_ok hB,hxBoxHigh.below rInt_ok hB⟩) hR2 hq0 hql HZ.out).mono ?_
     rintro e w5 ⟨rfl,hb5⟩
     replace hR2:=hR2.below rInt_ok hb5
     replace hsz:=Nat.le_trans hsz hb5.size
     replace hB:=hB.trans (hb5.mono hB.size)
     replace bxx:=bxx.below hb5
     replace hM:=hM.below rInt_ok hb5
     clear hb5 kx_0 kx_1
     simp only [Int.toNat_natCast]
     have HYN:=Lib.hid (And.intro (fun h=>And.intro (aboveTo_yes (b:=x.fBox) (l:=l) (k:=q) h) (aboveTo_new (b:=x.fBox) (l:=l) (k:=q) h)) (fun h=>aboveTo_no (b:=x.fBox) (l:=l) (k:=q) h))
     generalize upIdx x.fBox l q=jj at HYN
     have kx_2:=bxx 2 _ rfl
     by_cases h0:0<=jj
     ·have HJ:=Lib.hid (HYN.out.1 h0);clear HYN
      have hjm:jj∈aboveL x.fBox k:=by rw [HUP.out,HL2.out];exact aboveTo_sub HJ.out.2 (by omega)
      have hzz:=aboveL_mem HV.out hjm
      obtain⟨j,rfl⟩:∃ j:Nat,jj=j:=⟨jj.toNat,by omega⟩
      have hj:j<nxCosts:=by have:=HL.out;omega
      clear hjm
      obtain⟨b3,off3,t,e3,hc3,hI3,ht⟩:=(hxCosts.below rInt_ok hB).ati hj
      injection e3 with e3;injection e3 with e3 e4;subst e3;subst e4
      have Hct:=Lib.hid (costN_at ht.out)
      have dj:decide ((j:Int)<0)=false:=by simp
      have hjI:(j:Int)<(nxCosts:Int):=by omega
      have HS:Hid ((aboveTo x.fBox l (q+1)).any (cheapAt x bud)=((aboveTo x.fBox l q).any (cheapAt x bud)||decide (t<=bud))):=by
       show _=_
       rw [HJ.out.1,List.any_append];simp only [List.any_cons,List.any_nil,Bool.or_false,cheapAt,Hct.out]
      cases tt<;>by_cases hcc:t<=bud
      all_goals
       first|(have dcc:decide (bud<t)=false:=by(simp;omega))|(have dcc:decide (bud<t)=true:=by(simp;omega))
       go_wp2
       go_roundw
       case rel=>exact⟨q+1,_,by omega,by go_num,rfl,by rw [HS.out,Bool.not_or,<- HA2.out];simp [hcc],hM,hsz,hB,hR2,bxx⟩
       case measure=>simp [intOf];omega
     ·have HJ:=Lib.hid (HYN.out.2 h0);clear HYN
      have dj:decide (jj<0)=true:=by simp;omega
      cases tt
      all_goals
       go_wp2
       go_roundw
       case rel=>exact⟨q+1,_,by omega,by go_num,rfl,by rw [HJ.out];exact HA2.out,hM,hsz,hB,hR2,bxx⟩
       case measure=>simp [intOf];omega
    ·have HF:Hid (frontAt x bud k=tt):=by
      show frontAt x bud k=tt
      rw [frontAt,Hcy.out,HUP.out,HL2.out,show n2=q by omega,<- HA2.out];simp [hyb]
     cases tt
     ·have HN:=Lib.hid (frontTo_no HF.out)
      go_wp2
      go_roundw
      case rel=>exact⟨k+1,n,c,_,by omega,by omega,by go_num,rfl,HN.out▸hM,hsz,hB,bxx⟩
      case measure=>simp [intOf];omega
     ·have HY:=Lib.hid (frontTo_yes HF.out)
      go_upto_region 16 with fail
      go_wp2_with (at_builtin;refine wpList_app (r:=rInt) rfl _ _ 32 rfl _ 8 eiInt rInt_ok rfl hM ((Below.refl _ _).alloc (Nat.le_refl _) _) hsz ⟨wr.heap.size,0,none⟩ rfl [] [.int .i64 k] k ⟨rfl,rfl,hIk⟩ (Fr.nil _) (cell_one_new _ _ _) (by unfold NB;omega) (Nat.le_refl _) (by omega) ?_;intro A4 k4 w4 hM4 hb4 hg4)
      have hBa:=(Below.refl wr.heap.size wr).alloc (Nat.le_refl _) (.cells #[.int .i64 k] 3)
      have hz4:=Nat.le_trans (Nat.le_trans hsz hBa.size) hb4.size
      have hB4:=(hB.trans (hBa.mono hB.size)).trans (hb4.mono (Nat.le_succ _))
      have bxx4:Bx w4 w.heap.size _:=fun j v (hj:_)=>(low_cell hb4 (Nat.lt_succ_self _) j).trans ((bxx.below hBa) j v hj)
      go_roundw
      case rel=>exact⟨k+1,n+1,k4,_,by omega,by omega,by go_num,rfl,HY.out▸hM4,hz4,hB4,bxx4⟩
      case measure=>simp [intOf];omega
  ·have kx_2:=bxx 2 _ rfl
   go_wp2
   go_ret
   exact⟨_,_,_,rfl,by rw [frontier,HV.out,HL.out,show nxCosts=k by omega];exact hM.base (by omega),hB⟩
end Go.Proofs.YtblbnbfghlkkfaaGreat
namespace Go.Proofs.YtblbnbfghlkkfaaGreat
open Go.RowKit
set_option linter.unusedVariables false

def fpStep (ch:List Int) (out:List Int) (k:Int):List Int:=if inR k 0 ((ch.length:Int) - 1) then (if hasI out ((ch[k.toNat]?).getD 0) then out else out++[(ch[k.toNat]?).getD 0]) else out
def fpFold (ch f:List Int):List Int:=f.foldl (fpStep ch) []
theorem fpFold_snoc {ch f:List Int}{k:Nat}{x:Int}(h:f[k]?=some x):fpFold ch (f.take (k+1))=fpStep ch (fpFold ch (f.take k)) x:=by
 unfold fpFold;rw [take_snoc h,List.foldl_append];rfl
def frontierPlans (s:SpaceD) (f:List Int):List Int:=if validSpace s then fpFold s.fChoices f else []
set_option maxRecDepth 100000 in
set_option maxHeartbeats 1600000 in
theorem iFrontierPlans_c (csx:List Value) (x:SpaceD) (Af:Option Addr) (nf cf:Nat) (f:List Int) (w:World) (hx:(rSpace NB).rep w csx x) (hf:RS NB rInt w Af nf cf f) :
  Calls Tryz.prog 18 #[.agg csx.toArray,.slice Af nf cf] w (RetS 3 rInt (frontierPlans x f) w):=by
 have rx:=hx
 obtain⟨AxBoxLow,nxBoxLow,cxBoxLow,AxBoxHigh,nxBoxHigh,cxBoxHigh,AxCosts,nxCosts,cxCosts,AxChoices,nxChoices,cxChoices,AxPlans,nxPlans,cxPlans,rfl,hxBoxLow,hxBoxHigh,hxCosts,hxChoices,hxPlans⟩:=rSpace_rep.1 hx
 clear hx
 have hB:Below w.heap.size w w:=Below.refl _ _
 have hAx:=(Below.refl (World.heap (w)).size (w)).alloc (Nat.le_refl _) (.cells #[.slice AxBoxLow nxBoxLow cxBoxLow,.slice AxBoxHigh nxBoxHigh cxBoxHigh,.slice AxCosts nxCosts cxCosts,.slice AxChoices nxChoices cxChoices,.slice AxPlans nxPlans cxPlans] 37)
 replace hB:=hB.trans (hAx.mono hB.size)
 have bxx:=Bx.new (w) [.slice AxBoxLow nxBoxLow cxBoxLow,.slice AxBoxHigh nxBoxHigh cxBoxHigh,.slice AxCosts nxCosts cxCosts,.slice AxChoices nxChoices cxChoices,.slice AxPlans nxPlans cxPlans] 37
 clear hAx
 have hnf:=hf.bound
 have hn4:=hxChoices.bound
 have HL:=Lib.hid hxChoices.len
 go_enter Tryz.func18,Tryz.ntmps18
 go_wp2_with fail
 refine(iIsValidSpace_c _ x _ ((rSpace_ok NB).keep rx (cells_below hB))).mono ?_
 rintro e w1 ⟨rfl,hb1⟩
 replace hB:=hB.trans (hb1.mono hB.size)
 replace bxx:=bxx.below hb1
 clear hb1
 cases e1:validSpace x
 ·go_wp2
  go_ret
  exact⟨_,_,_,rfl,by simp only [frontierPlans,e1];exact MS.nil _ (Nat.zero_le _),hB⟩
 have HV:=Lib.hid e1;clear e1
 have HF:Hid (frontierPlans x f=fpFold x.fChoices f):=by show frontierPlans x f=_;simp [frontierPlans,HV.out]
 go_wp2
 go_loopw [5,14] (fun v i wr=>∃ (k n c:Nat) (A:Option Addr),k<=nf/\n<=k/\i=.int .i64 k/\v=.slice A n c/\MS w1.heap.size NB 3 rInt wr A n c (fpFold x.fChoices (f.take k))/\Below w1.heap.size w1 wr) (fun _ i _=>nf - (intOf i).toNat)
 case atStart=>exact⟨0,0,0,_,Nat.zero_le _,Nat.le_refl _,rfl,rfl,MS.empty _ (Nat.le_refl _),(Below.refl _ _).alloc (Nat.le_refl _) _⟩
 case round =>
  obtain⟨k,n,c,A,hk,hnk,rfl,rfl,hM,hE⟩:=hrel
  have hB2:=hB.trans (hE.mono hB.size)
  have hRo:=hM.rs rInt_ok
  have kx_3:=bxx.below hE 3 _ rfl
  by_cases hlt:k<nf
  ·obtain⟨b,off,y,rfl,hc,hI,hy⟩:=(hf.below rInt_ok hB2).ati hlt
   have HS:=Lib.hid (fpFold_snoc (ch:=x.fChoices) hy.out)
   have m1:IntKind.i64.wrap ((nxChoices:Int) - 1)=(nxChoices:Int) - 1:=IntWalk.i64_in _ (by omega)
   cases g1:inR y 0 ((nxChoices:Int) - 1)
   ·have G1:=Lib.hid g1
    go_wp2_with (go_at_call 37;refine(within_c _ _ _ _).mono ?_;rintro e w' ⟨rfl,rfl⟩)
    go_roundw
    case rel=>exact⟨k+1,n,c,_,by omega,by omega,by go_num,rfl,by rw [HS.out,fpStep,HL.out,G1.out];exact hM,hE⟩
    case measure=>simp [intOf];omega
   have g1':=inR_t.1 g1
   obtain⟨j,rfl⟩:∃ j:Nat,y=j:=⟨y.toNat,by omega⟩
   have hj:j<nxChoices:=by omega
   obtain⟨b2,off2,z,rfl,hc2,hI2,hz⟩:=(hxChoices.below rInt_ok hB2).ati hj
   have HS2:Hid (fpFold x.fChoices (f.take (k+1))=if hasI (fpFold x.fChoices (f.take k)) z then fpFold x.fChoices (f.take k) else fpFold x.fChoices (f.take k)++[z]):=by
    show _=_
    rw [HS.out,fpStep,HL.out,g1];simp only [Int.toNat_natCast,hz.out,Option.getD_some,if_true]
   clear HS
   cases g2:hasI (fpFold x.fChoices (f.take k)) z
   ·have G2:=Lib.hid g2
    go_wp2_with (first|(go_at_call 37;refine(within_c _ _ _ _).mono ?_;rintro e w' ⟨rfl,rfl⟩)|(go_at_call 21;refine(slicesContains_q _ _ _ _ _ _ hRo).mono ?_;rintro e w' ⟨rfl,rfl⟩)|(at_builtin;refine wpList_app (r:=rInt) rfl _ _ 32 rfl _ 8 eiInt rInt_ok rfl hM ((Below.refl _ _).alloc (Nat.le_refl _) _) hE.size ⟨w'.heap.size,0,none⟩ rfl [] [.int .i64 z] z ⟨rfl,rfl,hI2⟩ (Fr.nil _) (cell_one_new _ _ _) (by unfold NB;omega) (Nat.le_refl _) (by omega) ?_;intro A2 k2 w2 hM2 hb2 hg2))
    go_roundw
    case rel=>exact⟨k+1,n+1,k2,_,by omega,by omega,by go_num,rfl,by rw [HS2.out,G2.out];exact hM2,(hE.alloc hE.size _).trans hb2⟩
    case measure=>simp [intOf];omega
   ·have G2:=Lib.hid g2
    go_wp2_with (first|(go_at_call 37;refine(within_c _ _ _ _).mono ?_;rintro e w' ⟨rfl,rfl⟩)|(go_at_call 21;refine(slicesContains_q _ _ _ _ _ _ hRo).mono ?_;rintro e w' ⟨rfl,rfl⟩))
    go_roundw
    case rel=>exact⟨k+1,n,c,_,by omega,by omega,by go_num,rfl,by rw [HS2.out,G2.out];exact hM,hE⟩
    case measure=>simp [intOf];omega
  ·go_wp2
   go_ret
   exact⟨_,_,_,rfl,by rw [HF.out,<- take_all hf.len hlt];exact hM.base hB.size,hB2⟩
set_option maxRecDepth 100000 in
set_option maxHeartbeats 1600000 in
theorem sFrontierPlans_c (csx:List Value) (x:SpaceD) (Af:Option Addr) (nf cf:Nat) (f:List Int) (w:World) (hx:(rSpace NB).rep w csx x) (hf:RS NB rInt w Af nf cf f) :
  Calls Tryz.prog 9 #[.agg csx.toArray,.slice Af nf cf] w (RetS 3 rInt (frontierPlans x f) w):=by
 have rx:=hx
 obtain⟨AxBoxLow,nxBoxLow,cxBoxLow,AxBoxHigh,nxBoxHigh,cxBoxHigh,AxCosts,nxCosts,cxCosts,AxChoices,nxChoices,cxChoices,AxPlans,nxPlans,cxPlans,rfl,hxBoxLow,hxBoxHigh,hxCosts,hxChoices,hxPlans⟩:=rSpace_rep.1 hx
 clear hx
 have hB:Below w.heap.size w w:=Below.refl _ _
 have hAx:=(Below.refl (World.heap (w)).size (w)).alloc (Nat.le_refl _) (.cells #[.slice AxBoxLow nxBoxLow cxBoxLow,.slice AxBoxHigh nxBoxHigh cxBoxHigh,.slice AxCosts nxCosts cxCosts,.slice AxChoices nxChoices cxChoices,.slice AxPlans nxPlans cxPlans] 37)
 replace hB:=hB.trans (hAx.mono hB.size)
 have bxx:=Bx.new (w) [.slice AxBoxLow nxBoxLow cxBoxLow,.slice AxBoxHigh nxBoxHigh cxBoxHigh,.slice AxCosts nxCosts cxCosts,.slice AxChoices nxChoices cxChoices,.slice AxPlans nxPlans cxPlans] 37
 clear hAx
 have hnf:=hf.bound
 have hn4:=hxChoices.bound
 have HL:=Lib.hid hxChoices.len
 obtain⟨w0,hw0⟩:∃ w0,w0=w.alloc (.cells #[.slice AxBoxLow nxBoxLow cxBoxLow,.slice AxBoxHigh nxBoxHigh cxBoxHigh,.slice AxCosts nxCosts cxCosts,.slice AxChoices nxChoices cxChoices,.slice AxPlans nxPlans cxPlans] 37):=⟨_,rfl⟩
 rw [<- hw0]at hB bxx
 have hz0:w0.heap.size=w.heap.size+1:=by rw [hw0];simp
 have HW:=Lib.hid hw0;clear hw0
 go_enter Tryz.func9,Tryz.ntmps9
 go_wp2
 go_loopw [5,6] (fun v i wr=>∃ (k n c:Nat) (A:Option Addr),k<=nf/\n<=k/\i=.int .i64 k/\v=.slice A n c/\(0<k->validSpace x=true)/\MS w0.heap.size NB 3 rInt wr A n c (fpFold x.fChoices (f.take k))/\Below w0.heap.size w0 wr) (fun _ i _=>nf - (intOf i).toNat)
 case atStart=>exact⟨0,0,0,_,Nat.zero_le _,Nat.le_refl _,rfl,rfl,by omega,by have:=MS.empty (B:=w0.heap.size) (M:=NB) (e:=3) (r:=rInt) w0 (Nat.le_refl _);rw [HW.out]at this ⊢;simpa [fpFold]using this,by rw [HW.out];exact(Below.refl _ _).alloc (Nat.le_refl _) _⟩
 case round =>
  obtain⟨k,n,c,A,hk,hnk,rfl,rfl,hkv,hM,hE⟩:=hrel
  have HK:=Lib.hid hkv;clear hkv
  have hB2:=hB.trans (hE.mono hB.size)
  have kx_0:=bxx.below hE 0 _ rfl
  have kx_1:=bxx.below hE 1 _ rfl
  have kx_2:=bxx.below hE 2 _ rfl
  have kx_3:=bxx.below hE 3 _ rfl
  have kx_4:=bxx.below hE 4 _ rfl
  by_cases hlt:k<nf
  ·have dk:decide (k<nf)=true:=by simp [hlt]
   obtain⟨b,off,y,rfl,hc,hI,hy⟩:=(hf.below rInt_ok hB2).ati hlt
   have HS:=Lib.hid (fpFold_snoc (ch:=x.fChoices) hy.out)
   go_wp2_with fail
   refine(sIsValidSpace_c _ x _ ((rSpace_ok NB).keep rx (cells_below hB2))).mono ?_
   rintro e w1 ⟨rfl,hb1⟩
   replace hE:=hE.trans (hb1.mono hE.size)
   replace hM:=hM.below rInt_ok hb1
   replace hc:=cells_below hb1 _ _ hc
   clear hB2 hb1 kx_0 kx_1 kx_2 kx_3 kx_4
   have hB2:=hB.trans (hE.mono hB.size)
   have kx_3:=bxx.below hE 3 _ rfl
   have hRo:=hM.rs rInt_ok
   cases hv:validSpace x
   ·go_wp2
    go_ret
    have hk0:k=0:=by rcases Nat.eq_zero_or_pos k with h0|h0;exact h0;rw [HK.out h0]at hv;cases hv
    refine⟨_,_,_,rfl,?_,hB2⟩
    subst hk0
    have h2:=hM.base hB.size
    simp only [frontierPlans,hv]
    exact h2
   have HV:=Lib.hid hv;clear hv
   have m1:IntKind.i64.wrap ((nxChoices:Int) - 1)=(nxChoices:Int) - 1:=IntWalk.i64_in _ (by omega)
   cases g1:inR y 0 ((nxChoices:Int) - 1)
   ·have G1:=Lib.hid g1;
    have K1:=Lib.hid (fun W=>l1In_v g1 W);clear g1
    go_wp2
    go_quiet ((go_at_call_of 25 (Value.int IntKind.i64 y);exact Calls.quiet_of_same (K1.out _)))
    clear m1
    go_wp2
    go_roundw
    case rel=>exact⟨k+1,n,c,_,by omega,by omega,by go_num,rfl,fun _=>HV.out,by rw [HS.out,fpStep,HL.out,G1.out];exact hM.below rInt_ok (below_drewN (Below.refl _ _) _),below_drewN hE _⟩
    case measure=>simp [intOf];omega
   have g1':=inR_t.1 g1
   obtain⟨j,rfl⟩:∃ j:Nat,y=j:=⟨y.toNat,by omega⟩
   have hj:j<nxChoices:=by omega
   obtain⟨b2,off2,z,rfl,hc2,hI2,hz⟩:=(hxChoices.below rInt_ok hB2).ati hj
   have HS2:Hid (fpFold x.fChoices (f.take (k+1))=if hasI (fpFold x.fChoices (f.take k)) z then fpFold x.fChoices (f.take k) else fpFold x.fChoices (f.take k)++[z]):=by
    show _=_
    rw [HS.out,fpStep,HL.out,g1];simp only [Int.toNat_natCast,hz.out,Option.getD_some,if_true]
   clear HS
   have K1:=Lib.hid (fun W=>l1In_v g1 W);clear g1
   have hjI:(j:Int)<(nxChoices:Int):=by omega
   cases g2:hasI (fpFold x.fChoices (f.take k)) z
   ·have G2:=Lib.hid g2
    go_wp2
    go_quiet (first|(go_at_call_of 25 (Value.int IntKind.i64 (j:Int));exact Calls.quiet_of_same (K1.out _))|(go_at_call 22;exact Calls.quiet_of_same (l7Has_v G2.out (hRo.drewN rInt_ok _))))
    clear m1
    go_wp2
    obtain⟨wq,hwq⟩:∃ wq,wq=w1.drewN nq:=⟨_,rfl⟩
    rw [<- hwq]
    have hEq:Below w0.heap.size w0 wq:=by rw [hwq];exact below_drewN hE _
    have hMq:MS w0.heap.size NB 3 rInt wq A n c (fpFold x.fChoices (f.take k)):=by rw [hwq];exact hM.below rInt_ok (below_drewN (Below.refl _ _) _)
    clear hwq
    have SS:∀ w',Below w0.heap.size w0 w'->w'.cell? ⟨w.heap.size,3,none⟩=some (.slice (some ⟨b2,off2,none⟩) nxChoices cxChoices)/\w'.cell? ⟨b,off+k,none⟩=some (.int .i64 j)/\w'.cell? ⟨b2,off2+j,none⟩=some (.int .i64 z):=by
     intro w' hb
     have hbb:=hB.trans (hb.mono hB.size)
     refine⟨bxx.below hb 3 _ rfl,?_,?_⟩
     ·obtain⟨_,_,y',e1,c1,_,q1⟩:=(hf.below rInt_ok hbb).ati hlt
      injection e1 with e1;injection e1 with e1 e2;subst e1;subst e2
      have:y'=j:=by have:=q1.out;rw [hy.out]at this;injection this with this;exact this.symm
      rw [c1,this]
     ·obtain⟨_,_,y',e1,c1,_,q1⟩:=(hxChoices.below rInt_ok hbb).ati hj
      injection e1 with e1;injection e1 with e1 e2;subst e1;subst e2
      have:y'=z:=by have:=q1.out;rw [hz.out]at this;injection this with this;exact this.symm
      rw [c1,this]
    have HSS:=Lib.hid SS;clear SS
    have hj0:(0:Int)<=(j:Int):=by omega
    go_region_held3 (fun w'=>w'.cell? ⟨w.heap.size,3,none⟩=some (.slice (some ⟨b2,off2,none⟩) nxChoices cxChoices)/\w'.cell? ⟨b,off+k,none⟩=some (.int .i64 j)/\w'.cell? ⟨b2,off2+j,none⟩=some (.int .i64 z)) (first|exact HSS.out _ hEq.drew|exact HSS.out _ (hEq.drew.alloc hEq.size _)|exact HSS.out _ ((hEq.drew.alloc hEq.size _).trans (by assumption))) ((refine step_appf (r:=rInt) (by rfl) _ _ 32 (by rfl) _ 8 eiInt rInt_ok rInt_flat (by rfl) hMq (((Below.refl _ _).drew).alloc (Nat.le_refl _) _) hEq.size (by rfl) (RS.one1 1 (Nat.le_refl _) wq.drew z _ hI2) (by unfold NB;omega) (Nat.le_refl _) (by omega) ?_;intro A2 k2 w2 hM2 hb2 hg2))
    go_wp2
    go_roundw
    case rel=>exact⟨k+1,n+1,k2,_,by omega,by omega,by go_num,rfl,fun _=>HV.out,by rw [HS2.out,G2.out];exact hM2,(hEq.drew.alloc hEq.size _).trans hb2⟩
    case measure=>simp [intOf];omega
   ·have G2:=Lib.hid g2
    go_wp2
    go_quiet (first|(go_at_call_of 25 (Value.int IntKind.i64 (j:Int));exact Calls.quiet_of_same (K1.out _))|(go_at_call 22;exact Calls.quiet_of_same (l7Has_v G2.out (hRo.drewN rInt_ok _))))
    clear m1
    go_wp2
    go_roundw
    case rel=>exact⟨k+1,n,c,_,by omega,by omega,by go_num,rfl,fun _=>HV.out,by rw [HS2.out,G2.out];exact hM.below rInt_ok (below_drewN (Below.refl _ _) _),below_drewN hE _⟩
    case measure=>simp [intOf];omega
  ·have dk:decide (k<nf)=false:=by simp;omega
   go_wp2
   go_ret
   refine⟨_,_,_,rfl,?_,hB2⟩
   have h2:=hM.base hB.size
   rw [take_all hf.len (by omega)]at h2
   cases hv:validSpace x
   ·have hk0:k=0:=by rcases Nat.eq_zero_or_pos k with h0|h0;exact h0;rw [HK.out h0]at hv;cases hv
    have:f=[]:=List.eq_nil_of_length_eq_zero (by rw [hf.len];omega)
    subst this
    simp only [frontierPlans,hv]
    exact h2
   ·simp only [frontierPlans,hv,if_true];exact h2
end Go.Proofs.YtblbnbfghlkkfaaGreat
