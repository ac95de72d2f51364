/-
  Mono
-/
import Derived.Test.YtnlcfkpcmfljeaaGreatIbf
import Derived.Deep.RegionHeld3
import Derived.Deep.DrawnRows
import Derived.Test.YtnlcfkpcmfljeaaGreatPtr
import Derived.Test.YtnlcfkpcmfljeaaGreatBsp
import Derived.Test.YtnlcfkpcmfljeaaGreatSpl
import Derived.Test.YtnlcfkpcmfljeaaGreatPii
set_option linter.unusedSimpArgs false
set_option linter.unusedVariables false
set_option maxHeartbeats 1600000
set_option maxRecDepth 100000
namespace Go.Proofs.YtnlcfkpcmfljeaaGreat
open Go.RowKit
def upIdx (b:BoxD) (l:List Int) (k:Nat):Int:=boxIndex b (l.set k ((l[k]?).getD 0+1))
def aboveTo (b:BoxD) (l:List Int):Nat->List Int
 | 0=>[]
 | m+1=>if 0<=upIdx b l m then aboveTo b l m++[upIdx b l m] else aboveTo b l m
theorem aboveTo_len (b:BoxD) (l:List Int) (m:Nat):(aboveTo b l m).length<=m:=by
 induction m with
 | zero=>simp [aboveTo]
 | succ m ih =>
  unfold aboveTo;split
  ·rw [List.length_append];simp only [List.length_cons,List.length_nil];omega
  ·omega
theorem aboveTo_mem {b:BoxD}{l:List Int}{m:Nat}{j:Int}(h:j∈aboveTo b l m):0<=j/\j<volume b:=by
 induction m with
 | zero=>simp [aboveTo]at h
 | succ m ih =>
  unfold aboveTo at h;split at h
  ·rename_i h0
   rcases List.mem_append.1 h with h|h
   ·exact ih h
   ·simp at h;subst h;exact⟨h0,boxIndex_lt.2.2 h0⟩
  ·exact ih h
def aboveL (b:BoxD) (k:Int):List Int:=aboveTo b (boxLoc b k).1 (boxLoc b k).1.length
theorem digs_mem {ws:List Int}{i:Int}(h:∀ x∈ws,1<=x/\x<=8):∀ d∈(digs ws i).1,0<=d/\d<=7:=by
 induction ws with
 | nil=>intro d hd;simp [digs]at hd
 | cons v ws ih =>
  intro d hd;simp only [digs,List.mem_cons]at hd;rcases hd with rfl|hd
  ·have hv:=h v List.mem_cons_self
   have h1:0<=(digs ws i).2 % v:=Int.emod_nonneg _ (by omega);have h2:(digs ws i).2 % v<v:=Int.emod_lt_of_pos _ (by omega);omega
  ·exact ih (fun x hx=>h x (List.mem_cons_of_mem _ hx)) d hd
theorem mem_zipAdd {a b:List Int}{z:Int}(h:z∈List.zipWith (·+·) a b):∃ x∈a,∃ y∈b,z=x+y:=by
 induction a generalizing b with
 | nil=>simp at h
 | cons x a ih =>
  cases b with
  | nil=>simp at h
  | cons y b =>
   simp only [List.zipWith_cons_cons,List.mem_cons]at h;rcases h with rfl|h
   ·exact⟨x,List.mem_cons_self,y,List.mem_cons_self,rfl⟩
   ·obtain⟨x',hx,y',hy,e⟩:=ih h
    exact⟨x',List.mem_cons_of_mem _ hx,y',List.mem_cons_of_mem _ hy,e⟩
theorem boxLoc_small (b:BoxD) (k:Int):(boxLoc b k).1.length<=16/\∀ z∈(boxLoc b k).1,0<=z/\z<=14:=by
 unfold boxLoc;split
 ·rename_i h
  have hv:validBox b=true:=by simp only [Bool.and_eq_true]at h;exact h.1
  have h1:=isLoc_at (validBox_parts hv).1;refine⟨?_,fun z hz=>?_⟩
  ·show(List.zipWith (·+·) b.fLow (digs (widths b) k).1).length<=16
   rw [List.length_zipWith];have:=h1.1;omega
  ·obtain⟨x,hx,y,hy,rfl⟩:=mem_zipAdd hz
   obtain⟨n,hn⟩:=List.getElem?_of_mem hx;have:=h1.2 n x hn;have:=digs_mem (widths_mem hv) y hy;omega
 ·simp
theorem MS.lowI {B T:Nat}{w w':World}{g n cap:Nat}{l:List Int}(h:MS B NB 3 rInt w (some ⟨g,0,none⟩) n cap l) (hg:g<T) (hb:Below T w w'):MS B NB 3 rInt w' (some ⟨g,0,none⟩) n cap l:=by
 obtain⟨o,hB⟩:=h.blkI;exact⟨_,o.below rInt_ok hb (fun k hk=>by simp [blk]at hk;omega),by simp [blk],hB⟩
theorem aboveTo_yes {b:BoxD}{l:List Int}{k:Nat}(h:0<=upIdx b l k):aboveTo b l (k+1)=aboveTo b l k++[upIdx b l k]:=by
 show(if 0<=upIdx b l k then _ else _)=_;rw [if_pos h]
theorem aboveTo_no {b:BoxD}{l:List Int}{k:Nat}(h:¬ 0<=upIdx b l k):aboveTo b l (k+1)=aboveTo b l k:=by
 show(if 0<=upIdx b l k then _ else _)=_;rw [if_neg h]
theorem upIdx_at {b:BoxD}{l:List Int}{k:Nat}{u:Int}(h:l[k]?=some u):upIdx b l k=boxIndex b (l.set k (u+1)):=by
 unfold upIdx;rw [h];rfl
theorem set_back {l:List Int}{k:Nat}{u v:Int}(h:l[k]?=some u):(l.set k v).set k u=l:=by
 obtain⟨hk,rfl⟩:=List.getElem?_eq_some_iff.1 h;rw [List.set_set];exact List.set_getElem_self hk
theorem cell_setCell_other {w:World}{a g j i:Nat}{v:Value}(h:a≠g):(w.setCell ⟨g,i,none⟩ v).cell? ⟨a,j,none⟩=w.cell? ⟨a,j,none⟩:=by
 have:=setCells_other w g i [v] a h;simp only [setCells]at this;unfold World.cell?
 rw [this]
theorem low_cell {T:Nat}{w w':World}(h:Below T w w') {a:Nat}(ha:a<T) (j:Nat):w'.cell? ⟨a,j,none⟩=w.cell? ⟨a,j,none⟩:=by
 unfold World.cell?
 rw [h.block a ha]
theorem upIdx_I64 (b:BoxD) (l:List Int) (k:Nat):I64 (upIdx b l k):=by
 have h:=boxIndex_lt (x:=b) (l:=l.set k ((l[k]?).getD 0+1));unfold upIdx;refine⟨by omega,?_⟩;by_cases h0:0<=boxIndex b (l.set k ((l[k]?).getD 0+1))
 ·have h1:=h.2.2 h0
  have hv:=(inBox_parts (h.2.1 h0)).1;have h2:=(prod_take_bd hv (widths b).length).2;rw [List.take_length]at h2;have h3:volume b<=281474976710656:=h2;omega
 ·omega
theorem iAbove_c (csx:List Value) (x:SpaceD) (k:Int) (w:World) (hx:(rSpace NB).rep w csx x) (hI:I64 k) :
  Calls Tryz.prog 90 #[.agg csx.toArray,.int .i64 k] w (RetS 3 rInt (aboveL x.fBox k) w):=by
 have rx:=hx;obtain⟨Ax_i,nx_i,cx_i,Ax_h,nx_h,cx_h,Ax_y,nx_y,cx_y,Ax_q,nx_q,cx_q,Ax_a4,nx_a4,cx_a4,rfl,hx_i,hx_h,hx_y,hx_q,hx_a4⟩:=rSpace_rep.1 hx;clear hx;obtain⟨hB,bxx⟩:=op1 w [.slice Ax_i nx_i cx_i,.slice Ax_h nx_h cx_h,.slice Ax_y nx_y cx_y,.slice Ax_q nx_q cx_q,.slice Ax_a4 nx_a4 cx_a4] 39;have kx_0:=bxx 0 _ rfl;have kx_1:=bxx 1 _ rfl
 go_enter Tryz.func90,Tryz.ntmps90
 go_wp2_with fail
 refine(iBoxLocation_c _ x.fBox k _ (rBox_rep.2 ⟨Ax_i,nx_i,cx_i,Ax_h,nx_h,cx_h,rfl,hx_i.below rInt_ok hB,hx_h.below rInt_ok hB⟩) hI).mono ?_;rintro e w1 ⟨A1,n1,c1,rfl,M1,hb1⟩;have hz1:=hb1.size;replace hB:=hB.trans (hb1.mono hB.size);replace bxx:=bxx.below hb1;clear hb1 kx_0 kx_1;simp only [World.size_alloc]at M1;have hsm:=boxLoc_small x.fBox k;have HA:Hid (aboveL x.fBox k=aboveTo x.fBox (boxLoc x.fBox k).1 (boxLoc x.fBox k).1.length):=Lib.hid rfl;generalize (boxLoc x.fBox k).1=l at M1 hsm HA;have HL:=Lib.hid M1.len;have hn1:n1<=16:=by rw [<- HL.out];exact hsm.1
 have HZ:=Lib.hid hsm.2;clear hsm;have hw1:w.heap.size<w1.heap.size:=by have:=hz1;simp at this;omega
 clear hz1;go_wp2
 go_loopw [7,20] (fun v i wr=>∃ (q n c:Nat) (A:Option Addr),q<=n1/\n<=q/\i=.int .i64 q/\v=.slice A n c/\MS (w.heap.size+1) NB 3 rInt wr A1 n1 c1 l/\MS w1.heap.size NB 3 rInt wr A n c (aboveTo x.fBox l q)/\(∀ g∈blk A1,g<w1.heap.size)/\w1.heap.size<=wr.heap.size/\Below w.heap.size w wr/\Bx wr w.heap.size [.slice Ax_i nx_i cx_i,.slice Ax_h nx_h cx_h,.slice Ax_y nx_y cx_y,.slice Ax_q nx_q cx_q,.slice Ax_a4 nx_a4 cx_a4]) (fun _ i _=>n1 - (intOf i).toNat)
 case atStart =>
  have hA:=(Below.refl w1.heap.size w1).alloc (Nat.le_refl _) (.cells #[] 3);exact⟨0,0,0,_,Nat.zero_le _,Nat.le_refl _,rfl,rfl,M1.below rInt_ok hA,MS.empty _ (Nat.le_refl _),fun g hg=>M1.blkI.1.lt rInt_ok g hg,hA.size,hB.trans (hA.mono hB.size),bxx.below hA⟩
 case round =>
  clear M1 hB bxx;obtain⟨q,n,c,A,hq,hnq,rfl,rfl,hM1,hM,hlow,hsz,hB,bxx⟩:=hrel;by_cases hlt:q<n1
  ·obtain⟨g,rfl,hgl,hgB⟩:=hM1.form (by omega)
   have hg1:g<w1.heap.size:=hlow g (by simp [blk]);obtain⟨u,hu,hIu,huk⟩:=hM1.celli hlt;have hu14:=HZ.out u (mem_of_at huk.out);have hfz:=hM1.frozen q;have m1:IntKind.i64.wrap (u+1)=u+1:=IntWalk.i64_in _ (by omega)
   go_upto_region 7 with fail
   have hS:=hM1.set q (x:=u+1) ⟨by omega,by omega⟩;have hMs:=hM.out rInt_ok ((Out.refl w1.heap.size wr).setCell (p:=⟨g,q,none⟩) hg1 (.int .i64 (u+1)));have hbs:Below w.heap.size wr (wr.setCell ⟨g,q,none⟩ (.int .i64 (u+1))):=(Below.refl w.heap.size wr).setCell (by show w.heap.size<=g;omega) _;have hgx:w.heap.size≠g:=by omega
   have bxs:Bx (wr.setCell ⟨g,q,none⟩ (.int .i64 (u+1))) w.heap.size [.slice Ax_i nx_i cx_i,.slice Ax_h nx_h cx_h,.slice Ax_y nx_y cx_y,.slice Ax_q nx_q cx_q,.slice Ax_a4 nx_a4 cx_a4]:=fun j v hj=>by rw [cell_setCell_other hgx];exact bxx j v hj
   have hzs:w1.heap.size<=(wr.setCell ⟨g,q,none⟩ (.int .i64 (u+1))).heap.size:=by simpa using hsz
   replace hB:=hB.trans hbs;obtain⟨ws,hws⟩:∃ ws,ws=wr.setCell ⟨g,q,none⟩ (.int .i64 (u+1)):=⟨_,rfl⟩;rw [<- hws]at hS hMs bxs hB hzs;rw [<- hws];clear hws hu hfz hM1 hM hbs bxx;have bxx:=bxs;clear bxs;have kx_0:=bxx 0 _ rfl;have kx_1:=bxx 1 _ rfl;have hz5:=hzs
   go_wp2_with fail
   refine(iBoxIndex_c _ x.fBox _ _ _ _ _ (rBox_rep.2 ⟨Ax_i,nx_i,cx_i,Ax_h,nx_h,cx_h,rfl,hx_i.below rInt_ok hB,hx_h.below rInt_ok hB⟩) (hS.rs rInt_ok)).mono ?_;rintro e w5 ⟨rfl,hb5⟩;replace hzs:=Nat.le_trans hzs hb5.size;replace hB:=hB.trans (hb5.mono hB.size);replace bxx:=bxx.below hb5;replace hS:=hS.below rInt_ok hb5;replace hMs:=hMs.below rInt_ok hb5;clear hb5 kx_0 kx_1;have HU:=Lib.hid (upIdx_at (b:=x.fBox) huk.out);rw [<- HU.out];have hup:=boxIndex_lt (x:=x.fBox) (l:=l.set q (u+1));rw [<- HU.out]at hup;have hvol:Hid (True):=Lib.hid trivial;have HY:=fun h=>aboveTo_yes (b:=x.fBox) (l:=l) (k:=q) h
   have HN:=fun h=>aboveTo_no (b:=x.fBox) (l:=l) (k:=q) h;have HYN:=Lib.hid (And.intro HY HN);clear HY HN HU;have hIj:I64 (upIdx x.fBox l q):=upIdx_I64 _ _ _;generalize upIdx x.fBox l q=jj at hup HYN hIj;by_cases h0:0<=jj
   ·have HJ:=Lib.hid (HYN.out.1 h0)
    go_upto_region 10 with (at_builtin;refine wpList_app (r:=rInt) rfl _ _ 30 rfl _ 8 eiInt rInt_ok rfl hMs (bal) hzs ⟨w5.heap.size,0,none⟩ rfl [] [.int .i64 jj] jj ⟨rfl,rfl,hIj⟩ (Fr.nil _) (cell_one_new _ _ _) (by unfold NB;omega) (Nat.le_refl _) (by omega) ?_;intro A2 k2 w6 hM2 hb2 hg2)
    have hS5:=hS.below rInt_ok ((Below.refl _ _).alloc (Nat.le_refl _) (.cells #[.int .i64 jj] 3));have hS6:=hS5.lowI hg1 hb2;have hB6:=(hB.alloc hB.size (.cells #[.int .i64 jj] 3)).trans (hb2.mono (Nat.le_of_lt hw1));have bx6:=fun j v (hj:_)=>(low_cell hb2 hw1 j).trans ((bxx.below ((Below.refl _ _).alloc (Nat.le_refl _) (.cells #[.int .i64 jj] 3))) j v hj);have hz6:=Nat.le_trans (Nat.le_trans hzs (by simp)) hb2.size;obtain⟨u2,hu,hIu2,huk2⟩:=hS6.celli hlt;obtain rfl:u2=u+1:=by have:=huk2.out;rw [List.getElem?_set_self (lt_of_at huk.out)]at this;injection this with this;exact this.symm
    have hfz:=hS6.frozen q;have m2:IntKind.i64.wrap (u+1 - 1)=u:=by rw [show u+1 - 1=u by omega];exact IntWalk.i64_in _ (by omega)
    go_wp2;go_roundw
    case rel=>exact⟨q+1,n+1,k2,_,by omega,by omega,by go_num,rfl,set_back huk.out▸hS6.set q hIu,(HJ.out▸hM2).out rInt_ok ((Out.refl _ _).setCell (p:=⟨g,q,none⟩) hg1 _),fun k hk=>by simp [blk]at hk;omega,by simpa using hz6,hB6.setCell (by show w.heap.size<=g;omega) _,fun j v hj=>by rw [cell_setCell_other (by omega)];exact bx6 j v hj⟩
    case measure=>simp [intOf];omega
   ·have HJ:=Lib.hid (HYN.out.2 h0)
    obtain⟨u2,hu,hIu2,huk2⟩:=hS.celli hlt;obtain rfl:u2=u+1:=by have:=huk2.out;rw [List.getElem?_set_self (lt_of_at huk.out)]at this;injection this with this;exact this.symm
    have hfz:=hS.frozen q;have m2:IntKind.i64.wrap (u+1 - 1)=u:=by rw [show u+1 - 1=u by omega];exact IntWalk.i64_in _ (by omega)
    go_wp2;go_roundw
    case rel=>exact⟨q+1,n,c,_,by omega,by omega,by go_num,rfl,set_back huk.out▸hS.set q hIu,(HJ.out▸hMs).out rInt_ok ((Out.refl _ _).setCell (p:=⟨g,q,none⟩) hg1 _),fun k hk=>by simp [blk]at hk;omega,by simpa using hzs,hB.setCell (by show w.heap.size<=g;omega) _,fun j v hj=>by rw [cell_setCell_other (by omega)];exact bxx j v hj⟩
    case measure=>simp [intOf];omega
  ·go_wp2
   go_ret;exact⟨_,_,_,rfl,by rw [HA.out,HL.out,show n1=q by omega];exact hM.base (by omega),hB⟩
def costN (s:SpaceD) (n:Int):Int:=(s.fCosts[n.toNat]?).getD 0
theorem costN_at {s:SpaceD}{j:Nat}{c:Int}(h:s.fCosts[j]?=some c):costN s j=c:=by simp [costN,h]
def monoAt (s:SpaceD) (i:Nat):Bool:=(aboveL s.fBox i).all (fun n=>!decide (costN s n<costN s i))
def monoSpace (s:SpaceD):Bool:=validSpace s&&(List.range s.fCosts.length).all (monoAt s)
theorem range_snoc_all {p:Nat->Bool}{k:Nat}(h:(List.range k).all p=true) (hk:p k=true):(List.range (k+1)).all p=true:=by
 rw [List.range_succ,List.all_append,h];simp [hk]
theorem range_no_all {p:Nat->Bool}{k n:Nat}(hk:p k=false) (h:k<n):(List.range n).all p=false:=by
 rw [List.all_eq_false];exact⟨k,List.mem_range.2 h,by simp [hk]⟩
theorem aboveL_mem {s:SpaceD}(h:validSpace s=true) {i j:Int}(hj:j∈aboveL s.fBox i):0<=j/\j<s.fCosts.length:=by
 have h1:=aboveTo_mem hj;obtain⟨_,_,_,h4,_⟩:=validSpace_parts h;omega
theorem aboveL_len (b:BoxD) (i:Int):(aboveL b i).length<=16:=Nat.le_trans (aboveTo_len _ _ _) (boxLoc_small b i).1
theorem mono_no {s:SpaceD}{i:Nat}{j:Int}(hj:j∈aboveL s.fBox i) (h:costN s j<costN s i):monoAt s i=false:=by
 unfold monoAt;rw [List.all_eq_false];exact⟨j,hj,by simp [h]⟩
theorem iIsMonotoneSpace_c (csx:List Value) (x:SpaceD) (w:World) (hx:(rSpace NB).rep w csx x) :
  Calls Tryz.prog 28 #[.agg csx.toArray] w fun e w'=>e=.returned (.bool (monoSpace x))/\Below w.heap.size w w':=by
 have rx:=hx;obtain⟨Ax_i,nx_i,cx_i,Ax_h,nx_h,cx_h,Ax_y,nx_y,cx_y,Ax_q,nx_q,cx_q,Ax_a4,nx_a4,cx_a4,rfl,hx_i,hx_h,hx_y,hx_q,hx_a4⟩:=rSpace_rep.1 hx;clear hx;obtain⟨hB,bxx⟩:=op1 w [.slice Ax_i nx_i cx_i,.slice Ax_h nx_h cx_h,.slice Ax_y nx_y cx_y,.slice Ax_q nx_q cx_q,.slice Ax_a4 nx_a4 cx_a4] 39;have hnC:=hx_y.bound;have HL:=Lib.hid hx_y.len
 go_enter Tryz.func28,Tryz.ntmps28
 go_wp2_with fail
 refine(iIsValidSpace_c _ x _ ((rSpace_ok NB).keep rx (cells_below hB))).mono ?_;rintro e w1 ⟨rfl,hb1⟩;replace hB:=hB.trans (hb1.mono hB.size);replace bxx:=bxx.below hb1;clear hb1;cases e1:validSpace x
 ·go_wp2
  go_ret;exact⟨ret_bool (a:=false) (by simp [monoSpace,e1]),hB⟩
 have HV:=Lib.hid e1;clear e1;have kx_2:=bxx 2 _ rfl;go_wp2
 go_loopw [13] (fun i wr=>∃ k:Nat,k<=nx_y/\i=.int .i64 k/\(List.range k).all (monoAt x)=true/\Below w.heap.size w wr/\Bx wr w.heap.size [.slice Ax_i nx_i cx_i,.slice Ax_h nx_h cx_h,.slice Ax_y nx_y cx_y,.slice Ax_q nx_q cx_q,.slice Ax_a4 nx_a4 cx_a4]) (fun i _=>nx_y - (intOf i).toNat)
 case atStart=>exact⟨0,Nat.zero_le _,rfl,rfl,hB,bxx⟩
 case round =>
  clear hB bxx kx_2;obtain⟨k,hk,rfl,hall,hB,bxx⟩:=hrel;have HA:=Lib.hid hall;clear hall;by_cases hlt:k<nx_y
  ·obtain⟨b,off,y,rfl,hc,hI,hy⟩:=(hx_y.below rInt_ok hB).ati hlt
   have hIk:I64 (k:Int):=⟨by omega,by omega⟩;have Hcy:=Lib.hid (costN_at hy.out);have kx_0:=bxx 0 _ rfl;have kx_1:=bxx 1 _ rfl;have kx_2:=bxx 2 _ rfl;have kx_3:=bxx 3 _ rfl;have kx_4:=bxx 4 _ rfl
   go_wp2_with fail
   refine(iAbove_c _ x k _ ((rSpace_ok NB).keep rx (cells_below hB)) hIk).mono ?_;rintro e w2 ⟨A2,n2,c2,rfl,M2,hb2⟩;replace hB:=hB.trans (hb2.mono hB.size);replace bxx:=bxx.below hb2;clear hb2 kx_0 kx_1 kx_2 kx_3 kx_4;have hR2:=M2.rs rInt_ok;have HL2:=Lib.hid hR2.len;have hn2:n2<=16:=by rw [<- HL2.out];exact aboveL_len _ _
   clear hc;go_wp2
   go_loopw [22] (fun i wr=>∃ q:Nat,q<=n2/\i=.int .i64 q/\((aboveL x.fBox k).take q).all (fun n=>!decide (costN x n<costN x k))=true/\Below w.heap.size w wr/\RS NB rInt wr A2 n2 c2 (aboveL x.fBox k)/\Bx wr w.heap.size [.slice Ax_i nx_i cx_i,.slice Ax_h nx_h cx_h,.slice (some ⟨b,off,none⟩) nx_y cx_y,.slice Ax_q nx_q cx_q,.slice Ax_a4 nx_a4 cx_a4]) (fun i _=>n2 - (intOf i).toNat)
   case atStart=>exact⟨0,Nat.zero_le _,rfl,rfl,hB,hR2,bxx⟩
   case round =>
    clear hB bxx hR2 M2;obtain⟨q,hq,rfl,hall,hB,hR2,bxx⟩:=hrel;have HA2:=Lib.hid hall;clear hall;by_cases hlt2:q<n2
    ·obtain⟨b2,off2,z,rfl,hc2,hI2,hz⟩:=hR2.ati hlt2
     have hzz:=aboveL_mem HV.out (mem_of_at hz.out);obtain⟨j,rfl⟩:∃ j:Nat,z=j:=⟨z.toNat,by omega⟩;have hj:j<nx_y:=by have:=HL.out;omega
     obtain⟨b3,off3,t,e3,hc3,hI3,ht⟩:=(hx_y.below rInt_ok hB).ati hj;injection e3 with e3;injection e3 with e3 e4;subst e3;subst e4;have Hct:=Lib.hid (costN_at ht.out);have kx_2:=bxx 2 _ rfl;by_cases hcc:t<y
     ·go_wp2
      go_ret;exact⟨ret_bool (a:=false) (by rw [monoSpace,range_no_all (mono_no (mem_of_at hz.out) (by rw [Hct.out,Hcy.out];exact hcc)) (by rw [HL.out];exact hlt),Bool.and_false]),hB⟩
     ·go_wp2
      go_roundw
      case rel=>exact⟨q+1,by omega,by go_num,all_snoc' HA2.out hz.out (by rw [Hct.out,Hcy.out];simp;omega),hB,hR2,bxx⟩
      case measure=>simp [intOf];omega
    ·go_wp2
     go_roundw
     case rel=>exact⟨k+1,by omega,by go_num,range_snoc_all HA.out (by have:=HA2.out;rw [take_all HL2.out hlt2]at this;exact this),hB,bxx⟩
     case measure=>simp [intOf];omega
  ·go_wp2
   go_ret;exact⟨ret_bool (a:=true) (by rw [monoSpace,HV.out,HL.out,show nx_y=k by omega,HA.out];rfl),hB⟩
theorem countP_snoc {α:Type}(p:α->Bool) {l:List α}{k:Nat}{x:α}(h:l[k]?=some x):(l.take (k+1)).countP p=(l.take k).countP p+if p x then 1 else 0:=by
 rw [take_snoc h,List.countP_append];simp [List.countP_cons]
def countIn (x:SpaceD) (l:List Int) (p:Int->Bool):Nat:=if validSpace x then l.countP p else 0
theorem iPlanShare_c (cs:List Value) (x:SpaceD) (q:Int) (w:World) (h:(rSpace NB).rep w cs x) :
  Calls Tryz.prog 30 #[.agg cs.toArray,.int .i64 q] w fun e w'=>e=.returned (.int .i64 ((countIn x x.fChoices (fun c=>c==q):Nat):Int))/\Below w.heap.size w w':=by
 have hrep:=h;obtain⟨A1,n1,c1,A2,n2,c2,A3,n3,c3,A4,n4,c4,A5,n5,c5,rfl,h1,h2,h3,h4,h5⟩:=rSpace_rep.1 h;clear h h1 h2 h5;have hn3:=h3.bound;have hn4:=h4.bound;have hB:=(Below.refl w.heap.size w).alloc (Nat.le_refl _) (.cells #[.slice A1 n1 c1,.slice A2 n2 c2,.slice A3 n3 c3,.slice A4 n4 c4,.slice A5 n5 c5] 39);have bx:=Bx.new w [.slice A1 n1 c1,.slice A2 n2 c2,.slice A3 n3 c3,.slice A4 n4 c4,.slice A5 n5 c5] 39
 go_enter Tryz.func30,Tryz.ntmps30
 go_wp2_with fail
 refine(iIsValidSpace_c _ x _ ((rSpace_ok NB).keep hrep (cells_below hB))).mono ?_;rintro e w1 ⟨rfl,hb1⟩;replace hB:=hB.trans (hb1.mono hB.size);replace bx:=bx.below hb1;clear hb1;have bI:=bx 3 _ rfl;cases hv:validSpace x
 ·go_wp2
  go_ret;exact⟨ret_int (a:=0) (by simp [countIn,hv]),hB⟩
 have HV:=Lib.hid hv;clear hv;go_wp2
 go_loopw [5,14] (fun c i wr=>∃ k m:Nat,k<=n4/\i=.int .i64 k/\c=.int .i64 m/\m<=k/\m=((x.fChoices.take k).countP (fun c=>c==q):Nat)/\Below w.heap.size w wr) (fun _ i _=>n4 - (intOf i).toNat)
 case atStart=>exact⟨0,0,Nat.zero_le _,rfl,rfl,Nat.le_refl _,rfl,hB⟩
 case round =>
  clear hB bx bI;obtain⟨k,m,hk,rfl,rfl,hmk,hm,hB⟩:=hrel;have HM:=Lib.hid hm;clear hm;by_cases hlt:k<n4
  ·obtain⟨b,off,y,rfl,hc,hI,hy⟩:=(h4.below rInt_ok hB).ati hlt
   have HS:=Lib.hid (countP_snoc (fun c=>c==q) hy.out);by_cases hx:y=q
   ·have d1:(y==q)=true:=by simp [hx]
    have HX:=Lib.hid hx;clear hx;go_wp2;go_roundw
    case rel=>exact⟨k+1,m+1,by omega,by go_num,by go_num,by omega,by rw [HS.out,<- HM.out];simp [HX.out],hB⟩
    case measure=>simp [intOf];omega
   ·have d1:(y==q)=false:=by simp [hx]
    go_wp2;go_roundw
    case rel=>exact⟨k+1,m,by omega,by go_num,by go_num,by omega,by rw [HS.out,<- HM.out];simp [hx],hB⟩
    case measure=>simp [intOf];omega
  ·go_wp2
   go_ret;exact⟨ret_int (by rw [HM.out,take_all h4.len hlt,countIn,HV.out];rfl),hB⟩
theorem nat_mono {f:Nat->Int}(h:∀ a,a+1<8->f a<=f (a+1)) {a a':Nat}(h1:a<=a') (h2:a'<8):f a<=f a':=by
 induction a' with
 | zero =>
  obtain rfl:a=0:=by omega
  exact Int.le_refl _
 | succ n ih =>
  by_cases e:a=n+1
  ·subst e;exact Int.le_refl _
  ·exact Int.le_trans (ih (by omega) (by omega)) (h n h2)
def cost3 (o:OperatorD) (a b c:Nat):Int:=opCost o (clsSize (a:Int)) (clsSize (b:Int)) (clsSize (c:Int))
theorem opOk_at {o:OperatorD}(h:opOk o=true) {a b c:Nat}(ha:a<8) (hb:b<8) (hc:c<8) :
  1<=cost3 o a b c/\(a+1<8->cost3 o a b c<=cost3 o (a+1) b c)/\(b+1<8->cost3 o a b c<=cost3 o a (b+1) c)/\(c+1<8->cost3 o a b c<=cost3 o a b (c+1)):=by
 unfold opOk at h;simp only [Bool.and_eq_true,Bool.not_eq_true']at h;obtain⟨⟨_,hd⟩,hch⟩:=h;unfold hasCheap at hch;unfold hasDec at hd;simp only [Bool.not_eq_false']at hch hd;have h1:=List.all_eq_true.1 hch (64*a+8*b+c) (List.mem_range.2 (by omega));have h2:=List.all_eq_true.1 hd (64*a+8*b+c) (List.mem_range.2 (by omega));rw [trip_eq hb hc]at h1 h2;unfold cheapT costL at h1;simp only [Bool.not_eq_true',decide_eq_false_iff_not]at h1;unfold decT at h2;simp only [Bool.not_eq_true',Bool.not_eq_false']at h2;have d:=fun k (hk:k<3)=>List.all_eq_true.1 h2 k (List.mem_range.2 hk);have d0:=d 0 (by omega)
 have d1:=d 1 (by omega);have d2:=d 2 (by omega);unfold decAt at d0 d1 d2;simp only [List.getElem?_cons_zero,List.getElem?_cons_succ,List.set_cons_zero,List.set_cons_succ,Bool.not_eq_true',Bool.and_eq_false_iff,decide_eq_false_iff_not,costL]at d0 d1 d2;unfold cost3;have e:∀ n:Nat,((n+1:Nat):Int)=(n:Int)+1:=fun n=>by omega
 rw [e,e,e];exact⟨by omega,fun h=>by rcases d0 with d|d<;>(first|omega|(have:=of_decide_eq_false d;omega)),fun h=>by rcases d1 with d|d<;>(first|omega|(have:=of_decide_eq_false d;omega)),fun h=>by rcases d2 with d|d<;>(first|omega|(have:=of_decide_eq_false d;omega))⟩
theorem cost3_mono {o:OperatorD}(h:opOk o=true) {a b c a' b' c':Nat}(ha:a<=a') (hb:b<=b') (hc:c<=c') (ha':a'<8) (hb':b'<8) (hc':c'<8):cost3 o a b c<=cost3 o a' b' c':=by
 have s1:=nat_mono (f:=fun n=>cost3 o n b c) (fun n hn=>(opOk_at h (by omega) (by omega) (by omega)).2.1 hn) ha ha';have s2:=nat_mono (f:=fun n=>cost3 o a' n c) (fun n hn=>(opOk_at h (by omega) (by omega) (by omega)).2.2.1 hn) hb hb';have s3:=nat_mono (f:=fun n=>cost3 o a' b' n) (fun n hn=>(opOk_at h (by omega) (by omega) (by omega)).2.2.2 hn) hc hc';exact Int.le_trans s1 (Int.le_trans s2 s3)
theorem opCostV_3 {o:OperatorD}(h:opOk o=true) {a b c:Nat}(ha:a<8) (hb:b<8) (hc:c<8):opCostV o (clsSize (a:Int)) (clsSize (b:Int)) (clsSize (c:Int))=cost3 o a b c:=by
 have hv:validOp o=true:=by
  unfold opOk at h;simp only [Bool.and_eq_true]at h;exact h.1.1
 have k:=fun (n:Nat) (hn:n<8)=>clsSize_bd (k:=(n:Int)) (by omega) (by omega);unfold opCostV;rw [hv,inR_t.2 (k a ha),inR_t.2 (k b hb),inR_t.2 (k c hc)];rfl
def Rise (s s':List Int):Prop:=∀ m,∃ a a':Nat,a<=a'/\a'<8/\sizeAt s m=clsSize (a:Int)/\sizeAt s' m=clsSize (a':Int)
theorem op_rise {md:ModelD}(h:admitted md=true) {o:OperatorD}(ho:o∈modelOps md) {s s':List Int}(hr:Rise s s') (m1 m2 m3:Int) :
  1<=opCostV o (sizeAt s m1) (sizeAt s m2) (sizeAt s m3)/\opCostV o (sizeAt s m1) (sizeAt s m2) (sizeAt s m3)<=opCostV o (sizeAt s' m1) (sizeAt s' m2) (sizeAt s' m3) /\
  1<=opCostV o (sizeAt s m1) 0 (sizeAt s m1)/\opCostV o (sizeAt s m1) 0 (sizeAt s m1)<=opCostV o (sizeAt s' m1) 0 (sizeAt s' m1):=by
 have hk:opOk o=true:=List.all_eq_true.1 h _ ho;obtain⟨a,a',a1,a2,a3,a4⟩:=hr m1;obtain⟨b,b',b1,b2,b3,b4⟩:=hr m2;obtain⟨c,c',c1,c2,c3,c4⟩:=hr m3;have h0:(0:Int)=clsSize ((0:Nat):Int):=rfl;rw [a3,a4,b3,b4,c3,c4,h0,opCostV_3 hk (by omega) (by omega) (by omega),opCostV_3 hk (by omega) (by omega) (by omega),opCostV_3 hk (by omega) (by omega) (by omega),opCostV_3 hk (by omega) (by omega) (by omega)];exact⟨(opOk_at hk (by omega) (by omega) (by omega)).1,cost3_mono hk a1 b1 c1 a2 b2 c2,(opOk_at hk (by omega) (by omega) (by omega)).1,cost3_mono hk a1 (Nat.le_refl _) a1 a2 (by omega) a2⟩
theorem opOf_mem (md:ModelD) (k:Int):opOf md k∈modelOps md:=by
 unfold opOf modelOps
 repeat' split
 all_goals simp
def LeE (x y:PlanEntryD):Prop:=x.fMask=y.fMask/\x.fOrder=y.fOrder/\1<=x.fCost/\x.fCost<=y.fCost
def LeL:List PlanEntryD->List PlanEntryD->Prop
 | [],[]=>True
 | x::l,y::l'=>LeE x y/\LeL l l'
 | _,_=>False
def Both (R:PlanEntryD->PlanEntryD->Prop):Option PlanEntryD->Option PlanEntryD->Prop
 | none,none=>True
 | some x,some y=>R x y
 | _,_=>False
def LeC (x y:PlanEntryD):Prop:=1<=x.fCost/\x.fCost<=y.fCost
theorem LeL.app:∀ {a a' b b':List PlanEntryD},LeL a a'->LeL b b'->LeL (a++b) (a'++b')
 | [],[],_,_,_,h=>h
 | _::_,_::_,_,_,h,h2=>⟨h.1,LeL.app h.2 h2⟩
theorem LeL.filter {p:PlanEntryD->Bool}(hp:∀ x y,LeE x y->p x=p y):∀ {l l':List PlanEntryD},LeL l l'->LeL (l.filter p) (l'.filter p)
 | [],[],_=>trivial
 | x::l,y::l',h=>by
  have ih:=LeL.filter hp h.2;rw [List.filter_cons,List.filter_cons,hp x y h.1];split
  ·exact⟨h.1,ih⟩
  ·exact ih
theorem LeL.find {p:PlanEntryD->Bool}(hp:∀ x y,LeE x y->p x=p y):∀ {l l':List PlanEntryD},LeL l l'->Both LeE (l.find? p) (l'.find? p)
 | [],[],_=>trivial
 | x::l,y::l',h=>by
  have ih:=LeL.find hp h.2;rw [List.find?_cons,List.find?_cons,hp x y h.1];split
  ·exact h.1
  ·exact ih
theorem better_le {b b':Option PlanEntryD}{x y:PlanEntryD}(h:Both LeC b b') (hx:LeE x y):Both LeC (better b x) (better b' y):=by
 obtain⟨_,_,h1,h2⟩:=hx
 match b,b',h with
 | none,none,_=>exact⟨h1,h2⟩
 | some u,some v,h =>
  obtain⟨g1,g2⟩:=h;show Both LeC (if x.fCost<u.fCost then some x else some u) (if y.fCost<v.fCost then some y else some v);split<;>split
  ·exact⟨h1,h2⟩
  ·exact⟨h1,by omega⟩
  ·exact⟨g1,by omega⟩
  ·exact⟨g1,g2⟩
theorem best_le:∀ {l l':List PlanEntryD}{b b':Option PlanEntryD},LeL l l'->Both LeC b b'->Both LeC (l.foldl better b) (l'.foldl better b')
 | [],[],_,_,_,h=>h
 | x::l,y::l',b,b',h,hb=>best_le (l:=l) (l':=l') h.2 (better_le hb h.1)
theorem bestE_le {l l':List PlanEntryD}(h:LeL l l') (m:Int):Both LeC (bestE l m) (bestE l' m) :=
 best_le (h.filter fun x y e=>by unfold onMask;rw [e.1]) trivial
theorem findE_le {l l':List PlanEntryD}(h:LeL l l') (m o:Int):Both LeE (findE l m o) (findE l' m o) :=
 h.find fun x y e=>by unfold isAt;rw [e.1,e.2.1]
section
variable {md:ModelD} {q:QueryD} {s s':List Int}
theorem inputE_le (ha:admitted md=true) (hr:Rise s s') {l l':List PlanEntryD}(h:LeL l l') {mk v:Int}{low low':PlanEntryD}(h1:bestE l mk=some low) (h2:bestE l' mk=some low'):LeE (inputE md s l mk v) (inputE md s' l' mk v)/\(inputE md s l mk v).fMask=mk:=by
 have hb:=bestE_le h mk;rw [h1,h2]at hb;obtain⟨b1,b2⟩:=hb;have hf:=findE_le h mk v;have ho:=op_rise ha (o:=md.fSort) (by simp [modelOps]) hr mk mk mk
 have hs:LeE (sortE md s low mk v) (sortE md s' low' mk v):=by
  refine⟨rfl,rfl,?_,?_⟩
  ·show 1<=low.fCost+opCostV md.fSort (sizeAt s mk) 0 (sizeAt s mk);omega
  ·show low.fCost+opCostV md.fSort (sizeAt s mk) 0 (sizeAt s mk)<=low'.fCost+opCostV md.fSort (sizeAt s' mk) 0 (sizeAt s' mk);omega
 have e1:inputE md s l mk v=match findE l mk v with|some x=>if x.fCost<=(sortE md s low mk v).fCost then x else sortE md s low mk v|none=>sortE md s low mk v:=by unfold inputE;rw [h1]<;>rfl
 have e2:inputE md s' l' mk v=match findE l' mk v with|some x=>if x.fCost<=(sortE md s' low' mk v).fCost then x else sortE md s' low' mk v|none=>sortE md s' low' mk v:=by unfold inputE;rw [h2]<;>rfl
 rw [e1,e2];cases hx:findE l mk v with
 | none =>
  cases hy:findE l' mk v with
  | none=>exact⟨hs,rfl⟩
  | some y=>rw [hx,hy]at hf;exact hf.elim
 | some x =>
  cases hy:findE l' mk v with
  | none=>rw [hx,hy]at hf;exact hf.elim
  | some y =>
   rw [hx,hy]at hf;obtain⟨f1,f2,f3,f4⟩:=hf;obtain⟨_,g1,g2⟩:=findE_mem hx;obtain⟨_,k1,k2⟩:=findE_mem hy;obtain⟨_,_,s3,s4⟩:=hs;show LeE (if x.fCost<=(sortE md s low mk v).fCost then x else sortE md s low mk v) (if y.fCost<=(sortE md s' low' mk v).fCost then y else sortE md s' low' mk v)/\PlanEntryD.fMask (if x.fCost<=(sortE md s low mk v).fCost then x else sortE md s low mk v)=mk;split<;>split
   ·exact⟨⟨f1,f2,f3,f4⟩,g1⟩
   ·exact⟨⟨g1,g2,f3,by omega⟩,g1⟩
   ·exact⟨⟨k1.symm,k2.symm,s3,by omega⟩,rfl⟩
   ·exact⟨⟨rfl,rfl,s3,s4⟩,rfl⟩
structure MineLe (mk:Int) (L L':List PlanEntryD):Prop where
 len:L.length=5
 len':L'.length=5
 ok:∀ (k:Nat) (x y:PlanEntryD),L[k]?=some x->L'[k]?=some y->(x=zPlanEntry/\y=zPlanEntry)\/(LeE x y/\x.fMask=mk/\x.fOrder=(k:Int) - 1)
theorem MineLe.new (mk:Int):MineLe mk (List.replicate 5 zPlanEntry) (List.replicate 5 zPlanEntry) :=
 ⟨by simp,by simp,fun k x y hx hy=>.inl ⟨List.eq_of_mem_replicate (mem_of_at hx),List.eq_of_mem_replicate (mem_of_at hy)⟩⟩
theorem MineLe.set {mk:Int}{L L':List PlanEntryD}(h:MineLe mk L L') {k:Nat}{x y:PlanEntryD}(hxy:LeE x y) (hm:x.fMask=mk) (ho:x.fOrder=(k:Int) - 1):MineLe mk (L.set k x) (L'.set k y):=by
 refine⟨by simp [h.len],by simp [h.len'],fun j u v hu hv=>?_⟩;by_cases e:k=j
 ·subst e
  have l1:=lt_of_at hu;have l2:=lt_of_at hv;rw [List.length_set]at l1 l2;rw [List.getElem?_set_self l1]at hu;rw [List.getElem?_set_self l2]at hv;injection hu with hu;injection hv with hv;subst hu;subst hv;exact .inr ⟨hxy,hm,ho⟩
 ·rw [List.getElem?_set_ne e]at hu hv
  exact h.ok j u v hu hv
theorem set_same {L:List PlanEntryD}{k:Nat}{x:PlanEntryD}(h:L[k]?=some x):L.set k x=L:=by
 refine List.ext_getElem? fun j=>?_;by_cases e:k=j
 ·subst e;rw [List.getElem?_set_self (lt_of_at h),h]
 ·rw [List.getElem?_set_ne e]
theorem offerE_le (ha:admitted md=true) (hr:Rise s s') {mk:Int}(hmk:1<=mk) {L L':List PlanEntryD}(h:MineLe mk L L') {a a' b b':PlanEntryD}(hA:a.fMask=a'.fMask) (hAc:LeC a a') (hB:b.fMask=b'.fMask) (hBc:LeC b b') (hor:orI a.fMask b.fMask=mk) (kd v:Int) (k:Nat) :
  MineLe mk (offerE md s L a b kd v k) (offerE md s' L' a' b' kd v k):=by
 have hj:1<=joinCost md s a b kd/\joinCost md s a b kd<=joinCost md s' a' b' kd:=by
  have:=op_rise ha (opOf_mem md kd) hr a.fMask b.fMask (orI a.fMask b.fMask);obtain⟨a1,a2⟩:=hAc;obtain⟨b1,b2⟩:=hBc;unfold joinCost;rw [<- hA,<- hB];omega
 have hor':orI a'.fMask b'.fMask=mk:=by rw [<- hA,<- hB];exact hor
 unfold offerE;rw [hor,hor'];by_cases hk:k<5
 ·have hx:L[k]?=some (L[k]'(by have:=h.len;omega)):=List.getElem?_eq_getElem _
  have hy:L'[k]?=some (L'[k]'(by have:=h.len';omega)):=List.getElem?_eq_getElem _;generalize L[k]'(by have:=h.len;omega)=x at hx;generalize L'[k]'(by have:=h.len';omega)=y at hy;rw [hx,hy];show MineLe mk (if x.fMask=0\/joinCost md s a b kd<x.fCost then _ else L) (if y.fMask=0\/joinCost md s' a' b' kd<y.fCost then _ else L');rcases h.ok k x y hx hy with ⟨rfl,rfl⟩|⟨⟨e1,e2,e3,e4⟩,e5,e6⟩
  ·rw [if_pos (.inl rfl),if_pos (.inl rfl)]
   exact h.set ⟨rfl,rfl,hj.1,hj.2⟩ rfl rfl
  ·by_cases c1:joinCost md s a b kd<x.fCost<;>by_cases c2:joinCost md s' a' b' kd<y.fCost
   ·rw [if_pos (.inr c1),if_pos (.inr c2)]
    exact h.set ⟨rfl,rfl,hj.1,hj.2⟩ rfl rfl
   ·rw [if_pos (.inr c1),if_neg (by rintro(e|e)<;>omega)]
    have hL:L'=L'.set k y:=(set_same hy).symm;rw [hL];exact h.set ⟨by rw [<- e1];exact e5.symm,by rw [<- e2];exact e6.symm,hj.1,by show joinCost md s a b kd<=y.fCost;omega⟩ rfl rfl
   ·rw [if_neg (by rintro(e|e)<;>omega),if_pos (.inr c2)]
    have hL:L=L.set k x:=(set_same hx).symm;rw [hL];exact h.set ⟨e5,e6,e3,by show x.fCost<=joinCost md s' a' b' kd;omega⟩ e5 e6
   ·rw [if_neg (by rintro(e|e)<;>omega),if_neg (by rintro(e|e)<;>omega)]
    exact h
 ·have hx:L[k]?=none:=List.getElem?_eq_none (by have:=h.len;omega)
  have hy:L'[k]?=none:=List.getElem?_eq_none (by have:=h.len';omega);rw [hx,hy];exact h
theorem foldl_two {α β:Type}{R:β->β->Prop}{f g:β->α->β}{l:List α}(h:∀ x∈l,∀ a b,R a b->R (f a x) (g b x)) {a b:β}(hab:R a b):R (l.foldl f a) (l.foldl g b):=by
 induction l generalizing a b with
 | nil=>exact hab
 | cons x l ih=>exact ih (fun y hy=>h y (by simp [hy])) (h x (by simp) a b hab)
theorem nestE_le (ha:admitted md=true) (hr:Rise s s') {l l':List PlanEntryD}(h:LeL l l') {mk:Int}(hmk:1<=mk) {lf:Int}{b b':PlanEntryD}(hB:b.fMask=b'.fMask) (hBc:LeC b b') (hor:orI lf b.fMask=mk) {L L':List PlanEntryD}(hL:MineLe mk L L') (n:Nat) :
  MineLe mk (nestE md s l lf b n L) (nestE md s' l' lf b' n L'):=by
 induction n with
 | zero=>exact hL
 | succ n ih =>
  unfold nestE;have hf:=findE_le h lf ((n:Int) - 1);cases hx:findE l lf ((n:Int) - 1) with
  | none =>
   cases hy:findE l' lf ((n:Int) - 1) with
   | none=>exact ih
   | some y=>rw [hx,hy]at hf;exact hf.elim
  | some x =>
   cases hy:findE l' lf ((n:Int) - 1) with
   | none=>rw [hx,hy]at hf;exact hf.elim
   | some y =>
    rw [hx,hy]at hf;obtain⟨f1,f2,f3,f4⟩:=hf;exact offerE_le ha hr hmk ih f1 ⟨f3,f4⟩ hB hBc (by rw [(findE_mem hx).2.1];exact hor) 5 0 n
theorem splitE_le (ha:admitted md=true) (hr:Rise s s') {l l':List PlanEntryD}(h:LeL l l') {mk:Int}(hmk:1<=mk) {x:Int × List Int}{lf rt:Nat}(hx:SplOk l mk x lf rt) {L L':List PlanEntryD}(hL:MineLe mk L L'):MineLe mk (splitE md s l mk L x) (splitE md s' l' mk L' x):=by
 obtain⟨e1,e2,sd,⟨a,b1⟩,⟨b,b2⟩,vs⟩:=hx;have ka:=bestE_le h (lf:Int);have kb:=bestE_le h (rt:Int);rw [b1]at ka;rw [b2]at kb
 obtain⟨a',c1⟩:∃ a',bestE l' lf=some a':=by
  cases e:bestE l' (lf:Int) with
  | none=>rw [e]at ka;exact ka.elim
  | some y=>exact⟨y,rfl⟩
 obtain⟨b',c2⟩:∃ b',bestE l' rt=some b':=by
  cases e:bestE l' (rt:Int) with
  | none=>rw [e]at kb;exact kb.elim
  | some y=>exact⟨y,rfl⟩
 rw [c1]at ka;rw [c2]at kb;have ma:=(bestE_mem b1).2;have mb:=(bestE_mem b2).2;have ma':=(bestE_mem c1).2;have mb':=(bestE_mem c2).2;have hor:orI (lf:Int) (rt:Int)=mk:=by unfold orI;simp only [Int.toNat_natCast];exact sd.or
 unfold splitE;rw [e2,e1,b1,b2,c1,c2];show MineLe mk (mergeE md s l lf rt x.2 (nestE md s l lf b 5 (offerE md s L a b 3 0 0))) (mergeE md s' l' lf rt x.2 (nestE md s' l' lf b' 5 (offerE md s' L' a' b' 3 0 0)));have o1:=offerE_le ha hr hmk hL (a:=a) (a':=a') (b:=b) (b':=b') (by rw [ma,ma']) ka (by rw [mb,mb']) kb (by rw [ma,mb];exact hor) 3 0 0;have n1:=nestE_le ha hr h hmk (lf:=(lf:Int)) (b:=b) (b':=b') (by rw [mb,mb']) kb (by rw [mb];exact hor) o1 5;unfold mergeE;refine foldl_two (fun v hv A B hAB=>?_) n1;obtain⟨i1,i2⟩:=inputE_le ha hr h (v:=v) b1 c1;obtain⟨j1,j2⟩:=inputE_le ha hr h (v:=v) b2 c2
 exact offerE_le ha hr hmk hAB i1.1 i1.2.2 j1.1 j1.2.2 (by rw [i2,j2];exact hor) 4 v _
theorem LeL.of {l l':List PlanEntryD}(hl:l.length=l'.length) (h:∀ (k:Nat) (x y:PlanEntryD),l[k]?=some x->l'[k]?=some y->LeE x y):LeL l l':=by
 induction l generalizing l' with
 | nil=>cases l' with
  | nil=>trivial
  | cons y l'=>simp at hl
 | cons x l ih=>cases l' with
  | nil=>simp at hl
  | cons y l'=>exact⟨h 0 x y rfl rfl,ih (by simpa using hl) (fun k u v hu hv=>h (k+1) u v (by simpa using hu) (by simpa using hv))⟩
theorem mine_filter {mk:Int}(hmk:1<=mk):∀ {L L':List PlanEntryD},L.length=L'.length->(∀ (k:Nat) (x y:PlanEntryD),L[k]?=some x->L'[k]?=some y->(x=zPlanEntry/\y=zPlanEntry)\/(LeE x y/\x.fMask=mk))->LeL (L.filter (fun x=>decide (0<x.fMask))) (L'.filter (fun x=>decide (0<x.fMask)))
 | [],[],_,_=>trivial
 | [],_::_,h,_=>by simp at h
 | _::_,[],h,_=>by simp at h
 | x::L,y::L',hl,h=>by
  have ih:=mine_filter hmk (L:=L) (L':=L') (by simpa using hl) (fun k u v hu hv=>h (k+1) u v (by simpa using hu) (by simpa using hv));rcases h 0 x y rfl rfl with ⟨rfl,rfl⟩|⟨e,e2⟩
  ·rw [List.filter_cons_of_neg (by simp [zPlanEntry]),List.filter_cons_of_neg (by simp [zPlanEntry])];exact ih
  ·have e3:=e.1
   rw [List.filter_cons_of_pos (by simp;omega),List.filter_cons_of_pos (by simp;omega)];exact⟨e,ih⟩
theorem joinE_le (ha:admitted md=true) (hr:Rise s s') {l l':List PlanEntryD}(h:LeL l l') {mk:Int}(hmk:1<=mk) {sp:List (Int × List Int)}(hx:SplsOk l mk sp):LeL (joinE md s l mk sp) (joinE md s' l' mk sp):=by
 have hm:MineLe mk (mineE md s l mk sp) (mineE md s' l' mk sp):=by
  unfold mineE;refine foldl_two (fun x hm A B hAB=>?_) (MineLe.new mk);obtain⟨lf,rt,hs⟩:=hx x hm;exact splitE_le ha hr h hmk hs hAB
 unfold joinE;exact mine_filter hmk (by rw [hm.len,hm.len']) (fun k x y hx hy=>(hm.ok k x y hx hy).imp id (fun e=>⟨e.1,e.2.1⟩))
theorem tab_le (ha:admitted md=true) (hr:Rise s s') (hq:validQ q=true) {k:Nat}(hk:k<=(connMasks q).length):LeL (tabOf md q s ((connMasks q).take k)) (tabOf md q s' ((connMasks q).take k)):=by
 induction k with
 | zero=>simp [tabOf,LeL]
 | succ k ih =>
  have ih:=ih (by omega);have hm:(connMasks q)[k]?=some ((connMasks q)[k]'(by omega)):=List.getElem?_eq_getElem _;generalize (connMasks q)[k]'(by omega)=m at hm;obtain⟨⟨h1,h2⟩,_⟩:=connMasks_mem.1 (mem_of_at hm);rw [tabOf_snoc hm,tabOf_snoc hm];unfold tabStep;split
  ·have ho:=op_rise ha (o:=md.fScan) (by simp [modelOps]) hr m m m
   exact ih.app ⟨⟨rfl,rfl,ho.2.2.1,ho.2.2.2⟩,trivial⟩
  ·exact ih.app (joinE_le ha hr ih h1 (shape_ok hq hm (tab_ok hq md s (by omega))))
theorem rise_loc {l l':List Int}(hl:isLoc l=true) (hl':isLoc l'=true) (hd:dom l' l=true):Rise (locSizes l) (locSizes l'):=by
 intro m;obtain⟨e,hd⟩:=dom_at hd;have k1:=(isLoc_at hl).2;have k2:=(isLoc_at hl').2;unfold locSizes sizeAt;rw [if_pos hl,if_pos hl',List.getElem?_map,List.getElem?_map];cases h:l[m.toNat]? with
 | none =>
  have:l'[m.toNat]?=none:=by rw [List.getElem?_eq_none_iff]at h ⊢;omega
  rw [this];exact⟨0,0,by omega,by omega,rfl,rfl⟩
 | some x =>
  have hlt:=lt_of_at h;have h':l'[m.toNat]?=some (l'[m.toNat]'(by omega)):=List.getElem?_eq_getElem _;generalize l'[m.toNat]'(by omega)=y at h';rw [h'];have a1:=k1 _ _ h;have a2:=k2 _ _ h';have a3:=hd _ _ _ h' h;exact⟨x.toNat,y.toNat,by omega,by omega,by show clsSize x=_;rw [show((x.toNat:Nat):Int)=x by omega],by show clsSize y=_;rw [show((y.toNat:Nat):Int)=y by omega]⟩
theorem full_conn (hc:isConn q (fullMask q)=true):validQ q=true/\fullMask q∈connMasks q:=by
 have hc2:=hc;unfold isConn at hc2;simp only [Bool.and_eq_true]at hc2;have hq:=(maskOk_bd hc2.1).1;refine⟨hq,?_⟩
 have h1:1<=fullMask q:=by
  unfold fullMask;rw [if_pos hq];have:=(validQ_parts hq).2.2.1;have:(2:Nat) ^ 1<=2 ^ q.fAtoms.length:=Nat.pow_le_pow_right (by omega) (by omega);omega
 exact connMasks_mem.2 ⟨⟨h1,Int.le_refl _⟩,hc2.2.2⟩
theorem best_at (ha:admitted md=true) (hc:isConn q (fullMask q)=true) {l:List Int}(hl:isLoc l=true) (hn:(l.length:Int)=fullMask q+1) :
  bestE (tableE md q (locSizes l)) (fullMask q)=some (bestX md q (locSizes l))/\1<=(bestX md q (locSizes l)).fCost/\(bestX md q (locSizes l)).fCost<=1000000000000/\planCost md q (bestX md q (locSizes l)).fPlan (locSizes l)=(bestX md q (locSizes l)).fCost:=by
 obtain⟨hq,hf⟩:=full_conn hc;have hT:=tableE_ok hq md (locSizes l);obtain⟨x,hx,hxm⟩:=hT.all _ hf;obtain⟨y,hy⟩:=bestE_some hx hxm;have hb:bestX md q (locSizes l)=y:=by unfold bestX;rw [hy];rfl
 rw [hb];have hmem:=(bestE_mem hy).1
 have hd:dom l l=true:=by
  unfold dom;simp only [decide_true,Bool.true_and,List.all_eq_true,decide_eq_true_eq];intro p hp;obtain⟨k,hk⟩:=List.getElem?_of_mem hp;rw [List.getElem?_zip_eq_some]at hk;have e:p.1=p.2:=by have:=hk.1;rw [hk.2]at this;injection this with this;exact this.symm
  omega
 have hle:=tab_le (md:=md) (q:=q) ha (rise_loc hl hl hd) hq (k:=(connMasks q).length) (Nat.le_refl _);rw [List.take_length]at hle;have hc:=bestE_le hle (fullMask q);have hy':bestE (tabOf md q (locSizes l) (connMasks q)) (fullMask q)=some y:=hy;rw [hy']at hc;have hbd:=(hT.ok _ hmem).toInOk.bd
 have hs:isSizes q (locSizes l)=true:=by
  unfold isSizes locSizes;rw [hq,hl,if_pos rfl];simp only [Bool.true_and,Bool.and_eq_true,decide_eq_true_eq,List.length_map,List.all_eq_true];refine⟨hn,fun n hx=>?_⟩;obtain⟨c,hc,rfl⟩:=List.mem_map.1 hx;unfold isLoc at hl;simp only [Bool.and_eq_true,List.all_eq_true]at hl;have:=inR_t.1 (hl.1 c hc);exact inR_t.2 (clsSize_bd this.1 this.2)
 have hR:=(tab_R (md:=md) hs hq (sortUp ha hl) (k:=(connMasks q).length) (Nat.le_refl _)).1;rw [List.take_length]at hR;exact⟨hy,hc.1,by omega,EntR.cost (hR.ent _ hmem).1.toInR hs⟩
theorem optC_at (ha:admitted md=true) (hc:isConn q (fullMask q)=true) {l:List Int}(hl:isLoc l=true) (hn:(l.length:Int)=fullMask q+1):optC md q l=(bestX md q (locSizes l)).fCost:=by
 have hb:=(best_at ha hc hl hn).1
 have hs:isSizes q (locSizes l)=true:=by
  unfold isSizes locSizes;rw [(full_conn hc).1,hl,if_pos rfl];simp only [Bool.true_and,Bool.and_eq_true,decide_eq_true_eq,List.length_map,List.all_eq_true];refine⟨hn,fun n hx=>?_⟩;obtain⟨c,hc,rfl⟩:=List.mem_map.1 hx;unfold isLoc at hl;simp only [Bool.and_eq_true,List.all_eq_true]at hl;have:=inR_t.1 (hl.1 c hc);exact inR_t.2 (clsSize_bd this.1 this.2)
 unfold optC optV tabV;rw [ha,hs];show costV (bestE (tableE md q (locSizes l)) (fullMask q))=_;rw [hb];rfl
theorem best_rise (ha:admitted md=true) (hc:isConn q (fullMask q)=true) {l l':List Int}(hl:isLoc l=true) (hl':isLoc l'=true) (hd:dom l' l=true):(bestX md q (locSizes l)).fCost<=(bestX md q (locSizes l')).fCost:=by
 obtain⟨hq,hf⟩:=full_conn hc;have hle:=tab_le (md:=md) (q:=q) ha (rise_loc hl hl' hd) hq (k:=(connMasks q).length) (Nat.le_refl _);rw [List.take_length]at hle;have h:=bestE_le hle (fullMask q);unfold bestX tableE;cases hx:bestE (tabOf md q (locSizes l) (connMasks q)) (fullMask q) with
 | none =>
  cases hy:bestE (tabOf md q (locSizes l') (connMasks q)) (fullMask q) with
  | none=>exact Int.le_refl _
  | some y=>rw [hx,hy]at h;exact h.elim
 | some x =>
  cases hy:bestE (tabOf md q (locSizes l') (connMasks q)) (fullMask q) with
  | none=>rw [hx,hy]at h;exact h.elim
  | some y=>rw [hx,hy]at h;exact h.2
end
theorem knownP_at {p:PlanD}{l:List PlanD}:∀ {k j:Nat},knownP p l k=(j:Int)->k<=j/\l[j - k]?=some p:=by
 induction l with
 | nil=>intro k j h;unfold knownP at h;omega
 | cons x xs ih =>
  intro k j h;unfold knownP at h;split at h
  ·rename_i e
   obtain rfl:k=j:=by omega
   exact⟨Nat.le_refl _,by rw [Nat.sub_self];simp [e]⟩
  ·obtain⟨h1,h2⟩:=ih h
   refine⟨by omega,?_⟩;rw [show j - k=(j - (k+1))+1 by omega];simpa using h2
section
variable {md:ModelD} {q:QueryD} {b:BoxD}
def entL (md:ModelD) (q:QueryD) (b:BoxD) (i:Nat):PlanEntryD:=bestX md q (locSizes (boxLoc b (i:Int)).1)
theorem build_at (n:Nat):∀ i:Nat,i<n->(buildOf md q b n).fCosts[i]?=some (entL md q b i).fCost/\∃ c:Nat,(buildOf md q b n).fChoices[i]?=some (c:Int)/\(buildOf md q b n).fPlans[c]?=some (entL md q b i).fPlan:=by
 induction n with
 | zero=>intro i h;omega
 | succ n ih =>
  intro i hi;obtain⟨l1,l2,l3,_⟩:=buildOf_len md q b n;have e:buildOf md q b (n+1)=addS (buildOf md q b n) (entL md q b n):=rfl;rw [e];generalize hS:buildOf md q b n=S at *;generalize hX:entL md q b n=X;by_cases hin:i<n
  ·obtain⟨h1,c,h2,h3⟩:=ih i hin
   have a1:(S.fCosts++[X.fCost])[i]?=some (entL md q b i).fCost:=by rw [List.getElem?_append_left (by omega)];exact h1
   have a2:∀ v,(S.fChoices++[v])[i]?=some (c:Int):=fun v=>by rw [List.getElem?_append_left (by omega)];exact h2
   unfold addS;split
   ·exact⟨a1,c,a2 _,by show(S.fPlans++[X.fPlan])[c]?=_;rw [List.getElem?_append_left (lt_of_at h3)];exact h3⟩
   ·exact⟨a1,c,a2 _,h3⟩
  ·obtain rfl:i=n:=by omega
   rw [hX];have a1:(S.fCosts++[X.fCost])[i]?=some X.fCost:=by rw [List.getElem?_append_right (by omega),l1];simp
   have a2:∀ v,(S.fChoices++[v])[i]?=some v:=fun v=>by rw [List.getElem?_append_right (by omega),l2];simp
   unfold addS;split
   ·exact⟨a1,S.fPlans.length,a2 _,by show(S.fPlans++[X.fPlan])[S.fPlans.length]?=_;simp⟩
   ·rename_i hn
    obtain⟨j,hj⟩:∃ j:Nat,knownP X.fPlan S.fPlans 0=(j:Int):=⟨(knownP X.fPlan S.fPlans 0).toNat,by omega⟩;refine⟨a1,j,by rw [<- hj];exact a2 _,?_⟩;have:=(knownP_at hj).2;rw [Nat.sub_zero]at this;exact this
theorem min_le (l:List Int) (c:Int):l.foldl min c<=c/\∀ x∈l,l.foldl min c<=x:=by
 induction l generalizing c with
 | nil=>exact⟨Int.le_refl _,by simp⟩
 | cons y l ih =>
  obtain⟨h1,h2⟩:=ih (min c y);refine⟨by show l.foldl min (min c y)<=c;omega,fun x hx=>?_⟩;rcases List.mem_cons.1 hx with rfl|hx
  ·show l.foldl min (min c x)<=x;omega
  ·exact h2 x hx
theorem le_min (l:List Int) {c m:Int}(hc:m<=c) (h:∀ x∈l,m<=x):m<=l.foldl min c:=by
 induction l generalizing c with
 | nil=>exact hc
 | cons y l ih=>exact ih (by have:=h y (by simp);omega) (fun x hx=>h x (by simp [hx]))
theorem max_ge (l:List Int) (c:Int):c<=l.foldl max c/\∀ x∈l,x<=l.foldl max c:=by
 induction l generalizing c with
 | nil=>exact⟨Int.le_refl _,by simp⟩
 | cons y l ih =>
  obtain⟨h1,h2⟩:=ih (max c y);refine⟨by show c<=l.foldl max (max c y);omega,fun x hx=>?_⟩;rcases List.mem_cons.1 hx with rfl|hx
  ·show x<=l.foldl max (max c x);omega
  ·exact h2 x hx
theorem ge_max (l:List Int) {c m:Int}(hc:c<=m) (h:∀ x∈l,x<=m):l.foldl max c<=m:=by
 induction l generalizing c with
 | nil=>exact hc
 | cons y l ih=>exact ih (by have:=h y (by simp);omega) (fun x hx=>h x (by simp [hx]))
theorem minOf_is {l:List Int}{m:Int}(hm:m∈l) (h:∀ x∈l,m<=x):minOf l=m:=by
 cases l with
 | nil=>cases hm
 | cons c cs =>
  show cs.foldl min c=m;have h1:=min_le cs c;have h2:=le_min cs (h c (by simp)) (fun x hx=>h x (by simp [hx]));rcases List.mem_cons.1 hm with rfl|hm
  ·omega
  ·have:=h1.2 m hm;omega
theorem maxOf_is {l:List Int}{m:Int}(hm:m∈l) (h:∀ x∈l,x<=m):maxOf l=m:=by
 cases l with
 | nil=>cases hm
 | cons c cs =>
  show cs.foldl max c=m;have h1:=max_ge cs c;have h2:=ge_max cs (h c (by simp)) (fun x hx=>h x (by simp [hx]));rcases List.mem_cons.1 hm with rfl|hm
  ·omega
  ·have:=h1.2 m hm;omega
theorem dom_of_in {b:BoxD}{l:List Int}(h:inBox b l=true):dom l b.fLow=true/\dom b.fHigh l=true:=by
 unfold inBox at h;simp only [Bool.and_eq_true]at h;exact h.2
theorem loc_of_in {b:BoxD}{l:List Int}(h:inBox b l=true):isLoc l=true/\l.length=b.fLow.length:=by
 obtain⟨h1,h2⟩:=idx_loc h;have hl:=boxIndex_lt.2.2 h1;have hv:=(inBox_parts h).1;have:=loc_ok hv (i:=(boxIndex b l).toNat) (by rw [show(((boxIndex b l).toNat:Nat):Int)=boxIndex b l by omega];exact hl);rw [show(((boxIndex b l).toNat:Nat):Int)=boxIndex b l by omega,h2]at this;exact this
theorem at_in {l:List Int}(h:inBox b l=true):∃ i:Nat,(i:Int)=boxIndex b l/\(i:Int)<volume b/\(boxLoc b (i:Int)).1=l/\entL md q b i=bestX md q (locSizes l):=by
 obtain⟨h1,h2⟩:=idx_loc h;have hl:=boxIndex_lt.2.2 h1;refine⟨(boxIndex b l).toNat,by omega,by omega,?_,?_⟩
 ·rw [show(((boxIndex b l).toNat:Nat):Int)=boxIndex b l by omega,h2]
 ·unfold entL
  rw [show(((boxIndex b l).toNat:Nat):Int)=boxIndex b l by omega,h2]
theorem low_in (hv:validBox b=true):inBox b b.fLow=true:=by
 have hp:=validBox_parts hv;exact inBox_of hv rfl (fun k x y hx hy=>by rw [hx]at hy;injection hy with hy;omega) (fun k x y hx hy=>hp.2.2.2.2 k x y hx hy)
theorem high_in (hv:validBox b=true):inBox b b.fHigh=true:=by
 have hp:=validBox_parts hv;exact inBox_of hv hp.2.2.2.1 (fun k x y hx hy=>hp.2.2.2.2 k x y hx hy) (fun k x y hx hy=>by rw [hx]at hy;injection hy with hy;omega)
theorem space_law (h:canBuild md q b=true) :
  let s:=buildOf md q b (boxVol b).toNat
  validSpace s=true/\monoSpace s=true/\costRange s=(optC md q b.fLow,optC md q b.fHigh)/\(s.fCosts.length:Int)=boxVol b/\1<=boxVol b /\
  ∀ i:Int,0<=i->i<boxVol b->∃ (l:List Int) (p:PlanD),boxLoc b i=(l,true)/\spacePlan s l=(p,true)/\spaceCost s l=optC md q l/\planCostAt md q p l=optC md q l:=by
 intro s;obtain⟨ha,hq,hv,hvv,h1,h4,hll⟩:=canBuild_parts h
 have hc:isConn q (fullMask q)=true:=by
  unfold canBuild at h;simp only [Bool.and_eq_true,decide_eq_true_eq]at h;exact h.2.1
 obtain⟨l1,l2,l3,l5⟩:=buildOf_len md q b (boxVol b).toNat;have hat:=build_at (md:=md) (q:=q) (b:=b) (boxVol b).toNat;have hsb:s.fBox=b:=l5
 have hloc:∀ {l:List Int},inBox b l=true->isLoc l=true/\(l.length:Int)=fullMask q+1:=fun {l} hin=>by
  obtain⟨a1,a2⟩:=loc_of_in hin;exact⟨a1,by rw [a2];exact hll⟩
 have hopt:∀ {l:List Int},inBox b l=true->optC md q l=(bestX md q (locSizes l)).fCost/\1<=optC md q l/\optC md q l<=1000000000000/\planCost md q (bestX md q (locSizes l)).fPlan (locSizes l)=optC md q l:=fun {l} hin=>by
  obtain⟨a1,a2⟩:=hloc hin;obtain⟨b1,b2,b3,b4⟩:=best_at ha hc a1 a2;have e:=optC_at (md:=md) ha hc a1 a2;rw [e];exact⟨rfl,b2,b3,b4⟩
 have hin:∀ i:Nat,i<(boxVol b).toNat->∃ l,boxLoc b (i:Int)=(l,true)/\inBox b l=true/\boxIndex b l=i:=fun i hi=>loc_in hv (by omega) (by omega)
 have hcost:∀ i:Nat,∀ c,s.fCosts[i]?=some c->∃ l,boxLoc b (i:Int)=(l,true)/\inBox b l=true/\c=optC md q l:=fun i c hi=>by
  have hlt:=lt_of_at hi;rw [l1]at hlt;obtain⟨l,g1,g2,g3⟩:=hin i hlt;have:=(hat i hlt).1;rw [hi]at this;injection this with this;refine⟨l,g1,g2,?_⟩;rw [(hopt g2).1,this];unfold entL;rw [g1]
 have hV:validSpace s=true:=by
  unfold validSpace;rw [hsb,inR_t.2 ⟨h1,h4⟩];simp only [Bool.true_and,Bool.and_eq_true,decide_eq_true_eq,List.all_eq_true];refine⟨by show((buildOf md q b (boxVol b).toNat).fCosts.length:Int)=_;omega,by show((buildOf md q b (boxVol b).toNat).fChoices.length:Int)=_;omega,fun p hp=>?_⟩;obtain⟨i,hi⟩:=List.getElem?_of_mem hp;rw [List.getElem?_zip_eq_some]at hi;obtain⟨l,_,g2,g3⟩:=hcost i _ hi.1;have hlt:=lt_of_at hi.1;rw [l1]at hlt;obtain⟨c,g4,g5⟩:=(hat i hlt).2;have e:p.2=(c:Int):=by have:=hi.2;rw [g4]at this;injection this with this;exact this.symm
  have hcl:=lt_of_at g5;have ho:=hopt g2;unfold okPair;rw [Bool.and_eq_true];refine⟨inR_t.2 ⟨by rw [g3];exact ho.2.1,by rw [g3];exact ho.2.2.1⟩,inR_t.2 ⟨by omega,?_⟩⟩;show p.2<=((buildOf md q b (boxVol b).toNat).fPlans.length:Int) - 1;omega
 have hN:∀ {l:List Int},inBox b l=true->costN s (boxIndex b l)=optC md q l/\optC md q l∈s.fCosts:=fun {l} hl=>by
  obtain⟨i,e1,e2,e3,e4⟩:=at_in (md:=md) (q:=q) hl;have:=(hat i (by omega)).1;rw [e4,<- (hopt hl).1]at this;exact⟨by rw [<- e1];exact costN_at this,mem_of_at this⟩
 have hM:monoSpace s=true:=by
  unfold monoSpace;rw [hV,Bool.true_and,List.all_eq_true];intro i hi;rw [List.mem_range]at hi;have hi2:i<(boxVol b).toNat:=by have:i<(buildOf md q b (boxVol b).toNat).fCosts.length:=hi;omega
  obtain⟨l,g1,g2,g3⟩:=hin i hi2;unfold monoAt;rw [List.all_eq_true];intro j hj;rw [hsb]at hj;unfold aboveL at hj;rw [g1]at hj
  have hup:∀ m:Nat,j∈aboveTo b l m->∃ k,k<m/\j=upIdx b l k/\0<=j:=fun m=>by
   induction m with
   | zero=>intro h;cases h
   | succ m ih =>
    intro h;by_cases h0:0<=upIdx b l m
    ·rw [aboveTo_yes h0]at h
     rcases List.mem_append.1 h with h|h
     ·obtain⟨k,h1,h2⟩:=ih h;exact⟨k,by omega,h2⟩
     ·rw [List.mem_singleton]at h;subst h;exact⟨m,by omega,rfl,h0⟩
    ·rw [aboveTo_no h0]at h
     obtain⟨k,h1,h2⟩:=ih h;exact⟨k,by omega,h2⟩
  obtain⟨k,hk,hje,hj0⟩:=hup _ hj;have hk2:l[k]?=some (l[k]'hk):=List.getElem?_eq_getElem hk;rw [upIdx_at hk2]at hje;rw [hje]at hj0;have hin2:=boxIndex_lt.2.1 hj0;have n1:=(hN g2).1;have n2:=(hN hin2).1;rw [g3]at n1;rw [<- hje]at n2;rw [n1,n2]
  have hd:dom (l.set k (l[k]'hk+1)) l=true:=dom_of (by simp) (fun t x y hx hy=>by
   by_cases e:k=t
   ·subst e
    rw [List.getElem?_set_self hk]at hx;rw [hk2]at hy;injection hx with hx;injection hy with hy;omega
   ·rw [List.getElem?_set_ne e,hy]at hx
    injection hx with hx;omega)
  have hr:=best_rise (md:=md) (q:=q) ha hc (hloc g2).1 (hloc hin2).1 hd;rw [<- (hopt g2).1,<- (hopt hin2).1]at hr;simp only [Bool.not_eq_true',decide_eq_false_iff_not];omega
 have hR:costRange s=(optC md q b.fLow,optC md q b.fHigh):=by
  unfold costRange;rw [if_pos hV];have kl:=low_in hv;have kh:=high_in hv
  have e1:minOf s.fCosts=optC md q b.fLow:=minOf_is (hN kl).2 (fun x hx=>by
   obtain⟨i,hi⟩:=List.getElem?_of_mem hx;obtain⟨l,_,g2,g3⟩:=hcost i _ hi;have:=best_rise (md:=md) (q:=q) ha hc (hloc kl).1 (hloc g2).1 (dom_of_in g2).1;rw [<- (hopt kl).1,<- (hopt g2).1]at this;omega)
  have e2:maxOf s.fCosts=optC md q b.fHigh:=maxOf_is (hN kh).2 (fun x hx=>by
   obtain⟨i,hi⟩:=List.getElem?_of_mem hx;obtain⟨l,_,g2,g3⟩:=hcost i _ hi;have:=best_rise (md:=md) (q:=q) ha hc (hloc g2).1 (hloc kh).1 (dom_of_in g2).2;rw [<- (hopt kh).1,<- (hopt g2).1]at this;omega)
  rw [e1,e2]
 refine⟨hV,hM,hR,by show((buildOf md q b (boxVol b).toNat).fCosts.length:Int)=_;omega,h1,fun i hi0 hi1=>?_⟩;obtain⟨l,g1,g2,g3⟩:=loc_in hv (i:=i) hi0 (by omega);obtain⟨n,rfl⟩:∃ n:Nat,i=n:=⟨i.toNat,by omega⟩;have hlt:n<(boxVol b).toNat:=by omega
 obtain⟨a1,c,a2,a3⟩:=hat n hlt;have he:entL md q b n=bestX md q (locSizes l):=by unfold entL;rw [g1]
 have hidx:spaceIdx s l=n:=by unfold spaceIdx;rw [if_pos hV,hsb,g3]
 rw [he]at a1 a3;refine⟨l,(bestX md q (locSizes l)).fPlan,g1,?_,?_,(hopt g2).2.2.2⟩
 ·unfold spacePlan
  rw [hidx,if_pos (by omega),Int.toNat_natCast];have a2':s.fChoices[n]?=some (c:Int):=a2;have a3':s.fPlans[c]?=some (bestX md q (locSizes l)).fPlan:=a3;rw [a2',Option.getD_some,Int.toNat_natCast,a3'];rfl
 ·unfold spaceCost
  rw [hidx,if_pos (by omega),Int.toNat_natCast];have a1':s.fCosts[n]?=some (bestX md q (locSizes l)).fCost:=a1;rw [a1',Option.getD_some,(hopt g2).1]
theorem share_step (l:List Int) (k:Nat):(l.countP (fun c=>decide (c<(k:Int)+1)):Nat)=l.countP (fun c=>decide (c<(k:Int)))+l.countP (fun c=>c==(k:Int)):=by
 induction l with
 | nil=>rfl
 | cons x l ih =>
  rw [List.countP_cons,List.countP_cons,List.countP_cons,ih]
  have key:∀ p q r:Bool,decide (x<(k:Int)+1)=p->decide (x<(k:Int))=q->(x==(k:Int))=r->(if p=true then 1 else 0)=(if q=true then 1 else 0)+(if r=true then 1 else 0) ->
    l.countP (fun c=>decide (c<(k:Int)))+l.countP (fun c=>c==(k:Int))+(if decide (x<(k:Int)+1)=true then 1 else 0)=l.countP (fun c=>decide (c<(k:Int)))+(if decide (x<(k:Int))=true then 1 else 0)+(l.countP (fun c=>c==(k:Int))+(if (x==(k:Int))=true then 1 else 0)):=by
   intro p q r hp hq hr h;rw [hp,hq,hr,h];omega
  rcases Int.lt_trichotomy x k with h|h|h
  ·exact key true true false (decide_eq_true (by omega)) (decide_eq_true h) (by simp;omega) rfl
  ·exact key true false true (decide_eq_true (by omega)) (decide_eq_false (by omega)) (by simp [h]) rfl
  ·exact key false false false (decide_eq_false (by omega)) (decide_eq_false (by omega)) (by simp;omega) rfl
theorem share_all {s:SpaceD}(h:validSpace s=true):s.fChoices.countP (fun c=>decide (c<(s.fPlans.length:Int)))=s.fCosts.length:=by
 obtain⟨_,_,_,h4,h5,_,h7⟩:=validSpace_parts h
 have:s.fChoices.countP (fun c=>decide (c<(s.fPlans.length:Int)))=s.fChoices.length:=by
  rw [List.countP_eq_length];intro c hc;obtain⟨k,hk⟩:=List.getElem?_of_mem hc;exact decide_eq_true (h7 k c hk).2
 omega
theorem share_zero {s:SpaceD}(h:validSpace s=true):s.fChoices.countP (fun c=>decide (c<((0:Nat):Int)))=0:=by
 obtain⟨_,_,_,_,_,_,h7⟩:=validSpace_parts h;rw [List.countP_eq_zero];intro c hc;obtain⟨k,hk⟩:=List.getElem?_of_mem hc;have:=(h7 k c hk).1;simp;omega
end
end Go.Proofs.YtnlcfkpcmfljeaaGreat
