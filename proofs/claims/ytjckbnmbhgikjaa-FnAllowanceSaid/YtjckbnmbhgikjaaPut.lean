/-
  Put
-/
import Derived.Test.YtjckbnmbhgikjaaRws
import Derived.Test.YtjckbnmbhgikjaaDb
import Derived.Test.YtjckbnmbhgikjaaCpr
namespace Go.Proofs.Ytjckbnmbhgikjaa
open Go.RowKit
set_option linter.unusedVariables false
set_option linter.unusedSimpArgs false
theorem ltR_of {a b:List Int}(h:a<=b) (hn:a≠b):a<b:=Classical.byContradiction fun h1=>hn (List.le_antisymm h (List.not_lt.1 h1))
theorem leR_lt {a b c:List Int}(h:a<=b) (h2:b<c):a<c:=Classical.byContradiction fun h1=>(List.not_lt.2 (List.le_trans (List.not_lt.1 h1) h)) h2
theorem ltR_ne {a b:List Int}(h:a<b):a≠b:=fun e=>by subst e;exact List.lt_irrefl _ h
theorem onceR_mem {l:List (List Int)}{x:List Int}:x∈onceR l↔x∈l:=by
 unfold onceR
 rw [List.mem_filterMap]
 constructor
 ·rintro⟨j,_,h⟩
  split at h
  ·exact List.mem_of_getElem? h
  ·cases h
 ·intro h
  obtain⟨j,hj⟩:=List.getElem?_of_mem h
  induction j with
  | zero=>exact⟨0,List.mem_range.2 (lt_of_at hj),by rw [if_pos (show onceK id l 0=true from rfl)];exact hj⟩
  | succ i ih =>
   by_cases hk:onceK id l (i+1)=true
   ·exact⟨i+1,List.mem_range.2 (lt_of_at hj),by rw [if_pos hk];exact hj⟩
   ·apply ih
    have hi:i<l.length:=by have:=lt_of_at hj;omega
    unfold onceK at hk
    simp only [Option.map_id,id_eq,decide_eq_true_eq]at hk
    rw [<- Classical.not_not.1 hk];exact hj
theorem onceR_pw {l:List (List Int)}(h:l.Pairwise (·<=·)):(onceR l).Pairwise (·<·):=by
 unfold onceR
 rw [List.pairwise_filterMap]
 refine(List.pairwise_lt_range (n:=l.length)).imp ?_
 intro i j hij a ha b hb
 split at ha
 ·split at hb
  ·rename_i h1 h2
   obtain⟨k,rfl⟩:∃ k,j=k+1:=⟨j - 1,by omega⟩
   obtain⟨hj,rfl⟩:=List.getElem?_eq_some_iff.1 hb
   obtain⟨hi,rfl⟩:=List.getElem?_eq_some_iff.1 ha
   have hk:k<l.length:=by omega
   have h3:l[k]<=l[k+1]:=List.pairwise_iff_getElem.1 h k (k+1) hk hj (by omega)
   have h4:l[i]<=l[k]:=by
    rcases Nat.lt_or_ge i k with h5|h5
    ·exact List.pairwise_iff_getElem.1 h i k hi hk h5
    ·obtain rfl:i=k:=by omega
     exact List.le_refl _
   refine leR_lt h4 (ltR_of h3 fun e=>?_)
   unfold onceK at h2
   simp only [Option.map_id,id_eq,decide_eq_true_eq,List.getElem?_eq_getElem hj,List.getElem?_eq_getElem hk]at h2
   exact h2 (by rw [e])
  ·cases hb
 ·cases ha
theorem setR_pw (l:List (List Int)):(setR l).Pairwise (·<·):=onceR_pw (sortR_pw l)
theorem setR_mem {l:List (List Int)}{x:List Int}:x∈setR l↔x∈l:=by unfold setR;rw [onceR_mem];exact(sortR_perm l).mem_iff
theorem setR_alone {l m:List (List Int)}(hp:m.Pairwise (·<·)) (hm:∀ x,x∈m↔x∈l):m=setR l:=by
 have n1:m.Nodup:=hp.imp (fun h=>ltR_ne h)
 have n2:(setR l).Nodup:=(setR_pw l).imp (fun h=>ltR_ne h)
 refine List.Perm.eq_of_pairwise (le:=fun a b=>a<=b) (fun a b _ _ h1 h2=>List.le_antisymm h1 h2) (hp.imp (fun h=>List.le_of_lt h)) ((setR_pw l).imp (fun h=>List.le_of_lt h)) ?_
 exact(List.perm_ext_iff_of_nodup n1 n2).2 fun x=>by rw [hm,setR_mem]
theorem setR_len (l:List (List Int)):(setR l).length<=l.length:=by
 unfold setR onceR
 refine Nat.le_trans (List.length_filterMap_le _ _) ?_
 rw [List.length_range,(sortR_perm l).length_eq];exact Nat.le_refl _
/-- what l4Put has still to hand back -/
def putGo (row:List Int):List (List Int)->Bool->List (List Int)
 | [],put=>if put then [] else [row]
 | r::rs,put =>
  let p:=put||decide (cmpRows r row=0)
  if decide (0<cmpRows r row)&&!p then row::r::putGo row rs true else r::putGo row rs p
theorem putGo_true (row:List Int):∀ rs:List (List Int),putGo row rs true=rs
 | []=>rfl
 | r::rs=>by unfold putGo;simp [putGo_true row rs]
theorem cmpR_eq {a b:List Int}:cmpRows a b=0↔a=b:=cmpRows_zero
theorem putGo_ok (row:List Int):∀ rs:List (List Int),rs.Pairwise (·<·)->(putGo row rs false).Pairwise (·<·)/\∀ x,x∈putGo row rs false↔x∈rs\/x=row
 | [],_=>⟨by simp [putGo],fun x=>by simp [putGo]⟩
 | r::rs,h=>by
  obtain⟨h1,h2⟩:=List.pairwise_cons.1 h
  obtain⟨i1,i2⟩:=putGo_ok row rs h2
  unfold putGo
  by_cases e0:cmpRows r row=0
  ·have er:=cmpR_eq.1 e0
   subst er
   simp only [e0,Bool.false_or,decide_true,Bool.not_true,Bool.and_false,Bool.false_eq_true,if_false,putGo_true]
   exact⟨h,fun x=>by simp;intro hx;exact .inl hx⟩
  ·by_cases e1:0<cmpRows r row
   ·have hlt:row<r:=ltR_of (List.not_lt.1 fun h=>by have:=cmpR_lt.2 h;omega) fun e=>e0 (cmpR_eq.2 e.symm)
    simp only [e0,e1,Bool.false_or,decide_true,decide_false,Bool.not_false,Bool.and_true,if_true,putGo_true]
    refine⟨List.pairwise_cons.2 ⟨fun x hx=>?_,h⟩,fun x=>by simp only [List.mem_cons];exact⟨fun h=>by rcases h with h|h|h;exact .inr h;exact .inl (.inl h);exact .inl (.inr h),fun h=>by rcases h with (h|h)|h;exact .inr (.inl h);exact .inr (.inr h);exact .inl h⟩⟩
    rcases List.mem_cons.1 hx with rfl|hx
    ·exact hlt
    ·exact List.lt_trans hlt (h1 x hx)
   ·have hlt:r<row:=cmpR_lt.1 (by omega)
    simp only [e0,e1,Bool.false_or,decide_false,Bool.false_and,Bool.false_eq_true,if_false]
    refine⟨List.pairwise_cons.2 ⟨fun x hx=>?_,i1⟩,fun x=>by simp [i2,or_assoc]⟩
    rcases (i2 x).1 hx with hx|rfl
    ·exact h1 x hx
    ·exact hlt
theorem setR_put {l:List (List Int)}{k:Nat}{x:List Int}(h:l[k]?=some x):putGo x (setR (l.take k)) false=setR (l.take (k+1)):=by
 obtain⟨h1,h2⟩:=putGo_ok x _ (setR_pw (l.take k))
 refine setR_alone h1 fun z=>?_
 rw [h2,setR_mem,take_snoc h,List.mem_append,List.mem_singleton]
theorem putGo_eq {row r:List Int}{rs:List (List Int)}{put:Bool}(h:cmpRows r row=0):putGo row (r::rs) put=r::putGo row rs true:=by
 show(if decide (0<cmpRows r row)&&!(put||decide (cmpRows r row=0)) then row::r::putGo row rs true else r::putGo row rs (put||decide (cmpRows r row=0)))=_
 rw [h];simp
theorem putGo_in {row r:List Int}{rs:List (List Int)}(h:0<cmpRows r row):putGo row (r::rs) false=row::r::putGo row rs true:=by
 show(if decide (0<cmpRows r row)&&!(false||decide (cmpRows r row=0)) then row::r::putGo row rs true else r::putGo row rs (false||decide (cmpRows r row=0)))=_
 rw [decide_eq_true h,decide_eq_false (show ¬ cmpRows r row=0 by omega)];rfl
theorem putGo_on {row r:List Int}{rs:List (List Int)}{put:Bool}(h:cmpRows r row<0\/put=true):putGo row (r::rs) put=r::putGo row rs put:=by
 cases put with
 | true=>rw [putGo_true,putGo_true]
 | false =>
  have h1:cmpRows r row<0:=by rcases h with h|h;exact h;cases h
  show(if decide (0<cmpRows r row)&&!(false||decide (cmpRows r row=0)) then row::r::putGo row rs true else r::putGo row rs (false||decide (cmpRows r row=0)))=_
  rw [decide_eq_false (show ¬ 0<cmpRows r row by omega),decide_eq_false (show ¬ cmpRows r row=0 by omega)];rfl
theorem drop_cons {α:Type}{l:List α}{k:Nat}{x:α}(h:l[k]?=some x):l.drop k=x::l.drop (k+1):=by
 obtain⟨hk,rfl⟩:=List.getElem?_eq_some_iff.1 h
 exact List.drop_eq_getElem_cons hk
/-- a fresh copy of ints, to be appended as a row -/
theorem put_own {wr w0 w1:World}{g:Nat}{A:Option Addr}{n c:Nat}{x:List Int}(hg:wr.heap.size<=g) (hb:Below wr.heap.size wr w0) (o:OS NB 3 rInt w1 (blk A) A n c x) (g1:∀ k∈blk A,k=g\/k=w0.heap.size) (hb1:Below w0.heap.size w0 w1) :
  (rSlice NB 3 rInt).own (w1.alloc (.cells #[.slice A n c] 51)) (blk A) [.slice A n c] x/\Fr wr.heap.size (blk A)/\Below wr.heap.size wr (w1.alloc (.cells #[.slice A n c] 51)):=by
 have h1:=hb.trans (hb1.mono hb.size)
 have hz:=hb.size
 refine⟨⟨A,n,c,rfl,o.belowS rInt_ok ((Below.refl _ _).alloc (Nat.le_refl _) _)⟩,⟨by cases A<;>simp [blk],fun k hk=>by rcases g1 k hk with e|e<;>omega⟩,h1.alloc h1.size _⟩
set_option maxRecDepth 100000 in
set_option maxHeartbeats 3200000 in
theorem sL4Put_c (A A2:Option Addr) (n cap n2 c2:Nat) (rows:List (List Int)) (row:List Int) (w:World) (hr:RS NB (rSlice NB 3 rInt) w A n cap rows) (hx:RS NB rInt w A2 n2 c2 row) (hn:n<4294967296) :
  Calls Try.prog 55 #[.slice A n cap,.slice A2 n2 c2] w (RetS 51 (rSlice NB 3 rInt) (putGo row rows false) w):=by
 have hM0:=MS.empty (B:=w.heap.size) (M:=NB) (e:=51) (r:=rSlice NB 3 rInt) w (Nat.le_refl _)
 have hA0:=(Below.refl w.heap.size w).alloc (Nat.le_refl _) (.cells #[] 51)
 have HRL:=Lib.hid hr.len
 have hxn:=hx.nb
 go_enter Try.func55,Try.ntmps55
 go_wp2
 go_loopw [5,6,7] (fun oo pv iv wr=>∃ (k m c:Nat) (B:Option Addr) (put:Bool) (O:List (List Int)),k<=n/\iv=.int .i64 k/\pv=.bool put/\oo=.slice B m c/\m<=k+1/\(put=false->m<=k)/\MS w.heap.size NB 51 (rSlice NB 3 rInt) wr B m c O/\Hid (O++putGo row (rows.drop k) put=putGo row rows false)/\Below w.heap.size w wr) (fun _ _ iv _=>n - (intOf iv).toNat)
 case atStart=>exact⟨0,0,0,_,false,[],Nat.zero_le _,rfl,rfl,rfl,by omega,fun _=>Nat.le_refl _,hM0,by show _=_;simp,hA0⟩
 case round =>
  clear hM0 hA0
  obtain⟨k,m,c,B,put,O,hk,rfl,rfl,rfl,hm1,hm2,hM,HO,hE⟩:=hrel
  have hz:=hE.size
  have hxE:=hx.below rInt_ok hE
  by_cases hlt:k<n
  ·obtain⟨b,off,x,A1,n1,c1,rfl,hc0,hx0,hxx⟩:=hr.row hlt
   have hx1:=hx0.below rInt_ok hE
   have hcr:=cells_below hE _ _ hc0
   have HD:=Lib.hid (drop_cons hxx.out);clear hxx
   go_upto_region 7 with (go_at_call 67;refine(sCompareRows_c _ _ _ _ _ _ _ _ _ hx1 hxE).mono ?_;rintro e wq ⟨rfl,hq⟩)
   have hbq:=hq.belowS
   clear hq
   replace hM:=hM.below (rSlice_ok NB _ rInt_ok) hbq
   replace hE:=hE.trans (hbq.mono hE.size)
   replace hx1:=hx1.below rInt_ok hbq
   replace hxE:=hxE.below rInt_ok hbq
   replace hz:=hE.size
   have hc:=cells_below (hE.alloc hz (.cells #[] 3)) _ _ hc0
   have hq':=True.intro
   clear hbq
   obtain⟨z,hz0⟩:∃ z,cmpRows x row=z:=⟨_,rfl⟩
   rw [hz0]
   by_cases e0:z=0
   ·subst e0
    have HP:=Lib.hid (show O++(x::putGo row (rows.drop (k+1)) true)=putGo row rows false by rw [<- HO.out,HD.out,putGo_eq hz0])
    clear hz0 hm2 HO
    go_wp2_with (first|(at_builtin;refine wpList_appe (r:=rInt) (M:=NB) rfl _ _ 51 rfl _ 8 eiInt rInt_ok rInt_flat rfl (heap_alloc_new _ _) rfl (hx1.below rInt_ok ((Below.refl _ _).alloc (Nat.le_refl _) _)) hx1.nb (Nat.le_refl _) (by have h:=hx1.nb;unfold NB at h;omega) ?_;intro A3 c3 w3 o3 g3 hb3;obtain⟨ow3,fr3,hw3⟩:=put_own (wr:=wq) (g:=wq.heap.size) (Nat.le_refl _) ((Below.refl wq.heap.size wq).alloc (Nat.le_refl _) _) o3 g3 hb3)|(at_builtin;refine wpList_app (r:=rSlice NB 3 rInt) rfl _ _ 82 rfl _ 24 eiRowS (rSlice_ok NB _ rInt_ok) rfl hM hw3 hz ⟨w3.heap.size,0,none⟩ rfl _ _ x ow3 fr3 (cells_new _ _ _) (by unfold NB;omega) (Nat.le_refl _) (by omega) ?_;intro B3 k3 v3 hM3 hv3 hg3))
    go_roundw
    case rel=>exact⟨k+1,m+1,k3,B3,true,O++[x],hlt,by go_num,rfl,rfl,by omega,by simp,hM3,by show _=_;rw [<- HP.out];simp,(hE.trans (hw3.mono hE.size)).trans hv3⟩
    case measure=>simp [intOf];omega
   have b0:(z==0)=false:=by simp [e0]
   by_cases e1:0<z
   ·have g1:decide (0<z)=true:=decide_eq_true e1
    cases put
    ·have HP:=Lib.hid (show O++(row::x::putGo row (rows.drop (k+1)) true)=putGo row rows false by rw [<- HO.out,HD.out,putGo_in (by omega)])
     have hmk:=hm2 rfl
     clear hz0 hm2 HO
     go_upto_region 11 with (first|(at_builtin;refine wpList_appe (r:=rInt) (M:=NB) rfl _ _ 51 rfl _ 8 eiInt rInt_ok rInt_flat rfl (heap_alloc_new _ _) rfl (hxE.below rInt_ok ((Below.refl _ _).alloc (Nat.le_refl _) _)) hxE.nb (Nat.le_refl _) (by have h:=hxE.nb;unfold NB at h;omega) ?_;intro A5 c5 w5 o5 g5 hb5;obtain⟨ow5,fr5,hw5⟩:=put_own (wr:=wq) (g:=wq.heap.size) (Nat.le_refl _) ((Below.refl wq.heap.size wq).alloc (Nat.le_refl _) _) o5 g5 hb5)|(at_builtin;refine wpList_app (r:=rSlice NB 3 rInt) rfl _ _ 82 rfl _ 24 eiRowS (rSlice_ok NB _ rInt_ok) rfl hM hw5 hz ⟨w5.heap.size,0,none⟩ rfl _ _ row ow5 fr5 (cells_new _ _ _) (by unfold NB;omega) (Nat.le_refl _) (by omega) ?_;intro B5 k5 v5 hM5 hv5 hg5))
     have hE5:=(hE.trans (hw5.mono hE.size)).trans hv5
     have hz5:=hE5.size
     have hxv:=hx0.below rInt_ok hE5
     have hcv:=cells_below (hE5.alloc hz5 (.cells #[] 3)) _ _ hc0
     clear hq' hc hx1 hxE
     go_wp2_with (first|(at_builtin;refine wpList_appe (r:=rInt) (M:=NB) rfl _ _ 51 rfl _ 8 eiInt rInt_ok rInt_flat rfl (heap_alloc_new _ _) rfl (hxv.below rInt_ok ((Below.refl _ _).alloc (Nat.le_refl _) _)) hxv.nb (Nat.le_refl _) (by have h:=hxv.nb;unfold NB at h;omega) ?_;intro A3 c3 w3 o3 g3 hb3;obtain⟨ow3,fr3,hw3⟩:=put_own (wr:=v5) (g:=v5.heap.size) (Nat.le_refl _) ((Below.refl v5.heap.size v5).alloc (Nat.le_refl _) _) o3 g3 hb3)|(at_builtin;refine wpList_app (r:=rSlice NB 3 rInt) rfl _ _ 82 rfl _ 24 eiRowS (rSlice_ok NB _ rInt_ok) rfl hM5 hw3 hz5 ⟨w3.heap.size,0,none⟩ rfl _ _ x ow3 fr3 (cells_new _ _ _) (by unfold NB;omega) (Nat.le_refl _) (by omega) ?_;intro B3 k3 v3 hM3 hv3 hg3))
     go_roundw
     case rel=>exact⟨k+1,m+1+1,k3,B3,true,(O++[row])++[x],hlt,by go_num,rfl,rfl,by omega,by simp,hM3,by show _=_;rw [<- HP.out];simp,(hE5.trans (hw3.mono hE5.size)).trans hv3⟩
     case measure=>simp [intOf];omega
    ·have HP:=Lib.hid (show O++(x::putGo row (rows.drop (k+1)) true)=putGo row rows false by rw [<- HO.out,HD.out,putGo_on (.inr rfl)])
     clear hz0 hm2 HO
     go_wp2_with (first|(at_builtin;refine wpList_appe (r:=rInt) (M:=NB) rfl _ _ 51 rfl _ 8 eiInt rInt_ok rInt_flat rfl (heap_alloc_new _ _) rfl (hx1.below rInt_ok ((Below.refl _ _).alloc (Nat.le_refl _) _)) hx1.nb (Nat.le_refl _) (by have h:=hx1.nb;unfold NB at h;omega) ?_;intro A3 c3 w3 o3 g3 hb3;obtain⟨ow3,fr3,hw3⟩:=put_own (wr:=wq) (g:=wq.heap.size) (Nat.le_refl _) ((Below.refl wq.heap.size wq).alloc (Nat.le_refl _) _) o3 g3 hb3)|(at_builtin;refine wpList_app (r:=rSlice NB 3 rInt) rfl _ _ 82 rfl _ 24 eiRowS (rSlice_ok NB _ rInt_ok) rfl hM hw3 hz ⟨w3.heap.size,0,none⟩ rfl _ _ x ow3 fr3 (cells_new _ _ _) (by unfold NB;omega) (Nat.le_refl _) (by omega) ?_;intro B3 k3 v3 hM3 hv3 hg3))
     go_roundw
     case rel=>exact⟨k+1,m+1,k3,B3,true,O++[x],hlt,by go_num,rfl,rfl,by omega,by simp,hM3,by show _=_;rw [<- HP.out];simp,(hE.trans (hw3.mono hE.size)).trans hv3⟩
     case measure=>simp [intOf];omega
   ·have g1:decide (0<z)=false:=decide_eq_false e1
    have HP:=Lib.hid (show O++(x::putGo row (rows.drop (k+1)) put)=putGo row rows false by rw [<- HO.out,HD.out,putGo_on (.inl (by omega))])
    clear hz0 HO
    go_wp2_with (first|(at_builtin;refine wpList_appe (r:=rInt) (M:=NB) rfl _ _ 51 rfl _ 8 eiInt rInt_ok rInt_flat rfl (heap_alloc_new _ _) rfl (hx1.below rInt_ok ((Below.refl _ _).alloc (Nat.le_refl _) _)) hx1.nb (Nat.le_refl _) (by have h:=hx1.nb;unfold NB at h;omega) ?_;intro A3 c3 w3 o3 g3 hb3;obtain⟨ow3,fr3,hw3⟩:=put_own (wr:=wq) (g:=wq.heap.size) (Nat.le_refl _) ((Below.refl wq.heap.size wq).alloc (Nat.le_refl _) _) o3 g3 hb3)|(at_builtin;refine wpList_app (r:=rSlice NB 3 rInt) rfl _ _ 82 rfl _ 24 eiRowS (rSlice_ok NB _ rInt_ok) rfl hM hw3 hz ⟨w3.heap.size,0,none⟩ rfl _ _ x ow3 fr3 (cells_new _ _ _) (by unfold NB;omega) (Nat.le_refl _) (by omega) ?_;intro B3 k3 v3 hM3 hv3 hg3))
    go_roundw
    case rel=>exact⟨k+1,m+1,k3,B3,put,O++[x],hlt,by go_num,rfl,rfl,by omega,fun h=>by have:=hm2 h;omega,hM3,by show _=_;rw [<- HP.out];simp,(hE.trans (hw3.mono hE.size)).trans hv3⟩
    case measure=>simp [intOf];omega
  ·obtain rfl:k=n:=by omega
   have hdr:rows.drop k=[]:=List.drop_of_length_le (by rw [HRL.out];exact Nat.le_refl _)
   rw [hdr]at HO
   cases put
   ·have hmk:=hm2 rfl
    have HP:=Lib.hid (show O++[row]=putGo row rows false from HO.out)
    clear HO hm2 hdr
    go_wp2_with (first|(at_builtin;refine wpList_appe (r:=rInt) (M:=NB) rfl _ _ 51 rfl _ 8 eiInt rInt_ok rInt_flat rfl (heap_alloc_new _ _) rfl (hxE.below rInt_ok ((Below.refl _ _).alloc (Nat.le_refl _) _)) hxE.nb (Nat.le_refl _) (by have h:=hxE.nb;unfold NB at h;omega) ?_;intro A3 c3 w3 o3 g3 hb3;obtain⟨ow3,fr3,hw3⟩:=put_own (wr:=wr) (g:=wr.heap.size) (Nat.le_refl _) ((Below.refl wr.heap.size wr).alloc (Nat.le_refl _) _) o3 g3 hb3)|(at_builtin;refine wpList_app (r:=rSlice NB 3 rInt) rfl _ _ 82 rfl _ 24 eiRowS (rSlice_ok NB _ rInt_ok) rfl hM hw3 hz ⟨w3.heap.size,0,none⟩ rfl _ _ row ow3 fr3 (cells_new _ _ _) (by unfold NB;omega) (Nat.le_refl _) (by omega) ?_;intro B3 k3 v3 hM3 hv3 hg3))
    go_ret
    exact⟨_,_,_,rfl,by rw [<- HP.out];exact hM3,(hE.trans (hw3.mono hE.size)).trans hv3⟩
   ·have HP:=Lib.hid (show O++[]=putGo row rows false from HO.out)
    clear HO hm2 hdr
    go_wp2
    go_ret
    exact⟨_,_,_,rfl,by rw [<- HP.out,List.append_nil];exact hM,hE⟩
end Go.Proofs.Ytjckbnmbhgikjaa
