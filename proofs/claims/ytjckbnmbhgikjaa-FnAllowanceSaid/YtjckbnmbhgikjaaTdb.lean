/-
  Tdb
-/
import Derived.Test.YtjckbnmbhgikjaaPut
import Derived.Test.YtjckbnmbhgikjaaDrw
import Derived.Test.YtjckbnmbhgikjaaQb
namespace Go.Proofs.Ytjckbnmbhgikjaa
open Go.RowKit
set_option linter.unusedVariables false
set_option linter.unusedSimpArgs false
section
variable {w:World} {g:Nat} {t:TypeId} {x0 x1 x2:Value}
theorem Bk.r3 (h:Bk w g t [x0,x1,x2]):w.cell? ⟨g,0,none⟩=some x0/\w.frozen? ⟨g,0,none⟩=false/\w.cell? ⟨g,1,none⟩=some x1/\w.frozen? ⟨g,1,none⟩=false/\w.cell? ⟨g,2,none⟩=some x2/\w.frozen? ⟨g,2,none⟩=false :=
 ⟨h.bx 0 _ rfl,h.frozen 0,h.bx 1 _ rfl,h.frozen 1,h.bx 2 _ rfl,h.frozen 2⟩
abbrev set3 (w:World) (g:Nat) (a b c:Value):World:=((w.setCell ⟨g,0,none⟩ a).setCell ⟨g,1,none⟩ b).setCell ⟨g,2,none⟩ c
theorem Bk.s3 (h:Bk w g t [x0,x1,x2]):(∀ a b c,(set3 w g a b c).cell? ⟨g,0,none⟩=some a)/\(∀ a b c,(set3 w g a b c).cell? ⟨g,1,none⟩=some b)/\∀ a b c,(set3 w g a b c).cell? ⟨g,2,none⟩=some c :=
 ⟨fun a b c=>(((h.set 0 a).set 1 b).set 2 c).bx 0 _ rfl,fun a b c=>(((h.set 0 a).set 1 b).set 2 c).bx 1 _ rfl,fun a b c=>(((h.set 0 a).set 1 b).set 2 c).bx 2 _ rfl⟩
theorem bls3 {B:Nat}{a:World}(h:Below B a w) (hg:B<=g) (x y z:Value):Below B a (set3 w g x y z):=((h.setCell (p:=⟨g,0,none⟩) hg _).setCell (p:=⟨g,1,none⟩) hg _).setCell (p:=⟨g,2,none⟩) hg _
theorem set3_ne {k:Nat}(hk:k≠g) (a b c:Value):(set3 w g a b c).heap[k]?=w.heap[k]? :=
 ((heap_setCell_other _ ⟨g,2,none⟩ k _ (fun e=>hk e)).trans (heap_setCell_other _ ⟨g,1,none⟩ k _ (fun e=>hk e))).trans (heap_setCell_other _ ⟨g,0,none⟩ k _ (fun e=>hk e))
theorem own_set3 {α:Type}{r:Rp α}(hr:r.Ok) {fp:List Nat}{cs:List Value}{x:α}(h:r.own w fp cs x) (hf:Fr (g+1) fp) (a b c:Value):r.own (set3 w g a b c) fp cs x :=
 hr.okeep h fun k hk=>set3_ne (by have:=hf.ge k hk;omega) a b c
end
theorem putGo_len (row:List Int):∀ (rs:List (List Int)) (p:Bool),(putGo row rs p).length<=rs.length+1
 | [],p=>by cases p<;>simp [putGo]
 | r::rs,p=>by
  unfold putGo
  have h1:=putGo_len row rs (p||decide (cmpRows r row=0))
  simp only
  split
  ·rw [putGo_true];simp
  ·simp only [List.length_cons];omega
theorem Stb.lowM {α:Type}{r:Rp α}{B M:Nat}{e:TypeId}{w w':World}{A:Option Addr}{n cap:Nat}{l:List α}{S:List Nat}(h:MS B M e r w A n cap l) (hr:r.Ok) (hc:Chg S w w') (hS:∀ k,B<=k->k∉S):MS B M e r w' A n cap l:=by
 obtain⟨fp,o,f⟩:=h
 exact⟨fp,o.okeep hr (fun k hk=>hc.block k (o.lt hr k hk) (hS k (f.ge k hk))),f⟩
set_option maxRecDepth 100000 in
set_option maxHeartbeats 3200000 in
theorem l4Tab_c (g:Nat) (nm:ByteArray) (ar:Nat) (most val:Int) (w:World) (hc:Cur w g) (hnm:nm.size<=NB) (har:ar<=3) (hm0:0<=most) (hm1:most<=8) (hv:val<=9) :
  Calls Try.prog 45 #[.pointer (some ⟨g,0,none⟩),.string nm,.int .i64 ar,.int .i64 most,.int .i64 val] w (DrawnV (rTable NB) (fun t=>t.fRows.length<=8) g w):=by
 have hgw:=hc.lt
 obtain⟨w1,hw1⟩:∃ W,W=w.alloc (.cells #[.string ⟨#[]⟩,.int .i64 0,.slice none 0 0] 84):=⟨_,rfl⟩
 obtain⟨w2,hw2⟩:∃ W,W=w1.alloc (.cells #[.string nm,.int .i64 ar,.slice none 0 0] 84):=⟨_,rfl⟩
 have hs1:w1.heap.size=w.heap.size+1:=by rw [hw1];simp
 have hs2:w2.heap.size=w.heap.size+1+1:=by rw [hw2];simp [hs1]
 have b1:Below w.heap.size w w1:=by rw [hw1];exact(Below.refl _ _).alloc (Nat.le_refl _) _
 have b2:Below w1.heap.size w1 w2:=by rw [hw2];exact(Below.refl _ _).alloc (Nat.le_refl _) _
 have kR:Bk w2 w.heap.size 84 [.string ⟨#[]⟩,.int .i64 0,.slice none 0 0]:=by refine Bk.below ?_ b2;rw [hw1];exact Bk.new w _ _
 have kT:Bk w2 (w.heap.size+1) 84 [.string nm,.int .i64 ar,.slice none 0 0]:=by rw [hw2,<- hs1];exact Bk.new w1 _ _
 have C2:Chg [g] w w2:=Chg.ofBelow (b1.trans (b2.mono b1.size)) _
 have cu2:Cur w2 g:=(hc.below b1).below b2
 have HW1:=Lib.hid hw1
 have HW2:=Lib.hid hw2
 clear b1 b2 hs1 hw1 hw2
 have hwm:IntKind.i64.wrap (most+1)=most+1:=IntWalk.i64_in _ (by omega)
 go_enter Try.func45,Try.ntmps45
 go_upto_region 2 with fail
 rw [<- HW1.out,<- HW2.out]
 go_wp2_with fail
 refine(l1Below_c g (most+1) _ (by omega) cu2).mono ?_
 rintro e w3 ⟨x,rfl,⟨hx0,_,hx1⟩,cu3,ch3⟩
 have hx2:=hx1 (by omega)
 obtain⟨m0,rfl⟩:∃ j:Nat,x=j:=⟨x.toNat,by omega⟩
 have kR3:Bk w3 w.heap.size 84 [.string ⟨#[]⟩,.int .i64 0,.slice none 0 0]:=(ch3.block _ kR.lt (by simp;omega)).trans kR
 have kT3:Bk w3 (w.heap.size+1) 84 [.string nm,.int .i64 ar,.slice none 0 0]:=(ch3.block _ kT.lt (by simp;omega)).trans kT
 have C3:=C2.trans ch3
 have hs3:w.heap.size+1+1<=w3.heap.size:=by have:=ch3.size;omega
 clear hx1 kR kT C2 cu2 ch3 hs2 hwm
 go_wp2
 go_loopw [12] (fun nv wr=>∃ (k m c:Nat) (A:Option Addr) (R:List (List Int)),k+m<=8/\nv=.int .i64 k/\Bk wr w.heap.size 84 [.string ⟨#[]⟩,.int .i64 0,.slice none 0 0]/\Bk wr (w.heap.size+1) 84 [.string nm,.int .i64 ar,.slice A m c]/\MS (w.heap.size+1+1) NB 51 (rSlice NB 3 rInt) wr A m c R/\Chg [g] w wr/\Cur wr g) (fun nv _=>(intOf nv).toNat)
 case atStart=>exact⟨m0,0,0,none,[],by omega,rfl,kR3,kT3,MS.nil _ (Nat.zero_le _),C3,cu3⟩
 case round =>
  clear kR3 kT3 C3 cu3
  obtain⟨k,m,c,A,R,hkm,rfl,kR,kT,mR,hC,hcu⟩:=hrel
  have hsz:w.heap.size+1<wr.heap.size:=kT.lt
  by_cases hk0:0<k
  ·have hki:(0:Int)<k:=by omega
   have hk1:IntKind.i64.wrap ((k:Int) - 1)=(k:Int) - 1:=IntWalk.i64_in _ (by omega)
   have hkk:((k - 1:Nat):Int)=(k:Int) - 1:=by omega
   have HKK:=Lib.hid hkk;clear hkk
   rename World=>wz
   have M0:=MS.empty (B:=wz.heap.size) (M:=NB) (e:=3) (r:=rInt) wz (Nat.le_refl _)
   have bz:=(Below.refl wz.heap.size wz).alloc (Nat.le_refl _) (.cells #[] 3)
   have cz:=hcu.below bz
   have Cz:Chg [g] wz (wz.alloc (.cells #[] 3)):=Chg.ofBelow bz _
   have hgz:=hcu.lt
   go_wp2
   go_loopw [13,14] (fun rv iv wr=>∃ (j c':Nat) (A':Option Addr) (V:List Int),j<=ar/\iv=.int .i64 j/\rv=.slice A' j c'/\MS wz.heap.size NB 3 rInt wr A' j c' V/\Chg [g] wz wr/\Cur wr g) (fun _ iv _=>ar - (intOf iv).toNat)
   case atStart=>exact⟨0,0,_,[],Nat.zero_le _,rfl,rfl,M0,Cz,cz⟩
   case round =>
    clear M0 Cz cz
    obtain⟨j,c',A',V,hj,rfl,rfl,mV,hD,hcu2⟩:=hrel
    by_cases hlj:j<ar
    ·have hji:(j:Int)<ar:=by omega
     go_wp2_with fail
     refine(l1Below_c g val _ (by omega) hcu2).mono ?_
     rintro e w5 ⟨y,rfl,⟨hy0,hy9,_⟩,cu5,ch5⟩
     have mV5:=Stb.lowM mV rInt_ok ch5 (fun k hk=>by simp;omega)
     have D5:=hD.trans ch5
     have hs5:=D5.size
     clear mV hD hcu2 ch5
     go_wp2_with (at_builtin;refine wpList_app (r:=rInt) rfl _ _ 51 rfl _ 8 eiInt rInt_ok rfl mV5 ((Below.refl _ _).alloc (Nat.le_refl _) _) hs5 ⟨w5.heap.size,0,none⟩ rfl [] [.int .i64 y] y ⟨rfl,rfl,⟨by omega,by omega⟩⟩ (Fr.nil _) (cell_one_new _ _ _) (by unfold NB;omega) (Nat.le_refl _) (by omega) ?_;intro A9 c9 w9 hM9 hb9 hg9)
     go_roundw
     case rel =>
      have b9:Below wz.heap.size w5 w9:=((Below.refl wz.heap.size w5).alloc hs5 (.cells #[.int .i64 y] 3)).trans hb9
      exact⟨j+1,c9,A9,V++[y],by omega,by go_num,rfl,hM9,chgS D5 b9 (Nat.le_refl _),cu5.low hgz b9⟩
     case measure=>simp [intOf];omega
    ·have hji:¬ (j:Int)<ar:=by omega
     have kT5:Bk wr (w.heap.size+1) 84 [.string nm,.int .i64 ar,.slice A m c]:=(hD.block _ kT.lt (by simp;omega)).trans kT
     have kR5:Bk wr w.heap.size 84 [.string ⟨#[]⟩,.int .i64 0,.slice none 0 0]:=(hD.block _ kR.lt (by simp;omega)).trans kR
     have mR5:=Stb.lowM mR (rSlice_ok NB _ rInt_ok) hD (fun k hk=>by simp;omega)
     have C5:=hC.trans hD
     have hs5:w.heap.size+1+1<=wr.heap.size:=by have:=kT5.lt;omega
     have hnl:(putGo V R false).length<=m+1:=by have:=putGo_len V R false;have:=mR.len;omega
     have t2:=kT5.bx 2 _ rfl
     clear kT kR mR hC hD
     go_wp2_with fail
     refine(sL4Put_c _ _ _ _ _ _ R V _ (mR5.rs (rSlice_ok NB _ rInt_ok)) (mV.rs rInt_ok) (by omega)).mono ?_
     rintro e w6 ⟨A6,n6,c6,rfl,m6,hb6⟩
     have hn6:n6<=m+1:=by have:=m6.len;omega
     have kT6:=kT5.below hb6
     have kR6:=kR5.below hb6
     have C6:=C5.trans (Chg.ofBelow hb6 _)
     have cu6:=hcu2.below hb6
     have m6':=m6.base hs5
     clear kT5 kR5 mR5 C5 hcu2 mV t2 hnl m6 hb6
     have t2:=kT6.bx 2 _ rfl
     have f2:=kT6.frozen 2
     go_wp2
     go_roundw
     case rel =>
      have b7:Below (w.heap.size+1) w6 (w6.setCell ⟨w.heap.size+1,2,none⟩ (.slice A6 n6 c6)):=(Below.refl _ _).setCell (p:=⟨w.heap.size+1,2,none⟩) (Nat.le_refl _) _
      refine⟨k - 1,n6,c6,A6,putGo V R false,by omega,by rw [HKK.out],(b7.block _ (by omega)).trans kR6,kT6.set 2 _,?_,chgS C6 b7 (by omega),cu6.low (by omega) b7⟩
      obtain⟨fp,o,f⟩:=m6'
      exact⟨fp,o.okeep (rSlice_ok NB _ rInt_ok) (fun z hz=>heap_setCell_other _ ⟨w.heap.size+1,2,none⟩ z _ (fun e=>by have:=f.ge z hz;have e2:z=w.heap.size+1:=e;omega)),f⟩
     case measure=>simp [intOf];omega
  ·have hk00:k=0:=by omega
   subst hk00
   have ⟨t0,_,t1,_,t2,_⟩:=kT.r3
   have ⟨r0,g0,r1,g1,r2,g2⟩:=kR.r3
   have ⟨z0,z1,z2⟩:=kR.s3
   have hRl:=mR.len
   go_wp2
   refine bodyPost_ret (v:=.agg #[.string nm,.int .i64 ar,.slice A m c]) (by simp [results,Try.results45,go_sem,z0,z1,z2]) rfl ?_
   obtain⟨fp,o,f⟩:=mR
   have ho:(rTable NB).own wr fp [.string nm,.int .i64 ar,.slice A m c] ⟨nm,ar,R⟩:=rTable_own.2 ⟨A,m,c,fp,rfl,rfl,hnm,(show I64 (ar:Int) from ⟨by omega,by omega⟩),o⟩
   exact⟨⟨nm,ar,R⟩,_,fp,rfl,own_set3 (rTable_ok NB) ho (f.mono (by omega)) _ _ _,f.mono (by omega),by show R.length<=8;omega,hcu.low hgw (bls3 (Below.refl _ _) (Nat.le_refl _) _ _ _),chgS hC (bls3 (Below.refl _ _) (Nat.le_refl _) _ _ _) (Nat.le_refl _)⟩
theorem l4Tab_i (g:Nat) (nm:ByteArray) (ar most val:Int) (w:World) (hc:Cur w g) (hnm:nm.size<=NB) (h0:0<=ar) (h3:ar<=3) (hm0:0<=most) (hm1:most<=8) (hv:val<=9) :
  Calls Try.prog 45 #[.pointer (some ⟨g,0,none⟩),.string nm,.int .i64 ar,.int .i64 most,.int .i64 val] w (DrawnV (rTable NB) (fun t=>t.fRows.length<=8) g w):=by
 obtain⟨k,rfl⟩:=Int.eq_ofNat_of_zero_le h0
 exact l4Tab_c g nm k most val w hc hnm (by omega) hm0 hm1 hv
end Go.Proofs.Ytjckbnmbhgikjaa
