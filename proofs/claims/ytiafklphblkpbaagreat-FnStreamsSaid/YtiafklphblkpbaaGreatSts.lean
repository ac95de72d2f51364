/-
  Sts
-/
import Derived.Test.YtiafklphblkpbaaGreatKeep
import Derived.Test.YtiafklphblkpbaaGreatSst
import Derived.Test.YtiafklphblkpbaaGreatCpr
import Derived.Test.YtiafklphblkpbaaGreatStw
import Derived.Test.YtiafklphblkpbaaGreatJnU
namespace Go.Proofs.YtiafklphblkpbaaGreat
open Go.RowKit
set_option linter.unusedVariables false
set_option linter.unusedSimpArgs false
/-- the copy ahead of its sort: ints A1, rows A2 (from B2 on), the copy's box gO; gR, gK: the result's box and the column's -/
structure StsW (w4 W:World) (gR gK gO B2:Nat) (A1:Option Addr) (n1 c1:Nat) (A2:Option Addr) (n2 c2:Nat) (V:List Int) (R:List (List Int)):Prop where
 be:Below w4.heap.size w4 W
 kO:Bk W gO 51 [.slice A1 n1 c1,.slice A2 n2 c2]
 o1:OS NB 3 rInt W (blk A1) A1 n1 c1 V
 m2:MS B2 NB 24 (rSlice NB 3 rInt) W A2 n2 c2 R
 nO:gO∉blk A2
 h1:∀ k∈blk A1,gR<k/\k<B2/\k<W.heap.size
 h2:∀ k∈blk A2,B2<=k
 gK:gK<B2
 gR:gR<B2
theorem MS.blkL {α:Type}{r:Rp α}{B M:Nat}{e:TypeId}{w:World}{A:Option Addr}{n cap:Nat}{l:List α}(hr:r.Ok) (h:MS B M e r w A n cap l):∀ k∈blk A,B<=k/\k<w.heap.size:=by
 obtain⟨fp,o,f⟩:=h
 obtain⟨css,fps,h1,rfl,h3⟩:=o.ex
 intro k hk
 exact⟨f.ge k (List.mem_append_left _ hk),o.lt hr k (List.mem_append_left _ hk)⟩
section
variable {w w4 w6 W W':World} {gR gK gO g B2:Nat} {A1 A2:Option Addr} {n1 c1 n2 c2:Nat} {V:List Int} {R R':List (List Int)} {u v:Value}
theorem sts_new (hC:Below w4.heap.size w4 w6) (o1:OS NB 3 rInt w6 (blk A1) A1 n1 c1 V) (h1:∀ k∈blk A1,gR<k/\k<B2) (m2:MS B2 NB 24 (rSlice NB 3 rInt) w6 A2 n2 c2 R) (hK:gK<B2) (hR:gR<B2) (hB:B2<=w6.heap.size) :
  ∃ W,W=w6.alloc (.cells #[.slice A1 n1 c1,.slice A2 n2 c2] 51)/\StsW w4 W gR gK w6.heap.size B2 A1 n1 c1 A2 n2 c2 V R:=by
 have hb:=(Below.refl w6.heap.size w6).alloc (Nat.le_refl _) (.cells #[.slice A1 n1 c1,.slice A2 n2 c2] 51)
 have q2:=m2.blkL (rSlice_ok NB _ rInt_ok)
 have l1:=o1.lt rInt_ok
 exact⟨_,rfl,hC.trans (hb.mono hC.size),Bk.new _ _ _,o1.belowS rInt_ok hb,m2.below (rSlice_ok NB _ rInt_ok) hb,fun h=>by have:=q2 _ h;omega,fun k hk=>⟨(h1 k hk).1,(h1 k hk).2,by have:=l1 k hk;simp;omega⟩,fun k hk=>(q2 k hk).1,hK,hR⟩
theorem sts_set (hC:Below w4.heap.size w4 w6) (kZ:Bk w6 g 51 [u,v]) (hg:w4.heap.size<=g) (hgB:g<B2) (hne:∀ k∈blk A1,k≠g) (o1:OS NB 3 rInt w6 (blk A1) A1 n1 c1 V) (h1:∀ k∈blk A1,gR<k/\k<B2) (m2:MS B2 NB 24 (rSlice NB 3 rInt) w6 A2 n2 c2 R) (hK:gK<B2) (hR:gR<B2) :
  ∃ W,W=(w6.setCell ⟨g,0,none⟩ (.slice A1 n1 c1)).setCell ⟨g,1,none⟩ (.slice A2 n2 c2)/\StsW w4 W gR gK g B2 A1 n1 c1 A2 n2 c2 V R:=by
 have hs:∀ k,k≠g->((w6.setCell ⟨g,0,none⟩ (.slice A1 n1 c1)).setCell ⟨g,1,none⟩ (.slice A2 n2 c2)).heap[k]?=w6.heap[k]?:=fun k hk=>(heap_setCell_other _ ⟨g,1,none⟩ k _ (fun e=>hk e)).trans (heap_setCell_other _ ⟨g,0,none⟩ k _ (fun e=>hk e))
 have q2:=m2.blkL (rSlice_ok NB _ rInt_ok)
 have l1:=o1.lt rInt_ok
 obtain⟨f,o,fr⟩:=m2
 exact⟨_,rfl,bls2 hC hg _ _,(kZ.set 0 _).set 1 _,o1.okeep rInt_ok (fun k hk=>hs k (hne k hk)),⟨f,o.okeep (rSlice_ok NB _ rInt_ok) (fun k hk=>hs k (by have:=fr.ge k hk;omega)),fr⟩,fun h=>by have:=q2 _ h;omega,fun k hk=>⟨(h1 k hk).1,(h1 k hk).2,by have:=l1 k hk;simp;omega⟩,fun k hk=>(q2 k hk).1,hK,hR⟩
/-- the sorted copy, handed back in the result's box -/
theorem sts_fin (S:StsW w4 W gR gK gO B2 A1 n1 c1 A2 n2 c2 V R) (hs:∀ k,k∉blk A2->k<W.heap.size->W'.heap[k]?=W.heap[k]?)
  (m2:MS B2 NB 24 (rSlice NB 3 rInt) W' A2 n2 c2 R') (hw:w.heap.size<=gR) (hB:Below w.heap.size w W') (u v:Value) :
  ∃ fp,(rStream NB).own (set2 W' gR u v) fp [.slice A1 n1 c1,.slice A2 n2 c2] ⟨V,R'⟩/\Fr w.heap.size fp/\Below w.heap.size w (set2 W' gR u v):=by
 have hr:∀ k,k≠gR->(set2 W' gR u v).heap[k]?=W'.heap[k]?:=fun k hk=>(heap_setCell_other _ ⟨gR,1,none⟩ k _ (fun e=>hk e)).trans (heap_setCell_other _ ⟨gR,0,none⟩ k _ (fun e=>hk e))
 have h1:=S.h1
 have h2:=S.h2
 have h3:=S.gR
 obtain⟨f,o,fr⟩:=m2
 refine⟨blk A1++f,rStream_own.2 ⟨A1,n1,c1,A2,n2,c2,blk A1,f,rfl,rfl,S.o1.okeep rInt_ok (fun k hk=>(hr k (by have:=h1 k hk;omega)).trans (hs k (fun e=>by have:=h1 k hk;have:=h2 k e;omega) (h1 k hk).2.2)),o.okeep (rSlice_ok NB _ rInt_ok) (fun k hk=>hr k (by have:=fr.ge k hk;omega))⟩,⟨List.nodup_append.2 ⟨by cases A1<;>simp [blk],fr.nd,fun a ha b hb e=>by have:=h1 a ha;have:=fr.ge b hb;omega⟩,fun k hk=>?_⟩,bls2 hB hw _ _⟩
 rcases List.mem_append.1 hk with hk|hk
 ·have:=h1 k hk;omega
 ·have:=fr.ge k hk;omega
end
set_option maxRecDepth 100000 in
set_option maxHeartbeats 1600000 in
theorem iSortStream_c (csx:List Value) (x:StreamD) (v:Int) (w:World) (hx:(rStream NB).rep w csx x) :
  Calls Tryz.prog 25 #[.agg csx.toArray,.int .i64 v] w (RetVB (rStream NB) (sortStream x v).1 (.bool (sortStream x v).2) w):=by
 have rx:=hx
 obtain⟨AxVars,nxVars,cxVars,AxRows,nxRows,cxRows,rfl,hxVars,hxRows⟩:=rStream_rep.1 hx
 clear hx
 have hB:Below w.heap.size w w:=Below.refl _ _
 have hAx:=(Below.refl (World.heap (w)).size (w)).alloc (Nat.le_refl _) (.cells #[.slice AxVars nxVars cxVars,.slice AxRows nxRows cxRows] 51)
 replace hB:=hB.trans (hAx.mono hB.size)
 have bxx:=Bx.new (w) [.slice AxVars nxVars cxVars,.slice AxRows nxRows cxRows] 51
 clear hAx
 have hnr:=hxRows.bound
 have hnv:=hxVars.bound
 obtain⟨wa,hwa⟩:∃ W,W=w.alloc (.cells #[.slice AxVars nxVars cxVars,.slice AxRows nxRows cxRows] 51):=⟨_,rfl⟩
 rw [<- hwa]at hB bxx
 have hsa:wa.heap.size=w.heap.size+1:=by rw [hwa];simp
 have kR:=Bk.new wa [.slice none 0 0,.slice none 0 0] 51
 have hb0:=(Below.refl wa.heap.size wa).alloc (Nat.le_refl _) (.cells #[.slice none 0 0,.slice none 0 0] 51)
 rw [hsa]at kR
 replace hB:=hB.trans (hb0.mono hB.size)
 replace bxx:=bxx.below hb0
 clear hb0
 obtain⟨wb,hwb⟩:∃ W,W=wa.alloc (.cells #[.slice none 0 0,.slice none 0 0] 51):=⟨_,rfl⟩
 rw [<- hwb]at hB bxx kR
 have HRows:=Lib.hid hxRows
 go_enter Tryz.func25,Tryz.ntmps25
 go_upto_region 1 with fail
 rw [<- hwa,<- hwb]
 clear hwa hwb hsa
 have kx_0:=bxx 0 _ rfl
 have kx_1:=bxx 1 _ rfl
 rcases idxOf_or (l:=x.fVars) (v:=v) with ⟨f1,f2⟩|⟨t,f1,f2,f3⟩
 ·have HS:Hid (sortStream x v=(⟨[],[]⟩,false)):=by show _=_;exact sortStream_no2 f2
  have F1:=Lib.hid f1;clear f1 f2
  go_wp2_with fail
  refine(slicesIndex_b F1.out (hxVars.below rInt_ok hB)).mono ?_
  rintro e w1 ⟨rfl,he1⟩
  have hb1:=Below.of_eq he1;clear he1
  replace hB:=hB.trans (hb1.mono hB.size)
  replace bxx:=bxx.below hb1
  replace kR:=kR.below hb1
  clear hb1 kx_0 kx_1
  obtain⟨wk,hwk⟩:∃ W,W=w1.alloc (.cells #[.int .i64 (-1)] 3):=⟨_,rfl⟩
  have hb_wk:Below w1.heap.size w1 wk:=by rw [hwk];exact(Below.refl w1.heap.size w1).alloc (Nat.le_refl _) _
  replace hB:=hB.trans (hb_wk.mono hB.size)
  replace bxx:=bxx.below hb_wk
  replace kR:=kR.below hb_wk
  clear hb_wk
  have kK:Bk wk w1.heap.size 3 [.int .i64 (-1)]:=by rw [hwk];exact Bk.new w1 _ _
  go_upto_region 2 with fail
  rw [<- hwk]
  clear hwk
  have ckK_0:=kK.bx 0 _ rfl
  obtain⟨r0,g0,r1,g1⟩:=kR.r2
  go_wp2
  have q:=kR.s2
  refine bodyPost_ret (v:=_) (by simp [results,Tryz.results25,go_sem,q];rfl) rfl ?_
  rw [HS.out]
  exact zStm_r _ w (bls2 hB (Nat.le_succ _) _ _)
 have F1:=Lib.hid f1;clear f1
 go_wp2_with fail
 refine(slicesIndex_b F1.out (hxVars.below rInt_ok hB)).mono ?_
 rintro e w2 ⟨rfl,he2⟩
 have hb2:=Below.of_eq he2;clear he2
 replace hB:=hB.trans (hb2.mono hB.size)
 replace bxx:=bxx.below hb2
 replace kR:=kR.below hb2
 clear hb2 kx_0 kx_1
 obtain⟨wk,hwk⟩:∃ W,W=w2.alloc (.cells #[.int .i64 t] 3):=⟨_,rfl⟩
 have hb_wk:Below w2.heap.size w2 wk:=by rw [hwk];exact(Below.refl w2.heap.size w2).alloc (Nat.le_refl _) _
 replace hB:=hB.trans (hb_wk.mono hB.size)
 replace bxx:=bxx.below hb_wk
 replace kR:=kR.below hb_wk
 clear hb_wk
 have kK:Bk wk w2.heap.size 3 [.int .i64 t]:=by rw [hwk];exact Bk.new w2 _ _
 go_upto_region 2 with fail
 rw [<- hwk]
 clear hwk
 have ckK_0:=kK.bx 0 _ rfl
 have kx_0:=bxx 0 _ rfl
 have kx_1:=bxx 1 _ rfl
 go_wp2_with fail
 refine(iIsValidStream_c _ x _ ((rStream_ok NB).keep rx (cells_below hB))).mono ?_
 rintro e w3 ⟨rfl,hb3⟩
 replace hB:=hB.trans (hb3.mono hB.size)
 replace bxx:=bxx.below hb3
 replace kR:=kR.below hb3
 replace kK:=kK.below hb3
 clear hb3 ckK_0 kx_0 kx_1
 cases hv:validStream x
 ·have HS:Hid (sortStream x v=(⟨[],[]⟩,false)):=by show _=_;exact sortStream_no1 hv
  clear hv
  obtain⟨r0,g0,r1,g1⟩:=kR.r2
  go_wp2
  have q:=kR.s2
  refine bodyPost_ret (v:=_) (by simp [results,Tryz.results25,go_sem,q];rfl) rfl ?_
  rw [HS.out]
  exact zStm_r _ w (bls2 hB (Nat.le_succ _) _ _)
 have HS:Hid (sortStream x v=(⟨x.fVars,bkt t x.fRows 10⟩,true)):=by show _=_;exact sortStream_yes hv f2
 have HC:=Lib.hid (col_of hv f3)
 clear hv f2 f3
 rename World=>w4
 have hlR:=kR.lt
 have hlK:=kK.lt
 have hltx:w.heap.size+1<=w4.heap.size:=Nat.le_of_lt hlR
 have HSS:Hid (∀ w',Below (w.heap.size+1) w4 w'->(w'.cell? ⟨w.heap.size,0,none⟩=some (.slice AxVars nxVars cxVars)/\w'.cell? ⟨w.heap.size,1,none⟩=some (.slice AxRows nxRows cxRows))):=by
  show ∀ w',_->_
  intro w' hb
  exact(bxx.low (Nat.lt_succ_self _) hb).b2
 have hd0:=(Below.refl w4.heap.size w4).drew
 go_wp2
 refine hbg HSS.out (hd0.mono hltx) (fun hHeld=>?_)
 refine tka 0 20 hHeld ?_;simp only [putS]
 refine tka 1 21 hHeld ?_;simp only [putS]
 refine tka 3 23 hHeld ?_;simp only [putS]
 refine tka 4 24 hHeld ?_;simp only [putS]
 refine rd2 2 (some 22) 7 (some 7) (fun K hK=>?_) fun K hK=>?_
 all_goals clear hHeld
 go_simp
 refine(iCopyInts_c _ _ _ x.fVars _ (hxVars.below rInt_ok (hB.trans (hd0.mono hB.size)))).mono ?_
 rintro e w5 ⟨A1,n1,c1,rfl,m1,hb5⟩
 have hC1:=hd0.trans (hb5.mono hd0.size)
 go_wp2_with fail
 refine hK.out _ _ (HSS.out _ (hC1.mono hltx)) (fun hHeld=>?_)
 clear hK K
 try simp only [putS]
 refine rd2 5 (some 25) 7 (some 7) (fun K hK=>?_) fun K hK=>?_
 clear hHeld
 go_simp
 refine(iCopyRows_c _ _ _ x.fRows _ (hxRows.below (rSlice_ok NB _ rInt_ok) (hB.trans (hC1.mono hB.size)))).mono ?_
 rintro e w6 ⟨A2,n2,c2,rfl,m2,hb6⟩
 have hC2:=hC1.trans (hb6.mono hC1.size)
 go_wp2_with fail
 refine hK.out _ _ (HSS.out _ (hC2.mono hltx)) (fun hHeld=>?_)
 clear hK K
 try simp only [putS]
 refine tka 6 26 hHeld ?_;simp only [putS]
 have hC3:=hC2.trans (((Below.refl w6.heap.size w6).alloc (Nat.le_refl _) (.cells #[.slice none 0 0,.slice none 0 0] 51)).mono hC2.size)
 refine rd 7 (some 7) fun K hK=>?_
 clear hHeld
 go_simp
 refine hK.out _ _ (HSS.out _ (hC3.mono hltx)) (fun hHeld=>?_)
 clear hK K
 try simp only [putS]
 have hC4:=hC2.trans (((Below.refl w6.heap.size w6).alloc (Nat.le_refl _) (.cells #[.slice A1 n1 c1,.slice A2 n2 c2] 51)).mono hC2.size)
 refine rd 8 none fun K hK=>?_
 clear hHeld
 go_simp
 refine hK.out _ _ (HSS.out _ (hC4.mono hltx)) (fun hHeld=>?_)
 clear hK K
 try simp only [putS]
 refine wpAnyH_done (by kernel_rfl) ?_ _
 clear hHeld
 clear HSS
 obtain⟨o1,g1⟩:=m1.blkI
 replace g1:∀ k∈blk A1,w4.heap.size<=k:=fun k hk=>by have:=g1 k hk;simpa using this
 have l1:=o1.lt rInt_ok

 have z1:=hC1.size
 obtain⟨W,hW,ST⟩:=sts_new (gR:=w.heap.size+1) (gK:=w2.heap.size) (B2:=w5.heap.size) hC2 (o1.belowS rInt_ok hb6) (fun k hk=>⟨by have:=g1 k hk;omega,l1 k hk⟩) m2 (by omega) (by omega) hb6.size
 obtain⟨gO,hgO⟩:∃ g,g=w6.heap.size:=⟨_,rfl⟩
 rw [<- hW]
 clear hW
 rw [<- hgO]at ST ⊢
 clear hgO
 refine Hid.out (?_:Hid _)
 rotate_left
 clear hHeld
 have kZ:=Bk.new w5 [.slice none 0 0,.slice none 0 0] 51
 have hAz:=(Below.refl w5.heap.size w5).alloc (Nat.le_refl _) (.cells #[.slice none 0 0,.slice none 0 0] 51)
 have hCz:=hC1.trans (hAz.mono hC1.size)
 go_simp
 refine hK.out _ _ (HSS.out _ (hCz.mono hltx)) (fun hHeld=>?_)
 clear hK K
 try simp only [putS]
 refine rd 5 (some 25) fun K hK=>?_
 clear hHeld
 go_simp
 refine(iCopyRows_c _ _ _ x.fRows _ (hxRows.below (rSlice_ok NB _ rInt_ok) (hB.trans (hCz.mono hB.size)))).mono ?_
 rintro e w6 ⟨A2,n2,c2,rfl,m2,hb6⟩
 have hC2:=hCz.trans (hb6.mono hCz.size)
 go_wp2_with fail
 refine hK.out _ _ (HSS.out _ (hC2.mono hltx)) (fun hHeld=>?_)
 clear hK K
 try simp only [putS]
 refine tka 6 26 hHeld ?_;simp only [putS]
 have kZ6:=kZ.below hb6
 obtain⟨r0,f0,r1,f1⟩:=kZ6.r2
 refine rd 8 none fun K hK=>?_
 clear hHeld
 go_simp
 refine hK.out _ _ (HSS.out _ (bls2 (hC2.mono hltx) (by have:=hC1.size;omega) _ _)) (fun hHeld=>?_)
 clear hK K
 try simp only [putS]
 refine wpAnyH_done (by kernel_rfl) ?_ _
 clear hHeld
 clear HSS r0 f0 r1 f1
 obtain⟨o1,g1⟩:=m1.blkI
 replace g1:∀ k∈blk A1,w4.heap.size<=k:=fun k hk=>by have:=g1 k hk;simpa using this
 have l1:=o1.lt rInt_ok

 have z1:=hC1.size
 obtain⟨W,hW,ST⟩:=sts_set (gR:=w.heap.size+1) (gK:=w2.heap.size) (B2:=w5.heap.size+1) hC2 kZ6 hC1.size (Nat.lt_succ_self _) (fun k hk=>by have:=l1 k hk;omega) ((o1.belowS rInt_ok hAz).belowS rInt_ok hb6) (fun k hk=>⟨by have:=g1 k hk;omega,by have:=l1 k hk;omega⟩) (by simpa using m2) (by omega) (by omega)
 obtain⟨gO,hgO⟩:∃ g,g=w5.heap.size:=⟨_,rfl⟩
 rw [<- hW]
 clear hW
 rw [<- hgO]at ST ⊢
 clear hgO
 refine Hid.out (?_:Hid _)
 rotate_left
 have kZ:=Bk.new w4.drew [.slice none 0 0,.slice none 0 0] 51
 have hCz:=hd0.trans (((Below.refl w4.drew.heap.size w4.drew).alloc (Nat.le_refl _) (.cells #[.slice none 0 0,.slice none 0 0] 51)).mono hd0.size)
 go_simp
 refine hK.out _ _ (HSS.out _ (hCz.mono hltx)) (fun hHeld=>?_)
 clear hK K
 try simp only [putS]
 refine rd 2 (some 22) fun K hK=>?_
 clear hHeld
 go_simp
 refine(iCopyInts_c _ _ _ x.fVars _ (hxVars.below rInt_ok (hB.trans (hCz.mono hB.size)))).mono ?_
 rintro e w5 ⟨A1,n1,c1,rfl,m1,hb5⟩
 have hC1:=hCz.trans (hb5.mono hCz.size)
 go_wp2_with fail
 refine hK.out _ _ (HSS.out _ (hC1.mono hltx)) (fun hHeld=>?_)
 clear hK K
 try simp only [putS]
 refine rd 5 (some 25) fun K hK=>?_
 clear hHeld
 go_simp
 refine(iCopyRows_c _ _ _ x.fRows _ (hxRows.below (rSlice_ok NB _ rInt_ok) (hB.trans (hC1.mono hB.size)))).mono ?_
 rintro e w6 ⟨A2,n2,c2,rfl,m2,hb6⟩
 have hC2:=hC1.trans (hb6.mono hC1.size)
 go_wp2_with fail
 refine hK.out _ _ (HSS.out _ (hC2.mono hltx)) (fun hHeld=>?_)
 clear hK K
 try simp only [putS]
 refine tka 6 26 hHeld ?_;simp only [putS]
 have kZ6:Bk w6 w4.heap.size 51 [.slice none 0 0,.slice none 0 0]:=(kZ.below hb5).below hb6
 obtain⟨r0,f0,r1,f1⟩:=kZ6.r2
 refine rd 8 none fun K hK=>?_
 clear hHeld
 go_simp
 refine hK.out _ _ (HSS.out _ (bls2 (hC2.mono hltx) hltx _ _)) (fun hHeld=>?_)
 clear hK K
 try simp only [putS]
 refine wpAnyH_done (by kernel_rfl) ?_ _
 clear hHeld
 clear HSS r0 f0 r1 f1
 obtain⟨o1,g1⟩:=m1.blkI
 replace g1:∀ k∈blk A1,w4.heap.size+1<=k:=fun k hk=>by have:=g1 k hk;simpa using this
 have l1:=o1.lt rInt_ok

 have z1:=hC1.size
 obtain⟨W,hW,ST⟩:=sts_set (gR:=w.heap.size+1) (gK:=w2.heap.size) (B2:=w5.heap.size) hC2 kZ6 (Nat.le_refl _) (by have:=hb5.size;simp at this;omega) (fun k hk=>by have:=g1 k hk;show k≠w4.heap.size;omega) (o1.belowS rInt_ok hb6) (fun k hk=>⟨by have:=g1 k hk;omega,l1 k hk⟩) m2 (by omega) (by omega)
 obtain⟨gO,hgO⟩:∃ g,g=w4.heap.size:=⟨_,rfl⟩
 rw [<- hW]
 clear hW
 rw [<- hgO]at ST ⊢
 clear hgO
 refine Hid.out (?_:Hid _)
 all_goals
  refine Lib.hid ?_
  obtain⟨kK6,kR6,hB6⟩:Bk W w2.heap.size 3 [.int .i64 t]/\Bk W (w.heap.size+1) 51 [.slice none 0 0,.slice none 0 0]/\Below w.heap.size w W:=⟨kK.below ST.be,kR.below ST.be,hB.trans (ST.be.mono hB.size)⟩
  have ck:=kK6.bx 0 _ rfl
  have cO0:=ST.kO.bx 0 _ rfl
  have cO1:=ST.kO.bx 1 _ rfl
  have HST:=Lib.hid ST
  clear ST
  go_wp2_with fail
  refine(sortRowsAny_c HST.out.m2 ck HST.out.gK HC.out).mono ?_
  rintro e w8 ⟨rfl,m3,hb8,hs8⟩
  clear ck cO0 cO1
  have kO8:Bk w8 gO 51 [.slice A1 n1 c1,.slice A2 n2 c2]:=(hs8 _ HST.out.nO HST.out.kO.lt).trans HST.out.kO
  have kR8:Bk w8 (w.heap.size+1) 51 [.slice none 0 0,.slice none 0 0]:=(hs8 _ (fun hk=>by have:=HST.out.h2 _ hk;have:=HST.out.gR;omega) kR6.lt).trans kR6
  have d0:=kO8.bx 0 _ rfl
  have d1:=kO8.bx 1 _ rfl
  obtain⟨r0,f0,r1,f1⟩:=kR8.r2
  go_wp2
  have q:=kR8.s2
  refine bodyPost_ret (v:=_) (by simp [results,Tryz.results25,go_sem,q];rfl) rfl ?_
  rw [HS.out]
  obtain⟨fp,e1,e2,e3⟩:=sts_fin (w:=w) HST.out hs8 m3 (Nat.le_succ _) (hB6.trans (hb8.mono (by have:=HST.out.gR;omega))) (.slice A1 n1 c1) (.slice A2 n2 c2)
  exact⟨_,fp,rfl,e1,e2,e3⟩
end Go.Proofs.YtiafklphblkpbaaGreat
