/-
  JnU
-/
import Derived.Test.YtpodldagcnfhlaaGreatKeep
import Derived.Test.YtpodldagcnfhlaaGreatJnT
namespace Go.Proofs.YtpodldagcnfhlaaGreat
open Go.RowKit
set_option linter.unusedVariables false
set_option linter.unusedSimpArgs false

theorem MS.neI {B M:Nat}{eI t:TypeId}{w:World}{A:Option Addr}{n cap:Nat}{l:List Int}{g:Nat}{cs:List Value}{fp:List Nat}(o:OS M eI rInt w fp A n cap l) (hk:Bk w g t cs) (h2:t≠eI):g∉fp:=by
 obtain⟨e1,_,hown,_⟩:=osInt.1 o
 subst e1
 intro hm
 rcases hown.2 with ⟨e1,_⟩|⟨g',c,cur,e1,_,q,_⟩
 ·injection e1 with e1;subst e1;simp [blk]at hm
 ·injection e1 with e1;subst e1
  simp [blk]at hm;subst hm
  unfold Bk at hk;rw [hk]at q
  injection q with q;injection q with q1 q2;exact h2 q2
def OwnS (w:World) (B:Nat) (cs:List Value) (x:StreamD):Prop:=∃ fp,(rStream NB).own w fp cs x/\Fr B fp
theorem OwnS.below {w w':World}{B:Nat}{cs:List Value}{x:StreamD}(h:OwnS w B cs x) (hb:Below w.heap.size w w'):OwnS w' B cs x:=by
 obtain⟨fp,o,f⟩:=h;exact⟨fp,(rStream_ok NB).ownB o hb,f⟩
theorem OwnS.zero (w:World) (B:Nat):OwnS w B [.slice none 0 0,.slice none 0 0] ⟨[],[]⟩:=⟨[],zStream_own _,Fr.nil _⟩
theorem mkOwn {B:Nat}{w w':World}{AV AR:Option Addr}{nV cV nR cR:Nat}{V:List Int}{R:List (List Int)}(hV:MS B NB 3 rInt w AV nV cV V) (hR:MS w.heap.size NB 32 (rSlice NB 3 rInt) w' AR nR cR R) (hB:B<=w.heap.size) (hb:Below w.heap.size w w') :
  OwnS w' B [.slice AV nV cV,.slice AR nR cR] ⟨V,R⟩:=by
 obtain⟨f1,o1,r1⟩:=hV
 obtain⟨f2,o2,r2⟩:=hR
 exact⟨f1++f2,rStream_own.2 ⟨AV,nV,cV,AR,nR,cR,f1,f2,rfl,rfl,o1.belowS rInt_ok hb,o2⟩,Fr.append r1 r2 (fun k hk=>o1.lt rInt_ok k hk) hB⟩
theorem jfin {w W:World}{B gA gR:Nat}{cs cA:List Value}{x:StreamD}{v u1 u2 v1 v2:Value}(h:OwnS W B cs x) (hA:Bk W gA 35 cA) (hR:gR<B) (hwR:w.heap.size<=gR) (hwA:w.heap.size<=gA) (hb:Below w.heap.size w W) :
  RetVB (rStream NB) x v w (.returned (.tuple #[.agg cs.toArray,v])) ((((W.setCell ⟨gA,0,none⟩ u1).setCell ⟨gA,1,none⟩ u2).setCell ⟨gR,0,none⟩ v1).setCell ⟨gR,1,none⟩ v2):=by
 obtain⟨fp,o,f⟩:=h
 refine⟨cs,fp,rfl,(rStream_ok NB).okeep o (fun z hz=>?_),f.mono (by omega),bset2 (bset2 hb hwA _ _) hwR _ _⟩
 have hz2:=f.ge z hz
 have hn:z≠gA:=by
  obtain⟨A1,n1,c1,A2,n2,c2,f1,f2,rfl,rfl,o1,o2⟩:=rStream_own.1 o
  rcases List.mem_append.1 hz with h|h
  ·exact fun e=>MS.neI (B:=0) o1 hA neS2 (e▸h)
  ·exact fun e=>o2.neII hA neS1 neS2 (e▸h)
 have hn2:z≠gR:=by omega
 exact(heap_setCell_other _ ⟨gR,1,none⟩ z _ (fun e=>hn2 e)).trans ((heap_setCell_other _ ⟨gR,0,none⟩ z _ (fun e=>hn2 e)).trans ((heap_setCell_other _ ⟨gA,1,none⟩ z _ (fun e=>hn e)).trans (heap_setCell_other _ ⟨gA,0,none⟩ z _ (fun e=>hn e))))
set_option maxRecDepth 100000 in
set_option maxHeartbeats 1600000 in
theorem sl27Done_c (AV AR:Option Addr) (nV nR cV cR:Nat) (vars:List Int) (rows:List (List Int)) (B:Nat) (w:World) (h:OwnS w B [.slice AV nV cV,.slice AR nR cR] ⟨vars,cap4 rows⟩) :
  Calls Tryz.prog 204 #[.agg #[.slice AV nV cV,.slice AR nR cR]] w fun e w'=>∃ B1 m1 d1 B2 m2 d2,e=.returned (.tuple #[.agg #[.slice B1 m1 d1,.slice B2 m2 d2],.bool (capS vars rows).2])/\OwnS w' B [.slice B1 m1 d1,.slice B2 m2 d2] (capS vars rows).1/\Below w.heap.size w w':=by
 have hl:(cap4 rows).length=nR:=by
  obtain⟨fp,o,f⟩:=h
  obtain⟨A1,n1,c1,A2,n2,c2,f1,f2,e,_,o1,o2⟩:=rStream_own.1 o
  injection e with e1 e2;injection e2 with e2 e3;injection e2 with e2 e4 e5
  subst e4;exact o2.len
 have hA:=(Below.refl w.heap.size w).alloc (Nat.le_refl _) (.cells #[.slice AV nV cV,.slice AR nR cR] 35)
 have hB:=hA.alloc hA.size (.cells #[.slice none 0 0,.slice none 0 0] 35)
 have q1:=(Bk.new w [.slice AV nV cV,.slice AR nR cR] 35).below ((Below.refl _ _).alloc (Nat.le_refl _) (.cells #[.slice none 0 0,.slice none 0 0] 35))
 have q2:=Bk.new (w.alloc (.cells #[.slice AV nV cV,.slice AR nR cR] 35)) [.slice none 0 0,.slice none 0 0] 35
 simp only [World.size_alloc]at q2
 have k0:=q1.bx 0 _ rfl
 have k1:=q1.bx 1 _ rfl
 have rf0:=q2.frozen 0
 have rf1:=q2.frozen 1
 have rc0:=q2.bx 0 _ rfl
 have rc1:=q2.bx 1 _ rfl
 have rl:=q2.lt
 by_cases h4:(4096:Int)<nR
 ·have HC:Hid (capS vars rows=(⟨[],[]⟩,false)):=by
   show _=_
   unfold capS;rw [if_neg (fun h=>by have:=cap4_test.2 h;omega)]
  clear hl
  go_enter Tryz.func204,Tryz.ntmps204
  go_wp2
  have bk3:=(q2.set 0 (.slice none 0 0)).set 1 (.slice none 0 0)
  have z0:=bk3.bx 0 _ rfl
  have z1:=bk3.bx 1 _ rfl
  refine bodyPost_ret (v:=.tuple #[.agg #[.slice none 0 0,.slice none 0 0],.bool false]) (by simp [results,Tryz.results204,go_sem,z0,z1]) rfl ?_
  exact⟨_,_,_,_,_,_,by rw [HC.out],by rw [HC.out];exact OwnS.zero _ _,hA.alloc hA.size _⟩
 ·have hle:rows.length<=4096:=cap4_test.1 (by omega)
  have HC:Hid (capS vars rows=(⟨vars,cap4 rows⟩,true)):=by
   show _=_
   unfold capS;rw [if_pos hle,cap4_small (by omega)]
  clear hl hle
  go_enter Tryz.func204,Tryz.ntmps204
  go_wp2
  have bk3:=(q2.set 0 (.slice AV nV cV)).set 1 (.slice AR nR cR)
  have z0:=bk3.bx 0 _ rfl
  have z1:=bk3.bx 1 _ rfl
  refine bodyPost_ret (v:=.tuple #[.agg #[.slice AV nV cV,.slice AR nR cR],.bool true]) (by simp [results,Tryz.results204,go_sem,z0,z1]) rfl ?_
  exact⟨_,_,_,_,_,_,by rw [HC.out],by rw [HC.out];exact h.below (hA.alloc hA.size _),hA.alloc hA.size _⟩
set_option maxRecDepth 100000 in
set_option maxHeartbeats 1600000 in
theorem sNestedJoin_c (csx:List Value) (x:StreamD) (csy:List Value) (y:StreamD) (w:World) (hx:(rStream NB).rep w csx x) (hy:(rStream NB).rep w csy y) :
  Calls Tryz.prog 147 #[.agg csx.toArray,.agg csy.toArray] w (RetVB (rStream NB) (nestedJoin x y).1 (.bool (nestedJoin x y).2) w):=by
 have rx:=hx
 obtain⟨AxVars,nxVars,cxVars,AxRows,nxRows,cxRows,rfl,hxVars,hxRows⟩:=rStream_rep.1 hx
 clear hx
 have ry:=hy
 obtain⟨AyVars,nyVars,cyVars,AyRows,nyRows,cyRows,rfl,hyVars,hyRows⟩:=rStream_rep.1 hy
 clear hy
 have hB:Below w.heap.size w w:=Below.refl _ _
 have hAx:=(Below.refl (World.heap (w)).size (w)).alloc (Nat.le_refl _) (.cells #[.slice AxVars nxVars cxVars,.slice AxRows nxRows cxRows] 35)
 replace hB:=hB.trans (hAx.mono hB.size)
 have bxx:=Bx.new (w) [.slice AxVars nxVars cxVars,.slice AxRows nxRows cxRows] 35
 clear hAx
 have hAy:=(Below.refl (World.heap ((w).alloc (.cells #[.slice AxVars nxVars cxVars,.slice AxRows nxRows cxRows] 35))).size ((w).alloc (.cells #[.slice AxVars nxVars cxVars,.slice AxRows nxRows cxRows] 35))).alloc (Nat.le_refl _) (.cells #[.slice AyVars nyVars cyVars,.slice AyRows nyRows cyRows] 35)
 replace hB:=hB.trans (hAy.mono hB.size)
 replace bxx:=bxx.below hAy
 have bxy:=Bx.new ((w).alloc (.cells #[.slice AxVars nxVars cxVars,.slice AxRows nxRows cxRows] 35)) [.slice AyVars nyVars cyVars,.slice AyRows nyRows cyRows] 35
 simp only [World.size_alloc]at bxy
 clear hAy
 have hnx:=hxRows.bound
 have hny:=hyRows.bound
 obtain⟨wa,hwa⟩:∃ wa,wa=(w.alloc (.cells #[.slice AxVars nxVars cxVars,.slice AxRows nxRows cxRows] 35)).alloc (.cells #[.slice AyVars nyVars cyVars,.slice AyRows nyRows cyRows] 35):=⟨_,rfl⟩
 rw [<- hwa]at hB bxx bxy
 have hsa:wa.heap.size=w.heap.size+1+1:=by rw [hwa];simp
 have hBA:=(Below.refl wa.heap.size wa).alloc (Nat.le_refl _) (.cells #[.slice none 0 0,.slice none 0 0] 35)
 have bkR:=Bk.new wa [.slice none 0 0,.slice none 0 0] 35
 replace hB:=hB.trans (hBA.mono hB.size)
 replace bxx:=bxx.below hBA
 replace bxy:=bxy.below hBA
 clear hBA
 rw [hwa]at hB bxx bxy bkR hsa
 have HSA:=Lib.hid hsa;clear hsa
 simp only [World.size_alloc]at bkR
 clear hwa
 go_enter Tryz.func147,Tryz.ntmps147
 have kx_0:=bxx 0 _ rfl
 have kx_1:=bxx 1 _ rfl
 go_wp2_with fail
 refine(sIsValidStream_c _ x _ ((rStream_ok NB).keep rx (cells_below hB))).mono ?_
 rintro e w1 ⟨rfl,hb1⟩
 replace hB:=hB.trans (hb1.mono hB.size)
 replace bxx:=bxx.below hb1
 replace bxy:=bxy.below hb1
 replace bkR:=bkR.below hb1
 clear hb1 kx_0 kx_1
 cases e1:validStream x
 ·have rf0:=bkR.frozen 0
  have rf1:=bkR.frozen 1
  have rc0:=bkR.bx 0 _ rfl
  have rc1:=bkR.bx 1 _ rfl
  have rl:=bkR.lt
  have he:nestedJoin x y=(⟨[],[]⟩,false):=by simp [nestedJoin,e1]
  have HE:=Lib.hid he;clear he
  go_wp2
  have bk3:=(bkR.set 0 (.slice none 0 0)).set 1 (.slice none 0 0)
  have q0:=bk3.bx 0 _ rfl
  have q1:=bk3.bx 1 _ rfl
  refine bodyPost_ret (v:=.tuple #[.agg #[.slice none 0 0,.slice none 0 0],.bool false]) (by simp [results,Tryz.results147,go_sem,q0,q1]) rfl ?_
  rw [HE.out]
  exact⟨[.slice none 0 0,.slice none 0 0],[],rfl,zStream_own _,Fr.nil _,bset2 hB (by omega) _ _⟩
 have ky_0:=bxy 0 _ rfl
 have ky_1:=bxy 1 _ rfl
 go_wp2_with fail
 refine(sIsValidStream_c _ y _ ((rStream_ok NB).keep ry (cells_below hB))).mono ?_
 rintro e w2 ⟨rfl,hb2⟩
 replace hB:=hB.trans (hb2.mono hB.size)
 replace bxx:=bxx.below hb2
 replace bxy:=bxy.below hb2
 replace bkR:=bkR.below hb2
 clear hb2 ky_0 ky_1
 cases e2:validStream y
 ·have rf0:=bkR.frozen 0
  have rf1:=bkR.frozen 1
  have rc0:=bkR.bx 0 _ rfl
  have rc1:=bkR.bx 1 _ rfl
  have rl:=bkR.lt
  have he:nestedJoin x y=(⟨[],[]⟩,false):=by simp [nestedJoin,e2]
  have HE:=Lib.hid he;clear he
  go_wp2
  have bk3:=(bkR.set 0 (.slice none 0 0)).set 1 (.slice none 0 0)
  have q0:=bk3.bx 0 _ rfl
  have q1:=bk3.bx 1 _ rfl
  refine bodyPost_ret (v:=.tuple #[.agg #[.slice none 0 0,.slice none 0 0],.bool false]) (by simp [results,Tryz.results147,go_sem,q0,q1]) rfl ?_
  rw [HE.out]
  exact⟨[.slice none 0 0,.slice none 0 0],[],rfl,zStream_own _,Fr.nil _,bset2 hB (by omega) _ _⟩
 have HE:Hid (nestedJoin x y=capS (unionI x.fVars y.fVars) (nestRows (fun p q=>joinBy x y p q) x.fRows y.fRows)):=by show _=_;simp [nestedJoin,e1,e2]
 have VX:=Lib.hid e1;clear e1
 have VY:=Lib.hid e2;clear e2
 have RX:=(hxRows.below (rSlice_ok NB _ rInt_ok) hB)
 have RY:=(hyRows.below (rSlice_ok NB _ rInt_ok) hB)
 have RVx:=(hxVars.below rInt_ok hB)
 have RVy:=(hyVars.below rInt_ok hB)
 have HSS:=Lib.hid (fun (w':World) (h:Below w2.heap.size w2 w')=>(⟨(bxx.below h) 0 _ rfl,(bxx.below h) 1 _ rfl,(bxy.below h) 0 _ rfl,(bxy.below h) 1 _ rfl⟩:w'.cell? ⟨w.heap.size,0,none⟩=some (.slice AxVars nxVars cxVars)/\w'.cell? ⟨w.heap.size,1,none⟩=some (.slice AxRows nxRows cxRows)/\w'.cell? ⟨w.heap.size+1,0,none⟩=some (.slice AyVars nyVars cyVars)/\w'.cell? ⟨w.heap.size+1,1,none⟩=some (.slice AyRows nyRows cyRows)))
 have F:Below w2.heap.size w2 w2.drew:=(Below.refl _ _).drew
 go_wp2_with fail
 refine wp_region_held_drew (S:=fun w'=>w'.cell? ⟨w.heap.size,0,none⟩=some (.slice AxVars nxVars cxVars)/\w'.cell? ⟨w.heap.size,1,none⟩=some (.slice AxRows nxRows cxRows)/\w'.cell? ⟨w.heap.size+1,0,none⟩=some (.slice AyVars nyVars cyVars)/\w'.cell? ⟨w.heap.size+1,1,none⟩=some (.slice AyRows nyRows cyRows)) (by kernel_rfl) ?_ (fun hHeld=>?_)
 ·exact HSS.out _ (Below.refl _ _).drew
 refine tk 0 (some 18) rfl (by kernel_rfl) (by kernel_rfl) (by kernel_rfl) (fun _ _ _ h=>h) (by rfl) hHeld (fun w h=>by(try dsimp only at h);((go_simp)<;>with_reducible rfl)) ?_
 try simp only [putS]
 refine tk 1 (some 19) rfl (by kernel_rfl) (by kernel_rfl) (by kernel_rfl) (fun _ _ _ h=>h) (by rfl) hHeld (fun w h=>by(try dsimp only at h);((go_simp)<;>with_reducible rfl)) ?_
 try simp only [putS]
 refine tk 2 (some 20) rfl (by kernel_rfl) (by kernel_rfl) (by kernel_rfl) (fun _ _ _ h=>h) (by rfl) hHeld (fun w h=>by(try dsimp only at h);((go_simp)<;>with_reducible rfl)) ?_
 try simp only [putS]
 refine tk 3 (some 21) rfl (by kernel_rfl) (by kernel_rfl) (by kernel_rfl) (fun _ _ _ h=>h) (by rfl) hHeld (fun w h=>by(try dsimp only at h);((go_simp)<;>with_reducible rfl)) ?_
 try simp only [putS]
 refine tk 4 (some 22) rfl (by kernel_rfl) (by kernel_rfl) (by kernel_rfl) (fun _ _ _ h=>h) (by rfl) hHeld (fun w h=>by(try dsimp only at h);((go_simp)<;>with_reducible rfl)) ?_
 try simp only [putS]
 refine tk 5 (some 23) rfl (by kernel_rfl) (by kernel_rfl) (by kernel_rfl) (fun _ _ _ h=>h) (by rfl) hHeld (fun w h=>by(try dsimp only at h);((go_simp)<;>with_reducible rfl)) ?_
 try simp only [putS]
 refine wpAnyH_ready (rs:=[6,13]) (by kernel_rfl) (by simp) ?_
 refine(AllReadyH.cons (o:=⟨some 24,_,_,_,_,_⟩) rfl (fun K hK=>?_) (AllReadyH.cons (o:=⟨some 6,_,_,_,_,_⟩) rfl (fun K hK=>?_) AllReadyH.nil))
 all_goals clear hHeld
 ·go_simp
  refine(sl27Union_c _ _ _ _ _ _ x.fVars y.fVars _ (RVx.below rInt_ok F) (RVy.below rInt_ok F)).mono ?_
  rintro e wu ⟨AV,nV,cV,rfl,hMV,hbu⟩
  replace hMV:=hMV.base F.size
  replace F:=F.trans (hbu.mono F.size)
  clear hbu
  go_wp2_with fail
  refine hK.out _ _ (HSS.out _ F) (fun hHeld=>?_)
  clear hK K
  try simp only [putS]
  refine tk 7 (some 25) rfl (by kernel_rfl) (by kernel_rfl) (by kernel_rfl) (fun _ _ _ h=>h) (by rfl) hHeld (fun w h=>by(try dsimp only at h);((go_simp)<;>with_reducible rfl)) ?_
  try simp only [putS]
  refine wpAnyH_ready (rs:=[8,13]) (by kernel_rfl) (by simp) ?_
  refine(AllReadyH.cons (o:=⟨some 26,_,_,_,_,_⟩) rfl (fun K hK=>?_) (AllReadyH.cons (o:=⟨some 6,_,_,_,_,_⟩) rfl (fun K hK=>?_) AllReadyH.nil))
  all_goals clear hHeld
  ·go_simp
   refine(sl27JoinN_c _ _ _ _ _ _ _ _ _ _ _ _ _ _ _ _ _ _ x y [] _ _ (RVx.below rInt_ok F) (RX.below (rSlice_ok NB _ rInt_ok) F) (RVy.below rInt_ok F) (RY.below (rSlice_ok NB _ rInt_ok) F) VX.out VY.out (hMV.rs rInt_ok) (MS.nil _ (Nat.zero_le _)) (Below.refl _ _)).mono ?_
   rintro e wj ⟨AR,nR,cR,rfl,hMR,hbj⟩
   have hO:OwnS wj w2.heap.size [.slice AV nV cV,.slice AR nR cR] ⟨unionI x.fVars y.fVars,cap4 (nestRows (fun p q=>joinBy x y p q) x.fRows y.fRows)⟩:=mkOwn hMV hMR F.size hbj
   clear hMV hMR
   replace F:=F.trans (hbj.mono F.size)
   clear hbj
   go_wp2_with fail
   refine hK.out _ _ (HSS.out _ F) (fun hHeld=>?_)
   clear hK K
   try simp only [putS]
   refine wpAnyH_ready (rs:=[9,13]) (by kernel_rfl) (by simp) ?_
   refine(AllReadyH.cons (o:=⟨some 27,_,_,_,_,_⟩) rfl (fun K hK=>?_) (AllReadyH.cons (o:=⟨some 6,_,_,_,_,_⟩) rfl (fun K hK=>?_) AllReadyH.nil))
   all_goals clear hHeld
   ·go_simp
    refine(sl27Done_c _ _ _ _ _ _ _ _ _ _ hO).mono ?_
    rintro e wd ⟨B1,m1,d1,B2,m2,d2,rfl,hO,hbd⟩
    replace F:=F.trans (hbd.mono F.size)
    clear hbd
    go_wp2_with fail
    refine hK.out _ _ (HSS.out _ F) (fun hHeld=>?_)
    clear hK K
    try simp only [putS]
    refine tk 10 (some 17) rfl (by kernel_rfl) (by kernel_rfl) (by kernel_rfl) (fun _ _ _ h=>h) (by rfl) hHeld (fun w h=>by(try dsimp only at h);((go_simp)<;>with_reducible rfl)) ?_
    try simp only [putS]
    refine tk 11 (some 28) rfl (by kernel_rfl) (by kernel_rfl) (by kernel_rfl) (fun _ _ _ h=>h) (by rfl) hHeld (fun w h=>by(try dsimp only at h);((go_simp)<;>with_reducible rfl)) ?_
    try simp only [putS]
    refine tk 12 (some 29) rfl (by kernel_rfl) (by kernel_rfl) (by kernel_rfl) (fun _ _ _ h=>h) (by rfl) hHeld (fun w h=>by(try dsimp only at h);((go_simp)<;>with_reducible rfl)) ?_
    try simp only [putS]
    have bkA:=Bk.new (wd) [.slice none 0 0,.slice none 0 0] 35
    have hgA:=Lib.hid F.size
    have hAl:=(Below.refl (World.heap (wd)).size (wd)).alloc (Nat.le_refl _) (.cells #[.slice none 0 0,.slice none 0 0] 35)
    replace hO:=hO.below hAl
    replace F:=F.trans (hAl.mono F.size)
    clear hAl
    refine wpAnyH_ready (rs:=[13]) (by kernel_rfl) (by simp) ?_
    refine AllReadyH.cons (o:=⟨some 6,_,_,_,_,_⟩) rfl (fun K hK=>?_) AllReadyH.nil
    clear hHeld
    go_simp
    refine hK.out _ _ (HSS.out _ F) (fun hHeld=>?_)
    clear hK K
    try simp only [putS]
    generalize hwz:World.alloc wd (.cells #[.slice none 0 0,.slice none 0 0] 35)=wz at bkA F hO hHeld ⊢
    clear hwz
    have fA0:=bkA.frozen 0
    have fA1:=bkA.frozen 1
    have kA0:=bkA.bx 0 _ rfl
    have kA1:=bkA.bx 1 _ rfl
    have lA:=bkA.lt
    refine wpAnyH_ready (rs:=[14]) (by kernel_rfl) (by simp) ?_
    refine AllReadyH.cons (o:=⟨none,_,_,_,_,_⟩) rfl (fun K hK=>?_) AllReadyH.nil
    clear hHeld
    go_simp
    refine hK.out _ _ (HSS.out _ (bset2 F hgA.out (.slice B1 m1 d1) (.slice B2 m2 d2))) (fun hHeld=>?_)
    clear hK K
    try simp only [putS]
    refine tk 15 (some 7) rfl (by kernel_rfl) (by kernel_rfl) (by kernel_rfl) (fun _ _ _ h=>h) (by rfl) hHeld (fun w h=>by(try dsimp only at h);((go_simp)<;>with_reducible rfl)) ?_
    try simp only [putS]
    refine wpAnyH_done (by kernel_rfl) ?_ _
    clear hHeld
    clear fA0 fA1 kA0 kA1 lA
    have bkS:=(bkA.set 0 (.slice B1 m1 d1)).set 1 (.slice B2 m2 d2)
    have s0:=bkS.bx 0 _ rfl
    have s1:=bkS.bx 1 _ rfl
    have bkR5:=bkR.below (bset2 F hgA.out (.slice B1 m1 d1) (.slice B2 m2 d2))
    have rf0:=bkR5.frozen 0
    have rf1:=bkR5.frozen 1
    have rc0:=bkR5.bx 0 _ rfl
    have rc1:=bkR5.bx 1 _ rfl
    have rl:=bkR5.lt
    clear HSS
    go_wp2
    have bk3:=(bkR5.set 0 (.slice B1 m1 d1)).set 1 (.slice B2 m2 d2)
    have q0:=bk3.bx 0 _ rfl
    have q1:=bk3.bx 1 _ rfl
    refine bodyPost_ret (v:=.tuple #[.agg #[.slice B1 m1 d1,.slice B2 m2 d2],.bool (capS (unionI x.fVars y.fVars) (nestRows (fun p q=>joinBy x y p q) x.fRows y.fRows)).2]) (by simp [results,Tryz.results147,go_sem,q0,q1]) rfl ?_
    rw [HE.out]
    have hYl:=bkR.lt
    have hsB:=hB.size
    exact jfin (cs:=[(.slice B1 m1 d1),(.slice B2 m2 d2)]) hO bkA hYl (by omega) (Nat.le_trans hsB hgA.out) (hB.trans (F.mono hsB))
   ·go_simp
    have bkA:=Bk.new (wj) [.slice none 0 0,.slice none 0 0] 35
    have hgA:=Lib.hid F.size
    have hAl:=(Below.refl (World.heap (wj)).size (wj)).alloc (Nat.le_refl _) (.cells #[.slice none 0 0,.slice none 0 0] 35)
    replace hO:=hO.below hAl
    replace F:=F.trans (hAl.mono F.size)
    clear hAl
    refine hK.out _ _ (HSS.out _ F) (fun hHeld=>?_)
    clear hK K
    try simp only [putS]
    refine wpAnyH_ready (rs:=[9]) (by kernel_rfl) (by simp) ?_
    refine AllReadyH.cons (o:=⟨some 27,_,_,_,_,_⟩) rfl (fun K hK=>?_) AllReadyH.nil
    clear hHeld
    go_simp
    refine(sl27Done_c _ _ _ _ _ _ _ _ _ _ hO).mono ?_
    rintro e wd ⟨B1,m1,d1,B2,m2,d2,rfl,hO,hbd⟩
    replace F:=F.trans (hbd.mono F.size)
    replace bkA:=bkA.below hbd
    clear hbd
    go_wp2_with fail
    refine hK.out _ _ (HSS.out _ F) (fun hHeld=>?_)
    clear hK K
    try simp only [putS]
    refine tk 10 (some 17) rfl (by kernel_rfl) (by kernel_rfl) (by kernel_rfl) (fun _ _ _ h=>h) (by rfl) hHeld (fun w h=>by(try dsimp only at h);((go_simp)<;>with_reducible rfl)) ?_
    try simp only [putS]
    refine tk 11 (some 28) rfl (by kernel_rfl) (by kernel_rfl) (by kernel_rfl) (fun _ _ _ h=>h) (by rfl) hHeld (fun w h=>by(try dsimp only at h);((go_simp)<;>with_reducible rfl)) ?_
    try simp only [putS]
    refine tk 12 (some 29) rfl (by kernel_rfl) (by kernel_rfl) (by kernel_rfl) (fun _ _ _ h=>h) (by rfl) hHeld (fun w h=>by(try dsimp only at h);((go_simp)<;>with_reducible rfl)) ?_
    try simp only [putS]
    have fA0:=bkA.frozen 0
    have fA1:=bkA.frozen 1
    have kA0:=bkA.bx 0 _ rfl
    have kA1:=bkA.bx 1 _ rfl
    have lA:=bkA.lt
    refine wpAnyH_ready (rs:=[14]) (by kernel_rfl) (by simp) ?_
    refine AllReadyH.cons (o:=⟨none,_,_,_,_,_⟩) rfl (fun K hK=>?_) AllReadyH.nil
    clear hHeld
    go_simp
    refine hK.out _ _ (HSS.out _ (bset2 F hgA.out (.slice B1 m1 d1) (.slice B2 m2 d2))) (fun hHeld=>?_)
    clear hK K
    try simp only [putS]
    refine tk 15 (some 7) rfl (by kernel_rfl) (by kernel_rfl) (by kernel_rfl) (fun _ _ _ h=>h) (by rfl) hHeld (fun w h=>by(try dsimp only at h);((go_simp)<;>with_reducible rfl)) ?_
    try simp only [putS]
    refine wpAnyH_done (by kernel_rfl) ?_ _
    clear hHeld
    clear fA0 fA1 kA0 kA1 lA
    have bkS:=(bkA.set 0 (.slice B1 m1 d1)).set 1 (.slice B2 m2 d2)
    have s0:=bkS.bx 0 _ rfl
    have s1:=bkS.bx 1 _ rfl
    have bkR5:=bkR.below (bset2 F hgA.out (.slice B1 m1 d1) (.slice B2 m2 d2))
    have rf0:=bkR5.frozen 0
    have rf1:=bkR5.frozen 1
    have rc0:=bkR5.bx 0 _ rfl
    have rc1:=bkR5.bx 1 _ rfl
    have rl:=bkR5.lt
    clear HSS
    go_wp2
    have bk3:=(bkR5.set 0 (.slice B1 m1 d1)).set 1 (.slice B2 m2 d2)
    have q0:=bk3.bx 0 _ rfl
    have q1:=bk3.bx 1 _ rfl
    refine bodyPost_ret (v:=.tuple #[.agg #[.slice B1 m1 d1,.slice B2 m2 d2],.bool (capS (unionI x.fVars y.fVars) (nestRows (fun p q=>joinBy x y p q) x.fRows y.fRows)).2]) (by simp [results,Tryz.results147,go_sem,q0,q1]) rfl ?_
    rw [HE.out]
    have hYl:=bkR.lt
    have hsB:=hB.size
    exact jfin (cs:=[(.slice B1 m1 d1),(.slice B2 m2 d2)]) hO bkA hYl (by omega) (Nat.le_trans hsB hgA.out) (hB.trans (F.mono hsB))
  ·go_simp
   have bkA:=Bk.new (wu) [.slice none 0 0,.slice none 0 0] 35
   have hgA:=Lib.hid F.size
   have hAl:=(Below.refl (World.heap (wu)).size (wu)).alloc (Nat.le_refl _) (.cells #[.slice none 0 0,.slice none 0 0] 35)
   replace hMV:=hMV.below rInt_ok hAl
   replace F:=F.trans (hAl.mono F.size)
   clear hAl
   refine hK.out _ _ (HSS.out _ F) (fun hHeld=>?_)
   clear hK K
   try simp only [putS]
   refine wpAnyH_ready (rs:=[8]) (by kernel_rfl) (by simp) ?_
   refine AllReadyH.cons (o:=⟨some 26,_,_,_,_,_⟩) rfl (fun K hK=>?_) AllReadyH.nil
   clear hHeld
   go_simp
   refine(sl27JoinN_c _ _ _ _ _ _ _ _ _ _ _ _ _ _ _ _ _ _ x y [] _ _ (RVx.below rInt_ok F) (RX.below (rSlice_ok NB _ rInt_ok) F) (RVy.below rInt_ok F) (RY.below (rSlice_ok NB _ rInt_ok) F) VX.out VY.out (hMV.rs rInt_ok) (MS.nil _ (Nat.zero_le _)) (Below.refl _ _)).mono ?_
   rintro e wj ⟨AR,nR,cR,rfl,hMR,hbj⟩
   have hO:OwnS wj w2.heap.size [.slice AV nV cV,.slice AR nR cR] ⟨unionI x.fVars y.fVars,cap4 (nestRows (fun p q=>joinBy x y p q) x.fRows y.fRows)⟩:=mkOwn hMV hMR F.size hbj
   clear hMV hMR
   replace F:=F.trans (hbj.mono F.size)
   replace bkA:=bkA.below hbj
   clear hbj
   go_wp2_with fail
   refine hK.out _ _ (HSS.out _ F) (fun hHeld=>?_)
   clear hK K
   try simp only [putS]
   refine wpAnyH_ready (rs:=[9]) (by kernel_rfl) (by simp) ?_
   refine AllReadyH.cons (o:=⟨some 27,_,_,_,_,_⟩) rfl (fun K hK=>?_) AllReadyH.nil
   clear hHeld
   go_simp
   refine(sl27Done_c _ _ _ _ _ _ _ _ _ _ hO).mono ?_
   rintro e wd ⟨B1,m1,d1,B2,m2,d2,rfl,hO,hbd⟩
   replace F:=F.trans (hbd.mono F.size)
   replace bkA:=bkA.below hbd
   clear hbd
   go_wp2_with fail
   refine hK.out _ _ (HSS.out _ F) (fun hHeld=>?_)
   clear hK K
   try simp only [putS]
   refine tk 10 (some 17) rfl (by kernel_rfl) (by kernel_rfl) (by kernel_rfl) (fun _ _ _ h=>h) (by rfl) hHeld (fun w h=>by(try dsimp only at h);((go_simp)<;>with_reducible rfl)) ?_
   try simp only [putS]
   refine tk 11 (some 28) rfl (by kernel_rfl) (by kernel_rfl) (by kernel_rfl) (fun _ _ _ h=>h) (by rfl) hHeld (fun w h=>by(try dsimp only at h);((go_simp)<;>with_reducible rfl)) ?_
   try simp only [putS]
   refine tk 12 (some 29) rfl (by kernel_rfl) (by kernel_rfl) (by kernel_rfl) (fun _ _ _ h=>h) (by rfl) hHeld (fun w h=>by(try dsimp only at h);((go_simp)<;>with_reducible rfl)) ?_
   try simp only [putS]
   have fA0:=bkA.frozen 0
   have fA1:=bkA.frozen 1
   have kA0:=bkA.bx 0 _ rfl
   have kA1:=bkA.bx 1 _ rfl
   have lA:=bkA.lt
   refine wpAnyH_ready (rs:=[14]) (by kernel_rfl) (by simp) ?_
   refine AllReadyH.cons (o:=⟨none,_,_,_,_,_⟩) rfl (fun K hK=>?_) AllReadyH.nil
   clear hHeld
   go_simp
   refine hK.out _ _ (HSS.out _ (bset2 F hgA.out (.slice B1 m1 d1) (.slice B2 m2 d2))) (fun hHeld=>?_)
   clear hK K
   try simp only [putS]
   refine tk 15 (some 7) rfl (by kernel_rfl) (by kernel_rfl) (by kernel_rfl) (fun _ _ _ h=>h) (by rfl) hHeld (fun w h=>by(try dsimp only at h);((go_simp)<;>with_reducible rfl)) ?_
   try simp only [putS]
   refine wpAnyH_done (by kernel_rfl) ?_ _
   clear hHeld
   clear fA0 fA1 kA0 kA1 lA
   have bkS:=(bkA.set 0 (.slice B1 m1 d1)).set 1 (.slice B2 m2 d2)
   have s0:=bkS.bx 0 _ rfl
   have s1:=bkS.bx 1 _ rfl
   have bkR5:=bkR.below (bset2 F hgA.out (.slice B1 m1 d1) (.slice B2 m2 d2))
   have rf0:=bkR5.frozen 0
   have rf1:=bkR5.frozen 1
   have rc0:=bkR5.bx 0 _ rfl
   have rc1:=bkR5.bx 1 _ rfl
   have rl:=bkR5.lt
   clear HSS
   go_wp2
   have bk3:=(bkR5.set 0 (.slice B1 m1 d1)).set 1 (.slice B2 m2 d2)
   have q0:=bk3.bx 0 _ rfl
   have q1:=bk3.bx 1 _ rfl
   refine bodyPost_ret (v:=.tuple #[.agg #[.slice B1 m1 d1,.slice B2 m2 d2],.bool (capS (unionI x.fVars y.fVars) (nestRows (fun p q=>joinBy x y p q) x.fRows y.fRows)).2]) (by simp [results,Tryz.results147,go_sem,q0,q1]) rfl ?_
   rw [HE.out]
   have hYl:=bkR.lt
   have hsB:=hB.size
   exact jfin (cs:=[(.slice B1 m1 d1),(.slice B2 m2 d2)]) hO bkA hYl (by omega) (Nat.le_trans hsB hgA.out) (hB.trans (F.mono hsB))
 ·go_simp
  have bkA:Bk ((w2.drew).alloc (.cells #[.slice none 0 0,.slice none 0 0] 35)) w2.heap.size 35 [.slice none 0 0,.slice none 0 0]:=Bk.new (w2.drew) [.slice none 0 0,.slice none 0 0] 35
  have hgA:=Lib.hid (Nat.le_refl w2.heap.size)
  have hAl:=(Below.refl (World.heap (w2.drew)).size (w2.drew)).alloc (Nat.le_refl _) (.cells #[.slice none 0 0,.slice none 0 0] 35)
  replace F:=F.trans (hAl.mono F.size)
  clear hAl
  refine hK.out _ _ (HSS.out _ F) (fun hHeld=>?_)
  clear hK K
  try simp only [putS]
  refine wpAnyH_ready (rs:=[6]) (by kernel_rfl) (by simp) ?_
  refine AllReadyH.cons (o:=⟨some 24,_,_,_,_,_⟩) rfl (fun K hK=>?_) AllReadyH.nil
  clear hHeld
  go_simp
  refine(sl27Union_c _ _ _ _ _ _ x.fVars y.fVars _ (RVx.below rInt_ok F) (RVy.below rInt_ok F)).mono ?_
  rintro e wu ⟨AV,nV,cV,rfl,hMV,hbu⟩
  replace hMV:=hMV.base F.size
  replace F:=F.trans (hbu.mono F.size)
  replace bkA:=bkA.below hbu
  clear hbu
  go_wp2_with fail
  refine hK.out _ _ (HSS.out _ F) (fun hHeld=>?_)
  clear hK K
  try simp only [putS]
  refine tk 7 (some 25) rfl (by kernel_rfl) (by kernel_rfl) (by kernel_rfl) (fun _ _ _ h=>h) (by rfl) hHeld (fun w h=>by(try dsimp only at h);((go_simp)<;>with_reducible rfl)) ?_
  try simp only [putS]
  refine wpAnyH_ready (rs:=[8]) (by kernel_rfl) (by simp) ?_
  refine AllReadyH.cons (o:=⟨some 26,_,_,_,_,_⟩) rfl (fun K hK=>?_) AllReadyH.nil
  clear hHeld
  go_simp
  refine(sl27JoinN_c _ _ _ _ _ _ _ _ _ _ _ _ _ _ _ _ _ _ x y [] _ _ (RVx.below rInt_ok F) (RX.below (rSlice_ok NB _ rInt_ok) F) (RVy.below rInt_ok F) (RY.below (rSlice_ok NB _ rInt_ok) F) VX.out VY.out (hMV.rs rInt_ok) (MS.nil _ (Nat.zero_le _)) (Below.refl _ _)).mono ?_
  rintro e wj ⟨AR,nR,cR,rfl,hMR,hbj⟩
  have hO:OwnS wj w2.heap.size [.slice AV nV cV,.slice AR nR cR] ⟨unionI x.fVars y.fVars,cap4 (nestRows (fun p q=>joinBy x y p q) x.fRows y.fRows)⟩:=mkOwn hMV hMR F.size hbj
  clear hMV hMR
  replace F:=F.trans (hbj.mono F.size)
  replace bkA:=bkA.below hbj
  clear hbj
  go_wp2_with fail
  refine hK.out _ _ (HSS.out _ F) (fun hHeld=>?_)
  clear hK K
  try simp only [putS]
  refine wpAnyH_ready (rs:=[9]) (by kernel_rfl) (by simp) ?_
  refine AllReadyH.cons (o:=⟨some 27,_,_,_,_,_⟩) rfl (fun K hK=>?_) AllReadyH.nil
  clear hHeld
  go_simp
  refine(sl27Done_c _ _ _ _ _ _ _ _ _ _ hO).mono ?_
  rintro e wd ⟨B1,m1,d1,B2,m2,d2,rfl,hO,hbd⟩
  replace F:=F.trans (hbd.mono F.size)
  replace bkA:=bkA.below hbd
  clear hbd
  go_wp2_with fail
  refine hK.out _ _ (HSS.out _ F) (fun hHeld=>?_)
  clear hK K
  try simp only [putS]
  refine tk 10 (some 17) rfl (by kernel_rfl) (by kernel_rfl) (by kernel_rfl) (fun _ _ _ h=>h) (by rfl) hHeld (fun w h=>by(try dsimp only at h);((go_simp)<;>with_reducible rfl)) ?_
  try simp only [putS]
  refine tk 11 (some 28) rfl (by kernel_rfl) (by kernel_rfl) (by kernel_rfl) (fun _ _ _ h=>h) (by rfl) hHeld (fun w h=>by(try dsimp only at h);((go_simp)<;>with_reducible rfl)) ?_
  try simp only [putS]
  refine tk 12 (some 29) rfl (by kernel_rfl) (by kernel_rfl) (by kernel_rfl) (fun _ _ _ h=>h) (by rfl) hHeld (fun w h=>by(try dsimp only at h);((go_simp)<;>with_reducible rfl)) ?_
  try simp only [putS]
  have fA0:=bkA.frozen 0
  have fA1:=bkA.frozen 1
  have kA0:=bkA.bx 0 _ rfl
  have kA1:=bkA.bx 1 _ rfl
  have lA:=bkA.lt
  refine wpAnyH_ready (rs:=[14]) (by kernel_rfl) (by simp) ?_
  refine AllReadyH.cons (o:=⟨none,_,_,_,_,_⟩) rfl (fun K hK=>?_) AllReadyH.nil
  clear hHeld
  go_simp
  refine hK.out _ _ (HSS.out _ (bset2 F hgA.out (.slice B1 m1 d1) (.slice B2 m2 d2))) (fun hHeld=>?_)
  clear hK K
  try simp only [putS]
  refine tk 15 (some 7) rfl (by kernel_rfl) (by kernel_rfl) (by kernel_rfl) (fun _ _ _ h=>h) (by rfl) hHeld (fun w h=>by(try dsimp only at h);((go_simp)<;>with_reducible rfl)) ?_
  try simp only [putS]
  refine wpAnyH_done (by kernel_rfl) ?_ _
  clear hHeld
  clear fA0 fA1 kA0 kA1 lA
  have bkS:=(bkA.set 0 (.slice B1 m1 d1)).set 1 (.slice B2 m2 d2)
  have s0:=bkS.bx 0 _ rfl
  have s1:=bkS.bx 1 _ rfl
  have bkR5:=bkR.below (bset2 F hgA.out (.slice B1 m1 d1) (.slice B2 m2 d2))
  have rf0:=bkR5.frozen 0
  have rf1:=bkR5.frozen 1
  have rc0:=bkR5.bx 0 _ rfl
  have rc1:=bkR5.bx 1 _ rfl
  have rl:=bkR5.lt
  clear HSS
  go_wp2
  have bk3:=(bkR5.set 0 (.slice B1 m1 d1)).set 1 (.slice B2 m2 d2)
  have q0:=bk3.bx 0 _ rfl
  have q1:=bk3.bx 1 _ rfl
  refine bodyPost_ret (v:=.tuple #[.agg #[.slice B1 m1 d1,.slice B2 m2 d2],.bool (capS (unionI x.fVars y.fVars) (nestRows (fun p q=>joinBy x y p q) x.fRows y.fRows)).2]) (by simp [results,Tryz.results147,go_sem,q0,q1]) rfl ?_
  rw [HE.out]
  have hYl:=bkR.lt
  have hsB:=hB.size
  exact jfin (cs:=[(.slice B1 m1 d1),(.slice B2 m2 d2)]) hO bkA hYl (by omega) (Nat.le_trans hsB hgA.out) (hB.trans (F.mono hsB))
set_option maxRecDepth 100000 in
set_option maxHeartbeats 1600000 in
theorem sHashJoin_c (csx:List Value) (x:StreamD) (csy:List Value) (y:StreamD) (w:World) (hx:(rStream NB).rep w csx x) (hy:(rStream NB).rep w csy y) :
  Calls Tryz.prog 146 #[.agg csx.toArray,.agg csy.toArray] w (RetVB (rStream NB) (hashJoin x y).1 (.bool (hashJoin x y).2) w):=by
 have rx:=hx
 obtain⟨AxVars,nxVars,cxVars,AxRows,nxRows,cxRows,rfl,hxVars,hxRows⟩:=rStream_rep.1 hx
 clear hx
 have ry:=hy
 obtain⟨AyVars,nyVars,cyVars,AyRows,nyRows,cyRows,rfl,hyVars,hyRows⟩:=rStream_rep.1 hy
 clear hy
 have hB:Below w.heap.size w w:=Below.refl _ _
 have hAx:=(Below.refl (World.heap (w)).size (w)).alloc (Nat.le_refl _) (.cells #[.slice AxVars nxVars cxVars,.slice AxRows nxRows cxRows] 35)
 replace hB:=hB.trans (hAx.mono hB.size)
 have bxx:=Bx.new (w) [.slice AxVars nxVars cxVars,.slice AxRows nxRows cxRows] 35
 clear hAx
 have hAy:=(Below.refl (World.heap ((w).alloc (.cells #[.slice AxVars nxVars cxVars,.slice AxRows nxRows cxRows] 35))).size ((w).alloc (.cells #[.slice AxVars nxVars cxVars,.slice AxRows nxRows cxRows] 35))).alloc (Nat.le_refl _) (.cells #[.slice AyVars nyVars cyVars,.slice AyRows nyRows cyRows] 35)
 replace hB:=hB.trans (hAy.mono hB.size)
 replace bxx:=bxx.below hAy
 have bxy:=Bx.new ((w).alloc (.cells #[.slice AxVars nxVars cxVars,.slice AxRows nxRows cxRows] 35)) [.slice AyVars nyVars cyVars,.slice AyRows nyRows cyRows] 35
 simp only [World.size_alloc]at bxy
 clear hAy
 have hnx:=hxRows.bound
 have hny:=hyRows.bound
 obtain⟨wa,hwa⟩:∃ wa,wa=(w.alloc (.cells #[.slice AxVars nxVars cxVars,.slice AxRows nxRows cxRows] 35)).alloc (.cells #[.slice AyVars nyVars cyVars,.slice AyRows nyRows cyRows] 35):=⟨_,rfl⟩
 rw [<- hwa]at hB bxx bxy
 have hsa:wa.heap.size=w.heap.size+1+1:=by rw [hwa];simp
 have hBA:=(Below.refl wa.heap.size wa).alloc (Nat.le_refl _) (.cells #[.slice none 0 0,.slice none 0 0] 35)
 have bkR:=Bk.new wa [.slice none 0 0,.slice none 0 0] 35
 replace hB:=hB.trans (hBA.mono hB.size)
 replace bxx:=bxx.below hBA
 replace bxy:=bxy.below hBA
 clear hBA
 rw [hwa]at hB bxx bxy bkR hsa
 have HSA:=Lib.hid hsa;clear hsa
 simp only [World.size_alloc]at bkR
 clear hwa
 go_enter Tryz.func146,Tryz.ntmps146
 have kx_0:=bxx 0 _ rfl
 have kx_1:=bxx 1 _ rfl
 go_wp2_with fail
 refine(sIsValidStream_c _ x _ ((rStream_ok NB).keep rx (cells_below hB))).mono ?_
 rintro e w1 ⟨rfl,hb1⟩
 replace hB:=hB.trans (hb1.mono hB.size)
 replace bxx:=bxx.below hb1
 replace bxy:=bxy.below hb1
 replace bkR:=bkR.below hb1
 clear hb1 kx_0 kx_1
 cases e1:validStream x
 ·have rf0:=bkR.frozen 0
  have rf1:=bkR.frozen 1
  have rc0:=bkR.bx 0 _ rfl
  have rc1:=bkR.bx 1 _ rfl
  have rl:=bkR.lt
  have he:hashJoin x y=(⟨[],[]⟩,false):=by simp [hashJoin,e1]
  have HE:=Lib.hid he;clear he
  go_wp2
  have bk3:=(bkR.set 0 (.slice none 0 0)).set 1 (.slice none 0 0)
  have q0:=bk3.bx 0 _ rfl
  have q1:=bk3.bx 1 _ rfl
  refine bodyPost_ret (v:=.tuple #[.agg #[.slice none 0 0,.slice none 0 0],.bool false]) (by simp [results,Tryz.results146,go_sem,q0,q1]) rfl ?_
  rw [HE.out]
  exact⟨[.slice none 0 0,.slice none 0 0],[],rfl,zStream_own _,Fr.nil _,bset2 hB (by omega) _ _⟩
 have ky_0:=bxy 0 _ rfl
 have ky_1:=bxy 1 _ rfl
 go_wp2_with fail
 refine(sIsValidStream_c _ y _ ((rStream_ok NB).keep ry (cells_below hB))).mono ?_
 rintro e w2 ⟨rfl,hb2⟩
 replace hB:=hB.trans (hb2.mono hB.size)
 replace bxx:=bxx.below hb2
 replace bxy:=bxy.below hb2
 replace bkR:=bkR.below hb2
 clear hb2 ky_0 ky_1
 cases e2:validStream y
 ·have rf0:=bkR.frozen 0
  have rf1:=bkR.frozen 1
  have rc0:=bkR.bx 0 _ rfl
  have rc1:=bkR.bx 1 _ rfl
  have rl:=bkR.lt
  have he:hashJoin x y=(⟨[],[]⟩,false):=by simp [hashJoin,e2]
  have HE:=Lib.hid he;clear he
  go_wp2
  have bk3:=(bkR.set 0 (.slice none 0 0)).set 1 (.slice none 0 0)
  have q0:=bk3.bx 0 _ rfl
  have q1:=bk3.bx 1 _ rfl
  refine bodyPost_ret (v:=.tuple #[.agg #[.slice none 0 0,.slice none 0 0],.bool false]) (by simp [results,Tryz.results146,go_sem,q0,q1]) rfl ?_
  rw [HE.out]
  exact⟨[.slice none 0 0,.slice none 0 0],[],rfl,zStream_own _,Fr.nil _,bset2 hB (by omega) _ _⟩
 have HE:Hid (hashJoin x y=capS (unionI x.fVars y.fVars) (nestRows (fun q p=>joinBy x y p q) y.fRows x.fRows)):=by show _=_;simp [hashJoin,e1,e2]
 have VX:=Lib.hid e1;clear e1
 have VY:=Lib.hid e2;clear e2
 have RX:=(hxRows.below (rSlice_ok NB _ rInt_ok) hB)
 have RY:=(hyRows.below (rSlice_ok NB _ rInt_ok) hB)
 have RVx:=(hxVars.below rInt_ok hB)
 have RVy:=(hyVars.below rInt_ok hB)
 have HSS:=Lib.hid (fun (w':World) (h:Below w2.heap.size w2 w')=>(⟨(bxx.below h) 0 _ rfl,(bxx.below h) 1 _ rfl,(bxy.below h) 0 _ rfl,(bxy.below h) 1 _ rfl⟩:w'.cell? ⟨w.heap.size,0,none⟩=some (.slice AxVars nxVars cxVars)/\w'.cell? ⟨w.heap.size,1,none⟩=some (.slice AxRows nxRows cxRows)/\w'.cell? ⟨w.heap.size+1,0,none⟩=some (.slice AyVars nyVars cyVars)/\w'.cell? ⟨w.heap.size+1,1,none⟩=some (.slice AyRows nyRows cyRows)))
 have F:Below w2.heap.size w2 w2.drew:=(Below.refl _ _).drew
 go_wp2_with fail
 refine wp_region_held_drew (S:=fun w'=>w'.cell? ⟨w.heap.size,0,none⟩=some (.slice AxVars nxVars cxVars)/\w'.cell? ⟨w.heap.size,1,none⟩=some (.slice AxRows nxRows cxRows)/\w'.cell? ⟨w.heap.size+1,0,none⟩=some (.slice AyVars nyVars cyVars)/\w'.cell? ⟨w.heap.size+1,1,none⟩=some (.slice AyRows nyRows cyRows)) (by kernel_rfl) ?_ (fun hHeld=>?_)
 ·exact HSS.out _ (Below.refl _ _).drew
 refine tk 0 (some 18) rfl (by kernel_rfl) (by kernel_rfl) (by kernel_rfl) (fun _ _ _ h=>h) (by rfl) hHeld (fun w h=>by(try dsimp only at h);((go_simp)<;>with_reducible rfl)) ?_
 try simp only [putS]
 refine tk 1 (some 19) rfl (by kernel_rfl) (by kernel_rfl) (by kernel_rfl) (fun _ _ _ h=>h) (by rfl) hHeld (fun w h=>by(try dsimp only at h);((go_simp)<;>with_reducible rfl)) ?_
 try simp only [putS]
 refine tk 2 (some 20) rfl (by kernel_rfl) (by kernel_rfl) (by kernel_rfl) (fun _ _ _ h=>h) (by rfl) hHeld (fun w h=>by(try dsimp only at h);((go_simp)<;>with_reducible rfl)) ?_
 try simp only [putS]
 refine tk 3 (some 21) rfl (by kernel_rfl) (by kernel_rfl) (by kernel_rfl) (fun _ _ _ h=>h) (by rfl) hHeld (fun w h=>by(try dsimp only at h);((go_simp)<;>with_reducible rfl)) ?_
 try simp only [putS]
 refine tk 4 (some 22) rfl (by kernel_rfl) (by kernel_rfl) (by kernel_rfl) (fun _ _ _ h=>h) (by rfl) hHeld (fun w h=>by(try dsimp only at h);((go_simp)<;>with_reducible rfl)) ?_
 try simp only [putS]
 refine tk 5 (some 23) rfl (by kernel_rfl) (by kernel_rfl) (by kernel_rfl) (fun _ _ _ h=>h) (by rfl) hHeld (fun w h=>by(try dsimp only at h);((go_simp)<;>with_reducible rfl)) ?_
 try simp only [putS]
 refine wpAnyH_ready (rs:=[6,13]) (by kernel_rfl) (by simp) ?_
 refine(AllReadyH.cons (o:=⟨some 24,_,_,_,_,_⟩) rfl (fun K hK=>?_) (AllReadyH.cons (o:=⟨some 6,_,_,_,_,_⟩) rfl (fun K hK=>?_) AllReadyH.nil))
 all_goals clear hHeld
 ·go_simp
  refine(sl27Union_c _ _ _ _ _ _ x.fVars y.fVars _ (RVx.below rInt_ok F) (RVy.below rInt_ok F)).mono ?_
  rintro e wu ⟨AV,nV,cV,rfl,hMV,hbu⟩
  replace hMV:=hMV.base F.size
  replace F:=F.trans (hbu.mono F.size)
  clear hbu
  go_wp2_with fail
  refine hK.out _ _ (HSS.out _ F) (fun hHeld=>?_)
  clear hK K
  try simp only [putS]
  refine tk 7 (some 25) rfl (by kernel_rfl) (by kernel_rfl) (by kernel_rfl) (fun _ _ _ h=>h) (by rfl) hHeld (fun w h=>by(try dsimp only at h);((go_simp)<;>with_reducible rfl)) ?_
  try simp only [putS]
  refine wpAnyH_ready (rs:=[8,13]) (by kernel_rfl) (by simp) ?_
  refine(AllReadyH.cons (o:=⟨some 26,_,_,_,_,_⟩) rfl (fun K hK=>?_) (AllReadyH.cons (o:=⟨some 6,_,_,_,_,_⟩) rfl (fun K hK=>?_) AllReadyH.nil))
  all_goals clear hHeld
  ·go_simp
   refine(sl27JoinH_c _ _ _ _ _ _ _ _ _ _ _ _ _ _ _ _ _ _ x y [] _ _ (RVx.below rInt_ok F) (RX.below (rSlice_ok NB _ rInt_ok) F) (RVy.below rInt_ok F) (RY.below (rSlice_ok NB _ rInt_ok) F) VX.out VY.out (hMV.rs rInt_ok) (MS.nil _ (Nat.zero_le _)) (Below.refl _ _)).mono ?_
   rintro e wj ⟨AR,nR,cR,rfl,hMR,hbj⟩
   have hO:OwnS wj w2.heap.size [.slice AV nV cV,.slice AR nR cR] ⟨unionI x.fVars y.fVars,cap4 (nestRows (fun q p=>joinBy x y p q) y.fRows x.fRows)⟩:=mkOwn hMV hMR F.size hbj
   clear hMV hMR
   replace F:=F.trans (hbj.mono F.size)
   clear hbj
   go_wp2_with fail
   refine hK.out _ _ (HSS.out _ F) (fun hHeld=>?_)
   clear hK K
   try simp only [putS]
   refine wpAnyH_ready (rs:=[9,13]) (by kernel_rfl) (by simp) ?_
   refine(AllReadyH.cons (o:=⟨some 27,_,_,_,_,_⟩) rfl (fun K hK=>?_) (AllReadyH.cons (o:=⟨some 6,_,_,_,_,_⟩) rfl (fun K hK=>?_) AllReadyH.nil))
   all_goals clear hHeld
   ·go_simp
    refine(sl27Done_c _ _ _ _ _ _ _ _ _ _ hO).mono ?_
    rintro e wd ⟨B1,m1,d1,B2,m2,d2,rfl,hO,hbd⟩
    replace F:=F.trans (hbd.mono F.size)
    clear hbd
    go_wp2_with fail
    refine hK.out _ _ (HSS.out _ F) (fun hHeld=>?_)
    clear hK K
    try simp only [putS]
    refine tk 10 (some 17) rfl (by kernel_rfl) (by kernel_rfl) (by kernel_rfl) (fun _ _ _ h=>h) (by rfl) hHeld (fun w h=>by(try dsimp only at h);((go_simp)<;>with_reducible rfl)) ?_
    try simp only [putS]
    refine tk 11 (some 28) rfl (by kernel_rfl) (by kernel_rfl) (by kernel_rfl) (fun _ _ _ h=>h) (by rfl) hHeld (fun w h=>by(try dsimp only at h);((go_simp)<;>with_reducible rfl)) ?_
    try simp only [putS]
    refine tk 12 (some 29) rfl (by kernel_rfl) (by kernel_rfl) (by kernel_rfl) (fun _ _ _ h=>h) (by rfl) hHeld (fun w h=>by(try dsimp only at h);((go_simp)<;>with_reducible rfl)) ?_
    try simp only [putS]
    have bkA:=Bk.new (wd) [.slice none 0 0,.slice none 0 0] 35
    have hgA:=Lib.hid F.size
    have hAl:=(Below.refl (World.heap (wd)).size (wd)).alloc (Nat.le_refl _) (.cells #[.slice none 0 0,.slice none 0 0] 35)
    replace hO:=hO.below hAl
    replace F:=F.trans (hAl.mono F.size)
    clear hAl
    refine wpAnyH_ready (rs:=[13]) (by kernel_rfl) (by simp) ?_
    refine AllReadyH.cons (o:=⟨some 6,_,_,_,_,_⟩) rfl (fun K hK=>?_) AllReadyH.nil
    clear hHeld
    go_simp
    refine hK.out _ _ (HSS.out _ F) (fun hHeld=>?_)
    clear hK K
    try simp only [putS]
    generalize hwz:World.alloc wd (.cells #[.slice none 0 0,.slice none 0 0] 35)=wz at bkA F hO hHeld ⊢
    clear hwz
    have fA0:=bkA.frozen 0
    have fA1:=bkA.frozen 1
    have kA0:=bkA.bx 0 _ rfl
    have kA1:=bkA.bx 1 _ rfl
    have lA:=bkA.lt
    refine wpAnyH_ready (rs:=[14]) (by kernel_rfl) (by simp) ?_
    refine AllReadyH.cons (o:=⟨none,_,_,_,_,_⟩) rfl (fun K hK=>?_) AllReadyH.nil
    clear hHeld
    go_simp
    refine hK.out _ _ (HSS.out _ (bset2 F hgA.out (.slice B1 m1 d1) (.slice B2 m2 d2))) (fun hHeld=>?_)
    clear hK K
    try simp only [putS]
    refine tk 15 (some 7) rfl (by kernel_rfl) (by kernel_rfl) (by kernel_rfl) (fun _ _ _ h=>h) (by rfl) hHeld (fun w h=>by(try dsimp only at h);((go_simp)<;>with_reducible rfl)) ?_
    try simp only [putS]
    refine wpAnyH_done (by kernel_rfl) ?_ _
    clear hHeld
    clear fA0 fA1 kA0 kA1 lA
    have bkS:=(bkA.set 0 (.slice B1 m1 d1)).set 1 (.slice B2 m2 d2)
    have s0:=bkS.bx 0 _ rfl
    have s1:=bkS.bx 1 _ rfl
    have bkR5:=bkR.below (bset2 F hgA.out (.slice B1 m1 d1) (.slice B2 m2 d2))
    have rf0:=bkR5.frozen 0
    have rf1:=bkR5.frozen 1
    have rc0:=bkR5.bx 0 _ rfl
    have rc1:=bkR5.bx 1 _ rfl
    have rl:=bkR5.lt
    clear HSS
    go_wp2
    have bk3:=(bkR5.set 0 (.slice B1 m1 d1)).set 1 (.slice B2 m2 d2)
    have q0:=bk3.bx 0 _ rfl
    have q1:=bk3.bx 1 _ rfl
    refine bodyPost_ret (v:=.tuple #[.agg #[.slice B1 m1 d1,.slice B2 m2 d2],.bool (capS (unionI x.fVars y.fVars) (nestRows (fun q p=>joinBy x y p q) y.fRows x.fRows)).2]) (by simp [results,Tryz.results146,go_sem,q0,q1]) rfl ?_
    rw [HE.out]
    have hYl:=bkR.lt
    have hsB:=hB.size
    exact jfin (cs:=[(.slice B1 m1 d1),(.slice B2 m2 d2)]) hO bkA hYl (by omega) (Nat.le_trans hsB hgA.out) (hB.trans (F.mono hsB))
   ·go_simp
    have bkA:=Bk.new (wj) [.slice none 0 0,.slice none 0 0] 35
    have hgA:=Lib.hid F.size
    have hAl:=(Below.refl (World.heap (wj)).size (wj)).alloc (Nat.le_refl _) (.cells #[.slice none 0 0,.slice none 0 0] 35)
    replace hO:=hO.below hAl
    replace F:=F.trans (hAl.mono F.size)
    clear hAl
    refine hK.out _ _ (HSS.out _ F) (fun hHeld=>?_)
    clear hK K
    try simp only [putS]
    refine wpAnyH_ready (rs:=[9]) (by kernel_rfl) (by simp) ?_
    refine AllReadyH.cons (o:=⟨some 27,_,_,_,_,_⟩) rfl (fun K hK=>?_) AllReadyH.nil
    clear hHeld
    go_simp
    refine(sl27Done_c _ _ _ _ _ _ _ _ _ _ hO).mono ?_
    rintro e wd ⟨B1,m1,d1,B2,m2,d2,rfl,hO,hbd⟩
    replace F:=F.trans (hbd.mono F.size)
    replace bkA:=bkA.below hbd
    clear hbd
    go_wp2_with fail
    refine hK.out _ _ (HSS.out _ F) (fun hHeld=>?_)
    clear hK K
    try simp only [putS]
    refine tk 10 (some 17) rfl (by kernel_rfl) (by kernel_rfl) (by kernel_rfl) (fun _ _ _ h=>h) (by rfl) hHeld (fun w h=>by(try dsimp only at h);((go_simp)<;>with_reducible rfl)) ?_
    try simp only [putS]
    refine tk 11 (some 28) rfl (by kernel_rfl) (by kernel_rfl) (by kernel_rfl) (fun _ _ _ h=>h) (by rfl) hHeld (fun w h=>by(try dsimp only at h);((go_simp)<;>with_reducible rfl)) ?_
    try simp only [putS]
    refine tk 12 (some 29) rfl (by kernel_rfl) (by kernel_rfl) (by kernel_rfl) (fun _ _ _ h=>h) (by rfl) hHeld (fun w h=>by(try dsimp only at h);((go_simp)<;>with_reducible rfl)) ?_
    try simp only [putS]
    have fA0:=bkA.frozen 0
    have fA1:=bkA.frozen 1
    have kA0:=bkA.bx 0 _ rfl
    have kA1:=bkA.bx 1 _ rfl
    have lA:=bkA.lt
    refine wpAnyH_ready (rs:=[14]) (by kernel_rfl) (by simp) ?_
    refine AllReadyH.cons (o:=⟨none,_,_,_,_,_⟩) rfl (fun K hK=>?_) AllReadyH.nil
    clear hHeld
    go_simp
    refine hK.out _ _ (HSS.out _ (bset2 F hgA.out (.slice B1 m1 d1) (.slice B2 m2 d2))) (fun hHeld=>?_)
    clear hK K
    try simp only [putS]
    refine tk 15 (some 7) rfl (by kernel_rfl) (by kernel_rfl) (by kernel_rfl) (fun _ _ _ h=>h) (by rfl) hHeld (fun w h=>by(try dsimp only at h);((go_simp)<;>with_reducible rfl)) ?_
    try simp only [putS]
    refine wpAnyH_done (by kernel_rfl) ?_ _
    clear hHeld
    clear fA0 fA1 kA0 kA1 lA
    have bkS:=(bkA.set 0 (.slice B1 m1 d1)).set 1 (.slice B2 m2 d2)
    have s0:=bkS.bx 0 _ rfl
    have s1:=bkS.bx 1 _ rfl
    have bkR5:=bkR.below (bset2 F hgA.out (.slice B1 m1 d1) (.slice B2 m2 d2))
    have rf0:=bkR5.frozen 0
    have rf1:=bkR5.frozen 1
    have rc0:=bkR5.bx 0 _ rfl
    have rc1:=bkR5.bx 1 _ rfl
    have rl:=bkR5.lt
    clear HSS
    go_wp2
    have bk3:=(bkR5.set 0 (.slice B1 m1 d1)).set 1 (.slice B2 m2 d2)
    have q0:=bk3.bx 0 _ rfl
    have q1:=bk3.bx 1 _ rfl
    refine bodyPost_ret (v:=.tuple #[.agg #[.slice B1 m1 d1,.slice B2 m2 d2],.bool (capS (unionI x.fVars y.fVars) (nestRows (fun q p=>joinBy x y p q) y.fRows x.fRows)).2]) (by simp [results,Tryz.results146,go_sem,q0,q1]) rfl ?_
    rw [HE.out]
    have hYl:=bkR.lt
    have hsB:=hB.size
    exact jfin (cs:=[(.slice B1 m1 d1),(.slice B2 m2 d2)]) hO bkA hYl (by omega) (Nat.le_trans hsB hgA.out) (hB.trans (F.mono hsB))
  ·go_simp
   have bkA:=Bk.new (wu) [.slice none 0 0,.slice none 0 0] 35
   have hgA:=Lib.hid F.size
   have hAl:=(Below.refl (World.heap (wu)).size (wu)).alloc (Nat.le_refl _) (.cells #[.slice none 0 0,.slice none 0 0] 35)
   replace hMV:=hMV.below rInt_ok hAl
   replace F:=F.trans (hAl.mono F.size)
   clear hAl
   refine hK.out _ _ (HSS.out _ F) (fun hHeld=>?_)
   clear hK K
   try simp only [putS]
   refine wpAnyH_ready (rs:=[8]) (by kernel_rfl) (by simp) ?_
   refine AllReadyH.cons (o:=⟨some 26,_,_,_,_,_⟩) rfl (fun K hK=>?_) AllReadyH.nil
   clear hHeld
   go_simp
   refine(sl27JoinH_c _ _ _ _ _ _ _ _ _ _ _ _ _ _ _ _ _ _ x y [] _ _ (RVx.below rInt_ok F) (RX.below (rSlice_ok NB _ rInt_ok) F) (RVy.below rInt_ok F) (RY.below (rSlice_ok NB _ rInt_ok) F) VX.out VY.out (hMV.rs rInt_ok) (MS.nil _ (Nat.zero_le _)) (Below.refl _ _)).mono ?_
   rintro e wj ⟨AR,nR,cR,rfl,hMR,hbj⟩
   have hO:OwnS wj w2.heap.size [.slice AV nV cV,.slice AR nR cR] ⟨unionI x.fVars y.fVars,cap4 (nestRows (fun q p=>joinBy x y p q) y.fRows x.fRows)⟩:=mkOwn hMV hMR F.size hbj
   clear hMV hMR
   replace F:=F.trans (hbj.mono F.size)
   replace bkA:=bkA.below hbj
   clear hbj
   go_wp2_with fail
   refine hK.out _ _ (HSS.out _ F) (fun hHeld=>?_)
   clear hK K
   try simp only [putS]
   refine wpAnyH_ready (rs:=[9]) (by kernel_rfl) (by simp) ?_
   refine AllReadyH.cons (o:=⟨some 27,_,_,_,_,_⟩) rfl (fun K hK=>?_) AllReadyH.nil
   clear hHeld
   go_simp
   refine(sl27Done_c _ _ _ _ _ _ _ _ _ _ hO).mono ?_
   rintro e wd ⟨B1,m1,d1,B2,m2,d2,rfl,hO,hbd⟩
   replace F:=F.trans (hbd.mono F.size)
   replace bkA:=bkA.below hbd
   clear hbd
   go_wp2_with fail
   refine hK.out _ _ (HSS.out _ F) (fun hHeld=>?_)
   clear hK K
   try simp only [putS]
   refine tk 10 (some 17) rfl (by kernel_rfl) (by kernel_rfl) (by kernel_rfl) (fun _ _ _ h=>h) (by rfl) hHeld (fun w h=>by(try dsimp only at h);((go_simp)<;>with_reducible rfl)) ?_
   try simp only [putS]
   refine tk 11 (some 28) rfl (by kernel_rfl) (by kernel_rfl) (by kernel_rfl) (fun _ _ _ h=>h) (by rfl) hHeld (fun w h=>by(try dsimp only at h);((go_simp)<;>with_reducible rfl)) ?_
   try simp only [putS]
   refine tk 12 (some 29) rfl (by kernel_rfl) (by kernel_rfl) (by kernel_rfl) (fun _ _ _ h=>h) (by rfl) hHeld (fun w h=>by(try dsimp only at h);((go_simp)<;>with_reducible rfl)) ?_
   try simp only [putS]
   have fA0:=bkA.frozen 0
   have fA1:=bkA.frozen 1
   have kA0:=bkA.bx 0 _ rfl
   have kA1:=bkA.bx 1 _ rfl
   have lA:=bkA.lt
   refine wpAnyH_ready (rs:=[14]) (by kernel_rfl) (by simp) ?_
   refine AllReadyH.cons (o:=⟨none,_,_,_,_,_⟩) rfl (fun K hK=>?_) AllReadyH.nil
   clear hHeld
   go_simp
   refine hK.out _ _ (HSS.out _ (bset2 F hgA.out (.slice B1 m1 d1) (.slice B2 m2 d2))) (fun hHeld=>?_)
   clear hK K
   try simp only [putS]
   refine tk 15 (some 7) rfl (by kernel_rfl) (by kernel_rfl) (by kernel_rfl) (fun _ _ _ h=>h) (by rfl) hHeld (fun w h=>by(try dsimp only at h);((go_simp)<;>with_reducible rfl)) ?_
   try simp only [putS]
   refine wpAnyH_done (by kernel_rfl) ?_ _
   clear hHeld
   clear fA0 fA1 kA0 kA1 lA
   have bkS:=(bkA.set 0 (.slice B1 m1 d1)).set 1 (.slice B2 m2 d2)
   have s0:=bkS.bx 0 _ rfl
   have s1:=bkS.bx 1 _ rfl
   have bkR5:=bkR.below (bset2 F hgA.out (.slice B1 m1 d1) (.slice B2 m2 d2))
   have rf0:=bkR5.frozen 0
   have rf1:=bkR5.frozen 1
   have rc0:=bkR5.bx 0 _ rfl
   have rc1:=bkR5.bx 1 _ rfl
   have rl:=bkR5.lt
   clear HSS
   go_wp2
   have bk3:=(bkR5.set 0 (.slice B1 m1 d1)).set 1 (.slice B2 m2 d2)
   have q0:=bk3.bx 0 _ rfl
   have q1:=bk3.bx 1 _ rfl
   refine bodyPost_ret (v:=.tuple #[.agg #[.slice B1 m1 d1,.slice B2 m2 d2],.bool (capS (unionI x.fVars y.fVars) (nestRows (fun q p=>joinBy x y p q) y.fRows x.fRows)).2]) (by simp [results,Tryz.results146,go_sem,q0,q1]) rfl ?_
   rw [HE.out]
   have hYl:=bkR.lt
   have hsB:=hB.size
   exact jfin (cs:=[(.slice B1 m1 d1),(.slice B2 m2 d2)]) hO bkA hYl (by omega) (Nat.le_trans hsB hgA.out) (hB.trans (F.mono hsB))
 ·go_simp
  have bkA:Bk ((w2.drew).alloc (.cells #[.slice none 0 0,.slice none 0 0] 35)) w2.heap.size 35 [.slice none 0 0,.slice none 0 0]:=Bk.new (w2.drew) [.slice none 0 0,.slice none 0 0] 35
  have hgA:=Lib.hid (Nat.le_refl w2.heap.size)
  have hAl:=(Below.refl (World.heap (w2.drew)).size (w2.drew)).alloc (Nat.le_refl _) (.cells #[.slice none 0 0,.slice none 0 0] 35)
  replace F:=F.trans (hAl.mono F.size)
  clear hAl
  refine hK.out _ _ (HSS.out _ F) (fun hHeld=>?_)
  clear hK K
  try simp only [putS]
  refine wpAnyH_ready (rs:=[6]) (by kernel_rfl) (by simp) ?_
  refine AllReadyH.cons (o:=⟨some 24,_,_,_,_,_⟩) rfl (fun K hK=>?_) AllReadyH.nil
  clear hHeld
  go_simp
  refine(sl27Union_c _ _ _ _ _ _ x.fVars y.fVars _ (RVx.below rInt_ok F) (RVy.below rInt_ok F)).mono ?_
  rintro e wu ⟨AV,nV,cV,rfl,hMV,hbu⟩
  replace hMV:=hMV.base F.size
  replace F:=F.trans (hbu.mono F.size)
  replace bkA:=bkA.below hbu
  clear hbu
  go_wp2_with fail
  refine hK.out _ _ (HSS.out _ F) (fun hHeld=>?_)
  clear hK K
  try simp only [putS]
  refine tk 7 (some 25) rfl (by kernel_rfl) (by kernel_rfl) (by kernel_rfl) (fun _ _ _ h=>h) (by rfl) hHeld (fun w h=>by(try dsimp only at h);((go_simp)<;>with_reducible rfl)) ?_
  try simp only [putS]
  refine wpAnyH_ready (rs:=[8]) (by kernel_rfl) (by simp) ?_
  refine AllReadyH.cons (o:=⟨some 26,_,_,_,_,_⟩) rfl (fun K hK=>?_) AllReadyH.nil
  clear hHeld
  go_simp
  refine(sl27JoinH_c _ _ _ _ _ _ _ _ _ _ _ _ _ _ _ _ _ _ x y [] _ _ (RVx.below rInt_ok F) (RX.below (rSlice_ok NB _ rInt_ok) F) (RVy.below rInt_ok F) (RY.below (rSlice_ok NB _ rInt_ok) F) VX.out VY.out (hMV.rs rInt_ok) (MS.nil _ (Nat.zero_le _)) (Below.refl _ _)).mono ?_
  rintro e wj ⟨AR,nR,cR,rfl,hMR,hbj⟩
  have hO:OwnS wj w2.heap.size [.slice AV nV cV,.slice AR nR cR] ⟨unionI x.fVars y.fVars,cap4 (nestRows (fun q p=>joinBy x y p q) y.fRows x.fRows)⟩:=mkOwn hMV hMR F.size hbj
  clear hMV hMR
  replace F:=F.trans (hbj.mono F.size)
  replace bkA:=bkA.below hbj
  clear hbj
  go_wp2_with fail
  refine hK.out _ _ (HSS.out _ F) (fun hHeld=>?_)
  clear hK K
  try simp only [putS]
  refine wpAnyH_ready (rs:=[9]) (by kernel_rfl) (by simp) ?_
  refine AllReadyH.cons (o:=⟨some 27,_,_,_,_,_⟩) rfl (fun K hK=>?_) AllReadyH.nil
  clear hHeld
  go_simp
  refine(sl27Done_c _ _ _ _ _ _ _ _ _ _ hO).mono ?_
  rintro e wd ⟨B1,m1,d1,B2,m2,d2,rfl,hO,hbd⟩
  replace F:=F.trans (hbd.mono F.size)
  replace bkA:=bkA.below hbd
  clear hbd
  go_wp2_with fail
  refine hK.out _ _ (HSS.out _ F) (fun hHeld=>?_)
  clear hK K
  try simp only [putS]
  refine tk 10 (some 17) rfl (by kernel_rfl) (by kernel_rfl) (by kernel_rfl) (fun _ _ _ h=>h) (by rfl) hHeld (fun w h=>by(try dsimp only at h);((go_simp)<;>with_reducible rfl)) ?_
  try simp only [putS]
  refine tk 11 (some 28) rfl (by kernel_rfl) (by kernel_rfl) (by kernel_rfl) (fun _ _ _ h=>h) (by rfl) hHeld (fun w h=>by(try dsimp only at h);((go_simp)<;>with_reducible rfl)) ?_
  try simp only [putS]
  refine tk 12 (some 29) rfl (by kernel_rfl) (by kernel_rfl) (by kernel_rfl) (fun _ _ _ h=>h) (by rfl) hHeld (fun w h=>by(try dsimp only at h);((go_simp)<;>with_reducible rfl)) ?_
  try simp only [putS]
  have fA0:=bkA.frozen 0
  have fA1:=bkA.frozen 1
  have kA0:=bkA.bx 0 _ rfl
  have kA1:=bkA.bx 1 _ rfl
  have lA:=bkA.lt
  refine wpAnyH_ready (rs:=[14]) (by kernel_rfl) (by simp) ?_
  refine AllReadyH.cons (o:=⟨none,_,_,_,_,_⟩) rfl (fun K hK=>?_) AllReadyH.nil
  clear hHeld
  go_simp
  refine hK.out _ _ (HSS.out _ (bset2 F hgA.out (.slice B1 m1 d1) (.slice B2 m2 d2))) (fun hHeld=>?_)
  clear hK K
  try simp only [putS]
  refine tk 15 (some 7) rfl (by kernel_rfl) (by kernel_rfl) (by kernel_rfl) (fun _ _ _ h=>h) (by rfl) hHeld (fun w h=>by(try dsimp only at h);((go_simp)<;>with_reducible rfl)) ?_
  try simp only [putS]
  refine wpAnyH_done (by kernel_rfl) ?_ _
  clear hHeld
  clear fA0 fA1 kA0 kA1 lA
  have bkS:=(bkA.set 0 (.slice B1 m1 d1)).set 1 (.slice B2 m2 d2)
  have s0:=bkS.bx 0 _ rfl
  have s1:=bkS.bx 1 _ rfl
  have bkR5:=bkR.below (bset2 F hgA.out (.slice B1 m1 d1) (.slice B2 m2 d2))
  have rf0:=bkR5.frozen 0
  have rf1:=bkR5.frozen 1
  have rc0:=bkR5.bx 0 _ rfl
  have rc1:=bkR5.bx 1 _ rfl
  have rl:=bkR5.lt
  clear HSS
  go_wp2
  have bk3:=(bkR5.set 0 (.slice B1 m1 d1)).set 1 (.slice B2 m2 d2)
  have q0:=bk3.bx 0 _ rfl
  have q1:=bk3.bx 1 _ rfl
  refine bodyPost_ret (v:=.tuple #[.agg #[.slice B1 m1 d1,.slice B2 m2 d2],.bool (capS (unionI x.fVars y.fVars) (nestRows (fun q p=>joinBy x y p q) y.fRows x.fRows)).2]) (by simp [results,Tryz.results146,go_sem,q0,q1]) rfl ?_
  rw [HE.out]
  have hYl:=bkR.lt
  have hsB:=hB.size
  exact jfin (cs:=[(.slice B1 m1 d1),(.slice B2 m2 d2)]) hO bkA hYl (by omega) (Nat.le_trans hsB hgA.out) (hB.trans (F.mono hsB))

end Go.Proofs.YtpodldagcnfhlaaGreat
