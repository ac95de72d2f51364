/-
  Apr, Cpr
-/
import Derived.Test.YtiafklphblkpbaaGreatKeep
import Derived.Test.YtiafklphblkpbaaGreatCopy
import Derived.Test.YtiafklphblkpbaaGreatDb
namespace Go.Proofs.YtiafklphblkpbaaGreat
open Go.RowKit
set_option linter.unusedVariables false
set_option linter.unusedSimpArgs false
theorem eiRowS:Ei Tryz.prog 49 24 (.slice none 0 0) (rSlice NB 3 rInt).size 24:=⟨by kernel_rfl,by kernel_rfl,rfl⟩
/-- append of one owned element at a region's step, with the word where the new row lies -/
theorem step_appR {α:Type}{r:Rp α}{B M:Nat}{e:TypeId}{w:World}{A:Option Addr}{n cap:Nat}{l:List α}{P:Program}{ops:Array Oper}{o:Oper}{a:Act}{K:Act->World->Prop}{Q:Exit->Act->World->Prop}{E:Prop}(hgd:o.guard=none) (s x:Operand) (t:TypeId)
  (ho:o.op=.call { callee:=.builtin .append,args:=#[s,x],argTypes:=#[t,t] }) (z:Value) (bytes:Nat) (ei:Ei P t e z r.size bytes) (hr:r.Ok) {wr:World}
  (hs:a.eval s=.slice A n cap) (h:MS B M e r wr A n cap l) (hb:Below wr.heap.size wr w) (hB:B<=wr.heap.size)
  (ad:Addr) (hx:a.eval x=.slice (some ad) 1 1) {f:List Nat} {cs:List Value} {y:α} (hy:r.own w f cs y) (hf:Fr wr.heap.size f) (hc:∀ j u,cs[j]?=some u->w.cell? (ad.add j)=some u)
  (hn:n+1<=M) (hM:M<=4294967296) (hby:(n+1)*bytes<=140737488355328)
  (hK:∀ A' cap' w',MS B M e r w' A' (n+1) cap' (l++[y])->Below B w w'->w.grownBy w' (A.map (·.block))->(A'.map (·.block)=A.map (·.block)\/A'.map (·.block)=some w.heap.size)->K (a.put o.dst (.slice A' (n+1) cap')) w') :
  if Region.wanted o (yielded ops a.tmps)=true then Oper.wp P o a w K Q else E:=by
 have hw:Region.wanted o (yielded ops a.tmps)=true:=by simp [Region.wanted,hgd]
 rw [if_pos hw]
 obtain⟨i,hi,h1,h2,h3⟩:=info_parts ei.hi
 obtain⟨fp,hO,hfr⟩:=h
 have hO':=hO.belowS hr hb
 obtain⟨css,fps,h4,_,h6⟩:=hO'.ex
 obtain⟨v',w',hrun,r1,r2,_,r4⟩:=run_append_own_at (P:=P) w 0 t o.type e i z r.size bytes ei.ht hi h1 h2 h3 ei.hz hr.pos (.slice A n cap) n css.flatten h4 ad 1 1 cs (by rw [hr.len (hr.toRep hy),Nat.one_mul]) hc (hr.one (hr.toRep hy)) (by unfold maxLen;omega) hby (Nat.zero_le _)
 obtain⟨A',cap',rfl⟩:=ownsRow_slice r1
 rw [blk_own]at r2 r4
 rw [blk_own]at r4
 unfold Oper.wp execOp
 simp only [ho,resolve,invoke,builtin,Sem.run_bind,Sem.run_pure,Result.andThen_ok,List.map_toArray,List.map_cons,List.map_nil,hs,hx,hrun]
 refine hK A' cap' w' (MS.app1 hr ⟨fp,hO,hfr⟩ hb hB hy hf hn (fun css' hcss=>?_) r2 r4) (MS.grown ⟨fp,hO,hfr⟩ hb hB r2) r2 r4
 have:css'=css.flatten:=by
  rcases (ownsRow_form h4).2 with ⟨rfl,rfl,_⟩|⟨g,rfl,_⟩
  ·have e1:=h4.1;have e2:=hcss.1;rw [Nat.zero_mul]at e1 e2;rw [List.eq_nil_of_length_eq_zero e2,List.eq_nil_of_length_eq_zero e1]
  ·refine List.ext_getElem? fun j=>?_
   by_cases hj:j<n*r.size
   ·rw [<- h4.cellAt j hj,<- hcss.cellAt j hj]
   ·rw [List.getElem?_eq_none (by rw [hcss.1];omega),List.getElem?_eq_none (by rw [h4.1];omega)]
 rw [this];exact r1
theorem Below.alb {B:Nat}{a W:World}(h:Below B a W) (o:Obj) (hB:B<=a.heap.size:=by exact Nat.le_refl _):Below B a (W.alloc o):=h.alloc (Nat.le_trans hB h.size) o
end Go.Proofs.YtiafklphblkpbaaGreat
namespace Go.Proofs.YtiafklphblkpbaaGreat
open Go.RowKit
set_option linter.unusedVariables false
set_option linter.unusedSimpArgs false
set_option maxRecDepth 100000 in
set_option maxHeartbeats 1600000 in
theorem iCopyRows_c (A:Option Addr) (n cap:Nat) (l:List (List Int)) (w:World) (hr:RS NB (rSlice NB 3 rInt) w A n cap l) :
  Calls Tryz.prog 61 #[.slice A n cap] w (RetS 24 (rSlice NB 3 rInt) l w):=by
 have hn:=hr.bound
 have hM0:=MS.empty (B:=w.heap.size) (M:=NB) (e:=24) (r:=rSlice NB 3 rInt) w (Nat.le_refl _)
 have hA0:=(Below.refl w.heap.size w).alloc (Nat.le_refl _) (.cells #[] 24)
 go_enter Tryz.func61,Tryz.ntmps61
 go_wp2
 go_loopw [3,9] (fun o i wr=>∃ (k c:Nat) (B:Option Addr),k<=n/\i=.int .i64 k/\o=.slice B k c/\MS w.heap.size NB 24 (rSlice NB 3 rInt) wr B k c (l.take k)/\Below w.heap.size w wr) (fun _ i _=>n - (intOf i).toNat)
 case atStart=>exact⟨0,0,_,Nat.zero_le _,rfl,rfl,hM0,hA0⟩
 case round =>
  clear hM0 hA0
  obtain⟨k,c,B,hk,rfl,rfl,hM,hE⟩:=hrel
  have hz:=hE.size
  by_cases hlt:k<n
  ·obtain⟨b,off,x,A1,n1,c1,rfl,hc,hx,hxx⟩:=(hr.below (rSlice_ok NB _ rInt_ok) hE).row hlt
   have HS:=Lib.hid (take_snoc hxx.out)
   go_wp2_with fail
   refine(iCopyInts_c _ _ _ x _ hx).mono ?_
   rintro e w2 ⟨A2,n2,c2,rfl,⟨fp,o2,f2⟩,hb2⟩
   have hE2:=hE.trans (hb2.mono hz)
   have hAl:=(Below.refl w2.heap.size w2).alloc (Nat.le_refl _) (.cells #[.slice A2 n2 c2] 24)
   go_wp2_with (at_builtin;refine wpList_app (r:=rSlice NB 3 rInt) rfl _ _ 49 rfl _ 24 eiRowS (rSlice_ok NB _ rInt_ok) rfl hM (hb2.trans (hAl.mono hb2.size)) hz ⟨w2.heap.size,0,none⟩ rfl fp [.slice A2 n2 c2] x ⟨A2,n2,c2,rfl,o2.belowS rInt_ok hAl⟩ f2 (cell_one_new _ _ _) (by unfold NB;omega) (Nat.le_refl _) (by omega) ?_;intro A9 k9 w9 hM9 hb9 hg9)
   go_roundw
   case rel=>exact⟨k+1,k9,A9,by omega,by go_num,rfl,by rw [HS.out];exact hM9,(hE2.alloc hE2.size _).trans hb9⟩
   case measure=>simp [intOf];omega
  ·go_wp2
   go_ret
   have hkn:k=n:=by omega
   subst hkn
   exact⟨_,_,_,rfl,by rw [<- take_all hr.len hlt];exact hM,hE⟩
set_option maxRecDepth 100000 in
set_option maxHeartbeats 1600000 in
theorem iCopyTable_c (cst:List Value) (t:TableD) (w:World) (ht:(rTable NB).rep w cst t) :
  Calls Tryz.prog 88 #[.agg cst.toArray] w (RetV (rTable NB) t w):=by
 have rt:=ht
 obtain⟨AtRows,ntRows,ctRows,rfl,htName,htArity,htRows⟩:=rTable_rep.1 ht
 clear ht
 have hB:Below w.heap.size w w:=Below.refl _ _
 obtain⟨wa,hwa⟩:∃ W,W=(w.alloc (.cells #[.string t.fName,.int .i64 t.fArity,.slice AtRows ntRows ctRows] 82)).alloc (.cells #[.string ⟨#[]⟩,.int .i64 0,.slice none 0 0] 82):=⟨_,rfl⟩
 have hba:Below w.heap.size w wa:=by rw [hwa];exact((Below.refl w.heap.size w).alloc (Nat.le_refl _) _).alloc (by simp) _
 have hsa:wa.heap.size=w.heap.size+1+1:=by rw [hwa];simp
 have kT:Bk wa w.heap.size 82 [.string t.fName,.int .i64 t.fArity,.slice AtRows ntRows ctRows]:=by rw [hwa];exact(Bk.new w _ _).below ((Below.refl _ _).alloc (Nat.le_refl _) _)
 have kR:Bk wa (w.heap.size+1) 82 [.string ⟨#[]⟩,.int .i64 0,.slice none 0 0]:=by rw [hwa];have:=Bk.new (w.alloc (.cells #[.string t.fName,.int .i64 t.fArity,.slice AtRows ntRows ctRows] 82)) [.string ⟨#[]⟩,.int .i64 0,.slice none 0 0] 82;simpa using this
 replace htRows:=htRows.below (rSlice_ok NB _ rInt_ok) hba
 have k0:=kT.bx 0 _ rfl
 have k1:=kT.bx 1 _ rfl
 have k2:=kT.bx 2 _ rfl
 go_enter Tryz.func88,Tryz.ntmps88
 go_upto_region 1 with fail
 rw [<- hwa]
 clear hwa
 go_wp2_with fail
 refine(iCopyRows_c _ _ _ t.fRows _ htRows).mono ?_
 rintro e w2 ⟨A2,n2,c2,rfl,⟨fp,o2,f2⟩,hb2⟩
 replace kT:=kT.below hb2
 replace kR:=kR.below hb2
 have hB:=hba.trans (hb2.mono hba.size)
 clear k0 k1 k2 hb2 hba htRows
 have HF:Hid (∀ k∈fp,w.heap.size+1<k):=by show ∀ k∈fp,_;exact fun k hk=>by have:=f2.ge k hk;omega
 have f2':Fr w.heap.size fp:=f2.mono (by omega)
 clear hsa f2
 have f2:=kT.frozen 2
 have k2:=kT.bx 2 _ rfl
 go_upto_region 2 with fail
 obtain⟨w3,hw3⟩:∃ W,W=w2.setCell ⟨w.heap.size,2,none⟩ (.slice A2 n2 c2):=⟨_,rfl⟩
 have hs3:∀ k,k≠w.heap.size->w3.heap[k]?=w2.heap[k]?:=fun k hk=>by rw [hw3];exact heap_setCell_other _ ⟨w.heap.size,2,none⟩ k _ (fun e=>hk e)
 replace kT:=kT.set 2 (.slice A2 n2 c2)
 rw [<- hw3]at kT
 replace kR:Bk w3 (w.heap.size+1) 82 [.string ⟨#[]⟩,.int .i64 0,.slice none 0 0]:=(hs3 _ (by omega)).trans kR
 replace hB:Below w.heap.size w w3:=by rw [hw3];exact hB.setCell (p:=⟨w.heap.size,2,none⟩) (Nat.le_refl _) _
 replace o2:=o2.okeep (w':=w3) (rSlice_ok NB _ rInt_ok) (fun k hk=>hs3 k (by have:=HF.out k hk;omega))
 rw [<- hw3]
 clear hw3 f2 k2 hs3
 have k0:=kT.bx 0 _ rfl
 have k1:=kT.bx 1 _ rfl
 have k2:=kT.bx 2 _ rfl
 have r0:=kR.bx 0 _ rfl
 have r1:=kR.bx 1 _ rfl
 have r2:=kR.bx 2 _ rfl
 have f0:=kR.frozen 0
 have f1:=kR.frozen 1
 have f2:=kR.frozen 2
 go_wp2
 have k4:=((kR.set 0 (.string t.fName)).set 1 (.int .i64 t.fArity)).set 2 (.slice A2 n2 c2)
 have q0:=k4.bx 0 _ rfl
 have q1:=k4.bx 1 _ rfl
 have q2:=k4.bx 2 _ rfl
 refine bodyPost_ret (v:=.agg #[.string t.fName,.int .i64 t.fArity,.slice A2 n2 c2]) (by simp [results,Tryz.results88,go_sem,q0,q1,q2]) rfl ?_
 refine⟨[.string t.fName,.int .i64 t.fArity,.slice A2 n2 c2],fp,rfl,rTable_own.2 ⟨A2,n2,c2,fp,rfl,rfl,htName,htArity,o2.okeep (rSlice_ok NB _ rInt_ok) (fun k hk=>?_)⟩,f2',((hB.setCell (p:=⟨w.heap.size+1,0,none⟩) (Nat.le_succ _) _).setCell (p:=⟨w.heap.size+1,1,none⟩) (Nat.le_succ _) _).setCell (p:=⟨w.heap.size+1,2,none⟩) (Nat.le_succ _) _⟩
 have hne:k≠w.heap.size+1:=by have:=HF.out k hk;omega
 exact((heap_setCell_other _ ⟨w.heap.size+1,2,none⟩ k _ (fun e=>hne e)).trans (heap_setCell_other _ ⟨w.heap.size+1,1,none⟩ k _ (fun e=>hne e))).trans (heap_setCell_other _ ⟨w.heap.size+1,0,none⟩ k _ (fun e=>hne e))
theorem cellOther (W:World) {g b:Nat}(o i:Nat) (v:Value) (h:b≠g):(W.setCell ⟨g,i,none⟩ v).cell? ⟨b,o,none⟩=W.cell? ⟨b,o,none⟩:=by
 unfold World.cell?;rw [heap_setCell_other W ⟨g,i,none⟩ b v h]
theorem cpyFr {wr W:World}{M:Nat}{e:TypeId}{A:Option Addr}{n c:Nat}{l:List Int}{w3:World}{o:Obj}(h:Below wr.heap.size wr W) (h1:OS M e rInt w3 (blk A) A n c l) (h2:∀ k∈blk A,k=W.heap.size\/k=(W.alloc o).heap.size):Fr wr.heap.size (blk A) :=
 ⟨by cases A<;>simp [blk],fun k hk=>by have:=h.size;(rcases h2 k hk with h3|h3);omega;rw [World.size_alloc]at h3;omega⟩
theorem neTI:(82:TypeId)≠3:=by decide
/-- the walk's world in l4Copy: the argument's box, the result's, the copy's; the copy's rows -/
structure Cpy (w:World) (nm:ByteArray) (ar:Int) (v:Value) (A:Option Addr) (n c:Nat) (l:List (List Int)) (W:World):Prop where
 kT:Bk W w.heap.size 82 [.string nm,.int .i64 ar,v]
 kR:Bk W (w.heap.size+1) 82 [.string ⟨#[]⟩,.int .i64 0,.slice none 0 0]
 kX:Bk W (w.heap.size+1+1) 82 [.string nm,.int .i64 ar,.slice A n c]
 ms:MS (w.heap.size+1+1+1) NB 24 (rSlice NB 3 rInt) W A n c l
 be:Below w.heap.size w W
 sz:w.heap.size+1+1+1<=W.heap.size
theorem Cpy.below {w W W':World}{nm:ByteArray}{ar:Int}{v:Value}{A:Option Addr}{n c:Nat}{l:List (List Int)}(h:Cpy w nm ar v A n c l W) (hb:Below W.heap.size W W'):Cpy w nm ar v A n c l W' :=
 ⟨h.kT.below hb,h.kR.below hb,h.kX.below hb,h.ms.below (rSlice_ok NB _ rInt_ok) hb,h.be.trans (hb.mono h.be.size),Nat.le_trans h.sz hb.size⟩
/-- behind the append, and its store -/
theorem Cpy.app {w W W':World}{nm:ByteArray}{ar:Int}{v:Value}{A A':Option Addr}{n c n' c':Nat}{l l':List (List Int)}(h:Cpy w nm ar v A n c l W) (hm:MS (w.heap.size+1+1+1) NB 24 (rSlice NB 3 rInt) W' A' n' c' l') (hb:Below (w.heap.size+1+1+1) W W') :
  Cpy w nm ar v A' n' c' l' (W'.setCell ⟨w.heap.size+1+1,2,none⟩ (.slice A' n' c')):=by
 have hs:∀ k,k≠w.heap.size+1+1->(W'.setCell ⟨w.heap.size+1+1,2,none⟩ (.slice A' n' c')).heap[k]?=W'.heap[k]?:=fun k hk=>heap_setCell_other _ _ k _ (fun e=>hk e)
 have k1:Bk W' (w.heap.size+1+1) 82 [.string nm,.int .i64 ar,.slice A n c]:=(hb.block _ (by omega)).trans h.kX
 refine⟨(hs _ (by omega)).trans ((hb.block _ (by omega)).trans h.kT),(hs _ (by omega)).trans ((hb.block _ (by omega)).trans h.kR),k1.set 2 _,?_,(h.be.trans (hb.mono (by omega))).setCell (p:=⟨w.heap.size+1+1,2,none⟩) (by show w.heap.size<=w.heap.size+1+1;omega) _,by rw [World.size_setCell];exact Nat.le_trans h.sz hb.size⟩
 obtain⟨f,o,fr⟩:=hm
 exact⟨f,o.okeep (rSlice_ok NB _ rInt_ok) (fun k hk=>hs k (by have:=fr.ge k hk;omega)),fr⟩
set_option maxRecDepth 100000 in
set_option maxHeartbeats 1600000 in
theorem sl4Copy_c (cst:List Value) (t:TableD) (w:World) (ht:(rTable NB).rep w cst t) :
  Calls Tryz.prog 93 #[.agg cst.toArray] w (RetV (rTable NB) t w):=by
 have rt:=ht
 obtain⟨AtRows,ntRows,ctRows,rfl,htName,htArity,htRows⟩:=rTable_rep.1 ht
 clear ht
 have hB:Below w.heap.size w w:=Below.refl _ _
 have hn:=htRows.bound
 obtain⟨wa,hwa⟩:∃ W,W=((w.alloc (.cells #[.string t.fName,.int .i64 t.fArity,.slice AtRows ntRows ctRows] 82)).alloc (.cells #[.string ⟨#[]⟩,.int .i64 0,.slice none 0 0] 82)).alloc (.cells #[.string t.fName,.int .i64 t.fArity,.slice none 0 0] 82):=⟨_,rfl⟩
 have hba:Below w.heap.size w wa:=by rw [hwa];exact(((Below.refl w.heap.size w).alloc (Nat.le_refl _) _).alloc (by simp) _).alloc (by simp;omega) _
 have hsa:wa.heap.size=w.heap.size+1+1+1:=by rw [hwa];simp
 have J0:Cpy w t.fName t.fArity (.slice AtRows ntRows ctRows) none 0 0 [] wa:=by
  refine⟨?_,?_,?_,MS.nil _ (Nat.zero_le _),hba,by omega⟩
  ·rw [hwa];exact((Bk.new w _ _).below ((Below.refl _ _).alloc (Nat.le_refl _) _)).below ((Below.refl _ _).alloc (Nat.le_refl _) _)
  ·rw [hwa];have:=(Bk.new (w.alloc (.cells #[.string t.fName,.int .i64 t.fArity,.slice AtRows ntRows ctRows] 82)) [.string ⟨#[]⟩,.int .i64 0,.slice none 0 0] 82).below ((Below.refl _ _).alloc (Nat.le_refl _) (.cells #[.string t.fName,.int .i64 t.fArity,.slice none 0 0] 82));simpa using this
  ·rw [hwa];have:=Bk.new ((w.alloc (.cells #[.string t.fName,.int .i64 t.fArity,.slice AtRows ntRows ctRows] 82)).alloc (.cells #[.string ⟨#[]⟩,.int .i64 0,.slice none 0 0] 82)) [.string t.fName,.int .i64 t.fArity,.slice none 0 0] 82;simpa using this
 have HR0:=Lib.hid htRows
 have HL:=Lib.hid htRows.len
 clear htRows hsa hba
 go_enter Tryz.func93,Tryz.ntmps93
 go_upto_region 2 with fail
 rw [<- hwa]
 clear hwa
 go_wp2
 go_loopw [4] (fun i wr=>∃ (k c:Nat) (A:Option Addr),k<=ntRows/\i=.int .i64 k/\Cpy w t.fName t.fArity (.slice AtRows ntRows ctRows) A k c (t.fRows.take k) wr) (fun i _=>ntRows - (intOf i).toNat)
 case atStart=>exact⟨0,0,none,Nat.zero_le _,rfl,J0⟩
 case round =>
  clear J0
  obtain⟨k,c,A,hk,rfl,J⟩:=hrel
  have kT2:=J.kT.bx 2 _ rfl
  by_cases hlt:k<ntRows
  ·obtain⟨b,off,x,A1,n1,c1,rfl,hc0,hx0,hxx⟩:=HR0.out.row hlt
   have hbl:b<w.heap.size:=World.block_lt_of_cell? w _ hc0
   have hc:=cells_below J.be _ _ hc0
   have hx:=hx0.below rInt_ok J.be
   have hn1:=hx.bound
   have HS:=Lib.hid (take_snoc hxx.out)
   have HSS:Hid (∀ w',Below (w.heap.size+1+1+1) wr w'->(w'.cell? ⟨w.heap.size,2,none⟩=some (.slice (some ⟨b,off,none⟩) ntRows ctRows)/\w'.cell? ⟨b,off+k,none⟩=some (.slice A1 n1 c1))):=by
    show ∀ w',_->_
    intro w' hb
    exact⟨Bk.bx ((hb.block _ (by omega)).trans J.kT) 2 _ rfl,(hb.cell (p:=⟨b,off+k,none⟩) (by show b<_;omega)).trans hc⟩
   have hd0:=(Below.refl wr.heap.size wr).drew
   clear hc0 hx0
   go_wp2
   refine hbg HSS.out (hd0.mono J.sz) (fun hHeld=>?_)
   refine tka 0 17 hHeld ?_;simp only [putS]
   refine tka 3 20 hHeld ?_;simp only [putS]
   refine tka 4 21 hHeld ?_;simp only [putS]
   refine tka 5 22 hHeld ?_;simp only [putS]
   refine tka 6 23 hHeld ?_;simp only [putS]
   refine tka 7 24 hHeld ?_;simp only [putS]
   refine rd2 1 (some 18) 2 (some 19) (fun K hK=>?_) fun K hK=>?_
   all_goals clear hHeld
   ·have kx:=(J.below hd0).kX.bx 2 _ rfl
    go_simp
    refine hK.out _ _ (HSS.out _ (hd0.mono J.sz)) (fun hHeld=>?_)
    clear hK K
    try simp only [putS]
    have hA:=Below.alb hd0 (.cells #[] 3)
    refine rd 2 (some 19) fun K hK=>?_
    clear hHeld
    go_simp
    refine hK.out _ _ (HSS.out _ (hA.mono J.sz)) (fun hHeld=>?_)
    clear hK K
    try simp only [putS]
    refine rd 8 (some 25) fun K hK=>?_
    clear hHeld
    refine step_appe (r:=rInt) (M:=NB) (by rfl) _ _ 24 (by rfl) _ 8 eiInt rInt_ok rInt_flat (by rfl) (heap_alloc_new _ _) (by rfl) (hx.below rInt_ok hA) hx.nb (Nat.le_refl _) (by omega) ?_
    intro A5 c5 w3 o5 g5 hb3
    have hC:=hA.trans (hb3.mono hA.size)
    have F5:=cpyFr hd0 o5 g5
    refine hK.out _ _ (HSS.out _ (hC.mono J.sz)) (fun hHeld=>?_)
    clear hK K
    try simp only [putS]
    have hD:=Below.alb hC (.cells #[.slice A5 n1 c5] 24)
    refine rd 9 (some 26) fun K hK=>?_
    clear hHeld
    go_simp
    refine hK.out _ _ (HSS.out _ (hD.mono J.sz)) (fun hHeld=>?_)
    clear hK K
    try simp only [putS]
    refine rd 10 (some 27) fun K hK=>?_
    clear hHeld
    refine step_appR (r:=rSlice NB 3 rInt) (by rfl) _ _ 49 (by rfl) _ 24 eiRowS (rSlice_ok NB _ rInt_ok) (by rfl) J.ms hD J.sz ⟨w3.heap.size,0,none⟩ (by rfl) (f:=blk A5) (cs:=[.slice A5 n1 c5]) (y:=x) ⟨A5,n1,c5,rfl,o5.belowS rInt_ok ((Below.refl _ _).alloc (Nat.le_refl _) _)⟩ F5 (cell_one_new _ _ _) (by unfold NB;omega) (Nat.le_refl _) (by omega) ?_
    intro A9 c9 w9 hM9 hb9 hg9 hA9
    have hG:=(hD.mono J.sz).trans hb9
    have J9:=(J.below hD).app hM9 hb9
    have X9:Bk w9 (w.heap.size+1+1) 82 [.string t.fName,.int .i64 t.fArity,.slice A k c]:=(hb9.block _ (by omega)).trans (J.below hD).kX
    have f9:=X9.frozen 2
    have k9:=X9.bx 2 _ rfl
    have S9:=And.intro (J9.kT.bx 2 _ rfl) ((cellOther w9 (g:=w.heap.size+1+1) (b:=b) (off+k) 2 (.slice A9 (k+1) c9) (by omega)).trans (HSS.out w9 hG).2)
    refine hK.out _ _ (HSS.out _ (hG.mono (Nat.le_refl _))) (fun hHeld=>?_)
    clear hK K
    try simp only [putS]
    refine tka 11 28 hHeld ?_;simp only [putS]
    refine wpAnyH_ready (rs:=[12]) (by kernel_rfl) (by simp) ?_
    refine AllReadyH.cons (o:=⟨none,_,_,_,_,_⟩) rfl (fun K hK=>?_) AllReadyH.nil
    clear hHeld
    go_simp
    refine hK.out _ _ S9 (fun hHeld=>?_)
    clear hK K
    try simp only [putS]
    refine wpAnyH_done (by kernel_rfl) ?_ _
    clear hHeld
    clear HSS
    go_wp2
    go_roundw
    case rel=>exact⟨k+1,c9,A9,by omega,by go_num,by rw [HS.out];exact J9⟩
    case measure=>simp [intOf];omega
   ·have hA:=Below.alb hd0 (.cells #[] 3)
    go_simp
    refine hK.out _ _ (HSS.out _ (hA.mono J.sz)) (fun hHeld=>?_)
    clear hK K
    try simp only [putS]
    refine rd2 1 (some 18) 8 (some 25) (fun K hK=>?_) fun K hK=>?_
    all_goals clear hHeld
    ·have kx:=(J.below hA).kX.bx 2 _ rfl
     have kx2:=(J.below ((Below.refl wr.heap.size wr).alloc (Nat.le_refl _) (.cells #[] 3))).kX.bx 2 _ rfl
     go_simp
     refine hK.out _ _ (HSS.out _ (hA.mono J.sz)) (fun hHeld=>?_)
     clear hK K
     try simp only [putS]
     refine rd 8 (some 25) fun K hK=>?_
     clear hHeld
     refine step_appe (r:=rInt) (M:=NB) (by rfl) _ _ 24 (by rfl) _ 8 eiInt rInt_ok rInt_flat (by rfl) (heap_alloc_new _ _) (by rfl) (hx.below rInt_ok hA) hx.nb (Nat.le_refl _) (by omega) ?_
     intro A5 c5 w3 o5 g5 hb3
     have hC:=hA.trans (hb3.mono hA.size)
     have F5:=cpyFr hd0 o5 g5
     refine hK.out _ _ (HSS.out _ (hC.mono J.sz)) (fun hHeld=>?_)
     clear hK K
     try simp only [putS]
     have hD:=Below.alb hC (.cells #[.slice A5 n1 c5] 24)
     refine rd 9 (some 26) fun K hK=>?_
     clear hHeld
     go_simp
     refine hK.out _ _ (HSS.out _ (hD.mono J.sz)) (fun hHeld=>?_)
     clear hK K
     try simp only [putS]
     refine rd 10 (some 27) fun K hK=>?_
     clear hHeld
     refine step_appR (r:=rSlice NB 3 rInt) (by rfl) _ _ 49 (by rfl) _ 24 eiRowS (rSlice_ok NB _ rInt_ok) (by rfl) J.ms hD J.sz ⟨w3.heap.size,0,none⟩ (by rfl) (f:=blk A5) (cs:=[.slice A5 n1 c5]) (y:=x) ⟨A5,n1,c5,rfl,o5.belowS rInt_ok ((Below.refl _ _).alloc (Nat.le_refl _) _)⟩ F5 (cell_one_new _ _ _) (by unfold NB;omega) (Nat.le_refl _) (by omega) ?_
     intro A9 c9 w9 hM9 hb9 hg9 hA9
     have hG:=(hD.mono J.sz).trans hb9
     have J9:=(J.below hD).app hM9 hb9
     have X9:Bk w9 (w.heap.size+1+1) 82 [.string t.fName,.int .i64 t.fArity,.slice A k c]:=(hb9.block _ (by omega)).trans (J.below hD).kX
     have f9:=X9.frozen 2
     have k9:=X9.bx 2 _ rfl
     have S9:=And.intro (J9.kT.bx 2 _ rfl) ((cellOther w9 (g:=w.heap.size+1+1) (b:=b) (off+k) 2 (.slice A9 (k+1) c9) (by omega)).trans (HSS.out w9 hG).2)
     refine hK.out _ _ (HSS.out _ (hG.mono (Nat.le_refl _))) (fun hHeld=>?_)
     clear hK K
     try simp only [putS]
     refine tka 11 28 hHeld ?_;simp only [putS]
     refine wpAnyH_ready (rs:=[12]) (by kernel_rfl) (by simp) ?_
     refine AllReadyH.cons (o:=⟨none,_,_,_,_,_⟩) rfl (fun K hK=>?_) AllReadyH.nil
     clear hHeld
     go_simp
     refine hK.out _ _ S9 (fun hHeld=>?_)
     clear hK K
     try simp only [putS]
     refine wpAnyH_done (by kernel_rfl) ?_ _
     clear hHeld
     clear HSS
     go_wp2
     go_roundw
     case rel=>exact⟨k+1,c9,A9,by omega,by go_num,by rw [HS.out];exact J9⟩
     case measure=>simp [intOf];omega
    ·refine step_appe (r:=rInt) (M:=NB) (by rfl) _ _ 24 (by rfl) _ 8 eiInt rInt_ok rInt_flat (by rfl) (heap_alloc_new _ _) (by rfl) (hx.below rInt_ok hA) hx.nb (Nat.le_refl _) (by omega) ?_
     intro A5 c5 w3 o5 g5 hb3
     have hC:=hA.trans (hb3.mono hA.size)
     have F5:=cpyFr hd0 o5 g5
     refine hK.out _ _ (HSS.out _ (hC.mono J.sz)) (fun hHeld=>?_)
     clear hK K
     try simp only [putS]
     refine rd2 1 (some 18) 9 (some 26) (fun K hK=>?_) fun K hK=>?_
     all_goals clear hHeld
     ·have kx:=(J.below hC).kX.bx 2 _ rfl
      go_simp
      refine hK.out _ _ (HSS.out _ (hC.mono J.sz)) (fun hHeld=>?_)
      clear hK K
      try simp only [putS]
      have hD:=Below.alb hC (.cells #[.slice A5 n1 c5] 24)
      refine rd 9 (some 26) fun K hK=>?_
      clear hHeld
      go_simp
      refine hK.out _ _ (HSS.out _ (hD.mono J.sz)) (fun hHeld=>?_)
      clear hK K
      try simp only [putS]
      refine rd 10 (some 27) fun K hK=>?_
      clear hHeld
      refine step_appR (r:=rSlice NB 3 rInt) (by rfl) _ _ 49 (by rfl) _ 24 eiRowS (rSlice_ok NB _ rInt_ok) (by rfl) J.ms hD J.sz ⟨w3.heap.size,0,none⟩ (by rfl) (f:=blk A5) (cs:=[.slice A5 n1 c5]) (y:=x) ⟨A5,n1,c5,rfl,o5.belowS rInt_ok ((Below.refl _ _).alloc (Nat.le_refl _) _)⟩ F5 (cell_one_new _ _ _) (by unfold NB;omega) (Nat.le_refl _) (by omega) ?_
      intro A9 c9 w9 hM9 hb9 hg9 hA9
      have hG:=(hD.mono J.sz).trans hb9
      have J9:=(J.below hD).app hM9 hb9
      have X9:Bk w9 (w.heap.size+1+1) 82 [.string t.fName,.int .i64 t.fArity,.slice A k c]:=(hb9.block _ (by omega)).trans (J.below hD).kX
      have f9:=X9.frozen 2
      have k9:=X9.bx 2 _ rfl
      have S9:=And.intro (J9.kT.bx 2 _ rfl) ((cellOther w9 (g:=w.heap.size+1+1) (b:=b) (off+k) 2 (.slice A9 (k+1) c9) (by omega)).trans (HSS.out w9 hG).2)
      refine hK.out _ _ (HSS.out _ (hG.mono (Nat.le_refl _))) (fun hHeld=>?_)
      clear hK K
      try simp only [putS]
      refine tka 11 28 hHeld ?_;simp only [putS]
      refine wpAnyH_ready (rs:=[12]) (by kernel_rfl) (by simp) ?_
      refine AllReadyH.cons (o:=⟨none,_,_,_,_,_⟩) rfl (fun K hK=>?_) AllReadyH.nil
      clear hHeld
      go_simp
      refine hK.out _ _ S9 (fun hHeld=>?_)
      clear hK K
      try simp only [putS]
      refine wpAnyH_done (by kernel_rfl) ?_ _
      clear hHeld
      clear HSS
      go_wp2
      go_roundw
      case rel=>exact⟨k+1,c9,A9,by omega,by go_num,by rw [HS.out];exact J9⟩
      case measure=>simp [intOf];omega
     ·have hD:=Below.alb hC (.cells #[.slice A5 n1 c5] 24)
      go_simp
      refine hK.out _ _ (HSS.out _ (hD.mono J.sz)) (fun hHeld=>?_)
      clear hK K
      try simp only [putS]
      have kx:=(J.below hD).kX.bx 2 _ rfl
      refine rd 1 (some 18) fun K hK=>?_
      clear hHeld
      go_simp
      refine hK.out _ _ (HSS.out _ (hD.mono J.sz)) (fun hHeld=>?_)
      clear hK K
      try simp only [putS]
      refine rd 10 (some 27) fun K hK=>?_
      clear hHeld
      refine step_appR (r:=rSlice NB 3 rInt) (by rfl) _ _ 49 (by rfl) _ 24 eiRowS (rSlice_ok NB _ rInt_ok) (by rfl) J.ms hD J.sz ⟨w3.heap.size,0,none⟩ (by rfl) (f:=blk A5) (cs:=[.slice A5 n1 c5]) (y:=x) ⟨A5,n1,c5,rfl,o5.belowS rInt_ok ((Below.refl _ _).alloc (Nat.le_refl _) _)⟩ F5 (cell_one_new _ _ _) (by unfold NB;omega) (Nat.le_refl _) (by omega) ?_
      intro A9 c9 w9 hM9 hb9 hg9 hA9
      have hG:=(hD.mono J.sz).trans hb9
      have J9:=(J.below hD).app hM9 hb9
      have X9:Bk w9 (w.heap.size+1+1) 82 [.string t.fName,.int .i64 t.fArity,.slice A k c]:=(hb9.block _ (by omega)).trans (J.below hD).kX
      have f9:=X9.frozen 2
      have k9:=X9.bx 2 _ rfl
      have S9:=And.intro (J9.kT.bx 2 _ rfl) ((cellOther w9 (g:=w.heap.size+1+1) (b:=b) (off+k) 2 (.slice A9 (k+1) c9) (by omega)).trans (HSS.out w9 hG).2)
      refine hK.out _ _ (HSS.out _ (hG.mono (Nat.le_refl _))) (fun hHeld=>?_)
      clear hK K
      try simp only [putS]
      refine tka 11 28 hHeld ?_;simp only [putS]
      refine wpAnyH_ready (rs:=[12]) (by kernel_rfl) (by simp) ?_
      refine AllReadyH.cons (o:=⟨none,_,_,_,_,_⟩) rfl (fun K hK=>?_) AllReadyH.nil
      clear hHeld
      go_simp
      refine hK.out _ _ S9 (fun hHeld=>?_)
      clear hK K
      try simp only [putS]
      refine wpAnyH_done (by kernel_rfl) ?_ _
      clear hHeld
      clear HSS
      go_wp2
      go_roundw
      case rel=>exact⟨k+1,c9,A9,by omega,by go_num,by rw [HS.out];exact J9⟩
      case measure=>simp [intOf];omega
  ·have kX0:=J.kX.bx 0 _ rfl
   have kX1:=J.kX.bx 1 _ rfl
   have kX2:=J.kX.bx 2 _ rfl
   have r0:=J.kR.bx 0 _ rfl
   have r1:=J.kR.bx 1 _ rfl
   have r2:=J.kR.bx 2 _ rfl
   have f0:=J.kR.frozen 0
   have f1:=J.kR.frozen 1
   have f2:=J.kR.frozen 2
   have HT:=Lib.hid (take_all HL.out hlt)
   go_wp2
   have k4:=((J.kR.set 0 (.string t.fName)).set 1 (.int .i64 t.fArity)).set 2 (.slice A k c)
   have q0:=k4.bx 0 _ rfl
   have q1:=k4.bx 1 _ rfl
   have q2:=k4.bx 2 _ rfl
   refine bodyPost_ret (v:=.agg #[.string t.fName,.int .i64 t.fArity,.slice A k c]) (by simp [results,Tryz.results93,go_sem,q0,q1,q2]) rfl ?_
   obtain⟨fp,o2,f2⟩:=J.ms
   rw [HT.out]at o2
   refine⟨[.string t.fName,.int .i64 t.fArity,.slice A k c],fp,rfl,rTable_own.2 ⟨A,k,c,fp,rfl,rfl,htName,htArity,o2.okeep (rSlice_ok NB _ rInt_ok) (fun k hk=>?_)⟩,f2.mono (by omega),((J.be.setCell (p:=⟨w.heap.size+1,0,none⟩) (Nat.le_succ _) _).setCell (p:=⟨w.heap.size+1,1,none⟩) (Nat.le_succ _) _).setCell (p:=⟨w.heap.size+1,2,none⟩) (Nat.le_succ _) _⟩
   have hne:k≠w.heap.size+1:=by have:=f2.ge k hk;omega
   exact((heap_setCell_other _ ⟨w.heap.size+1,2,none⟩ k _ (fun e=>hne e)).trans (heap_setCell_other _ ⟨w.heap.size+1,1,none⟩ k _ (fun e=>hne e))).trans (heap_setCell_other _ ⟨w.heap.size+1,0,none⟩ k _ (fun e=>hne e))
end Go.Proofs.YtiafklphblkpbaaGreat
