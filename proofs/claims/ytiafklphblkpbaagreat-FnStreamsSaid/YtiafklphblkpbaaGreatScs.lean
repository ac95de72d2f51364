/-
  Scs
-/
import Derived.Test.YtiafklphblkpbaaGreatKeep
import Derived.Test.YtiafklphblkpbaaGreatScn
namespace Go.Proofs.YtiafklphblkpbaaGreat
open Go.RowKit
set_option linter.unusedVariables false
set_option linter.unusedSimpArgs false
/-- the walk's world in the specification's ScanStream: the stream under way in block gS; all else that stood in w7 stands -/
structure Scs (w7:World) (gS:Nat) (AV:Option Addr) (nV cV:Nat) (A:Option Addr) (n c:Nat) (L:List (List Int)) (W:World):Prop where
 kS:Bk W gS 51 [.slice AV nV cV,.slice A n c]
 ms:MS w7.heap.size NB 24 (rSlice NB 3 rInt) W A n c L
 be:Below gS w7 W
 bk:∀ k,k<w7.heap.size->k≠gS->W.heap[k]?=w7.heap[k]?
 gl:gS<w7.heap.size
section
variable {w7 W W':World} {gS gR:Nat} {AV:Option Addr} {nV cV:Nat} {V:List Int} {A A':Option Addr} {n c n' c':Nat} {L L':List (List Int)}
theorem Scs.below (h:Scs w7 gS AV nV cV A n c L W) (hb:Below W.heap.size W W'):Scs w7 gS AV nV cV A n c L W' :=
 ⟨h.kS.below hb,h.ms.below (rSlice_ok NB _ rInt_ok) hb,h.be.trans (hb.mono (by have:=h.be.size;have:=h.gl;omega)),fun k hk hn=>(hb.block k (Nat.lt_of_lt_of_le hk h.be.size)).trans (h.bk k hk hn),h.gl⟩
theorem Scs.app (h:Scs w7 gS AV nV cV A n c L W) (hm:MS w7.heap.size NB 24 (rSlice NB 3 rInt) W' A' n' c' L') (hb:Below w7.heap.size W W') :
  Scs w7 gS AV nV cV A' n' c' L' (W'.setCell ⟨gS,1,none⟩ (.slice A' n' c')):=by
 have hs:∀ k,k≠gS->(W'.setCell ⟨gS,1,none⟩ (.slice A' n' c')).heap[k]?=W'.heap[k]?:=fun k hk=>heap_setCell_other _ _ k _ (fun e=>hk e)
 have gl:=h.gl
 have k1:Bk W' gS 51 [.slice AV nV cV,.slice A n c]:=(hb.block _ gl).trans h.kS
 refine⟨k1.set 1 _,?_,(h.be.trans (hb.mono (by omega))).setCell (p:=⟨gS,1,none⟩) (Nat.le_refl _) _,fun k hk hn=>(hs k hn).trans ((hb.block k hk).trans (h.bk k hk hn)),gl⟩
 obtain⟨f,o,fr⟩:=hm
 exact⟨f,o.okeep (rSlice_ok NB _ rInt_ok) (fun k hk=>hs k (by have:=fr.ge k hk;omega)),fr⟩
theorem Scs.fin {w:World}(h:Scs w7 gS AV nV cV A n c L W) (ov:OS NB 3 rInt w7 (blk AV) AV nV cV V) (hR:gR<gS) (hV:∀ k∈blk AV,gR<k/\k<w7.heap.size/\k≠gS) (hw:w.heap.size<=gR) (hB:Below w.heap.size w W) (u v:Value) :
  ∃ fp,(rStream NB).own ((W.setCell ⟨gR,0,none⟩ u).setCell ⟨gR,1,none⟩ v) fp [.slice AV nV cV,.slice A n c] ⟨V,L⟩/\Fr w.heap.size fp/\Below w.heap.size w ((W.setCell ⟨gR,0,none⟩ u).setCell ⟨gR,1,none⟩ v):=by
 have hs:∀ k,k≠gR->((W.setCell ⟨gR,0,none⟩ u).setCell ⟨gR,1,none⟩ v).heap[k]?=W.heap[k]?:=fun k hk=>(heap_setCell_other _ ⟨gR,1,none⟩ k _ (fun e=>hk e)).trans (heap_setCell_other _ ⟨gR,0,none⟩ k _ (fun e=>hk e))
 have gl:=h.gl
 obtain⟨f,o,fr⟩:=h.ms
 refine⟨blk AV++f,rStream_own.2 ⟨AV,nV,cV,A,n,c,blk AV,f,rfl,rfl,ov.okeep rInt_ok (fun k hk=>(hs k (by have:=hV k hk;omega)).trans (h.bk k (hV k hk).2.1 (hV k hk).2.2)),o.okeep (rSlice_ok NB _ rInt_ok) (fun k hk=>hs k (by have:=fr.ge k hk;omega))⟩,⟨List.nodup_append.2 ⟨by cases AV<;>simp [blk],fr.nd,fun a ha b hb e=>by have:=hV a ha;have:=fr.ge b hb;omega⟩,fun k hk=>?_⟩,(hB.setCell (p:=⟨gR,0,none⟩) hw _).setCell (p:=⟨gR,1,none⟩) hw _⟩
 rcases List.mem_append.1 hk with hk|hk
 ·have:=hV k hk;omega
 ·have:=fr.ge k hk;omega
end
set_option maxRecDepth 100000 in
set_option maxHeartbeats 1600000 in
theorem sScanStream_c (csd:List Value) (d:DatabaseD) (csq:List Value) (q:QueryD) (i:Int) (w:World) (hd:(rDatabase NB).rep w csd d) (hq:(rQuery NB).rep w csq q) :
  Calls Tryz.prog 21 #[.agg csd.toArray,.agg csq.toArray,.int .i64 i] w (RetVB (rStream NB) (scan d q i).1 (.bool (scan d q i).2) w):=by
 have rd:=hd
 obtain⟨AdTables,ndTables,cdTables,rfl,hdTables⟩:=rDatabase_rep.1 hd
 clear hd
 have rq:=hq
 obtain⟨AqAtoms,nqAtoms,cqAtoms,rfl,hqVariableCount,hqAtoms⟩:=rQuery_rep.1 hq
 clear hq
 have hB:Below w.heap.size w w:=Below.refl _ _
 have hnq:=hqAtoms.bound
 have HLQ:=Lib.hid hqAtoms.len
 obtain⟨wa,hwa⟩:∃ W,W=((w.alloc (.cells #[.slice AdTables ndTables cdTables] 43)).alloc (.cells #[.int .i64 q.fVariableCount,.slice AqAtoms nqAtoms cqAtoms] 46)).alloc (.cells #[.slice none 0 0,.slice none 0 0] 51):=⟨_,rfl⟩
 have hba:Below w.heap.size w wa:=by rw [hwa];exact(((Below.refl w.heap.size w).alloc (Nat.le_refl _) _).alloc (by simp) _).alloc (by simp;omega) _
 have hsa:wa.heap.size=w.heap.size+1+1+1:=by rw [hwa];simp
 have kD:Bk wa w.heap.size 43 [.slice AdTables ndTables cdTables]:=by rw [hwa];exact((Bk.new w _ _).below ((Below.refl _ _).alloc (Nat.le_refl _) _)).below ((Below.refl _ _).alloc (Nat.le_refl _) _)
 have kQ:Bk wa (w.heap.size+1) 46 [.int .i64 q.fVariableCount,.slice AqAtoms nqAtoms cqAtoms]:=by rw [hwa];have:=(Bk.new (w.alloc (.cells #[.slice AdTables ndTables cdTables] 43)) [.int .i64 q.fVariableCount,.slice AqAtoms nqAtoms cqAtoms] 46).below ((Below.refl _ _).alloc (Nat.le_refl _) (.cells #[.slice none 0 0,.slice none 0 0] 51));simpa using this
 have kR:Bk wa (w.heap.size+1+1) 51 [.slice none 0 0,.slice none 0 0]:=by rw [hwa];have:=Bk.new ((w.alloc (.cells #[.slice AdTables ndTables cdTables] 43)).alloc (.cells #[.int .i64 q.fVariableCount,.slice AqAtoms nqAtoms cqAtoms] 46)) [.slice none 0 0,.slice none 0 0] 51;simpa using this
 have HZ:=Lib.hid hsa;clear hsa
 replace hB:=hba
 clear hba
 have d0:=kD.bx 0 _ rfl
 have q0:=kQ.bx 0 _ rfl
 have q1:=kQ.bx 1 _ rfl
 go_enter Tryz.func21,Tryz.ntmps21
 go_upto_region 1 with fail
 rw [<- hwa]
 clear hwa
 go_wp2_with fail
 refine(sIsQueryFor_c _ d _ q _ (rDatabase_rep.2 ⟨AdTables,ndTables,cdTables,rfl,(hdTables.below (rTable_ok NB) hB)⟩) (rQuery_rep.2 ⟨AqAtoms,nqAtoms,cqAtoms,rfl,hqVariableCount,(hqAtoms.below (rAtom_ok NB) hB)⟩)).mono ?_
 rintro e w1 ⟨rfl,hb1⟩
 have hs1:=hb1.size
 replace hB:=hB.trans (hb1.mono hB.size)
 replace kD:=kD.below hb1
 replace kQ:=kQ.below hb1
 replace kR:=kR.below hb1
 clear d0 q0 q1 hb1
 have q1:=kQ.bx 1 _ rfl
 cases hqf:queryFor d q
 ·have HV:=Lib.hid (scan_no1 (i:=i) hqf);clear hqf
  have r0:=kR.bx 0 _ rfl
  have r1:=kR.bx 1 _ rfl
  have f0:=kR.frozen 0
  have f1:=kR.frozen 1
  go_wp2
  have q4:=(kR.set 0 (.slice none 0 0)).set 1 (.slice none 0 0)
  have z0:=q4.bx 0 _ rfl
  have z1:=q4.bx 1 _ rfl
  refine bodyPost_ret (v:=.tuple #[.agg #[.slice none 0 0,.slice none 0 0],.bool false]) (by simp [results,Tryz.results21,go_sem,z0,z1]) rfl ?_
  rw [HV.out]
  exact zStream_r _ w ((hB.setCell (p:=⟨w.heap.size+1+1,0,none⟩) (by show w.heap.size<=w.heap.size+1+1;omega) _).setCell (p:=⟨w.heap.size+1+1,1,none⟩) (by show w.heap.size<=w.heap.size+1+1;omega) _)
 have HQF:=Lib.hid hqf;clear hqf
 have m1:IntKind.i64.wrap ((nqAtoms:Int) - 1)=(nqAtoms:Int) - 1:=IntWalk.i64_in _ (by omega)
 cases hin:inR i 0 ((nqAtoms:Int) - 1)
 ·have K:=Lib.hid (fun W=>l1In_v hin W)
  have HV:Hid (scan d q i=(⟨[],[]⟩,false)):=by show _=_;exact scan_no2 (by rw [HLQ.out];exact hin)
  clear hin
  have r0:=kR.bx 0 _ rfl
  have r1:=kR.bx 1 _ rfl
  have f0:=kR.frozen 0
  have f1:=kR.frozen 1
  go_wp2_with (go_at_call 35;refine(K.out _).mono ?_;rintro e w' ⟨rfl,hww⟩;replace hww:=hww.symm;subst hww)
  have q4:=(kR.set 0 (.slice none 0 0)).set 1 (.slice none 0 0)
  have z0:=q4.bx 0 _ rfl
  have z1:=q4.bx 1 _ rfl
  refine bodyPost_ret (v:=.tuple #[.agg #[.slice none 0 0,.slice none 0 0],.bool false]) (by simp [results,Tryz.results21,go_sem,z0,z1]) rfl ?_
  rw [HV.out]
  exact zStream_r _ w ((hB.setCell (p:=⟨w.heap.size+1+1,0,none⟩) (by show w.heap.size<=w.heap.size+1+1;omega) _).setCell (p:=⟨w.heap.size+1+1,1,none⟩) (by show w.heap.size<=w.heap.size+1+1;omega) _)
 have K:=Lib.hid (fun W=>l1In_v hin W)
 obtain⟨k0,rfl⟩:∃ k:Nat,i=k:=⟨i.toNat,by have:=inR_t.1 hin;omega⟩
 have hkn:k0<nqAtoms:=by have:=inR_t.1 hin;omega
 clear hin
 obtain⟨b,off,a,AV,nV,cV,rfl,hc0,hc1,hsz,hRV,hxx⟩:=(hqAtoms.below (rAtom_ok NB) hB).eAtom hkn
 obtain⟨hvq,hall⟩:=queryFor_parts HQF.out
 obtain⟨t,ht,har,hrows⟩:=hall a (mem_of_at hxx.out)
 have HT:=Lib.hid ht
 have HY:=Lib.hid (scan_yes HQF.out hxx.out ht)
 have HMV:=Lib.hid (scan_vars hvq hxx.out)
 have HRows:=Lib.hid hrows
 have hq4:k0<4:=by have h1:=(validQ_parts hvq).2.2.2.1;have h2:=HLQ.out;omega
 have p1:=pow2_wrap (v:=(k0:Int)) (by omega) (by omega)
 rw [Int.toNat_natCast]at p1
 clear hvq hall ht har hrows
 have hik:((k0:Int)).toNat=k0:=by simp
 have hk0n:(k0:Int)<(nqAtoms:Int):=by omega
 have hkn2:k0<nqAtoms:=hkn
 have HSS:Hid (∀ w',Below w1.heap.size w1 w'->(w'.cell? ⟨w.heap.size,0,none⟩=some (.slice AdTables ndTables cdTables)/\w'.cell? ⟨w.heap.size+1,1,none⟩=some (.slice (some ⟨b,off,none⟩) nqAtoms cqAtoms)/\w'.cell? ⟨b,off+k0*2,none⟩=some (.string a.fName))):=by
  show ∀ w',_->_
  intro w' hb
  exact⟨(kD.below hb).bx 0 _ rfl,(kQ.below hb).bx 1 _ rfl,cells_below hb _ _ hc0⟩
 have hd0:=(Below.refl w1.heap.size w1).drew
 go_wp2_with (go_at_call 35;refine(K.out _).mono ?_;rintro e w' ⟨rfl,hww⟩;replace hww:=hww.symm;subst hww)
 clear K q1 m1
 refine hbg HSS.out hd0 (fun hHeld=>?_)
 refine tka 0 29 hHeld ?_;simp only [putS]
 refine tka 1 30 hHeld ?_;simp only [putS]
 refine tka 2 31 hHeld ?_;simp only [putS]
 refine tka 3 32 hHeld ?_;simp only [putS]
 refine tka 4 33 hHeld ?_;simp only [putS]
 refine tka 5 34 hHeld ?_;simp only [putS]
 refine tka 6 35 hHeld ?_;simp only [putS]
 refine rd2 7 (some 36) 11 (some 8) (fun K hK=>?_) fun K hK=>?_
 all_goals clear hHeld
 ·have RD:=(rDatabase_rep.2 ⟨AdTables,ndTables,cdTables,rfl,(hdTables.below (rTable_ok NB) (hB.trans (hd0.mono hB.size)))⟩)
  go_simp
  have C:=sLookupTable_c _ d a.fName _ RD
  rw [HT.out]at C
  refine C.mono ?_
  clear C
  rintro e w4 ⟨cs,fp,rfl,ot,ft,hb4⟩
  obtain⟨A2,n2,c2,fR,rfl,hfR,e1,e2,o2⟩:=rTable_own.1 ot
  subst hfR
  clear ot
  have hC:=hd0.trans (hb4.mono hd0.size)
  have hlt4:=o2.lt (rSlice_ok NB _ rInt_ok)
  go_wp2_with fail
  refine hK.out _ _ (HSS.out _ hC) (fun hHeld=>?_)
  clear hK K
  try simp only [putS]
  refine tka 8 28 hHeld ?_;simp only [putS]
  refine tka 9 37 hHeld ?_;simp only [putS]
  refine tka 10 38 hHeld ?_;simp only [putS]
  have hz0:=Below.alb hC (.cells #[.string ⟨#[]⟩,.int .i64 0,.slice none 0 0] 82)
  refine YtiafklphblkpbaaGreat.rd 11 (some 8) fun K hK=>?_
  clear hHeld
  go_simp
  refine hK.out _ _ (HSS.out _ hz0) (fun hHeld=>?_)
  clear hK K
  try simp only [putS]
  have kT:=Bk.new w4 [.string t.fName,.int .i64 t.fArity,.slice A2 n2 c2] 82
  have hS:=Below.alb hC (.cells #[.string t.fName,.int .i64 t.fArity,.slice A2 n2 c2] 82)
  refine YtiafklphblkpbaaGreat.rd 12 none fun K hK=>?_
  clear hHeld
  go_simp
  refine hK.out _ _ (HSS.out _ hS) (fun hHeld=>?_)
  clear hK K
  try simp only [putS]
  refine tka 13 9 hHeld ?_;simp only [putS]
  refine wpAnyH_done (by kernel_rfl) ?_ _
  clear hHeld
  replace o2:=o2.belowS (rSlice_ok NB _ rInt_ok) ((Below.refl w4.heap.size w4).alloc (Nat.le_refl _) (.cells #[.string t.fName,.int .i64 t.fArity,.slice A2 n2 c2] 82))
  have HF2:Hid (∀ k∈fp,k<(w4.alloc (.cells #[.string t.fName,.int .i64 t.fArity,.slice A2 n2 c2] 82)).heap.size):=by show ∀ k∈fp,_;intro k hk;have:=hlt4 k hk;simp;omega
  obtain⟨wq,hwq⟩:∃ W,W=(w4.alloc (.cells #[.string t.fName,.int .i64 t.fArity,.slice A2 n2 c2] 82)):=⟨_,rfl⟩
  rw [<- hwq]at kT hS o2 HF2 ⊢
  obtain⟨g,hg⟩:∃ g,g=w4.heap.size:=⟨_,rfl⟩
  rw [<- hg]at kT ⊢
  clear hwq hg hC hlt4 ft
  have hBq:=hB.trans (hS.mono hB.size)
  replace kQ:=kQ.below hS
  replace kR:=kR.below hS
  have hc0q:=cells_below hS _ _ hc0
  have hc1q:=cells_below hS _ _ hc1
  have hRq:=hRV.below rInt_ok hS
  clear hc0 hc1 hRV HSS kD hd0
  have HS4:Hid (∀ w',Below wq.heap.size wq w'->(w'.cell? ⟨w.heap.size+1,0,none⟩=some (.int .i64 q.fVariableCount)/\w'.cell? ⟨w.heap.size+1,1,none⟩=some (.slice (some ⟨b,off,none⟩) nqAtoms cqAtoms))):=by
   show ∀ w',_->_
   intro w' hb
   exact⟨(kQ.below hb).bx 0 _ rfl,(kQ.below hb).bx 1 _ rfl⟩
  have hd4:=(Below.refl wq.heap.size wq).drew
  go_wp2
  refine hbg HS4.out hd4 (fun hHeld=>?_)
  refine tka 0 39 hHeld ?_;simp only [putS]
  refine tka 1 40 hHeld ?_;simp only [putS]
  refine tka 2 41 hHeld ?_;simp only [putS]
  refine rd2 3 (some 42) 5 (some 10) (fun K hK=>?_) fun K hK=>?_
  all_goals clear hHeld
  ·have RQ:=(rQuery_rep.2 ⟨_,nqAtoms,cqAtoms,rfl,hqVariableCount,(hqAtoms.below (rAtom_ok NB) (hBq.trans (hd4.mono hBq.size)))⟩)
   go_simp
   refine(sMaskVariables_c _ q (pow2 (k0:Int)) _ RQ).mono ?_
   rintro e w5 ⟨A5,n5,c5,rfl,m5,hb5⟩
   have hC:=hd4.trans (hb5.mono hd4.size)
   rw [HMV.out]at m5
   go_wp2_with fail
   refine hK.out _ _ (HS4.out _ hC) (fun hHeld=>?_)
   clear hK K
   try simp only [putS]
   refine tka 4 43 hHeld ?_;simp only [putS]
   have hz4:=Below.alb hC (.cells #[.slice none 0 0,.slice none 0 0] 51)
   refine YtiafklphblkpbaaGreat.rd 5 (some 10) fun K hK=>?_
   clear hHeld
   go_simp
   refine hK.out _ _ (HS4.out _ hz4) (fun hHeld=>?_)
   clear hK K
   try simp only [putS]
   have kS:=Bk.new w5 [.slice A5 n5 c5,.slice none 0 0] 51
   have hS4:=Below.alb hC (.cells #[.slice A5 n5 c5,.slice none 0 0] 51)
   refine YtiafklphblkpbaaGreat.rd 6 none fun K hK=>?_
   clear hHeld
   go_simp
   refine hK.out _ _ (HS4.out _ hS4) (fun hHeld=>?_)
   clear hK K
   try simp only [putS]
   refine wpAnyH_done (by kernel_rfl) ?_ _
   clear hHeld
   clear HS4
   obtain⟨f5,o5,fr5⟩:=m5
   have e5:=(osInt.1 o5).1
   subst e5
   have hlt5:=o5.lt rInt_ok
   have ov:=o5.belowS rInt_ok ((Below.refl w5.heap.size w5).alloc (Nat.le_refl _) (.cells #[.slice A5 n5 c5,.slice none 0 0] 51))
   have HV:Hid (∀ k∈blk A5,k<(w5.alloc (.cells #[.slice A5 n5 c5,.slice none 0 0] 51)).heap.size/\k≠w5.heap.size/\wq.heap.size<=k):=by
    show ∀ k∈blk A5,_
    intro k hk
    have h1:=hlt5 k hk
    have h2:=fr5.ge k hk
    exact⟨by simp;omega,by omega,h2⟩
   obtain⟨w7,hw7⟩:∃ W,W=(w5.alloc (.cells #[.slice A5 n5 c5,.slice none 0 0] 51)):=⟨_,rfl⟩
   obtain⟨gS,hgS⟩:∃ g,g=w5.heap.size:=⟨_,rfl⟩
   rw [<- hw7]at kS hS4 ov HV ⊢
   rw [<- hgS]at kS HV ⊢
   have hgl:wq.heap.size<=gS:=by rw [hgS];exact hC.size
   clear hC hgS hlt5 o5 fr5
   have kQ7:=kQ.below hS4
   have kR7:=kR.below hS4
   have hB7:=hBq.trans (hS4.mono hBq.size)
   have HF7:Hid (∀ k∈fp,k<w7.heap.size/\k≠gS):=by
    show ∀ k∈fp,_
    intro k hk
    have h1:=HF2.out k hk
    have h2:=hS4.size
    exact⟨by omega,by omega⟩
   have o7:=o2.belowS (rSlice_ok NB _ rInt_ok) hS4
   have hgR:w.heap.size+1+1<wq.heap.size:=kR.lt
   have gl7:=kS.lt
   have J0:Scs w7 gS A5 n5 c5 none 0 0 [] w7:=⟨kS,MS.nil _ (Nat.zero_le _),Below.refl _ _,fun _ _ _=>rfl,gl7⟩
   have hn5:n5<=4294967296:=ov.nb
   have HV7:=Lib.hid ov.len
   have hn2:n2<=4294967296:=(o7.rs (rSlice_ok NB _ rInt_ok)).bound
   have HL2:=Lib.hid (o7.rs (rSlice_ok NB _ rInt_ok)).len
   have hg7:g<w7.heap.size:=Nat.lt_of_lt_of_le kT.lt hS4.size
   have kT7:=kT.below hS4
   have t2:=kT7.bx 2 _ rfl
   go_wp2
   go_loopw [11] (fun i wr=>∃ (k c:Nat) (A:Option Addr),k<=n2/\i=.int .i64 k/\Scs w7 gS A5 n5 c5 A k c ((t.fRows.take k).map (scanRow a.fVars (sortI a.fVars))) wr) (fun i _=>n2 - (intOf i).toNat)
   case atStart=>exact⟨0,0,none,Nat.zero_le _,rfl,J0⟩
   case round =>
    clear J0 t2
    obtain⟨k,c,A,hk,rfl,J⟩:=hrel
    have hq:Below wq.heap.size wq wr:=hS4.trans (J.be.mono hgl)
    have hqs:=hq.size
    have h7s:=J.be.size
    have hBr:Below w.heap.size w wr:=hBq.trans (hq.mono hBq.size)
    have kT3:=kT.below hq
    have t2:=kT3.bx 2 _ rfl
    by_cases hlt:k<n2
    ·have o3:=o7.okeep (w':=wr) (rSlice_ok NB _ rInt_ok) (fun z hz=>J.bk z (HF7.out z hz).1 (HF7.out z hz).2)
     have ov3:=ov.okeep (w':=wr) rInt_ok (fun z hz=>J.bk z (HV.out z hz).1 (HV.out z hz).2.1)
     obtain⟨br,or_,x,A1,n1,c1,rfl,hcr,hx,hxx⟩:=(o3.rs (rSlice_ok NB _ rInt_ok)).row hlt
     have HXl:Hid (x.length=a.fVars.length):=by show _=_;exact(HRows.out x (mem_of_at hxx.out)).1
     have HX:=Lib.hid hxx.out;clear hxx
     have s0:=J.kS.bx 0 _ rfl
     have hM0:=MS.empty (B:=wr.heap.size) (M:=NB) (e:=3) (r:=rInt) wr (Nat.le_refl _)
     have hA0:=(Below.refl wr.heap.size wr).alloc (Nat.le_refl _) (.cells #[] 3)
     rename World=>wo
     go_wp2
     go_loopw [12,13] (fun xo iv wr=>∃ (j c:Nat) (B:Option Addr),j<=n5/\iv=.int .i64 j/\xo=.slice B j c/\MS wo.heap.size NB 3 rInt wr B j c (scanRow a.fVars ((sortI a.fVars).take j) x)/\Below wo.heap.size wo wr) (fun _ iv _=>n5 - (intOf iv).toNat)
     case atStart=>exact⟨0,0,_,Nat.zero_le _,rfl,rfl,hM0,hA0⟩
     case round =>
      clear hM0 hA0 s0 t2
      obtain⟨j,cj,B,hj,rfl,rfl,hM,hE⟩:=hrel
      have hEz:=hE.size
      have J2:=J.below hE
      have s0:=J2.kS.bx 0 _ rfl
      by_cases hlt2:j<n5
      ·obtain⟨bv,ov_,v,rfl,hcv,hIv,hv⟩:=(ov3.rs rInt_ok).ati hlt2
       obtain⟨m,z,f1,f2,f3,f4⟩:=scan_at (av:=a.fVars) (row:=x) HXl.out (fun v hv=>sortI_mem.1 hv) hv.out
       have HS:=Lib.hid (scanRow_snoc (av:=a.fVars) (row:=x) hv.out f4)
       have F1:=Lib.hid f1
       have hm:m<n1:=by rw [<- hx.len];exact f2
       obtain⟨bx,ox,z',rfl,hcz,hIz,hz⟩:=hx.ati hm
       obtain rfl:z=z':=by have:=hz.out;rw [f3]at this;injection this
       clear f1 f2 f3 f4 hv hz
       have HS12:Hid (∀ w',Below wo.heap.size wr w'->(w'.cell? ⟨g,2,none⟩=some (.slice (some ⟨br,or_,none⟩) n2 c2)/\w'.cell? ⟨br,or_+k,none⟩=some (.slice (some ⟨bx,ox,none⟩) n1 c1)/\w'.cell? ⟨w.heap.size+1,1,none⟩=some (.slice (some ⟨b,off,none⟩) nqAtoms cqAtoms)/\w'.cell? ⟨b,off+k0*2,none⟩=some (.string a.fName)/\w'.cell? ⟨b,off+k0*2+1,none⟩=some (.slice AV nV cV)/\w'.cell? ⟨gS,0,none⟩=some (.slice (some ⟨bv,ov_,none⟩) n5 c5)/\w'.cell? ⟨bv,ov_+j,none⟩=some (.int .i64 v)/\w'.cell? ⟨bx,ox+m,none⟩=some (.int .i64 z))):=by
        show ∀ w',_->_
        intro w' hb
        have hE2:=hE.trans hb
        have hz:=hq.trans (hE2.mono hqs)
        exact⟨(kT.below hz).bx 2 _ rfl,cells_below hE2 _ _ hcr,(kQ.below hz).bx 1 _ rfl,cells_below hz _ _ hc0q,cells_below hz _ _ hc1q,(J.kS.below hE2).bx 0 _ rfl,cells_below hE2 _ _ hcv,cells_below hE2 _ _ hcz⟩
       have hdr:=(Below.refl wr.heap.size wr).drew
       have RA:=hRq.below rInt_ok (hq.trans ((hE.trans (hdr.mono hEz)).mono hqs))
       go_wp2
       clear s0
       refine hbg HS12.out (hdr.mono hEz) (fun hHeld=>?_)
       refine tka 0 59 hHeld ?_;simp only [putS]
       refine tka 1 60 hHeld ?_;simp only [putS]
       refine tka 2 61 hHeld ?_;simp only [putS]
       refine tka 3 62 hHeld ?_;simp only [putS]
       refine tka 4 63 hHeld ?_;simp only [putS]
       refine tka 5 64 hHeld ?_;simp only [putS]
       refine tka 6 65 hHeld ?_;simp only [putS]
       refine tka 7 66 hHeld ?_;simp only [putS]
       refine tka 8 67 hHeld ?_;simp only [putS]
       refine tka 9 68 hHeld ?_;simp only [putS]
       refine tka 10 69 hHeld ?_;simp only [putS]
       refine tka 11 70 hHeld ?_;simp only [putS]
       refine tka 12 71 hHeld ?_;simp only [putS]
       refine tka 13 72 hHeld ?_;simp only [putS]
       refine tka 14 73 hHeld ?_;simp only [putS]
       refine tka 15 74 hHeld ?_;simp only [putS]
       refine YtiafklphblkpbaaGreat.rd 16 (some 75) fun K hK=>?_
       clear hHeld
       go_simp
       refine(sL19Column_c _ _ _ _ _ _ _ RA).mono ?_
       rintro e w6 ⟨he,hb6⟩
       rw [F1.out]at he
       subst he
       have hC:=hdr.trans (hb6.mono hdr.size)
       go_wp2_with fail
       refine hK.out _ _ (HS12.out _ (hC.mono hEz)) (fun hHeld=>?_)
       clear hK K
       try simp only [putS]
       refine tka 17 76 hHeld ?_;simp only [putS]
       refine tka 18 77 hHeld ?_;simp only [putS]
       have hz:=Below.alb hC (.cells #[.int .i64 z] 3)
       refine YtiafklphblkpbaaGreat.rd 19 (some 78) fun K hK=>?_
       clear hHeld
       go_simp
       refine hK.out _ _ (HS12.out _ (hz.mono hEz)) (fun hHeld=>?_)
       clear hK K
       try simp only [putS]
       refine YtiafklphblkpbaaGreat.rd 20 (some 79) fun K hK=>?_
       clear hHeld
       refine step_appR (r:=rInt) (by rfl) _ _ 24 (by rfl) _ 8 eiInt rInt_ok (by rfl) hM hz hEz ⟨w6.heap.size,0,none⟩ (by rfl) (f:=[]) (cs:=[.int .i64 z]) (y:=z) ⟨rfl,rfl,hIz⟩ (Fr.nil _) (cell_one_new _ _ _) (by unfold NB;omega) (Nat.le_refl _) (by omega) ?_
       intro A9 c9 w9 hM9 hb9 hg9 hA9
       have hD:=(hz.mono hEz).trans hb9
       refine hK.out _ _ (HS12.out _ hD) (fun hHeld=>?_)
       clear hK K
       try simp only [putS]
       refine tka 21 12 hHeld ?_;simp only [putS]
       refine wpAnyH_done (by kernel_rfl) ?_ _
       clear hHeld
       clear HS12
       go_wp2
       go_roundw
       case rel=>exact⟨j+1,c9,A9,by omega,by go_num,rfl,by rw [HS.out];exact hM9,hE.trans hD⟩
       case measure=>simp [intOf];omega
      ·have HTk:Hid ((sortI a.fVars).take j=sortI a.fVars):=by show _=_;exact take_all HV7.out hlt2
       rw [HTk.out]at hM
       have hj5:n5=j:=by omega
       subst hj5
       obtain⟨fx,ox,frx⟩:=hM
       have hS2:Hid ((t.fRows.take (k+1)).map (scanRow a.fVars (sortI a.fVars))=(t.fRows.take k).map (scanRow a.fVars (sortI a.fVars))++[scanRow a.fVars (sortI a.fVars) x]):=by show _=_;rw [take_snoc HX.out,List.map_append];rfl
       have s1:=J2.kS.bx 1 _ rfl
       have fs1:=J2.kS.frozen 1
       have hAl:=(Below.refl wr.heap.size wr).alloc (Nat.le_refl _) (.cells #[.slice B n5 cj] 24)
       have hoz:w7.heap.size<=wo.heap.size:=h7s
       go_wp2_with (at_builtin;refine wpList_app (r:=rSlice NB 3 rInt) rfl _ _ 49 rfl _ 24 eiRowS (rSlice_ok NB _ rInt_ok) rfl J.ms (hE.trans (hAl.mono hEz)) hoz ⟨wr.heap.size,0,none⟩ rfl fx [.slice B n5 cj] (scanRow a.fVars (sortI a.fVars) x) ⟨B,n5,cj,rfl,ox.belowS rInt_ok hAl⟩ frx (cell_one_new _ _ _) (by unfold NB;omega) (Nat.le_refl _) (by omega) ?_;intro A9 k9 w9 hM9 hb9 hg9;have s91:Bk w9 gS 51 [.slice A5 n5 c5,.slice A k c]:=(hb9.block _ gl7).trans (J2.kS.below hAl);have s92:=s91.bx 1 _ rfl;have s93:=s91.frozen 1)
       have J9:=(J2.below hAl).app hM9 hb9
       go_roundw
       case rel=>exact⟨k+1,k9,A9,by omega,by go_num,by rw [hS2.out];exact J9⟩
       case measure=>simp [intOf];omega
    ·have HTk:Hid (t.fRows.take k=t.fRows):=by show _=_;exact take_all HL2.out hlt
     rw [HTk.out]at J
     have s0:=J.kS.bx 0 _ rfl
     have s1:=J.kS.bx 1 _ rfl
     have kR3:=kR.below hq
     have r0:=kR3.bx 0 _ rfl
     have r1:=kR3.bx 1 _ rfl
     have f0:=kR3.frozen 0
     have f1:=kR3.frozen 1
     go_wp2
     have q4:=(kR3.set 0 (.slice A5 n5 c5)).set 1 (.slice A k c)
     have z0:=q4.bx 0 _ rfl
     have z1:=q4.bx 1 _ rfl
     refine bodyPost_ret (v:=.tuple #[.agg #[.slice A5 n5 c5,.slice A k c],.bool true]) (by simp [results,Tryz.results21,go_sem,z0,z1]) rfl ?_
     rw [HY.out]
     obtain⟨fz,g1,g2,g3⟩:=J.fin (w:=w) (gR:=w.heap.size+1+1) ov (by omega) (fun z hz=>by have:=HV.out z hz;exact⟨by omega,this.1,this.2.1⟩) (by omega) hBr (.slice A5 n5 c5) (.slice A k c)
     exact⟨_,fz,rfl,g1,g2,g3⟩
  ·have hz4:=Below.alb hd4 (.cells #[.slice none 0 0,.slice none 0 0] 51)
   have hg4:=Lib.hid (Nat.le_refl wq.heap.size)
   have kz4:=Bk.new wq.drew [.slice none 0 0,.slice none 0 0] 51
   go_simp
   refine hK.out _ _ (HS4.out _ hz4) (fun hHeld=>?_)
   clear hK K
   try simp only [putS]
   have RQ:=(rQuery_rep.2 ⟨_,nqAtoms,cqAtoms,rfl,hqVariableCount,(hqAtoms.below (rAtom_ok NB) (hBq.trans (hz4.mono hBq.size)))⟩)
   refine YtiafklphblkpbaaGreat.rd 3 (some 42) fun K hK=>?_
   clear hHeld
   go_simp
   refine(sMaskVariables_c _ q (pow2 (k0:Int)) _ RQ).mono ?_
   rintro e w5 ⟨A5,n5,c5,rfl,m5,hb5⟩
   have hC:=hz4.trans (hb5.mono hz4.size)
   rw [HMV.out]at m5
   go_wp2_with fail
   refine hK.out _ _ (HS4.out _ hC) (fun hHeld=>?_)
   clear hK K
   try simp only [putS]
   refine tka 4 43 hHeld ?_;simp only [putS]
   have kZ:Bk w5 wq.heap.size 51 [.slice none 0 0,.slice none 0 0]:=kz4.below hb5
   have z0:=kZ.bx 0 _ rfl
   have z1:=kZ.bx 1 _ rfl
   have y0:=kZ.frozen 0
   have y1:=kZ.frozen 1
   have kS:Bk ((w5.setCell ⟨wq.heap.size,0,none⟩ (.slice A5 n5 c5)).setCell ⟨wq.heap.size,1,none⟩ (.slice none 0 0)) wq.heap.size 51 [.slice A5 n5 c5,.slice none 0 0]:=(kZ.set 0 (.slice A5 n5 c5)).set 1 (.slice none 0 0)
   have hS4:Below wq.heap.size wq ((w5.setCell ⟨wq.heap.size,0,none⟩ (.slice A5 n5 c5)).setCell ⟨wq.heap.size,1,none⟩ (.slice none 0 0)):=(hC.setCell (p:=⟨wq.heap.size,0,none⟩) (Nat.le_refl _) _).setCell (p:=⟨wq.heap.size,1,none⟩) (Nat.le_refl _) _
   refine YtiafklphblkpbaaGreat.rd 6 none fun K hK=>?_
   clear hHeld
   go_simp
   refine hK.out _ _ (HS4.out _ hS4) (fun hHeld=>?_)
   clear hK K
   try simp only [putS]
   clear z0 z1 y0 y1
   refine wpAnyH_done (by kernel_rfl) ?_ _
   clear hHeld
   clear HS4
   obtain⟨f5,o5,fr5⟩:=m5
   have e5:=(osInt.1 o5).1
   subst e5
   have hlt5:=o5.lt rInt_ok
   have hf5:∀ k∈blk A5,wq.heap.size+1<=k:=fun k hk=>by have:=fr5.ge k hk;simpa using this
   have hn5:∀ k∈blk A5,k≠wq.heap.size:=fun k hk e=>by have:=hf5 k hk;omega
   have ov:OS NB 3 rInt ((w5.setCell ⟨wq.heap.size,0,none⟩ (.slice A5 n5 c5)).setCell ⟨wq.heap.size,1,none⟩ (.slice none 0 0)) (blk A5) A5 n5 c5 (sortI a.fVars):=o5.okeep rInt_ok (fun k hk=>(heap_setCell_other _ ⟨wq.heap.size,1,none⟩ k _ (fun e=>hn5 k hk e)).trans (heap_setCell_other _ ⟨wq.heap.size,0,none⟩ k _ (fun e=>hn5 k hk e)))
   have HV:Hid (∀ k∈blk A5,k<((w5.setCell ⟨wq.heap.size,0,none⟩ (.slice A5 n5 c5)).setCell ⟨wq.heap.size,1,none⟩ (.slice none 0 0)).heap.size/\k≠wq.heap.size/\wq.heap.size<=k):=by
    show ∀ k∈blk A5,_
    intro k hk
    have h1:=hlt5 k hk
    have h2:=hf5 k hk
    exact⟨by simp;omega,by omega,by omega⟩
   obtain⟨w7,hw7⟩:∃ W,W=((w5.setCell ⟨wq.heap.size,0,none⟩ (.slice A5 n5 c5)).setCell ⟨wq.heap.size,1,none⟩ (.slice none 0 0)):=⟨_,rfl⟩
   rw [<- hw7]at kS hS4 ov HV ⊢
   clear hw7
   obtain⟨gS,hgS⟩:∃ g,g=wq.heap.size:=⟨_,rfl⟩
   have HV2:Hid (∀ k∈blk A5,k<w7.heap.size/\k≠gS/\wq.heap.size<=k):=by show ∀ k∈blk A5,_;rw [hgS];exact HV.out
   clear HV
   have HV:=HV2
   clear HV2
   rw [<- hgS]at kS ⊢
   have hgl:wq.heap.size<=gS:=by rw [hgS];exact Nat.le_refl _
   clear hC hgS hlt5 o5 fr5
   have kQ7:=kQ.below hS4
   have kR7:=kR.below hS4
   have hB7:=hBq.trans (hS4.mono hBq.size)
   have HF7:Hid (∀ k∈fp,k<w7.heap.size/\k≠gS):=by
    show ∀ k∈fp,_
    intro k hk
    have h1:=HF2.out k hk
    have h2:=hS4.size
    exact⟨by omega,by omega⟩
   have o7:=o2.belowS (rSlice_ok NB _ rInt_ok) hS4
   have hgR:w.heap.size+1+1<wq.heap.size:=kR.lt
   have gl7:=kS.lt
   have J0:Scs w7 gS A5 n5 c5 none 0 0 [] w7:=⟨kS,MS.nil _ (Nat.zero_le _),Below.refl _ _,fun _ _ _=>rfl,gl7⟩
   have hn5:n5<=4294967296:=ov.nb
   have HV7:=Lib.hid ov.len
   have hn2:n2<=4294967296:=(o7.rs (rSlice_ok NB _ rInt_ok)).bound
   have HL2:=Lib.hid (o7.rs (rSlice_ok NB _ rInt_ok)).len
   have hg7:g<w7.heap.size:=Nat.lt_of_lt_of_le kT.lt hS4.size
   have kT7:=kT.below hS4
   have t2:=kT7.bx 2 _ rfl
   go_wp2
   go_loopw [11] (fun i wr=>∃ (k c:Nat) (A:Option Addr),k<=n2/\i=.int .i64 k/\Scs w7 gS A5 n5 c5 A k c ((t.fRows.take k).map (scanRow a.fVars (sortI a.fVars))) wr) (fun i _=>n2 - (intOf i).toNat)
   case atStart=>exact⟨0,0,none,Nat.zero_le _,rfl,J0⟩
   case round =>
    clear J0 t2
    obtain⟨k,c,A,hk,rfl,J⟩:=hrel
    have hq:Below wq.heap.size wq wr:=hS4.trans (J.be.mono hgl)
    have hqs:=hq.size
    have h7s:=J.be.size
    have hBr:Below w.heap.size w wr:=hBq.trans (hq.mono hBq.size)
    have kT3:=kT.below hq
    have t2:=kT3.bx 2 _ rfl
    by_cases hlt:k<n2
    ·have o3:=o7.okeep (w':=wr) (rSlice_ok NB _ rInt_ok) (fun z hz=>J.bk z (HF7.out z hz).1 (HF7.out z hz).2)
     have ov3:=ov.okeep (w':=wr) rInt_ok (fun z hz=>J.bk z (HV.out z hz).1 (HV.out z hz).2.1)
     obtain⟨br,or_,x,A1,n1,c1,rfl,hcr,hx,hxx⟩:=(o3.rs (rSlice_ok NB _ rInt_ok)).row hlt
     have HXl:Hid (x.length=a.fVars.length):=by show _=_;exact(HRows.out x (mem_of_at hxx.out)).1
     have HX:=Lib.hid hxx.out;clear hxx
     have s0:=J.kS.bx 0 _ rfl
     have hM0:=MS.empty (B:=wr.heap.size) (M:=NB) (e:=3) (r:=rInt) wr (Nat.le_refl _)
     have hA0:=(Below.refl wr.heap.size wr).alloc (Nat.le_refl _) (.cells #[] 3)
     rename World=>wo
     go_wp2
     go_loopw [12,13] (fun xo iv wr=>∃ (j c:Nat) (B:Option Addr),j<=n5/\iv=.int .i64 j/\xo=.slice B j c/\MS wo.heap.size NB 3 rInt wr B j c (scanRow a.fVars ((sortI a.fVars).take j) x)/\Below wo.heap.size wo wr) (fun _ iv _=>n5 - (intOf iv).toNat)
     case atStart=>exact⟨0,0,_,Nat.zero_le _,rfl,rfl,hM0,hA0⟩
     case round =>
      clear hM0 hA0 s0 t2
      obtain⟨j,cj,B,hj,rfl,rfl,hM,hE⟩:=hrel
      have hEz:=hE.size
      have J2:=J.below hE
      have s0:=J2.kS.bx 0 _ rfl
      by_cases hlt2:j<n5
      ·obtain⟨bv,ov_,v,rfl,hcv,hIv,hv⟩:=(ov3.rs rInt_ok).ati hlt2
       obtain⟨m,z,f1,f2,f3,f4⟩:=scan_at (av:=a.fVars) (row:=x) HXl.out (fun v hv=>sortI_mem.1 hv) hv.out
       have HS:=Lib.hid (scanRow_snoc (av:=a.fVars) (row:=x) hv.out f4)
       have F1:=Lib.hid f1
       have hm:m<n1:=by rw [<- hx.len];exact f2
       obtain⟨bx,ox,z',rfl,hcz,hIz,hz⟩:=hx.ati hm
       obtain rfl:z=z':=by have:=hz.out;rw [f3]at this;injection this
       clear f1 f2 f3 f4 hv hz
       have HS12:Hid (∀ w',Below wo.heap.size wr w'->(w'.cell? ⟨g,2,none⟩=some (.slice (some ⟨br,or_,none⟩) n2 c2)/\w'.cell? ⟨br,or_+k,none⟩=some (.slice (some ⟨bx,ox,none⟩) n1 c1)/\w'.cell? ⟨w.heap.size+1,1,none⟩=some (.slice (some ⟨b,off,none⟩) nqAtoms cqAtoms)/\w'.cell? ⟨b,off+k0*2,none⟩=some (.string a.fName)/\w'.cell? ⟨b,off+k0*2+1,none⟩=some (.slice AV nV cV)/\w'.cell? ⟨gS,0,none⟩=some (.slice (some ⟨bv,ov_,none⟩) n5 c5)/\w'.cell? ⟨bv,ov_+j,none⟩=some (.int .i64 v)/\w'.cell? ⟨bx,ox+m,none⟩=some (.int .i64 z))):=by
        show ∀ w',_->_
        intro w' hb
        have hE2:=hE.trans hb
        have hz:=hq.trans (hE2.mono hqs)
        exact⟨(kT.below hz).bx 2 _ rfl,cells_below hE2 _ _ hcr,(kQ.below hz).bx 1 _ rfl,cells_below hz _ _ hc0q,cells_below hz _ _ hc1q,(J.kS.below hE2).bx 0 _ rfl,cells_below hE2 _ _ hcv,cells_below hE2 _ _ hcz⟩
       have hdr:=(Below.refl wr.heap.size wr).drew
       have RA:=hRq.below rInt_ok (hq.trans ((hE.trans (hdr.mono hEz)).mono hqs))
       go_wp2
       clear s0
       refine hbg HS12.out (hdr.mono hEz) (fun hHeld=>?_)
       refine tka 0 59 hHeld ?_;simp only [putS]
       refine tka 1 60 hHeld ?_;simp only [putS]
       refine tka 2 61 hHeld ?_;simp only [putS]
       refine tka 3 62 hHeld ?_;simp only [putS]
       refine tka 4 63 hHeld ?_;simp only [putS]
       refine tka 5 64 hHeld ?_;simp only [putS]
       refine tka 6 65 hHeld ?_;simp only [putS]
       refine tka 7 66 hHeld ?_;simp only [putS]
       refine tka 8 67 hHeld ?_;simp only [putS]
       refine tka 9 68 hHeld ?_;simp only [putS]
       refine tka 10 69 hHeld ?_;simp only [putS]
       refine tka 11 70 hHeld ?_;simp only [putS]
       refine tka 12 71 hHeld ?_;simp only [putS]
       refine tka 13 72 hHeld ?_;simp only [putS]
       refine tka 14 73 hHeld ?_;simp only [putS]
       refine tka 15 74 hHeld ?_;simp only [putS]
       refine YtiafklphblkpbaaGreat.rd 16 (some 75) fun K hK=>?_
       clear hHeld
       go_simp
       refine(sL19Column_c _ _ _ _ _ _ _ RA).mono ?_
       rintro e w6 ⟨he,hb6⟩
       rw [F1.out]at he
       subst he
       have hC:=hdr.trans (hb6.mono hdr.size)
       go_wp2_with fail
       refine hK.out _ _ (HS12.out _ (hC.mono hEz)) (fun hHeld=>?_)
       clear hK K
       try simp only [putS]
       refine tka 17 76 hHeld ?_;simp only [putS]
       refine tka 18 77 hHeld ?_;simp only [putS]
       have hz:=Below.alb hC (.cells #[.int .i64 z] 3)
       refine YtiafklphblkpbaaGreat.rd 19 (some 78) fun K hK=>?_
       clear hHeld
       go_simp
       refine hK.out _ _ (HS12.out _ (hz.mono hEz)) (fun hHeld=>?_)
       clear hK K
       try simp only [putS]
       refine YtiafklphblkpbaaGreat.rd 20 (some 79) fun K hK=>?_
       clear hHeld
       refine step_appR (r:=rInt) (by rfl) _ _ 24 (by rfl) _ 8 eiInt rInt_ok (by rfl) hM hz hEz ⟨w6.heap.size,0,none⟩ (by rfl) (f:=[]) (cs:=[.int .i64 z]) (y:=z) ⟨rfl,rfl,hIz⟩ (Fr.nil _) (cell_one_new _ _ _) (by unfold NB;omega) (Nat.le_refl _) (by omega) ?_
       intro A9 c9 w9 hM9 hb9 hg9 hA9
       have hD:=(hz.mono hEz).trans hb9
       refine hK.out _ _ (HS12.out _ hD) (fun hHeld=>?_)
       clear hK K
       try simp only [putS]
       refine tka 21 12 hHeld ?_;simp only [putS]
       refine wpAnyH_done (by kernel_rfl) ?_ _
       clear hHeld
       clear HS12
       go_wp2
       go_roundw
       case rel=>exact⟨j+1,c9,A9,by omega,by go_num,rfl,by rw [HS.out];exact hM9,hE.trans hD⟩
       case measure=>simp [intOf];omega
      ·have HTk:Hid ((sortI a.fVars).take j=sortI a.fVars):=by show _=_;exact take_all HV7.out hlt2
       rw [HTk.out]at hM
       have hj5:n5=j:=by omega
       subst hj5
       obtain⟨fx,ox,frx⟩:=hM
       have hS2:Hid ((t.fRows.take (k+1)).map (scanRow a.fVars (sortI a.fVars))=(t.fRows.take k).map (scanRow a.fVars (sortI a.fVars))++[scanRow a.fVars (sortI a.fVars) x]):=by show _=_;rw [take_snoc HX.out,List.map_append];rfl
       have s1:=J2.kS.bx 1 _ rfl
       have fs1:=J2.kS.frozen 1
       have hAl:=(Below.refl wr.heap.size wr).alloc (Nat.le_refl _) (.cells #[.slice B n5 cj] 24)
       have hoz:w7.heap.size<=wo.heap.size:=h7s
       go_wp2_with (at_builtin;refine wpList_app (r:=rSlice NB 3 rInt) rfl _ _ 49 rfl _ 24 eiRowS (rSlice_ok NB _ rInt_ok) rfl J.ms (hE.trans (hAl.mono hEz)) hoz ⟨wr.heap.size,0,none⟩ rfl fx [.slice B n5 cj] (scanRow a.fVars (sortI a.fVars) x) ⟨B,n5,cj,rfl,ox.belowS rInt_ok hAl⟩ frx (cell_one_new _ _ _) (by unfold NB;omega) (Nat.le_refl _) (by omega) ?_;intro A9 k9 w9 hM9 hb9 hg9;have s91:Bk w9 gS 51 [.slice A5 n5 c5,.slice A k c]:=(hb9.block _ gl7).trans (J2.kS.below hAl);have s92:=s91.bx 1 _ rfl;have s93:=s91.frozen 1)
       have J9:=(J2.below hAl).app hM9 hb9
       go_roundw
       case rel=>exact⟨k+1,k9,A9,by omega,by go_num,by rw [hS2.out];exact J9⟩
       case measure=>simp [intOf];omega
    ·have HTk:Hid (t.fRows.take k=t.fRows):=by show _=_;exact take_all HL2.out hlt
     rw [HTk.out]at J
     have s0:=J.kS.bx 0 _ rfl
     have s1:=J.kS.bx 1 _ rfl
     have kR3:=kR.below hq
     have r0:=kR3.bx 0 _ rfl
     have r1:=kR3.bx 1 _ rfl
     have f0:=kR3.frozen 0
     have f1:=kR3.frozen 1
     go_wp2
     have q4:=(kR3.set 0 (.slice A5 n5 c5)).set 1 (.slice A k c)
     have z0:=q4.bx 0 _ rfl
     have z1:=q4.bx 1 _ rfl
     refine bodyPost_ret (v:=.tuple #[.agg #[.slice A5 n5 c5,.slice A k c],.bool true]) (by simp [results,Tryz.results21,go_sem,z0,z1]) rfl ?_
     rw [HY.out]
     obtain⟨fz,g1,g2,g3⟩:=J.fin (w:=w) (gR:=w.heap.size+1+1) ov (by omega) (fun z hz=>by have:=HV.out z hz;exact⟨by omega,this.1,this.2.1⟩) (by omega) hBr (.slice A5 n5 c5) (.slice A k c)
     exact⟨_,fz,rfl,g1,g2,g3⟩
 ·have hz0:=Below.alb hd0 (.cells #[.string ⟨#[]⟩,.int .i64 0,.slice none 0 0] 82)
  have hg0:=Lib.hid (Nat.le_refl w1.heap.size)
  have kz0:=Bk.new w1.drew [.string ⟨#[]⟩,.int .i64 0,.slice none 0 0] 82
  go_simp
  refine hK.out _ _ (HSS.out _ hz0) (fun hHeld=>?_)
  clear hK K
  try simp only [putS]
  have RD:=(rDatabase_rep.2 ⟨AdTables,ndTables,cdTables,rfl,(hdTables.below (rTable_ok NB) (hB.trans (hz0.mono hB.size)))⟩)
  refine YtiafklphblkpbaaGreat.rd 7 (some 36) fun K hK=>?_
  clear hHeld
  go_simp
  have C:=sLookupTable_c _ d a.fName _ RD
  rw [HT.out]at C
  refine C.mono ?_
  clear C
  rintro e w4 ⟨cs,fp,rfl,ot,ft,hb4⟩
  obtain⟨A2,n2,c2,fR,rfl,hfR,e1,e2,o2⟩:=rTable_own.1 ot
  subst hfR
  clear ot
  have hC:=hz0.trans (hb4.mono hz0.size)
  have hlt4:=o2.lt (rSlice_ok NB _ rInt_ok)
  go_wp2_with fail
  refine hK.out _ _ (HSS.out _ hC) (fun hHeld=>?_)
  clear hK K
  try simp only [putS]
  refine tka 8 28 hHeld ?_;simp only [putS]
  refine tka 9 37 hHeld ?_;simp only [putS]
  refine tka 10 38 hHeld ?_;simp only [putS]
  have kZ:Bk w4 w1.heap.size 82 [.string ⟨#[]⟩,.int .i64 0,.slice none 0 0]:=kz0.below hb4
  have z0:=kZ.bx 0 _ rfl
  have z1:=kZ.bx 1 _ rfl
  have z2:=kZ.bx 2 _ rfl
  have y0:=kZ.frozen 0
  have y1:=kZ.frozen 1
  have y2:=kZ.frozen 2
  have kT:=cells_set3 (x:=.string t.fName) (y:=.int .i64 t.fArity) (z:=.slice A2 n2 c2) kZ
  have hS:Below w1.heap.size w1 (((w4.setCell ⟨w1.heap.size,0,none⟩ (.string t.fName)).setCell ⟨w1.heap.size,1,none⟩ (.int .i64 t.fArity)).setCell ⟨w1.heap.size,2,none⟩ (.slice A2 n2 c2)):=((hC.setCell (p:=⟨w1.heap.size,0,none⟩) (Nat.le_refl _) _).setCell (p:=⟨w1.heap.size,1,none⟩) (Nat.le_refl _) _).setCell (p:=⟨w1.heap.size,2,none⟩) (Nat.le_refl _) _
  refine YtiafklphblkpbaaGreat.rd 12 none fun K hK=>?_
  clear hHeld
  go_simp
  refine hK.out _ _ (HSS.out _ hS) (fun hHeld=>?_)
  clear hK K
  try simp only [putS]
  refine tka 13 9 hHeld ?_;simp only [putS]
  refine wpAnyH_done (by kernel_rfl) ?_ _
  clear hHeld
  clear z0 z1 z2 y0 y1 y2
  have hf2:∀ k∈fp,k≠w1.heap.size:=fun k hk e=>by have:=ft.ge k hk;simp at this;omega
  have o2b:OS NB 24 (rSlice NB 3 rInt) (((w4.setCell ⟨w1.heap.size,0,none⟩ (.string t.fName)).setCell ⟨w1.heap.size,1,none⟩ (.int .i64 t.fArity)).setCell ⟨w1.heap.size,2,none⟩ (.slice A2 n2 c2)) fp A2 n2 c2 t.fRows:=o2.okeep (rSlice_ok NB _ rInt_ok) (fun k hk=>((heap_setCell_other _ ⟨w1.heap.size,2,none⟩ k _ (fun e=>hf2 k hk e)).trans (heap_setCell_other _ ⟨w1.heap.size,1,none⟩ k _ (fun e=>hf2 k hk e))).trans (heap_setCell_other _ ⟨w1.heap.size,0,none⟩ k _ (fun e=>hf2 k hk e)))
  clear o2 hf2
  have o2:=o2b
  clear o2b
  have HF2:Hid (∀ k∈fp,k<(((w4.setCell ⟨w1.heap.size,0,none⟩ (.string t.fName)).setCell ⟨w1.heap.size,1,none⟩ (.int .i64 t.fArity)).setCell ⟨w1.heap.size,2,none⟩ (.slice A2 n2 c2)).heap.size):=by show ∀ k∈fp,_;intro k hk;have:=hlt4 k hk;simp;omega
  obtain⟨wq,hwq⟩:∃ W,W=(((w4.setCell ⟨w1.heap.size,0,none⟩ (.string t.fName)).setCell ⟨w1.heap.size,1,none⟩ (.int .i64 t.fArity)).setCell ⟨w1.heap.size,2,none⟩ (.slice A2 n2 c2)):=⟨_,rfl⟩
  rw [<- hwq]at kT hS o2 HF2 ⊢
  obtain⟨g,hg⟩:∃ g,g=w1.heap.size:=⟨_,rfl⟩
  rw [<- hg]at kT ⊢
  clear hwq hg hC hlt4 ft
  have hBq:=hB.trans (hS.mono hB.size)
  replace kQ:=kQ.below hS
  replace kR:=kR.below hS
  have hc0q:=cells_below hS _ _ hc0
  have hc1q:=cells_below hS _ _ hc1
  have hRq:=hRV.below rInt_ok hS
  clear hc0 hc1 hRV HSS kD hd0
  have HS4:Hid (∀ w',Below wq.heap.size wq w'->(w'.cell? ⟨w.heap.size+1,0,none⟩=some (.int .i64 q.fVariableCount)/\w'.cell? ⟨w.heap.size+1,1,none⟩=some (.slice (some ⟨b,off,none⟩) nqAtoms cqAtoms))):=by
   show ∀ w',_->_
   intro w' hb
   exact⟨(kQ.below hb).bx 0 _ rfl,(kQ.below hb).bx 1 _ rfl⟩
  have hd4:=(Below.refl wq.heap.size wq).drew
  go_wp2
  refine hbg HS4.out hd4 (fun hHeld=>?_)
  refine tka 0 39 hHeld ?_;simp only [putS]
  refine tka 1 40 hHeld ?_;simp only [putS]
  refine tka 2 41 hHeld ?_;simp only [putS]
  refine rd2 3 (some 42) 5 (some 10) (fun K hK=>?_) fun K hK=>?_
  all_goals clear hHeld
  ·have RQ:=(rQuery_rep.2 ⟨_,nqAtoms,cqAtoms,rfl,hqVariableCount,(hqAtoms.below (rAtom_ok NB) (hBq.trans (hd4.mono hBq.size)))⟩)
   go_simp
   refine(sMaskVariables_c _ q (pow2 (k0:Int)) _ RQ).mono ?_
   rintro e w5 ⟨A5,n5,c5,rfl,m5,hb5⟩
   have hC:=hd4.trans (hb5.mono hd4.size)
   rw [HMV.out]at m5
   go_wp2_with fail
   refine hK.out _ _ (HS4.out _ hC) (fun hHeld=>?_)
   clear hK K
   try simp only [putS]
   refine tka 4 43 hHeld ?_;simp only [putS]
   have hz4:=Below.alb hC (.cells #[.slice none 0 0,.slice none 0 0] 51)
   refine YtiafklphblkpbaaGreat.rd 5 (some 10) fun K hK=>?_
   clear hHeld
   go_simp
   refine hK.out _ _ (HS4.out _ hz4) (fun hHeld=>?_)
   clear hK K
   try simp only [putS]
   have kS:=Bk.new w5 [.slice A5 n5 c5,.slice none 0 0] 51
   have hS4:=Below.alb hC (.cells #[.slice A5 n5 c5,.slice none 0 0] 51)
   refine YtiafklphblkpbaaGreat.rd 6 none fun K hK=>?_
   clear hHeld
   go_simp
   refine hK.out _ _ (HS4.out _ hS4) (fun hHeld=>?_)
   clear hK K
   try simp only [putS]
   refine wpAnyH_done (by kernel_rfl) ?_ _
   clear hHeld
   clear HS4
   obtain⟨f5,o5,fr5⟩:=m5
   have e5:=(osInt.1 o5).1
   subst e5
   have hlt5:=o5.lt rInt_ok
   have ov:=o5.belowS rInt_ok ((Below.refl w5.heap.size w5).alloc (Nat.le_refl _) (.cells #[.slice A5 n5 c5,.slice none 0 0] 51))
   have HV:Hid (∀ k∈blk A5,k<(w5.alloc (.cells #[.slice A5 n5 c5,.slice none 0 0] 51)).heap.size/\k≠w5.heap.size/\wq.heap.size<=k):=by
    show ∀ k∈blk A5,_
    intro k hk
    have h1:=hlt5 k hk
    have h2:=fr5.ge k hk
    exact⟨by simp;omega,by omega,h2⟩
   obtain⟨w7,hw7⟩:∃ W,W=(w5.alloc (.cells #[.slice A5 n5 c5,.slice none 0 0] 51)):=⟨_,rfl⟩
   obtain⟨gS,hgS⟩:∃ g,g=w5.heap.size:=⟨_,rfl⟩
   rw [<- hw7]at kS hS4 ov HV ⊢
   rw [<- hgS]at kS HV ⊢
   have hgl:wq.heap.size<=gS:=by rw [hgS];exact hC.size
   clear hC hgS hlt5 o5 fr5
   have kQ7:=kQ.below hS4
   have kR7:=kR.below hS4
   have hB7:=hBq.trans (hS4.mono hBq.size)
   have HF7:Hid (∀ k∈fp,k<w7.heap.size/\k≠gS):=by
    show ∀ k∈fp,_
    intro k hk
    have h1:=HF2.out k hk
    have h2:=hS4.size
    exact⟨by omega,by omega⟩
   have o7:=o2.belowS (rSlice_ok NB _ rInt_ok) hS4
   have hgR:w.heap.size+1+1<wq.heap.size:=kR.lt
   have gl7:=kS.lt
   have J0:Scs w7 gS A5 n5 c5 none 0 0 [] w7:=⟨kS,MS.nil _ (Nat.zero_le _),Below.refl _ _,fun _ _ _=>rfl,gl7⟩
   have hn5:n5<=4294967296:=ov.nb
   have HV7:=Lib.hid ov.len
   have hn2:n2<=4294967296:=(o7.rs (rSlice_ok NB _ rInt_ok)).bound
   have HL2:=Lib.hid (o7.rs (rSlice_ok NB _ rInt_ok)).len
   have hg7:g<w7.heap.size:=Nat.lt_of_lt_of_le kT.lt hS4.size
   have kT7:=kT.below hS4
   have t2:=kT7.bx 2 _ rfl
   go_wp2
   go_loopw [11] (fun i wr=>∃ (k c:Nat) (A:Option Addr),k<=n2/\i=.int .i64 k/\Scs w7 gS A5 n5 c5 A k c ((t.fRows.take k).map (scanRow a.fVars (sortI a.fVars))) wr) (fun i _=>n2 - (intOf i).toNat)
   case atStart=>exact⟨0,0,none,Nat.zero_le _,rfl,J0⟩
   case round =>
    clear J0 t2
    obtain⟨k,c,A,hk,rfl,J⟩:=hrel
    have hq:Below wq.heap.size wq wr:=hS4.trans (J.be.mono hgl)
    have hqs:=hq.size
    have h7s:=J.be.size
    have hBr:Below w.heap.size w wr:=hBq.trans (hq.mono hBq.size)
    have kT3:=kT.below hq
    have t2:=kT3.bx 2 _ rfl
    by_cases hlt:k<n2
    ·have o3:=o7.okeep (w':=wr) (rSlice_ok NB _ rInt_ok) (fun z hz=>J.bk z (HF7.out z hz).1 (HF7.out z hz).2)
     have ov3:=ov.okeep (w':=wr) rInt_ok (fun z hz=>J.bk z (HV.out z hz).1 (HV.out z hz).2.1)
     obtain⟨br,or_,x,A1,n1,c1,rfl,hcr,hx,hxx⟩:=(o3.rs (rSlice_ok NB _ rInt_ok)).row hlt
     have HXl:Hid (x.length=a.fVars.length):=by show _=_;exact(HRows.out x (mem_of_at hxx.out)).1
     have HX:=Lib.hid hxx.out;clear hxx
     have s0:=J.kS.bx 0 _ rfl
     have hM0:=MS.empty (B:=wr.heap.size) (M:=NB) (e:=3) (r:=rInt) wr (Nat.le_refl _)
     have hA0:=(Below.refl wr.heap.size wr).alloc (Nat.le_refl _) (.cells #[] 3)
     rename World=>wo
     go_wp2
     go_loopw [12,13] (fun xo iv wr=>∃ (j c:Nat) (B:Option Addr),j<=n5/\iv=.int .i64 j/\xo=.slice B j c/\MS wo.heap.size NB 3 rInt wr B j c (scanRow a.fVars ((sortI a.fVars).take j) x)/\Below wo.heap.size wo wr) (fun _ iv _=>n5 - (intOf iv).toNat)
     case atStart=>exact⟨0,0,_,Nat.zero_le _,rfl,rfl,hM0,hA0⟩
     case round =>
      clear hM0 hA0 s0 t2
      obtain⟨j,cj,B,hj,rfl,rfl,hM,hE⟩:=hrel
      have hEz:=hE.size
      have J2:=J.below hE
      have s0:=J2.kS.bx 0 _ rfl
      by_cases hlt2:j<n5
      ·obtain⟨bv,ov_,v,rfl,hcv,hIv,hv⟩:=(ov3.rs rInt_ok).ati hlt2
       obtain⟨m,z,f1,f2,f3,f4⟩:=scan_at (av:=a.fVars) (row:=x) HXl.out (fun v hv=>sortI_mem.1 hv) hv.out
       have HS:=Lib.hid (scanRow_snoc (av:=a.fVars) (row:=x) hv.out f4)
       have F1:=Lib.hid f1
       have hm:m<n1:=by rw [<- hx.len];exact f2
       obtain⟨bx,ox,z',rfl,hcz,hIz,hz⟩:=hx.ati hm
       obtain rfl:z=z':=by have:=hz.out;rw [f3]at this;injection this
       clear f1 f2 f3 f4 hv hz
       have HS12:Hid (∀ w',Below wo.heap.size wr w'->(w'.cell? ⟨g,2,none⟩=some (.slice (some ⟨br,or_,none⟩) n2 c2)/\w'.cell? ⟨br,or_+k,none⟩=some (.slice (some ⟨bx,ox,none⟩) n1 c1)/\w'.cell? ⟨w.heap.size+1,1,none⟩=some (.slice (some ⟨b,off,none⟩) nqAtoms cqAtoms)/\w'.cell? ⟨b,off+k0*2,none⟩=some (.string a.fName)/\w'.cell? ⟨b,off+k0*2+1,none⟩=some (.slice AV nV cV)/\w'.cell? ⟨gS,0,none⟩=some (.slice (some ⟨bv,ov_,none⟩) n5 c5)/\w'.cell? ⟨bv,ov_+j,none⟩=some (.int .i64 v)/\w'.cell? ⟨bx,ox+m,none⟩=some (.int .i64 z))):=by
        show ∀ w',_->_
        intro w' hb
        have hE2:=hE.trans hb
        have hz:=hq.trans (hE2.mono hqs)
        exact⟨(kT.below hz).bx 2 _ rfl,cells_below hE2 _ _ hcr,(kQ.below hz).bx 1 _ rfl,cells_below hz _ _ hc0q,cells_below hz _ _ hc1q,(J.kS.below hE2).bx 0 _ rfl,cells_below hE2 _ _ hcv,cells_below hE2 _ _ hcz⟩
       have hdr:=(Below.refl wr.heap.size wr).drew
       have RA:=hRq.below rInt_ok (hq.trans ((hE.trans (hdr.mono hEz)).mono hqs))
       go_wp2
       clear s0
       refine hbg HS12.out (hdr.mono hEz) (fun hHeld=>?_)
       refine tka 0 59 hHeld ?_;simp only [putS]
       refine tka 1 60 hHeld ?_;simp only [putS]
       refine tka 2 61 hHeld ?_;simp only [putS]
       refine tka 3 62 hHeld ?_;simp only [putS]
       refine tka 4 63 hHeld ?_;simp only [putS]
       refine tka 5 64 hHeld ?_;simp only [putS]
       refine tka 6 65 hHeld ?_;simp only [putS]
       refine tka 7 66 hHeld ?_;simp only [putS]
       refine tka 8 67 hHeld ?_;simp only [putS]
       refine tka 9 68 hHeld ?_;simp only [putS]
       refine tka 10 69 hHeld ?_;simp only [putS]
       refine tka 11 70 hHeld ?_;simp only [putS]
       refine tka 12 71 hHeld ?_;simp only [putS]
       refine tka 13 72 hHeld ?_;simp only [putS]
       refine tka 14 73 hHeld ?_;simp only [putS]
       refine tka 15 74 hHeld ?_;simp only [putS]
       refine YtiafklphblkpbaaGreat.rd 16 (some 75) fun K hK=>?_
       clear hHeld
       go_simp
       refine(sL19Column_c _ _ _ _ _ _ _ RA).mono ?_
       rintro e w6 ⟨he,hb6⟩
       rw [F1.out]at he
       subst he
       have hC:=hdr.trans (hb6.mono hdr.size)
       go_wp2_with fail
       refine hK.out _ _ (HS12.out _ (hC.mono hEz)) (fun hHeld=>?_)
       clear hK K
       try simp only [putS]
       refine tka 17 76 hHeld ?_;simp only [putS]
       refine tka 18 77 hHeld ?_;simp only [putS]
       have hz:=Below.alb hC (.cells #[.int .i64 z] 3)
       refine YtiafklphblkpbaaGreat.rd 19 (some 78) fun K hK=>?_
       clear hHeld
       go_simp
       refine hK.out _ _ (HS12.out _ (hz.mono hEz)) (fun hHeld=>?_)
       clear hK K
       try simp only [putS]
       refine YtiafklphblkpbaaGreat.rd 20 (some 79) fun K hK=>?_
       clear hHeld
       refine step_appR (r:=rInt) (by rfl) _ _ 24 (by rfl) _ 8 eiInt rInt_ok (by rfl) hM hz hEz ⟨w6.heap.size,0,none⟩ (by rfl) (f:=[]) (cs:=[.int .i64 z]) (y:=z) ⟨rfl,rfl,hIz⟩ (Fr.nil _) (cell_one_new _ _ _) (by unfold NB;omega) (Nat.le_refl _) (by omega) ?_
       intro A9 c9 w9 hM9 hb9 hg9 hA9
       have hD:=(hz.mono hEz).trans hb9
       refine hK.out _ _ (HS12.out _ hD) (fun hHeld=>?_)
       clear hK K
       try simp only [putS]
       refine tka 21 12 hHeld ?_;simp only [putS]
       refine wpAnyH_done (by kernel_rfl) ?_ _
       clear hHeld
       clear HS12
       go_wp2
       go_roundw
       case rel=>exact⟨j+1,c9,A9,by omega,by go_num,rfl,by rw [HS.out];exact hM9,hE.trans hD⟩
       case measure=>simp [intOf];omega
      ·have HTk:Hid ((sortI a.fVars).take j=sortI a.fVars):=by show _=_;exact take_all HV7.out hlt2
       rw [HTk.out]at hM
       have hj5:n5=j:=by omega
       subst hj5
       obtain⟨fx,ox,frx⟩:=hM
       have hS2:Hid ((t.fRows.take (k+1)).map (scanRow a.fVars (sortI a.fVars))=(t.fRows.take k).map (scanRow a.fVars (sortI a.fVars))++[scanRow a.fVars (sortI a.fVars) x]):=by show _=_;rw [take_snoc HX.out,List.map_append];rfl
       have s1:=J2.kS.bx 1 _ rfl
       have fs1:=J2.kS.frozen 1
       have hAl:=(Below.refl wr.heap.size wr).alloc (Nat.le_refl _) (.cells #[.slice B n5 cj] 24)
       have hoz:w7.heap.size<=wo.heap.size:=h7s
       go_wp2_with (at_builtin;refine wpList_app (r:=rSlice NB 3 rInt) rfl _ _ 49 rfl _ 24 eiRowS (rSlice_ok NB _ rInt_ok) rfl J.ms (hE.trans (hAl.mono hEz)) hoz ⟨wr.heap.size,0,none⟩ rfl fx [.slice B n5 cj] (scanRow a.fVars (sortI a.fVars) x) ⟨B,n5,cj,rfl,ox.belowS rInt_ok hAl⟩ frx (cell_one_new _ _ _) (by unfold NB;omega) (Nat.le_refl _) (by omega) ?_;intro A9 k9 w9 hM9 hb9 hg9;have s91:Bk w9 gS 51 [.slice A5 n5 c5,.slice A k c]:=(hb9.block _ gl7).trans (J2.kS.below hAl);have s92:=s91.bx 1 _ rfl;have s93:=s91.frozen 1)
       have J9:=(J2.below hAl).app hM9 hb9
       go_roundw
       case rel=>exact⟨k+1,k9,A9,by omega,by go_num,by rw [hS2.out];exact J9⟩
       case measure=>simp [intOf];omega
    ·have HTk:Hid (t.fRows.take k=t.fRows):=by show _=_;exact take_all HL2.out hlt
     rw [HTk.out]at J
     have s0:=J.kS.bx 0 _ rfl
     have s1:=J.kS.bx 1 _ rfl
     have kR3:=kR.below hq
     have r0:=kR3.bx 0 _ rfl
     have r1:=kR3.bx 1 _ rfl
     have f0:=kR3.frozen 0
     have f1:=kR3.frozen 1
     go_wp2
     have q4:=(kR3.set 0 (.slice A5 n5 c5)).set 1 (.slice A k c)
     have z0:=q4.bx 0 _ rfl
     have z1:=q4.bx 1 _ rfl
     refine bodyPost_ret (v:=.tuple #[.agg #[.slice A5 n5 c5,.slice A k c],.bool true]) (by simp [results,Tryz.results21,go_sem,z0,z1]) rfl ?_
     rw [HY.out]
     obtain⟨fz,g1,g2,g3⟩:=J.fin (w:=w) (gR:=w.heap.size+1+1) ov (by omega) (fun z hz=>by have:=HV.out z hz;exact⟨by omega,this.1,this.2.1⟩) (by omega) hBr (.slice A5 n5 c5) (.slice A k c)
     exact⟨_,fz,rfl,g1,g2,g3⟩
  ·have hz4:=Below.alb hd4 (.cells #[.slice none 0 0,.slice none 0 0] 51)
   have hg4:=Lib.hid (Nat.le_refl wq.heap.size)
   have kz4:=Bk.new wq.drew [.slice none 0 0,.slice none 0 0] 51
   go_simp
   refine hK.out _ _ (HS4.out _ hz4) (fun hHeld=>?_)
   clear hK K
   try simp only [putS]
   have RQ:=(rQuery_rep.2 ⟨_,nqAtoms,cqAtoms,rfl,hqVariableCount,(hqAtoms.below (rAtom_ok NB) (hBq.trans (hz4.mono hBq.size)))⟩)
   refine YtiafklphblkpbaaGreat.rd 3 (some 42) fun K hK=>?_
   clear hHeld
   go_simp
   refine(sMaskVariables_c _ q (pow2 (k0:Int)) _ RQ).mono ?_
   rintro e w5 ⟨A5,n5,c5,rfl,m5,hb5⟩
   have hC:=hz4.trans (hb5.mono hz4.size)
   rw [HMV.out]at m5
   go_wp2_with fail
   refine hK.out _ _ (HS4.out _ hC) (fun hHeld=>?_)
   clear hK K
   try simp only [putS]
   refine tka 4 43 hHeld ?_;simp only [putS]
   have kZ:Bk w5 wq.heap.size 51 [.slice none 0 0,.slice none 0 0]:=kz4.below hb5
   have z0:=kZ.bx 0 _ rfl
   have z1:=kZ.bx 1 _ rfl
   have y0:=kZ.frozen 0
   have y1:=kZ.frozen 1
   have kS:Bk ((w5.setCell ⟨wq.heap.size,0,none⟩ (.slice A5 n5 c5)).setCell ⟨wq.heap.size,1,none⟩ (.slice none 0 0)) wq.heap.size 51 [.slice A5 n5 c5,.slice none 0 0]:=(kZ.set 0 (.slice A5 n5 c5)).set 1 (.slice none 0 0)
   have hS4:Below wq.heap.size wq ((w5.setCell ⟨wq.heap.size,0,none⟩ (.slice A5 n5 c5)).setCell ⟨wq.heap.size,1,none⟩ (.slice none 0 0)):=(hC.setCell (p:=⟨wq.heap.size,0,none⟩) (Nat.le_refl _) _).setCell (p:=⟨wq.heap.size,1,none⟩) (Nat.le_refl _) _
   refine YtiafklphblkpbaaGreat.rd 6 none fun K hK=>?_
   clear hHeld
   go_simp
   refine hK.out _ _ (HS4.out _ hS4) (fun hHeld=>?_)
   clear hK K
   try simp only [putS]
   clear z0 z1 y0 y1
   refine wpAnyH_done (by kernel_rfl) ?_ _
   clear hHeld
   clear HS4
   obtain⟨f5,o5,fr5⟩:=m5
   have e5:=(osInt.1 o5).1
   subst e5
   have hlt5:=o5.lt rInt_ok
   have hf5:∀ k∈blk A5,wq.heap.size+1<=k:=fun k hk=>by have:=fr5.ge k hk;simpa using this
   have hn5:∀ k∈blk A5,k≠wq.heap.size:=fun k hk e=>by have:=hf5 k hk;omega
   have ov:OS NB 3 rInt ((w5.setCell ⟨wq.heap.size,0,none⟩ (.slice A5 n5 c5)).setCell ⟨wq.heap.size,1,none⟩ (.slice none 0 0)) (blk A5) A5 n5 c5 (sortI a.fVars):=o5.okeep rInt_ok (fun k hk=>(heap_setCell_other _ ⟨wq.heap.size,1,none⟩ k _ (fun e=>hn5 k hk e)).trans (heap_setCell_other _ ⟨wq.heap.size,0,none⟩ k _ (fun e=>hn5 k hk e)))
   have HV:Hid (∀ k∈blk A5,k<((w5.setCell ⟨wq.heap.size,0,none⟩ (.slice A5 n5 c5)).setCell ⟨wq.heap.size,1,none⟩ (.slice none 0 0)).heap.size/\k≠wq.heap.size/\wq.heap.size<=k):=by
    show ∀ k∈blk A5,_
    intro k hk
    have h1:=hlt5 k hk
    have h2:=hf5 k hk
    exact⟨by simp;omega,by omega,by omega⟩
   obtain⟨w7,hw7⟩:∃ W,W=((w5.setCell ⟨wq.heap.size,0,none⟩ (.slice A5 n5 c5)).setCell ⟨wq.heap.size,1,none⟩ (.slice none 0 0)):=⟨_,rfl⟩
   rw [<- hw7]at kS hS4 ov HV ⊢
   clear hw7
   obtain⟨gS,hgS⟩:∃ g,g=wq.heap.size:=⟨_,rfl⟩
   have HV2:Hid (∀ k∈blk A5,k<w7.heap.size/\k≠gS/\wq.heap.size<=k):=by show ∀ k∈blk A5,_;rw [hgS];exact HV.out
   clear HV
   have HV:=HV2
   clear HV2
   rw [<- hgS]at kS ⊢
   have hgl:wq.heap.size<=gS:=by rw [hgS];exact Nat.le_refl _
   clear hC hgS hlt5 o5 fr5
   have kQ7:=kQ.below hS4
   have kR7:=kR.below hS4
   have hB7:=hBq.trans (hS4.mono hBq.size)
   have HF7:Hid (∀ k∈fp,k<w7.heap.size/\k≠gS):=by
    show ∀ k∈fp,_
    intro k hk
    have h1:=HF2.out k hk
    have h2:=hS4.size
    exact⟨by omega,by omega⟩
   have o7:=o2.belowS (rSlice_ok NB _ rInt_ok) hS4
   have hgR:w.heap.size+1+1<wq.heap.size:=kR.lt
   have gl7:=kS.lt
   have J0:Scs w7 gS A5 n5 c5 none 0 0 [] w7:=⟨kS,MS.nil _ (Nat.zero_le _),Below.refl _ _,fun _ _ _=>rfl,gl7⟩
   have hn5:n5<=4294967296:=ov.nb
   have HV7:=Lib.hid ov.len
   have hn2:n2<=4294967296:=(o7.rs (rSlice_ok NB _ rInt_ok)).bound
   have HL2:=Lib.hid (o7.rs (rSlice_ok NB _ rInt_ok)).len
   have hg7:g<w7.heap.size:=Nat.lt_of_lt_of_le kT.lt hS4.size
   have kT7:=kT.below hS4
   have t2:=kT7.bx 2 _ rfl
   go_wp2
   go_loopw [11] (fun i wr=>∃ (k c:Nat) (A:Option Addr),k<=n2/\i=.int .i64 k/\Scs w7 gS A5 n5 c5 A k c ((t.fRows.take k).map (scanRow a.fVars (sortI a.fVars))) wr) (fun i _=>n2 - (intOf i).toNat)
   case atStart=>exact⟨0,0,none,Nat.zero_le _,rfl,J0⟩
   case round =>
    clear J0 t2
    obtain⟨k,c,A,hk,rfl,J⟩:=hrel
    have hq:Below wq.heap.size wq wr:=hS4.trans (J.be.mono hgl)
    have hqs:=hq.size
    have h7s:=J.be.size
    have hBr:Below w.heap.size w wr:=hBq.trans (hq.mono hBq.size)
    have kT3:=kT.below hq
    have t2:=kT3.bx 2 _ rfl
    by_cases hlt:k<n2
    ·have o3:=o7.okeep (w':=wr) (rSlice_ok NB _ rInt_ok) (fun z hz=>J.bk z (HF7.out z hz).1 (HF7.out z hz).2)
     have ov3:=ov.okeep (w':=wr) rInt_ok (fun z hz=>J.bk z (HV.out z hz).1 (HV.out z hz).2.1)
     obtain⟨br,or_,x,A1,n1,c1,rfl,hcr,hx,hxx⟩:=(o3.rs (rSlice_ok NB _ rInt_ok)).row hlt
     have HXl:Hid (x.length=a.fVars.length):=by show _=_;exact(HRows.out x (mem_of_at hxx.out)).1
     have HX:=Lib.hid hxx.out;clear hxx
     have s0:=J.kS.bx 0 _ rfl
     have hM0:=MS.empty (B:=wr.heap.size) (M:=NB) (e:=3) (r:=rInt) wr (Nat.le_refl _)
     have hA0:=(Below.refl wr.heap.size wr).alloc (Nat.le_refl _) (.cells #[] 3)
     rename World=>wo
     go_wp2
     go_loopw [12,13] (fun xo iv wr=>∃ (j c:Nat) (B:Option Addr),j<=n5/\iv=.int .i64 j/\xo=.slice B j c/\MS wo.heap.size NB 3 rInt wr B j c (scanRow a.fVars ((sortI a.fVars).take j) x)/\Below wo.heap.size wo wr) (fun _ iv _=>n5 - (intOf iv).toNat)
     case atStart=>exact⟨0,0,_,Nat.zero_le _,rfl,rfl,hM0,hA0⟩
     case round =>
      clear hM0 hA0 s0 t2
      obtain⟨j,cj,B,hj,rfl,rfl,hM,hE⟩:=hrel
      have hEz:=hE.size
      have J2:=J.below hE
      have s0:=J2.kS.bx 0 _ rfl
      by_cases hlt2:j<n5
      ·obtain⟨bv,ov_,v,rfl,hcv,hIv,hv⟩:=(ov3.rs rInt_ok).ati hlt2
       obtain⟨m,z,f1,f2,f3,f4⟩:=scan_at (av:=a.fVars) (row:=x) HXl.out (fun v hv=>sortI_mem.1 hv) hv.out
       have HS:=Lib.hid (scanRow_snoc (av:=a.fVars) (row:=x) hv.out f4)
       have F1:=Lib.hid f1
       have hm:m<n1:=by rw [<- hx.len];exact f2
       obtain⟨bx,ox,z',rfl,hcz,hIz,hz⟩:=hx.ati hm
       obtain rfl:z=z':=by have:=hz.out;rw [f3]at this;injection this
       clear f1 f2 f3 f4 hv hz
       have HS12:Hid (∀ w',Below wo.heap.size wr w'->(w'.cell? ⟨g,2,none⟩=some (.slice (some ⟨br,or_,none⟩) n2 c2)/\w'.cell? ⟨br,or_+k,none⟩=some (.slice (some ⟨bx,ox,none⟩) n1 c1)/\w'.cell? ⟨w.heap.size+1,1,none⟩=some (.slice (some ⟨b,off,none⟩) nqAtoms cqAtoms)/\w'.cell? ⟨b,off+k0*2,none⟩=some (.string a.fName)/\w'.cell? ⟨b,off+k0*2+1,none⟩=some (.slice AV nV cV)/\w'.cell? ⟨gS,0,none⟩=some (.slice (some ⟨bv,ov_,none⟩) n5 c5)/\w'.cell? ⟨bv,ov_+j,none⟩=some (.int .i64 v)/\w'.cell? ⟨bx,ox+m,none⟩=some (.int .i64 z))):=by
        show ∀ w',_->_
        intro w' hb
        have hE2:=hE.trans hb
        have hz:=hq.trans (hE2.mono hqs)
        exact⟨(kT.below hz).bx 2 _ rfl,cells_below hE2 _ _ hcr,(kQ.below hz).bx 1 _ rfl,cells_below hz _ _ hc0q,cells_below hz _ _ hc1q,(J.kS.below hE2).bx 0 _ rfl,cells_below hE2 _ _ hcv,cells_below hE2 _ _ hcz⟩
       have hdr:=(Below.refl wr.heap.size wr).drew
       have RA:=hRq.below rInt_ok (hq.trans ((hE.trans (hdr.mono hEz)).mono hqs))
       go_wp2
       clear s0
       refine hbg HS12.out (hdr.mono hEz) (fun hHeld=>?_)
       refine tka 0 59 hHeld ?_;simp only [putS]
       refine tka 1 60 hHeld ?_;simp only [putS]
       refine tka 2 61 hHeld ?_;simp only [putS]
       refine tka 3 62 hHeld ?_;simp only [putS]
       refine tka 4 63 hHeld ?_;simp only [putS]
       refine tka 5 64 hHeld ?_;simp only [putS]
       refine tka 6 65 hHeld ?_;simp only [putS]
       refine tka 7 66 hHeld ?_;simp only [putS]
       refine tka 8 67 hHeld ?_;simp only [putS]
       refine tka 9 68 hHeld ?_;simp only [putS]
       refine tka 10 69 hHeld ?_;simp only [putS]
       refine tka 11 70 hHeld ?_;simp only [putS]
       refine tka 12 71 hHeld ?_;simp only [putS]
       refine tka 13 72 hHeld ?_;simp only [putS]
       refine tka 14 73 hHeld ?_;simp only [putS]
       refine tka 15 74 hHeld ?_;simp only [putS]
       refine YtiafklphblkpbaaGreat.rd 16 (some 75) fun K hK=>?_
       clear hHeld
       go_simp
       refine(sL19Column_c _ _ _ _ _ _ _ RA).mono ?_
       rintro e w6 ⟨he,hb6⟩
       rw [F1.out]at he
       subst he
       have hC:=hdr.trans (hb6.mono hdr.size)
       go_wp2_with fail
       refine hK.out _ _ (HS12.out _ (hC.mono hEz)) (fun hHeld=>?_)
       clear hK K
       try simp only [putS]
       refine tka 17 76 hHeld ?_;simp only [putS]
       refine tka 18 77 hHeld ?_;simp only [putS]
       have hz:=Below.alb hC (.cells #[.int .i64 z] 3)
       refine YtiafklphblkpbaaGreat.rd 19 (some 78) fun K hK=>?_
       clear hHeld
       go_simp
       refine hK.out _ _ (HS12.out _ (hz.mono hEz)) (fun hHeld=>?_)
       clear hK K
       try simp only [putS]
       refine YtiafklphblkpbaaGreat.rd 20 (some 79) fun K hK=>?_
       clear hHeld
       refine step_appR (r:=rInt) (by rfl) _ _ 24 (by rfl) _ 8 eiInt rInt_ok (by rfl) hM hz hEz ⟨w6.heap.size,0,none⟩ (by rfl) (f:=[]) (cs:=[.int .i64 z]) (y:=z) ⟨rfl,rfl,hIz⟩ (Fr.nil _) (cell_one_new _ _ _) (by unfold NB;omega) (Nat.le_refl _) (by omega) ?_
       intro A9 c9 w9 hM9 hb9 hg9 hA9
       have hD:=(hz.mono hEz).trans hb9
       refine hK.out _ _ (HS12.out _ hD) (fun hHeld=>?_)
       clear hK K
       try simp only [putS]
       refine tka 21 12 hHeld ?_;simp only [putS]
       refine wpAnyH_done (by kernel_rfl) ?_ _
       clear hHeld
       clear HS12
       go_wp2
       go_roundw
       case rel=>exact⟨j+1,c9,A9,by omega,by go_num,rfl,by rw [HS.out];exact hM9,hE.trans hD⟩
       case measure=>simp [intOf];omega
      ·have HTk:Hid ((sortI a.fVars).take j=sortI a.fVars):=by show _=_;exact take_all HV7.out hlt2
       rw [HTk.out]at hM
       have hj5:n5=j:=by omega
       subst hj5
       obtain⟨fx,ox,frx⟩:=hM
       have hS2:Hid ((t.fRows.take (k+1)).map (scanRow a.fVars (sortI a.fVars))=(t.fRows.take k).map (scanRow a.fVars (sortI a.fVars))++[scanRow a.fVars (sortI a.fVars) x]):=by show _=_;rw [take_snoc HX.out,List.map_append];rfl
       have s1:=J2.kS.bx 1 _ rfl
       have fs1:=J2.kS.frozen 1
       have hAl:=(Below.refl wr.heap.size wr).alloc (Nat.le_refl _) (.cells #[.slice B n5 cj] 24)
       have hoz:w7.heap.size<=wo.heap.size:=h7s
       go_wp2_with (at_builtin;refine wpList_app (r:=rSlice NB 3 rInt) rfl _ _ 49 rfl _ 24 eiRowS (rSlice_ok NB _ rInt_ok) rfl J.ms (hE.trans (hAl.mono hEz)) hoz ⟨wr.heap.size,0,none⟩ rfl fx [.slice B n5 cj] (scanRow a.fVars (sortI a.fVars) x) ⟨B,n5,cj,rfl,ox.belowS rInt_ok hAl⟩ frx (cell_one_new _ _ _) (by unfold NB;omega) (Nat.le_refl _) (by omega) ?_;intro A9 k9 w9 hM9 hb9 hg9;have s91:Bk w9 gS 51 [.slice A5 n5 c5,.slice A k c]:=(hb9.block _ gl7).trans (J2.kS.below hAl);have s92:=s91.bx 1 _ rfl;have s93:=s91.frozen 1)
       have J9:=(J2.below hAl).app hM9 hb9
       go_roundw
       case rel=>exact⟨k+1,k9,A9,by omega,by go_num,by rw [hS2.out];exact J9⟩
       case measure=>simp [intOf];omega
    ·have HTk:Hid (t.fRows.take k=t.fRows):=by show _=_;exact take_all HL2.out hlt
     rw [HTk.out]at J
     have s0:=J.kS.bx 0 _ rfl
     have s1:=J.kS.bx 1 _ rfl
     have kR3:=kR.below hq
     have r0:=kR3.bx 0 _ rfl
     have r1:=kR3.bx 1 _ rfl
     have f0:=kR3.frozen 0
     have f1:=kR3.frozen 1
     go_wp2
     have q4:=(kR3.set 0 (.slice A5 n5 c5)).set 1 (.slice A k c)
     have z0:=q4.bx 0 _ rfl
     have z1:=q4.bx 1 _ rfl
     refine bodyPost_ret (v:=.tuple #[.agg #[.slice A5 n5 c5,.slice A k c],.bool true]) (by simp [results,Tryz.results21,go_sem,z0,z1]) rfl ?_
     rw [HY.out]
     obtain⟨fz,g1,g2,g3⟩:=J.fin (w:=w) (gR:=w.heap.size+1+1) ov (by omega) (fun z hz=>by have:=HV.out z hz;exact⟨by omega,this.1,this.2.1⟩) (by omega) hBr (.slice A5 n5 c5) (.slice A k c)
     exact⟨_,fz,rfl,g1,g2,g3⟩
end Go.Proofs.YtiafklphblkpbaaGreat
