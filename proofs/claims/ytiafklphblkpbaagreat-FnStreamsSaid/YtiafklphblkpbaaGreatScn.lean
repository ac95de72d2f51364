/-
  Scn
-/
import Derived.Test.YtiafklphblkpbaaGreatKeep
import Derived.Test.YtiafklphblkpbaaGreatScp
import Derived.Test.YtiafklphblkpbaaGreatCpr
import Derived.Test.YtiafklphblkpbaaGreatSrt
namespace Go.Proofs.YtiafklphblkpbaaGreat
open Go.RowKit
set_option linter.unusedVariables false
set_option linter.unusedSimpArgs false
/-- the walk's world in ScanStream: the stream under way in block gS, the result's in gR; all below gS is as in w6 -/
structure Scn (w6:World) (gR gS:Nat) (AV:Option Addr) (nV cV:Nat) (V:List Int) (A:Option Addr) (n c:Nat) (L:List (List Int)) (W:World):Prop where
 kS:Bk W gS 51 [.slice AV nV cV,.slice A n c]
 kR:Bk W gR 51 [.slice none 0 0,.slice none 0 0]
 ov:OS NB 3 rInt W (blk AV) AV nV cV V
 ms:MS (gS+1) NB 24 (rSlice NB 3 rInt) W A n c L
 be:Below gS w6 W
 sz:gS+1<=W.heap.size
section
variable {w6 W W':World} {gR gS:Nat} {AV:Option Addr} {nV cV:Nat} {V:List Int} {A A':Option Addr} {n c n' c':Nat} {L L':List (List Int)}
theorem Scn.below (h:Scn w6 gR gS AV nV cV V A n c L W) (hb:Below W.heap.size W W'):Scn w6 gR gS AV nV cV V A n c L W' :=
 ⟨h.kS.below hb,h.kR.below hb,h.ov.belowS rInt_ok hb,h.ms.below (rSlice_ok NB _ rInt_ok) hb,h.be.trans (hb.mono (by have:=h.sz;omega)),Nat.le_trans h.sz hb.size⟩
/-- behind an append, and its store -/
theorem Scn.app (h:Scn w6 gR gS AV nV cV V A n c L W) (hR:gR<gS) (hV:∀ k∈blk AV,k<gS) (hm:MS (gS+1) NB 24 (rSlice NB 3 rInt) W' A' n' c' L') (hb:Below (gS+1) W W') :
  Scn w6 gR gS AV nV cV V A' n' c' L' (W'.setCell ⟨gS,1,none⟩ (.slice A' n' c')):=by
 have hs:∀ k,k≠gS->(W'.setCell ⟨gS,1,none⟩ (.slice A' n' c')).heap[k]?=W'.heap[k]?:=fun k hk=>heap_setCell_other _ _ k _ (fun e=>hk e)
 have k1:Bk W' gS 51 [.slice AV nV cV,.slice A n c]:=(hb.block _ (by omega)).trans h.kS
 refine⟨k1.set 1 _,(hs _ (by omega)).trans ((hb.block _ (by omega)).trans h.kR),h.ov.okeep rInt_ok (fun k hk=>(hs k (by have:=hV k hk;omega)).trans (hb.block k (by have:=hV k hk;omega))),?_,(h.be.trans (hb.mono (by omega))).setCell (p:=⟨gS,1,none⟩) (Nat.le_refl _) _,by rw [World.size_setCell];exact Nat.le_trans h.sz hb.size⟩
 obtain⟨f,o,fr⟩:=hm
 exact⟨f,o.okeep (rSlice_ok NB _ rInt_ok) (fun k hk=>hs k (by have:=fr.ge k hk;omega)),fr⟩
/-- the result handed back -/
theorem Scn.fin {w:World}(h:Scn w6 gR gS AV nV cV V A n c L W) (hR:gR<gS) (hV:∀ k∈blk AV,gR<k/\k<gS) (hw:w.heap.size<=gR) (hB:Below w.heap.size w W) (u v:Value) :
  ∃ fp,(rStream NB).own ((W.setCell ⟨gR,0,none⟩ u).setCell ⟨gR,1,none⟩ v) fp [.slice AV nV cV,.slice A n c] ⟨V,L⟩/\Fr w.heap.size fp/\Below w.heap.size w ((W.setCell ⟨gR,0,none⟩ u).setCell ⟨gR,1,none⟩ v):=by
 have hs:∀ k,k≠gR->((W.setCell ⟨gR,0,none⟩ u).setCell ⟨gR,1,none⟩ v).heap[k]?=W.heap[k]?:=fun k hk=>(heap_setCell_other _ ⟨gR,1,none⟩ k _ (fun e=>hk e)).trans (heap_setCell_other _ ⟨gR,0,none⟩ k _ (fun e=>hk e))
 obtain⟨f,o,fr⟩:=h.ms
 refine⟨blk AV++f,rStream_own.2 ⟨AV,nV,cV,A,n,c,blk AV,f,rfl,rfl,h.ov.okeep rInt_ok (fun k hk=>hs k (by have:=hV k hk;omega)),o.okeep (rSlice_ok NB _ rInt_ok) (fun k hk=>hs k (by have:=fr.ge k hk;omega))⟩,⟨List.nodup_append.2 ⟨by cases AV<;>simp [blk],fr.nd,fun a ha b hb e=>by have:=hV a ha;have:=fr.ge b hb;omega⟩,fun k hk=>?_⟩,(hB.setCell (p:=⟨gR,0,none⟩) hw _).setCell (p:=⟨gR,1,none⟩) hw _⟩
 rcases List.mem_append.1 hk with hk|hk
 ·have:=hV k hk;omega
 ·have:=fr.ge k hk;omega
end
theorem zStream_r (w:World) (w0:World) (h:Below w0.heap.size w0 w):∃ cs fp,Ending.returned (.tuple #[.agg #[.slice none 0 0,.slice none 0 0],.bool false])=.returned (.tuple #[.agg cs.toArray,.bool false])/\(rStream NB).own w fp cs ⟨[],[]⟩/\Fr w0.heap.size fp/\Below w0.heap.size w0 w :=
 ⟨[.slice none 0 0,.slice none 0 0],[],rfl,zStream_own w,Fr.nil _,h⟩
theorem putRow_heapK (w:World) (m g:Nat) (l:List Int) (os:Array Obj) (k:Nat) (hk:k≠g) (hl:k<w.heap.size):(Sort.grow (Sort.putRow (Value.int .i64) (Sort.ahead w m) g 0 l.toArray) os).heap[k]?=w.heap[k]?:=by
 rw [Sort.heap_grow_old _ _ (by simp;omega)]
 simp [Sort.putRow,Sort.mapBlock,Array.getElem?_modify]
 intro e;omega
/-- slices.Sort: the slice's own block alone is touched -/
theorem sortInts_k {B:Nat}{A:Option Addr}{n cap:Nat}{l:List Int}{w:World}(h:MS B NB 3 rInt w A n cap l) :
  Calls Tryz.prog 49 #[.slice A n cap] w fun e w'=>e=.returned (.tuple #[])/\MS B NB 3 rInt w' A n cap (sortI l)/\Below B w w'/\∀ k,k∉blk A->k<w.heap.size->w'.heap[k]?=w.heap[k]?:=by
 have hlen:=h.len
 rcases Nat.eq_zero_or_pos n with h0|h0
 ·subst h0
  have hl:l=[]:=List.eq_nil_of_length_eq_zero hlen
  subst hl
  exact(Tryz.slices_Sort_int_none A cap w).mono fun e w' ⟨h1,h2⟩=>⟨h1,by rw [h2];simpa [sortI]using h,by rw [h2];exact Below.refl _ _,fun k _ _=>by rw [h2]⟩
 ·obtain⟨g,rfl,hg,hB⟩:=h.form h0
  subst hlen
  have hnb:=h.nb
  refine(Tryz.slices_Sort_int g 0 cap l w h.holds hg (by unfold NB at hnb;omega)).mono fun e w' ⟨h1,m,os,h2⟩=>?_
  subst h2
  refine⟨h1,h.puts (l':=sortI l) (sortI_perm l).length_eq (fun x hx=>?_) m os,putRow_below hg hB _ m os,fun k hk hl=>putRow_heapK w m g _ os k (by simpa [blk]using hk) hl⟩
  exact(h.rs rInt_ok).rng x ((sortI_perm l).mem_iff.1 hx)
set_option maxRecDepth 100000 in
set_option maxHeartbeats 1600000 in
theorem iScanStream_c (csd:List Value) (d:DatabaseD) (csq:List Value) (q:QueryD) (i:Int) (w:World) (hd:(rDatabase NB).rep w csd d) (hq:(rQuery NB).rep w csq q) :
  Calls Tryz.prog 20 #[.agg csd.toArray,.agg csq.toArray,.int .i64 i] w (RetVB (rStream NB) (scan d q i).1 (.bool (scan d q i).2) w):=by
 have rd:=hd
 obtain⟨AdTables,ndTables,cdTables,rfl,hdTables⟩:=rDatabase_rep.1 hd
 clear hd
 have rq:=hq
 obtain⟨AqAtoms,nqAtoms,cqAtoms,rfl,hqVariableCount,hqAtoms⟩:=rQuery_rep.1 hq
 clear hq
 have hB:Below w.heap.size w w:=Below.refl _ _
 have hnq:=hqAtoms.bound
 have HLQ:=Lib.hid hqAtoms.len
 obtain⟨wa,hwa⟩:∃ W,W=((w.alloc (.cells #[.slice AdTables ndTables cdTables] 43)).alloc (.cells #[.int .i64 q.fVariableCount,.slice AqAtoms nqAtoms cqAtoms] 46)).alloc (.cells #[.slice none 0 0,.slice none 0 0] 51):=⟨_,rfl⟩
 have hba:Below w.heap.size w wa:=by rw [hwa];exact(((Below.refl w.heap.size w).alloc (Nat.le_refl _) _).alloc (by simp) _).alloc (by simp;omega) _
 have hsa:wa.heap.size=w.heap.size+1+1+1:=by rw [hwa];simp
 have kD:Bk wa w.heap.size 43 [.slice AdTables ndTables cdTables]:=by rw [hwa];exact((Bk.new w _ _).below ((Below.refl _ _).alloc (Nat.le_refl _) _)).below ((Below.refl _ _).alloc (Nat.le_refl _) _)
 have kQ:Bk wa (w.heap.size+1) 46 [.int .i64 q.fVariableCount,.slice AqAtoms nqAtoms cqAtoms]:=by rw [hwa];have:=(Bk.new (w.alloc (.cells #[.slice AdTables ndTables cdTables] 43)) [.int .i64 q.fVariableCount,.slice AqAtoms nqAtoms cqAtoms] 46).below ((Below.refl _ _).alloc (Nat.le_refl _) (.cells #[.slice none 0 0,.slice none 0 0] 51));simpa using this
 have kR:Bk wa (w.heap.size+1+1) 51 [.slice none 0 0,.slice none 0 0]:=by rw [hwa];have:=Bk.new ((w.alloc (.cells #[.slice AdTables ndTables cdTables] 43)).alloc (.cells #[.int .i64 q.fVariableCount,.slice AqAtoms nqAtoms cqAtoms] 46)) [.slice none 0 0,.slice none 0 0] 51;simpa using this
 have HZ:=Lib.hid hsa;clear hsa
 replace hB:=hba
 clear hba
 have d0:=kD.bx 0 _ rfl
 have q0:=kQ.bx 0 _ rfl
 have q1:=kQ.bx 1 _ rfl
 go_enter Tryz.func20,Tryz.ntmps20
 go_upto_region 1 with fail
 rw [<- hwa]
 clear hwa
 go_wp2_with fail
 refine(iIsQueryFor_c _ d _ q _ (rDatabase_rep.2 ⟨AdTables,ndTables,cdTables,rfl,(hdTables.below (rTable_ok NB) hB)⟩) (rQuery_rep.2 ⟨AqAtoms,nqAtoms,cqAtoms,rfl,hqVariableCount,(hqAtoms.below (rAtom_ok NB) hB)⟩)).mono ?_
 rintro e w1 ⟨rfl,hb1⟩
 have hs1:=hb1.size
 replace hB:=hB.trans (hb1.mono hB.size)
 replace kD:=kD.below hb1
 replace kQ:=kQ.below hb1
 replace kR:=kR.below hb1
 clear d0 q0 q1 hb1
 have q1:=kQ.bx 1 _ rfl
 cases hqf:queryFor d q
 ·have HV:=Lib.hid (scan_no1 (i:=i) hqf);clear hqf
  have r0:=kR.bx 0 _ rfl
  have r1:=kR.bx 1 _ rfl
  have f0:=kR.frozen 0
  have f1:=kR.frozen 1
  go_wp2
  have q4:=(kR.set 0 (.slice none 0 0)).set 1 (.slice none 0 0)
  have z0:=q4.bx 0 _ rfl
  have z1:=q4.bx 1 _ rfl
  refine bodyPost_ret (v:=.tuple #[.agg #[.slice none 0 0,.slice none 0 0],.bool false]) (by simp [results,Tryz.results20,go_sem,z0,z1]) rfl ?_
  rw [HV.out]
  exact zStream_r _ w ((hB.setCell (p:=⟨w.heap.size+1+1,0,none⟩) (by show w.heap.size<=w.heap.size+1+1;omega) _).setCell (p:=⟨w.heap.size+1+1,1,none⟩) (by show w.heap.size<=w.heap.size+1+1;omega) _)
 have HQF:=Lib.hid hqf;clear hqf
 have m1:IntKind.i64.wrap ((nqAtoms:Int) - 1)=(nqAtoms:Int) - 1:=IntWalk.i64_in _ (by omega)
 cases hin:inR i 0 ((nqAtoms:Int) - 1)
 ·have K:=Lib.hid (fun W=>within_v hin W)
  have HV:Hid (scan d q i=(⟨[],[]⟩,false)):=by show _=_;exact scan_no2 (by rw [HLQ.out];exact hin)
  clear hin
  have r0:=kR.bx 0 _ rfl
  have r1:=kR.bx 1 _ rfl
  have f0:=kR.frozen 0
  have f1:=kR.frozen 1
  go_wp2_with (go_at_call 36;refine(K.out _).mono ?_;rintro e w' ⟨rfl,hww⟩;replace hww:=hww.symm;subst hww)
  have q4:=(kR.set 0 (.slice none 0 0)).set 1 (.slice none 0 0)
  have z0:=q4.bx 0 _ rfl
  have z1:=q4.bx 1 _ rfl
  refine bodyPost_ret (v:=.tuple #[.agg #[.slice none 0 0,.slice none 0 0],.bool false]) (by simp [results,Tryz.results20,go_sem,z0,z1]) rfl ?_
  rw [HV.out]
  exact zStream_r _ w ((hB.setCell (p:=⟨w.heap.size+1+1,0,none⟩) (by show w.heap.size<=w.heap.size+1+1;omega) _).setCell (p:=⟨w.heap.size+1+1,1,none⟩) (by show w.heap.size<=w.heap.size+1+1;omega) _)
 have K:=Lib.hid (fun W=>within_v hin W)
 obtain⟨k0,rfl⟩:∃ k:Nat,i=k:=⟨i.toNat,by have:=inR_t.1 hin;omega⟩
 have hkn:k0<nqAtoms:=by have:=inR_t.1 hin;omega
 clear hin
 obtain⟨b,off,a,AV,nV,cV,rfl,hc0,hc1,hsz,hRV,hxx⟩:=hqAtoms.eAtom hkn
 obtain⟨hvq,hall⟩:=queryFor_parts HQF.out
 obtain⟨t,ht,har,hrows⟩:=hall a (mem_of_at hxx.out)
 have HT:=Lib.hid ht
 have HY:=Lib.hid (scan_yes HQF.out hxx.out ht)
 have HRows:=Lib.hid hrows
 clear hvq hall ht har hrows
 have hik:((k0:Int)).toNat=k0:=by simp
 have hk0n:(k0:Int)<(nqAtoms:Int):=by omega
 have hkn2:k0<nqAtoms:=hkn
 -- the atom's box
 obtain⟨w2,hw2⟩:∃ W,W=w1.alloc (.cells #[.string a.fName,.slice AV nV cV] 57):=⟨_,rfl⟩
 have hb2:Below w1.heap.size w1 w2:=by rw [hw2];exact(Below.refl w1.heap.size w1).alloc (Nat.le_refl _) _
 have kA:Bk w2 w1.heap.size 57 [.string a.fName,.slice AV nV cV]:=by rw [hw2];exact Bk.new w1 _ _
 have hc0':=cells_below hB _ _ hc0
 have hc1':=cells_below hB _ _ hc1
 go_upto_region 4 with (go_at_call 36;refine(K.out _).mono ?_;rintro e w' ⟨rfl,hww⟩;replace hww:=hww.symm;subst hww)
 rw [<- hw2]
 clear hw2 hc0' hc1' q1 m1
 have hB2:=hB.trans (hb2.mono hB.size)
 replace kD:=kD.below hb2
 replace kR:=kR.below hb2
 have d0:=kD.bx 0 _ rfl
 have a0:=kA.bx 0 _ rfl
 clear hb2 hB kQ
 go_wp2_with fail
 have C:=iLookupTable_c _ d a.fName _ (rDatabase_rep.2 ⟨AdTables,ndTables,cdTables,rfl,hdTables.below (rTable_ok NB) hB2⟩)
 rw [HT.out]at C
 refine C.mono ?_
 clear C
 rintro e w3 ⟨cs,fp,rfl,ot,ft,hb3⟩
 obtain⟨A2,n2,c2,fR,rfl,hfR,e1,e2,o2⟩:=rTable_own.1 ot
 subst hfR
 clear ot d0 a0 kD
 have hB3:=hB2.trans (hb3.mono hB2.size)
 replace kA:=kA.below hb3
 replace kR:=kR.below hb3
 have hlt2:=o2.lt (rSlice_ok NB _ rInt_ok)
 obtain⟨w4,hw4⟩:∃ W,W=w3.alloc (.cells #[.string t.fName,.int .i64 t.fArity,.slice A2 n2 c2] 82):=⟨_,rfl⟩
 have hb4:Below w3.heap.size w3 w4:=by rw [hw4];exact(Below.refl w3.heap.size w3).alloc (Nat.le_refl _) _
 have kT:Bk w4 w3.heap.size 82 [.string t.fName,.int .i64 t.fArity,.slice A2 n2 c2]:=by rw [hw4];exact Bk.new w3 _ _
 go_upto_region 5 with fail
 rw [<- hw4]
 clear hw4
 have hB4:=hB3.trans (hb4.mono hB3.size)
 replace kA:=kA.below hb4
 replace kR:=kR.below hb4
 replace o2:=o2.belowS (rSlice_ok NB _ rInt_ok) hb4
 have HF2:Hid (∀ k∈fp,k<w4.heap.size):=by show ∀ k∈fp,_;exact fun k hk=>Nat.lt_of_lt_of_le (hlt2 k hk) hb4.size
 have hz3:w3.heap.size<w4.heap.size:=kT.lt
 have hz1:w1.heap.size<w4.heap.size:=kA.lt
 have hzR:w.heap.size+1+1<w4.heap.size:=kR.lt
 clear hb3 hb4 hB2 hB3 hlt2 ft
 have a1:=kA.bx 1 _ rfl
 go_wp2_with fail
 refine(iCopyInts_c _ _ _ a.fVars _ (hRV.below rInt_ok hB4)).mono ?_
 rintro e w5 ⟨A5,n5,c5,rfl,m5,hb5⟩
 clear a1
 obtain⟨w6,hw6⟩:∃ W,W=w5.alloc (.cells #[.slice A5 n5 c5,.slice none 0 0] 51):=⟨_,rfl⟩
 have hb6:Below w5.heap.size w5 w6:=by rw [hw6];exact(Below.refl w5.heap.size w5).alloc (Nat.le_refl _) _
 have kS:Bk w6 w5.heap.size 51 [.slice A5 n5 c5,.slice none 0 0]:=by rw [hw6];exact Bk.new w5 _ _
 have H5:Hid (∀ k∈blk A5,w4.heap.size<=k/\k<w5.heap.size):=by
  show ∀ k∈blk A5,_
  obtain⟨f,o,fr⟩:=m5
  have e:=(osInt.1 o).1
  subst e
  exact fun k hk=>⟨fr.ge k hk,o.lt rInt_ok k hk⟩
 replace m5:=m5.below rInt_ok hb6
 have hb46:=hb5.trans (hb6.mono hb5.size)
 go_upto_region 6 with fail
 rw [<- hw6]
 clear hw6
 have s0:=kS.bx 0 _ rfl
 go_wp2_with fail
 refine(sortInts_k m5).mono ?_
 rintro e w7 ⟨rfl,m7,hb7,hk7⟩
 have hb47:=hb46.trans hb7
 have kS7:Bk w7 w5.heap.size 51 [.slice A5 n5 c5,.slice none 0 0]:=(hk7 _ (fun h=>by have:=(H5.out _ h).2;omega) kS.lt).trans kS
 replace kA:=kA.below hb47
 replace kT:=kT.below hb47
 replace kR:=kR.below hb47
 replace o2:=o2.belowS (rSlice_ok NB _ rInt_ok) hb47
 have hB7:=hB4.trans (hb47.mono hB4.size)
 have hz5:w4.heap.size<=w5.heap.size:=hb5.size
 have hz7:w5.heap.size<w7.heap.size:=kS7.lt
 have HV7:=Lib.hid m7.len
 have hn5:n5<=4294967296:=m7.nb
 have J0:Scn w7 (w.heap.size+1+1) w5.heap.size A5 n5 c5 (sortI a.fVars) none 0 0 [] w7:=by
  obtain⟨f,o,fr⟩:=m7
  have e:=(osInt.1 o).1
  subst e
  exact⟨kS7,kR,o,MS.nil _ (Nat.zero_le _),Below.refl _ _,hz7⟩
 have hn2:n2<=4294967296:=(o2.rs (rSlice_ok NB _ rInt_ok)).bound
 have HL2:=Lib.hid (o2.rs (rSlice_ok NB _ rInt_ok)).len
 clear s0 hb5 hb6 hb7 hk7 hb46 hb47 kS kS7 m5 m7 hB4
 have t2:=kT.bx 2 _ rfl
 go_wp2
 go_loopw [53] (fun i wr=>∃ (k c:Nat) (A:Option Addr),k<=n2/\i=.int .i64 k/\Scn w7 (w.heap.size+1+1) w5.heap.size A5 n5 c5 (sortI a.fVars) A k c ((t.fRows.take k).map (scanRow a.fVars (sortI a.fVars))) wr) (fun i _=>n2 - (intOf i).toNat)
 case atStart=>exact⟨0,0,none,Nat.zero_le _,rfl,J0⟩
 case round =>
  clear J0 t2
  obtain⟨k,c,A,hk,rfl,J⟩:=hrel
  have hBr:Below w.heap.size w wr:=hB7.trans (J.be.mono (by omega))
  by_cases hlt:k<n2
  ·have o3:=o2.okeep (w':=wr) (rSlice_ok NB _ rInt_ok) (fun z hz=>J.be.block z (by have:=HF2.out z hz;omega))
   obtain⟨br,or_,x,A1,n1,c1,rfl,hcr,hx,hxx⟩:=(o3.rs (rSlice_ok NB _ rInt_ok)).row hlt
   have HXl:Hid (x.length=a.fVars.length):=by show _=_;exact(HRows.out x (mem_of_at hxx.out)).1
   have HX:=Lib.hid hxx.out;clear hxx
   have kA3:Bk wr w1.heap.size 57 [.string a.fName,.slice AV nV cV]:=(J.be.block _ (by omega)).trans kA
   have s0:=J.kS.bx 0 _ rfl
   have a1:=kA3.bx 1 _ rfl
   have hM0:=MS.empty (B:=wr.heap.size) (M:=NB) (e:=3) (r:=rInt) wr (Nat.le_refl _)
   have hA0:=(Below.refl wr.heap.size wr).alloc (Nat.le_refl _) (.cells #[] 3)
   have hgo:w5.heap.size<wr.heap.size:=J.sz
   rename World=>wo
   go_wp2
   go_loopw [14,61] (fun xo iv wr=>∃ (j c:Nat) (B:Option Addr),j<=n5/\iv=.int .i64 j/\xo=.slice B j c/\MS wo.heap.size NB 3 rInt wr B j c (scanRow a.fVars ((sortI a.fVars).take j) x)/\Below wo.heap.size wo wr) (fun _ iv _=>n5 - (intOf iv).toNat)
   case atStart=>exact⟨0,0,_,Nat.zero_le _,rfl,rfl,hM0,hA0⟩
   case round =>
    clear hM0 hA0 s0 a1
    obtain⟨j,cj,B,hj,rfl,rfl,hM,hE⟩:=hrel
    have hEz:=hE.size
    have J2:=J.below hE
    have a1:=(kA3.below hE).bx 1 _ rfl
    by_cases hlt2:j<n5
    ·obtain⟨bv,ov,v,rfl,hcv,hIv,hv⟩:=(J2.ov.rs rInt_ok).ati hlt2
     obtain⟨m,z,f1,f2,f3,f4⟩:=scan_at (av:=a.fVars) (row:=x) HXl.out (fun v hv=>sortI_mem.1 hv) hv.out
     have HS:=Lib.hid (scanRow_snoc (av:=a.fVars) (row:=x) hv.out f4)
     have F1:=Lib.hid f1
     have hm:m<n1:=by rw [<- hx.len];exact f2
     obtain⟨bx,ox,z',rfl,hcz,hIz,hz⟩:=(hx.below rInt_ok hE).ati hm
     obtain rfl:z=z':=by have:=hz.out;rw [f3]at this;injection this
     have RA:=hRV.below rInt_ok (hBr.trans (hE.mono hBr.size))
     clear f1 f2 f3 f4 hv hz
     go_wp2_with (first|(go_at_call 50;refine(slicesIndex_q _ _ _ _ _ _ RA).mono ?_;rintro e w' ⟨he,hww⟩;rw [F1.out]at he;subst he;replace hww:=hww.symm;subst hww)|(at_builtin;refine wpList_app (r:=rInt) rfl _ _ 24 rfl _ 8 eiInt rInt_ok rfl hM ((Below.refl _ _).alloc (Nat.le_refl _) _) hEz ⟨_,0,none⟩ rfl [] [.int .i64 z] z ⟨rfl,rfl,hIz⟩ (Fr.nil _) (cell_one_new _ _ _) (by unfold NB;omega) (Nat.le_refl _) (by omega) ?_;intro A9 k9 w9 hM9 hb9 hg9))
     go_roundw
     case rel=>exact⟨j+1,k9,A9,by omega,by go_num,rfl,by rw [HS.out];exact hM9,(hE.alloc hEz _).trans hb9⟩
     case measure=>simp [intOf];omega
    ·have HTk:Hid ((sortI a.fVars).take j=sortI a.fVars):=by show _=_;exact take_all HV7.out hlt2
     rw [HTk.out]at hM
     have hj5:n5=j:=by omega
     subst hj5
     obtain⟨fx,ox,frx⟩:=hM
     have hS2:Hid ((t.fRows.take (k+1)).map (scanRow a.fVars (sortI a.fVars))=(t.fRows.take k).map (scanRow a.fVars (sortI a.fVars))++[scanRow a.fVars (sortI a.fVars) x]):=by show _=_;rw [take_snoc HX.out,List.map_append];rfl
     have s1:=J2.kS.bx 1 _ rfl
     have fs1:=J2.kS.frozen 1
     have hAl:=(Below.refl wr.heap.size wr).alloc (Nat.le_refl _) (.cells #[.slice B n5 cj] 24)
     have hsz2:=J2.sz
     have hoz:w5.heap.size+1<=wo.heap.size:=J.sz
     go_wp2_with (at_builtin;refine wpList_app (r:=rSlice NB 3 rInt) rfl _ _ 49 rfl _ 24 eiRowS (rSlice_ok NB _ rInt_ok) rfl J.ms (hE.trans (hAl.mono hEz)) hoz ⟨wr.heap.size,0,none⟩ rfl fx [.slice B n5 cj] (scanRow a.fVars (sortI a.fVars) x) ⟨B,n5,cj,rfl,ox.belowS rInt_ok hAl⟩ frx (cell_one_new _ _ _) (by unfold NB;omega) (Nat.le_refl _) (by omega) ?_;intro A9 k9 w9 hM9 hb9 hg9;have s91:Bk w9 w5.heap.size 51 [.slice A5 n5 c5,.slice A k c]:=(hb9.block _ (by omega)).trans (J2.kS.below hAl);have s92:=s91.bx 1 _ rfl;have s93:=s91.frozen 1)
     have J9:=(J2.below hAl).app (by omega) (fun z hz=>(H5.out z hz).2) hM9 hb9
     go_roundw
     case rel=>exact⟨k+1,k9,A9,by omega,by go_num,by rw [hS2.out];exact J9⟩
     case measure=>simp [intOf];omega
  ·have HTk:Hid (t.fRows.take k=t.fRows):=by show _=_;exact take_all HL2.out hlt
   rw [HTk.out]at J
   have s0:=J.kS.bx 0 _ rfl
   have s1:=J.kS.bx 1 _ rfl
   have r0:=J.kR.bx 0 _ rfl
   have r1:=J.kR.bx 1 _ rfl
   have f0:=J.kR.frozen 0
   have f1:=J.kR.frozen 1
   go_wp2
   have q4:=(J.kR.set 0 (.slice A5 n5 c5)).set 1 (.slice A k c)
   have z0:=q4.bx 0 _ rfl
   have z1:=q4.bx 1 _ rfl
   refine bodyPost_ret (v:=.tuple #[.agg #[.slice A5 n5 c5,.slice A k c],.bool true]) (by simp [results,Tryz.results20,go_sem,z0,z1]) rfl ?_
   rw [HY.out]
   obtain⟨fz,g1,g2,g3⟩:=J.fin (w:=w) (by omega) (fun z hz=>by have:=H5.out z hz;omega) (by omega) hBr (.slice A5 n5 c5) (.slice A k c)
   exact⟨_,fz,rfl,g1,g2,g3⟩
end Go.Proofs.YtiafklphblkpbaaGreat
