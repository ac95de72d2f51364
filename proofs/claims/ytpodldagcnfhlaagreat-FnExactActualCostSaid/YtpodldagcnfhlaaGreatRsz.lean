/-
  Rsz
-/
import Derived.Test.YtpodldagcnfhlaaGreatKeep
import Derived.Test.YtpodldagcnfhlaaGreatExi
import Derived.Test.YtpodldagcnfhlaaGreatExs
namespace Go.Proofs.YtpodldagcnfhlaaGreat
open Go.RowKit
set_option linter.unusedVariables false
set_option linter.unusedSimpArgs false
theorem ExR.sizes {d:DatabaseD}{q:QueryD}{p:PlanD}{b:Bool}{li:List StepInfoD}{L:List StreamD}(h:ExR d q p b li L):runSizes d q p=sizesL L:=by
 unfold ExR at h;unfold runSizes
 cases hx:execD d q p with
 | none=>rw [hx]at h;rw [h.2];rfl
 | some z=>obtain⟨l,M⟩:=z;rw [hx]at h;rw [h.2.2]
theorem stream_len {M:Nat}{w:World}{A1 A2:Option Addr}{n1 c1 n2 c2:Nat}{x:StreamD}(h:(rStream M).rep w [.slice A1 n1 c1,.slice A2 n2 c2] x):x.fRows.length=n2/\n2<=M:=by
 obtain⟨_,_,_,_,_,_,e,_,h2⟩:=rStream_rep.1 h
 simp only [List.cons.injEq,Value.slice.injEq,and_true]at e
 obtain⟨_,e1,e2,e3⟩:=e
 subst e2
 exact⟨h2.len,h2.nb⟩
theorem sizesL_snoc {L:List StreamD}{k n2:Nat}{s:StreamD}(h:L[k]?=some s) (hn:s.fRows.length=n2):sizesL (L.take (k+1))=sizesL (L.take k)++[(n2:Int)]:=by unfold sizesL;rw [take_snoc h,List.map_append,List.map_singleton,hn]
set_option maxRecDepth 100000 in
set_option maxHeartbeats 1600000 in
theorem iRunSizes_c (csd:List Value) (d:DatabaseD) (csq:List Value) (q:QueryD) (csp:List Value) (p:PlanD) (w:World) (hd:(rDatabase NB).rep w csd d) (hq:(rQuery NB).rep w csq q) (hp:(rPlan NB).rep w csp p) :
  Calls Tryz.prog 25 #[.agg csd.toArray,.agg csq.toArray,.agg csp.toArray] w (RetS 3 rInt (runSizes d q p) w):=by
 have rd:=hd
 obtain⟨AdTables,ndTables,cdTables,rfl,hdTables⟩:=rDatabase_rep.1 hd
 clear hd
 have rq:=hq
 obtain⟨AqAtoms,nqAtoms,cqAtoms,rfl,hqVariableCount,hqAtoms⟩:=rQuery_rep.1 hq
 clear hq
 have rp:=hp
 obtain⟨ApSteps,npSteps,cpSteps,rfl,hpSteps⟩:=rPlan_rep.1 hp
 clear hp
 have hB:Below w.heap.size w w:=Below.refl _ _
 have hAd:=(Below.refl (World.heap (w)).size (w)).alloc (Nat.le_refl _) (.cells #[.slice AdTables ndTables cdTables] 26)
 replace hB:=hB.trans (hAd.mono hB.size)
 have bxd:=Bx.new (w) [.slice AdTables ndTables cdTables] 26
 clear hAd
 have hAq:=(Below.refl (World.heap ((w).alloc (.cells #[.slice AdTables ndTables cdTables] 26))).size ((w).alloc (.cells #[.slice AdTables ndTables cdTables] 26))).alloc (Nat.le_refl _) (.cells #[.int .i64 q.fVariableCount,.slice AqAtoms nqAtoms cqAtoms] 29)
 replace hB:=hB.trans (hAq.mono hB.size)
 replace bxd:=bxd.below hAq
 have bxq:=Bx.new ((w).alloc (.cells #[.slice AdTables ndTables cdTables] 26)) [.int .i64 q.fVariableCount,.slice AqAtoms nqAtoms cqAtoms] 29
 simp only [World.size_alloc]at bxq
 clear hAq
 have hAp:=(Below.refl (World.heap (((w).alloc (.cells #[.slice AdTables ndTables cdTables] 26)).alloc (.cells #[.int .i64 q.fVariableCount,.slice AqAtoms nqAtoms cqAtoms] 29))).size (((w).alloc (.cells #[.slice AdTables ndTables cdTables] 26)).alloc (.cells #[.int .i64 q.fVariableCount,.slice AqAtoms nqAtoms cqAtoms] 29))).alloc (Nat.le_refl _) (.cells #[.slice ApSteps npSteps cpSteps] 62)
 replace hB:=hB.trans (hAp.mono hB.size)
 replace bxd:=bxd.below hAp
 replace bxq:=bxq.below hAp
 have bxp:=Bx.new (((w).alloc (.cells #[.slice AdTables ndTables cdTables] 26)).alloc (.cells #[.int .i64 q.fVariableCount,.slice AqAtoms nqAtoms cqAtoms] 29)) [.slice ApSteps npSteps cpSteps] 62
 simp only [World.size_alloc]at bxp
 clear hAp
 have kd_0:=bxd 0 _ rfl
 have kq_0:=bxq 0 _ rfl
 have kq_1:=bxq 1 _ rfl
 have kp_0:=bxp 0 _ rfl
 go_enter Tryz.func25,Tryz.ntmps25
 go_wp2_with fail
 refine(iExecuted_c _ d _ q _ p _ ((rDatabase_ok NB).keep rd (cells_below hB)) ((rQuery_ok NB).keep rq (cells_below hB)) ((rPlan_ok NB).keep rp (cells_below hB))).mono ?_
 rintro e w1 ⟨AI,nI,cI,li,AL,nL,cL,L,b,rfl,hx,hI,hM,hb1⟩
 replace hB:=hB.trans (hb1.mono hB.size)
 replace bxd:=bxd.below hb1
 replace bxq:=bxq.below hb1
 replace bxp:=bxp.below hb1
 clear hb1 kd_0 kq_0 kq_1 kp_0
 have HN:=Lib.hid hx.sizes
 clear hx hI
 have hnL:nL<=4294967296:=hM.nb
 have hLn:=Lib.hid hM.len
 have hM0:=MS.empty (B:=w1.heap.size) (M:=NB) (e:=3) (r:=rInt) w1 (Nat.le_refl _)
 have hA0:=(Below.refl w1.heap.size w1).alloc (Nat.le_refl _) (.cells #[] 3)
 go_wp2
 go_loopw [10,24] (fun oo i wr=>∃ (k c:Nat) (B:Option Addr),k<=nL/\i=.int .i64 k/\oo=.slice B k c/\MS w1.heap.size NB 3 rInt wr B k c (sizesL (L.take k))/\Below w1.heap.size w1 wr) (fun _ i _=>nL - (intOf i).toNat)
 case atStart=>exact⟨0,0,_,Nat.zero_le _,rfl,rfl,hM0,hA0⟩
 case round =>
  clear hM0 hA0
  obtain⟨k,c,B,hk,rfl,rfl,hO,hE⟩:=hrel
  have hz:=hE.size
  by_cases hlt:k<nL
  ·obtain⟨b2,off,s,A1,n1,c1,A2,n2,c2,rfl,l0,l1,hr,hs⟩:=((hM.below (rStream_ok NB) hE).rs (rStream_ok NB)).eStream hlt
   obtain⟨e1,e2⟩:=stream_len hr
   have HS:=Lib.hid (sizesL_snoc hs.out e1)
   have HI:=Lib.hid (show I64 (n2:Int) from ⟨by omega,by unfold NB at e2;omega⟩)
   clear e1 e2 hr hs
   go_upto_region 6 with fail
   obtain⟨wx,hwx⟩:∃ W,W=wr.alloc (.cells #[.slice A1 n1 c1,.slice A2 n2 c2] 35):=⟨_,rfl⟩
   have kx:=Bk.new wr [.slice A1 n1 c1,.slice A2 n2 c2] 35
   have hAx:=(Below.refl wr.heap.size wr).alloc (Nat.le_refl _) (.cells #[.slice A1 n1 c1,.slice A2 n2 c2] 35)
   rw [<- hwx]at kx hAx ⊢
   clear hwx
   have c_1:=kx.bx 1 _ rfl
   go_wp2_with (at_builtin;refine wpList_app (r:=rInt) rfl _ _ 32 rfl _ 8 eiInt rInt_ok rfl hO (hAx.trans (((Below.refl wx.heap.size wx).alloc (Nat.le_refl _) _).mono hAx.size)) hz ⟨_,0,none⟩ rfl [] [.int .i64 (n2:Int)] (n2:Int) ⟨rfl,rfl,HI.out⟩ (Fr.nil _) (cell_one_new _ _ _) (by unfold NB;omega) (Nat.le_refl _) (by omega) ?_;intro A9 k9 w9 hM9 hb9 hg9)
   go_roundw
   case rel=>exact⟨k+1,k9,A9,hlt,by go_num,rfl,by rw [HS.out];exact hM9,((hE.trans (hAx.mono hE.size)).alloc (Nat.le_trans hz hAx.size) _).trans hb9⟩
   case measure=>simp [intOf];omega
  ·obtain rfl:k=nL:=by omega
   have HTk:Hid (L.take k=L):=by show _=_;rw [<- hLn.out];exact List.take_length
   go_wp2
   go_ret
   exact⟨_,_,_,rfl,by rw [HN.out,<- HTk.out];exact hO.base hB.size,hB.trans (hE.mono hB.size)⟩
set_option maxRecDepth 100000 in
set_option maxHeartbeats 1600000 in
theorem sRunSizes_c (csd:List Value) (d:DatabaseD) (csq:List Value) (q:QueryD) (csp:List Value) (p:PlanD) (w:World) (hd:(rDatabase NB).rep w csd d) (hq:(rQuery NB).rep w csq q) (hp:(rPlan NB).rep w csp p) :
  Calls Tryz.prog 21 #[.agg csd.toArray,.agg csq.toArray,.agg csp.toArray] w (RetS 3 rInt (runSizes d q p) w):=by
 have rd:=hd
 obtain⟨AdTables,ndTables,cdTables,rfl,hdTables⟩:=rDatabase_rep.1 hd
 clear hd
 have rq:=hq
 obtain⟨AqAtoms,nqAtoms,cqAtoms,rfl,hqVariableCount,hqAtoms⟩:=rQuery_rep.1 hq
 clear hq
 have rp:=hp
 obtain⟨ApSteps,npSteps,cpSteps,rfl,hpSteps⟩:=rPlan_rep.1 hp
 clear hp
 have hB:Below w.heap.size w w:=Below.refl _ _
 have hAd:=(Below.refl (World.heap (w)).size (w)).alloc (Nat.le_refl _) (.cells #[.slice AdTables ndTables cdTables] 26)
 replace hB:=hB.trans (hAd.mono hB.size)
 have bxd:=Bx.new (w) [.slice AdTables ndTables cdTables] 26
 clear hAd
 have hAq:=(Below.refl (World.heap ((w).alloc (.cells #[.slice AdTables ndTables cdTables] 26))).size ((w).alloc (.cells #[.slice AdTables ndTables cdTables] 26))).alloc (Nat.le_refl _) (.cells #[.int .i64 q.fVariableCount,.slice AqAtoms nqAtoms cqAtoms] 29)
 replace hB:=hB.trans (hAq.mono hB.size)
 replace bxd:=bxd.below hAq
 have bxq:=Bx.new ((w).alloc (.cells #[.slice AdTables ndTables cdTables] 26)) [.int .i64 q.fVariableCount,.slice AqAtoms nqAtoms cqAtoms] 29
 simp only [World.size_alloc]at bxq
 clear hAq
 have hAp:=(Below.refl (World.heap (((w).alloc (.cells #[.slice AdTables ndTables cdTables] 26)).alloc (.cells #[.int .i64 q.fVariableCount,.slice AqAtoms nqAtoms cqAtoms] 29))).size (((w).alloc (.cells #[.slice AdTables ndTables cdTables] 26)).alloc (.cells #[.int .i64 q.fVariableCount,.slice AqAtoms nqAtoms cqAtoms] 29))).alloc (Nat.le_refl _) (.cells #[.slice ApSteps npSteps cpSteps] 62)
 replace hB:=hB.trans (hAp.mono hB.size)
 replace bxd:=bxd.below hAp
 replace bxq:=bxq.below hAp
 have bxp:=Bx.new (((w).alloc (.cells #[.slice AdTables ndTables cdTables] 26)).alloc (.cells #[.int .i64 q.fVariableCount,.slice AqAtoms nqAtoms cqAtoms] 29)) [.slice ApSteps npSteps cpSteps] 62
 simp only [World.size_alloc]at bxp
 clear hAp
 have kd_0:=bxd 0 _ rfl
 have kq_0:=bxq 0 _ rfl
 have kq_1:=bxq 1 _ rfl
 have kp_0:=bxp 0 _ rfl
 go_enter Tryz.func21,Tryz.ntmps21
 go_wp2_with fail
 refine(sStreams_c _ d _ q _ p _ ((rDatabase_ok NB).keep rd (cells_below hB)) ((rQuery_ok NB).keep rq (cells_below hB)) ((rPlan_ok NB).keep rp (cells_below hB))).mono ?_
 rintro e w1 ⟨AI,nI,cI,li,AL,nL,cL,L,b,rfl,hx,hI,hM,hb1⟩
 replace hB:=hB.trans (hb1.mono hB.size)
 replace bxd:=bxd.below hb1
 replace bxq:=bxq.below hb1
 replace bxp:=bxp.below hb1
 clear hb1 kd_0 kq_0 kq_1 kp_0
 have HN:=Lib.hid hx.sizes
 clear hx hI
 have hnL:nL<=4294967296:=hM.nb
 have hLn:=Lib.hid hM.len
 have hM0:=MS.empty (B:=w1.heap.size) (M:=NB) (e:=3) (r:=rInt) w1 (Nat.le_refl _)
 have hA0:=(Below.refl w1.heap.size w1).alloc (Nat.le_refl _) (.cells #[] 3)
 go_wp2
 go_loopw [10,11] (fun oo i wr=>∃ (k c:Nat) (B:Option Addr),k<=nL/\i=.int .i64 k/\oo=.slice B k c/\MS w1.heap.size NB 3 rInt wr B k c (sizesL (L.take k))/\Below w1.heap.size w1 wr) (fun _ i _=>nL - (intOf i).toNat)
 case atStart=>exact⟨0,0,_,Nat.zero_le _,rfl,rfl,hM0,hA0⟩
 case round =>
  clear hM0 hA0
  obtain⟨k,c,B,hk,rfl,rfl,hO,hE⟩:=hrel
  have hz:=hE.size
  by_cases hlt:k<nL
  ·obtain⟨b2,off,s,A1,n1,c1,A2,n2,c2,rfl,l0,l1,hr,hs⟩:=((hM.below (rStream_ok NB) hE).rs (rStream_ok NB)).eStream hlt
   obtain⟨e1,e2⟩:=stream_len hr
   have HS:=Lib.hid (sizesL_snoc hs.out e1)
   have HI:=Lib.hid (show I64 (n2:Int) from ⟨by omega,by unfold NB at e2;omega⟩)
   clear e1 e2 hr hs
   go_wp2_with (at_builtin;refine wpList_app (r:=rInt) rfl _ _ 32 rfl _ 8 eiInt rInt_ok rfl hO ((Below.refl _ _).alloc (Nat.le_refl _) _) hz ⟨_,0,none⟩ rfl [] [.int .i64 (n2:Int)] (n2:Int) ⟨rfl,rfl,HI.out⟩ (Fr.nil _) (cell_one_new _ _ _) (by unfold NB;omega) (Nat.le_refl _) (by omega) ?_;intro A9 k9 w9 hM9 hb9 hg9)
   go_roundw
   case rel=>exact⟨k+1,k9,A9,hlt,by go_num,rfl,by rw [HS.out];exact hM9,(hE.alloc hz _).trans hb9⟩
   case measure=>simp [intOf];omega
  ·obtain rfl:k=nL:=by omega
   have HTk:Hid (L.take k=L):=by show _=_;rw [<- hLn.out];exact List.take_length
   go_wp2
   go_ret
   exact⟨_,_,_,rfl,by rw [HN.out,<- HTk.out];exact hO.base hB.size,hB.trans (hE.mono hB.size)⟩
end Go.Proofs.YtpodldagcnfhlaaGreat
