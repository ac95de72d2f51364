/-
  Mdo, Mop
-/
import Derived.Test.YtnlcfkpcmfljeaaGreatOper
import Derived.Deep.MidRow
set_option linter.unusedSimpArgs false
set_option linter.unusedVariables false
set_option maxHeartbeats 1600000
set_option maxRecDepth 100000
namespace Go.Proofs.YtnlcfkpcmfljeaaGreat
open Go.RowKit
attribute [local go_sem ↓] Go.wp_at_zero Go.wp_at_succ
theorem Bx.range {w:World}{g:Nat}{cs:List Value}(h:Bx w g cs):w.rangeAt g 0 cs:=fun j v hj=>by rw [Nat.zero_add];exact h j v hj
theorem sizeModel:(Tryz.prog.info? 46).map (·.size)=some 30:=by kernel_rfl
def modelOps (x:ModelD):List OperatorD:=[x.fScan,x.fSort,x.fHash,x.fMerge,x.fNested]
structure OpAt (w:World) (g k:Nat) (o:OperatorD) (A:Option Addr) (n c:Nat):Prop where
 rep:(rOperator NB).rep w [.int .i64 o.fFixed,.int .i64 o.fPerLeft,.int .i64 o.fPerRight,.int .i64 o.fPerOutput,.int .i64 o.fPerPair,.slice A n c] o
 c0:w.cell? ⟨g,k*6,none⟩=some (.int .i64 o.fFixed)
 c1:w.cell? ⟨g,k*6+1,none⟩=some (.int .i64 o.fPerLeft)
 c2:w.cell? ⟨g,k*6+2,none⟩=some (.int .i64 o.fPerRight)
 c3:w.cell? ⟨g,k*6+3,none⟩=some (.int .i64 o.fPerOutput)
 c4:w.cell? ⟨g,k*6+4,none⟩=some (.int .i64 o.fPerPair)
 c5:w.cell? ⟨g,k*6+5,none⟩=some (.slice A n c)
theorem OpAt.below {w w':World}{g k:Nat}{o:OperatorD}{A:Option Addr}{n c:Nat}(h:OpAt w g k o A n c) (hb:Below w.heap.size w w'):OpAt w' g k o A n c :=
 ⟨(rOperator_ok NB).keep h.rep (cells_below hb),cells_below hb _ _ h.c0,cells_below hb _ _ h.c1,cells_below hb _ _ h.c2,cells_below hb _ _ h.c3,cells_below hb _ _ h.c4,cells_below hb _ _ h.c5⟩
theorem modelAt {w w':World}{g:Nat}{x:ModelD}{csx:List Value}(h:(rModel NB).rep w csx x) (hb:Below w.heap.size w w') (bx:Bx w' g csx) {k:Nat}(hk:k<5) :
  ∃ o A n c,Hid ((modelOps x)[k]?=some o)/\OpAt w' g k o A n c:=by
 obtain⟨A0,n0,c0,A1,n1,c1,A2,n2,c2,A3,n3,c3,A4,n4,c4,rfl,i00,i01,i02,i03,i04,r0,i10,i11,i12,i13,i14,r1,i20,i21,i22,i23,i24,r2,i30,i31,i32,i33,i34,r3,i40,i41,i42,i43,i44,r4⟩:=rModel_rep.1 h;have hk':k=0\/k=1\/k=2\/k=3\/k=4:=by omega
 rcases hk' with rfl|rfl|rfl|rfl|rfl
 ·exact⟨x.fScan,A0,n0,c0,Lib.hid rfl,rOperator_rep.2 ⟨A0,n0,c0,rfl,i00,i01,i02,i03,i04,r0.below (rCostStep_ok NB) hb⟩,bx 0 _ rfl,bx 1 _ rfl,bx 2 _ rfl,bx 3 _ rfl,bx 4 _ rfl,bx 5 _ rfl⟩
 ·exact⟨x.fSort,A1,n1,c1,Lib.hid rfl,rOperator_rep.2 ⟨A1,n1,c1,rfl,i10,i11,i12,i13,i14,r1.below (rCostStep_ok NB) hb⟩,bx 6 _ rfl,bx 7 _ rfl,bx 8 _ rfl,bx 9 _ rfl,bx 10 _ rfl,bx 11 _ rfl⟩
 ·exact⟨x.fHash,A2,n2,c2,Lib.hid rfl,rOperator_rep.2 ⟨A2,n2,c2,rfl,i20,i21,i22,i23,i24,r2.below (rCostStep_ok NB) hb⟩,bx 12 _ rfl,bx 13 _ rfl,bx 14 _ rfl,bx 15 _ rfl,bx 16 _ rfl,bx 17 _ rfl⟩
 ·exact⟨x.fMerge,A3,n3,c3,Lib.hid rfl,rOperator_rep.2 ⟨A3,n3,c3,rfl,i30,i31,i32,i33,i34,r3.below (rCostStep_ok NB) hb⟩,bx 18 _ rfl,bx 19 _ rfl,bx 20 _ rfl,bx 21 _ rfl,bx 22 _ rfl,bx 23 _ rfl⟩
 ·exact⟨x.fNested,A4,n4,c4,Lib.hid rfl,rOperator_rep.2 ⟨A4,n4,c4,rfl,i40,i41,i42,i43,i44,r4.below (rCostStep_ok NB) hb⟩,bx 24 _ rfl,bx 25 _ rfl,bx 26 _ rfl,bx 27 _ rfl,bx 28 _ rfl,bx 29 _ rfl⟩
theorem ptr_at6 {w:World}{g h:Nat}(bx:Bx w h [.pointer (some ⟨g,0,none⟩),.pointer (some ⟨g,0+6,none⟩),.pointer (some ⟨g,0+12,none⟩),.pointer (some ⟨g,0+18,none⟩),.pointer (some ⟨g,0+24,none⟩)]) {k:Nat}(hk:k<5):w.cell? ⟨h,k,none⟩=some (.pointer (some ⟨g,k*6,none⟩)):=by
 have:k=0\/k=1\/k=2\/k=3\/k=4:=by omega
 rcases this with rfl|rfl|rfl|rfl|rfl
 ·exact bx 0 _ rfl
 ·exact bx 1 _ rfl
 ·exact bx 2 _ rfl
 ·exact bx 3 _ rfl
 ·exact bx 4 _ rfl
theorem iOperators_c (g o:Nat) (w:World) :
  Calls Tryz.prog 188 #[.pointer (some ⟨g,o,none⟩)] w fun e w'=>e=.returned (.slice (some ⟨w.heap.size,0,none⟩) 5 5)/\Bx w' w.heap.size [.pointer (some ⟨g,o,none⟩),.pointer (some ⟨g,o+6,none⟩),.pointer (some ⟨g,o+12,none⟩),.pointer (some ⟨g,o+18,none⟩),.pointer (some ⟨g,o+24,none⟩)]/\Below w.heap.size w w':=by
 go_enter Tryz.func188,Tryz.ntmps188
 go_wp2
 go_region_held3 (fun _=>True) (exact trivial) (fail)
 all_goals
  go_wp2;go_ret;exact⟨rfl,fun j v hj=>Bx.new w [.pointer (some ⟨g,o,none⟩),.pointer (some ⟨g,o+6,none⟩),.pointer (some ⟨g,o+12,none⟩),.pointer (some ⟨g,o+18,none⟩),.pointer (some ⟨g,o+24,none⟩)] 214 j v hj,(bal).drew⟩
end Go.Proofs.YtnlcfkpcmfljeaaGreat
namespace Go.Proofs.YtnlcfkpcmfljeaaGreat
open Go.RowKit
attribute [local go_sem ↓] Go.wp_at_zero Go.wp_at_succ
def opOf (x:ModelD) (k:Int):OperatorD:=if k=1 then x.fScan else if k=2 then x.fSort else if k=3 then x.fHash else if k=4 then x.fMerge else x.fNested
theorem opOf_at (x:ModelD) {k:Nat}(hk:k<5):(modelOps x)[k]?=some (opOf x ((k:Int)+1)):=by
 have:k=0\/k=1\/k=2\/k=3\/k=4:=by omega
 rcases this with rfl|rfl|rfl|rfl|rfl<;>rfl
def RetR (o:OperatorD) (w:World) (e:Ending) (w':World):Prop:=∃ A n c,e=.returned (.agg #[.int .i64 o.fFixed,.int .i64 o.fPerLeft,.int .i64 o.fPerRight,.int .i64 o.fPerOutput,.int .i64 o.fPerPair,.slice A n c])/\(rOperator NB).rep w' [.int .i64 o.fFixed,.int .i64 o.fPerLeft,.int .i64 o.fPerRight,.int .i64 o.fPerOutput,.int .i64 o.fPerPair,.slice A n c] o/\Below w.heap.size w w'
structure OpL (cs:List Value) (j:Nat) (o:OperatorD) (A:Option Addr) (n c:Nat):Prop where
 c0:cs[j*6+0]?=some (.int .i64 o.fFixed)
 c1:cs[j*6+1]?=some (.int .i64 o.fPerLeft)
 c2:cs[j*6+2]?=some (.int .i64 o.fPerRight)
 c3:cs[j*6+3]?=some (.int .i64 o.fPerOutput)
 c4:cs[j*6+4]?=some (.int .i64 o.fPerPair)
 c5:cs[j*6+5]?=some (.slice A n c)
theorem modelAtL {w:World}{x:ModelD}{cs:List Value}(h:(rModel NB).rep w cs x) {j:Nat}(hj:j<5):∃ A n c,OpL cs j (opOf x ((j:Int)+1)) A n c/\(rOperator NB).rep w [.int .i64 (opOf x ((j:Int)+1)).fFixed,.int .i64 (opOf x ((j:Int)+1)).fPerLeft,.int .i64 (opOf x ((j:Int)+1)).fPerRight,.int .i64 (opOf x ((j:Int)+1)).fPerOutput,.int .i64 (opOf x ((j:Int)+1)).fPerPair,.slice A n c] (opOf x ((j:Int)+1)):=by
 obtain⟨A0,n0,c0,A1,n1,c1,A2,n2,c2,A3,n3,c3,A4,n4,c4,rfl,i00,i01,i02,i03,i04,r0,i10,i11,i12,i13,i14,r1,i20,i21,i22,i23,i24,r2,i30,i31,i32,i33,i34,r3,i40,i41,i42,i43,i44,r4⟩:=rModel_rep.1 h;have hj':j=0\/j=1\/j=2\/j=3\/j=4:=by omega
 rcases hj' with rfl|rfl|rfl|rfl|rfl
 ·exact⟨A0,n0,c0,⟨rfl,rfl,rfl,rfl,rfl,rfl⟩,rOperator_rep.2 ⟨A0,n0,c0,rfl,i00,i01,i02,i03,i04,r0⟩⟩
 ·exact⟨A1,n1,c1,⟨rfl,rfl,rfl,rfl,rfl,rfl⟩,rOperator_rep.2 ⟨A1,n1,c1,rfl,i10,i11,i12,i13,i14,r1⟩⟩
 ·exact⟨A2,n2,c2,⟨rfl,rfl,rfl,rfl,rfl,rfl⟩,rOperator_rep.2 ⟨A2,n2,c2,rfl,i20,i21,i22,i23,i24,r2⟩⟩
 ·exact⟨A3,n3,c3,⟨rfl,rfl,rfl,rfl,rfl,rfl⟩,rOperator_rep.2 ⟨A3,n3,c3,rfl,i30,i31,i32,i33,i34,r3⟩⟩
 ·exact⟨A4,n4,c4,⟨rfl,rfl,rfl,rfl,rfl,rfl⟩,rOperator_rep.2 ⟨A4,n4,c4,rfl,i40,i41,i42,i43,i44,r4⟩⟩
theorem sModelAt_c {cs:List Value}{j:Nat}{o:OperatorD}{A:Option Addr}{n c:Nat}(k:Int) (w:World) (hk:(k=1/\j=0)\/(k=2/\j=1)\/(k=3/\j=2)\/(k=4/\j=3)\/((¬ k=1/\¬ k=2/\¬ k=3/\¬ k=4)/\j=4)) (h:OpL cs j o A n c) :
  Calls Tryz.prog 177 #[.agg cs.toArray,.int .i64 k] w fun e w'=>e=.returned (.agg #[.int .i64 o.fFixed,.int .i64 o.fPerLeft,.int .i64 o.fPerRight,.int .i64 o.fPerOutput,.int .i64 o.fPerPair,.slice A n c])/\Below w.heap.size w w':=by
 have hB:=(Below.refl w.heap.size w).alloc (Nat.le_refl _) (.cells cs.toArray 46);have bxx:=Bx.new w cs 46;obtain⟨wa,hwa⟩:∃ wa,wa=w.alloc (.cells cs.toArray 46):=⟨_,rfl⟩;rw [<- hwa]at hB bxx;have hsa:w.heap.size+1=wa.heap.size:=by rw [hwa];simp
 have hBA:=(Below.refl wa.heap.size wa).alloc (Nat.le_refl _) (.cells #[.int .i64 0,.int .i64 0,.int .i64 0,.int .i64 0,.int .i64 0,.slice none 0 0] 44);have bkR:=Bk.new wa [.int .i64 0,.int .i64 0,.int .i64 0,.int .i64 0,.int .i64 0,.slice none 0 0] 44;replace bxx:=bxx.below hBA;replace hB:=hB.trans (hBA.mono hB.size);clear hBA;rw [<- hsa]at bkR;obtain⟨wb,hwb⟩:∃ wb,wb=wa.alloc (.cells #[.int .i64 0,.int .i64 0,.int .i64 0,.int .i64 0,.int .i64 0,.slice none 0 0] 44):=⟨_,rfl⟩;have hwb':=hwb.symm;rw [hwb']at hB bxx bkR;clear hsa;have c0:=bxx _ _ h.c0;have c1:=bxx _ _ h.c1;have c2:=bxx _ _ h.c2;have c3:=bxx _ _ h.c3
 have c4:=bxx _ _ h.c4;have c5:=bxx _ _ h.c5;have f0:=bkR.frozen 0;have r0:=bkR.bx 0 _ rfl;have f1:=bkR.frozen 1;have r1:=bkR.bx 1 _ rfl;have f2:=bkR.frozen 2;have r2:=bkR.bx 2 _ rfl;have f3:=bkR.frozen 3;have r3:=bkR.bx 3 _ rfl;have f4:=bkR.frozen 4;have r4:=bkR.bx 4 _ rfl;have f5:=bkR.frozen 5;have r5:=bkR.bx 5 _ rfl;have bk2:=(((((bkR.set 0 (.int .i64 o.fFixed)).set 1 (.int .i64 o.fPerLeft)).set 2 (.int .i64 o.fPerRight)).set 3 (.int .i64 o.fPerOutput)).set 4 (.int .i64 o.fPerPair)).set 5 (.slice A n c);have hBf:=(((((hB.setCell (p:=⟨w.heap.size+1,0,none⟩) (Nat.le_succ _) (.int .i64 o.fFixed)).setCell (p:=⟨w.heap.size+1,1,none⟩) (Nat.le_succ _) (.int .i64 o.fPerLeft)).setCell (p:=⟨w.heap.size+1,2,none⟩) (Nat.le_succ _) (.int .i64 o.fPerRight)).setCell (p:=⟨w.heap.size+1,3,none⟩) (Nat.le_succ _) (.int .i64 o.fPerOutput)).setCell (p:=⟨w.heap.size+1,4,none⟩) (Nat.le_succ _) (.int .i64 o.fPerPair)).setCell (p:=⟨w.heap.size+1,5,none⟩) (Nat.le_succ _) (.slice A n c)
 have q0:=bk2.bx 0 _ rfl;have q1:=bk2.bx 1 _ rfl;have q2:=bk2.bx 2 _ rfl;have q3:=bk2.bx 3 _ rfl;have q4:=bk2.bx 4 _ rfl;have q5:=bk2.bx 5 _ rfl;clear bxx bkR bk2 hB h;rcases hk with ⟨rfl,rfl⟩|⟨rfl,rfl⟩|⟨rfl,rfl⟩|⟨rfl,rfl⟩|⟨⟨h1,h2,h3,h4⟩,rfl⟩
 ·simp only [Nat.reduceMul,Nat.reduceAdd]at c0 c1 c2 c3 c4 c5
  go_enter Tryz.func177,Tryz.ntmps177
  go_upto_region 3 with fail
  rw [<- hwa,hwb'];clear hwa hwb hwb';go_wp2;refine bodyPost_ret (v:=.agg #[.int .i64 o.fFixed,.int .i64 o.fPerLeft,.int .i64 o.fPerRight,.int .i64 o.fPerOutput,.int .i64 o.fPerPair,.slice A n c]) (by simp [results,Tryz.results177,go_sem,q0,q1,q2,q3,q4,q5]) rfl ?_;exact⟨rfl,hBf⟩
 ·simp only [Nat.reduceMul,Nat.reduceAdd]at c0 c1 c2 c3 c4 c5
  go_enter Tryz.func177,Tryz.ntmps177
  go_upto_region 5 with fail
  rw [<- hwa,hwb'];clear hwa hwb hwb';go_wp2;refine bodyPost_ret (v:=.agg #[.int .i64 o.fFixed,.int .i64 o.fPerLeft,.int .i64 o.fPerRight,.int .i64 o.fPerOutput,.int .i64 o.fPerPair,.slice A n c]) (by simp [results,Tryz.results177,go_sem,q0,q1,q2,q3,q4,q5]) rfl ?_;exact⟨rfl,hBf⟩
 ·simp only [Nat.reduceMul,Nat.reduceAdd]at c0 c1 c2 c3 c4 c5
  go_enter Tryz.func177,Tryz.ntmps177
  go_upto_region 7 with fail
  rw [<- hwa,hwb'];clear hwa hwb hwb';go_wp2;refine bodyPost_ret (v:=.agg #[.int .i64 o.fFixed,.int .i64 o.fPerLeft,.int .i64 o.fPerRight,.int .i64 o.fPerOutput,.int .i64 o.fPerPair,.slice A n c]) (by simp [results,Tryz.results177,go_sem,q0,q1,q2,q3,q4,q5]) rfl ?_;exact⟨rfl,hBf⟩
 ·simp only [Nat.reduceMul,Nat.reduceAdd]at c0 c1 c2 c3 c4 c5
  go_enter Tryz.func177,Tryz.ntmps177
  go_upto_region 9 with fail
  rw [<- hwa,hwb'];clear hwa hwb hwb';go_wp2;refine bodyPost_ret (v:=.agg #[.int .i64 o.fFixed,.int .i64 o.fPerLeft,.int .i64 o.fPerRight,.int .i64 o.fPerOutput,.int .i64 o.fPerPair,.slice A n c]) (by simp [results,Tryz.results177,go_sem,q0,q1,q2,q3,q4,q5]) rfl ?_;exact⟨rfl,hBf⟩
 ·simp only [Nat.reduceMul,Nat.reduceAdd]at c0 c1 c2 c3 c4 c5
  have d1:(k==1)=false:=by simp [h1]
  have d2:(k==2)=false:=by simp [h2]
  have d3:(k==3)=false:=by simp [h3]
  have d4:(k==4)=false:=by simp [h4]
  go_enter Tryz.func177,Tryz.ntmps177
  go_upto_region 10 with fail
  rw [<- hwa,hwb'];clear hwa hwb hwb';go_wp2;refine bodyPost_ret (v:=.agg #[.int .i64 o.fFixed,.int .i64 o.fPerLeft,.int .i64 o.fPerRight,.int .i64 o.fPerOutput,.int .i64 o.fPerPair,.slice A n c]) (by simp [results,Tryz.results177,go_sem,q0,q1,q2,q3,q4,q5]) rfl ?_;exact⟨rfl,hBf⟩
theorem opKind (k:Int):∃ j:Nat,j<5/\((k=1/\j=0)\/(k=2/\j=1)\/(k=3/\j=2)\/(k=4/\j=3)\/((¬ k=1/\¬ k=2/\¬ k=3/\¬ k=4)/\j=4))/\∀ x,opOf x ((j:Int)+1)=opOf x k:=by
 by_cases h1:k=1
 ·exact⟨0,by omega,.inl ⟨h1,rfl⟩,fun x=>by rw [h1];rfl⟩
 by_cases h2:k=2
 ·exact⟨1,by omega,.inr (.inl ⟨h2,rfl⟩),fun x=>by rw [h2];rfl⟩
 by_cases h3:k=3
 ·exact⟨2,by omega,.inr (.inr (.inl ⟨h3,rfl⟩)),fun x=>by rw [h3];rfl⟩
 by_cases h4:k=4
 ·exact⟨3,by omega,.inr (.inr (.inr (.inl ⟨h4,rfl⟩))),fun x=>by rw [h4];rfl⟩
 exact⟨4,by omega,.inr (.inr (.inr (.inr ⟨⟨h1,h2,h3,h4⟩,rfl⟩))),fun x=>by simp [opOf,h1,h2,h3,h4]⟩
theorem sModelOp_c (csx:List Value) (x:ModelD) (k:Int) (w:World) (hx:(rModel NB).rep w csx x):Calls Tryz.prog 177 #[.agg csx.toArray,.int .i64 k] w (RetR (opOf x k) w):=by
 obtain⟨j,hj,hk,he⟩:=opKind k;obtain⟨A,n,c,hL,hr⟩:=modelAtL hx hj;rw [he]at hL hr;exact(sModelAt_c k w hk hL).mono fun e w' ⟨h1,hb⟩=>⟨A,n,c,h1,(rOperator_ok NB).keep hr (cells_below hb),hb⟩
end Go.Proofs.YtnlcfkpcmfljeaaGreat
