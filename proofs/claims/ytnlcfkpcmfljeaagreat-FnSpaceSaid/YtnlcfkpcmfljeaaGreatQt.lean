/-
  Qt
-/
import Derived.Test.YtnlcfkpcmfljeaaGreatQs
import Derived.Test.YtnlcfkpcmfljeaaGreatMarkB
set_option linter.unusedSimpArgs false
set_option linter.unusedVariables false
set_option maxHeartbeats 1600000
set_option maxRecDepth 100000
namespace Go.Proofs.YtnlcfkpcmfljeaaGreat
open Go.RowKit
theorem bkChg {w w':World}{g:Nat}{t:TypeId}{cs:List Value}{fp:List Nat}(h:Bk w g t cs) (hc:Chg fp w w') (hd:g∉fp):Bk w' g t cs:=(hc.block g h.lt hd).trans h
def StepI (s:Option (StepInfoD × Nat)) (w:World) (e:Ending) (w':World):Prop:=∃ (y:StepInfoD) (ok:Bool),e=.returned (.tuple #[.agg #[.int .i64 y.fMask,.int .i64 y.fOrder,.int .i64 y.fLeft,.int .i64 y.fRight],.bool ok])/\ok=s.isSome/\(∀ z k,s=some (z,k)->y=z/\I64 z.fOrder)/\Below w.heap.size w w'
theorem StepI.no {s:Option (StepInfoD × Nat)}{w w':World}{a b c d:Int}(h:s=none) (hb:Below w.heap.size w w'):StepI s w (.returned (.tuple #[.agg #[.int .i64 a,.int .i64 b,.int .i64 c,.int .i64 d],.bool false])) w' :=
 ⟨⟨a,b,c,d⟩,false,rfl,by rw [h];rfl,fun z k hz=>by rw [h]at hz;(cases hz),hb⟩
theorem StepI.yes {s:Option (StepInfoD × Nat)}{w w':World}{a b c d:Int}{k:Nat}(h:s=some (⟨a,b,c,d⟩,k)) (hi:I64 b) (hb:Below w.heap.size w w'):StepI s w (.returned (.tuple #[.agg #[.int .i64 a,.int .i64 b,.int .i64 c,.int .i64 d],.bool true])) w' :=
 ⟨⟨a,b,c,d⟩,true,rfl,by rw [h];rfl,fun z k hz=>by rw [h]at hz;injection hz with hz;injection hz with hz _;exact⟨hz,hz▸hi⟩,hb⟩
theorem StepI.dec {s:Option (StepInfoD × Nat)}{w w':World}{a b c d:Int}{k:Nat}{p:Bool}(h:s=if p then some (⟨a,b,c,d⟩,k) else none) (hi:I64 b) (hb:Below w.heap.size w w'):StepI s w (.returned (.tuple #[.agg #[.int .i64 a,.int .i64 b,.int .i64 c,.int .i64 d],.bool p])) w':=by
 cases p
 ·exact .no h hb
 ·exact .yes h hi hb
theorem MS.setNe {α:Type}{r:Rp α}{B M:Nat}{e:TypeId}{w:World}{A:Option Addr}{n cap:Nat}{l:List α}(hr:r.Ok) (h:MS B M e r w A n cap l) {k j:Nat}{v:Value}(hk:k<B):MS B M e r (w.setCell ⟨k,j,none⟩ v) A n cap l:=by
 obtain⟨fp,o,f⟩:=h;exact⟨fp,o.okeep hr (fun z hz=>heap_setCell_other w ⟨k,j,none⟩ z v (fun e=>by have:=f.ge z hz;have e:z=k:=e;omega)),f⟩
theorem chgCell {fp:List Nat}{w w':World}(h:Chg fp w w') {p:Addr}(hp:p.block<w.heap.size) (hf:p.block∉fp):w'.cell? p=w.cell? p:=by
 unfold World.cell?;rw [h.block p.block hp hf]
theorem chs4 (w:World) (g:Nat) (a b c d:Value):Chg [g] w (set4 w g a b c d).drew :=
 (((((Chg.refl [g] w).setCell (g:=g) (by simp) 0 a).setCell (g:=g) (by simp) 1 b).setCell (g:=g) (by simp) 2 c).setCell (g:=g) (by simp) 3 d).trans (Chg.ofBelow (Below.refl _ _).drew _)
theorem stepPops {q:QueryD}{x:PlanStepD}{l:List StepInfoD}{st:List Int}{y:StepInfoD}{k n:Nat}(hR:Run n l st) (h:stepInfo q x l st=some (y,k)):k=if 0<=y.fRight then 2 else if 0<=y.fLeft then 1 else 0:=by
 unfold stepInfo at h;split at h
 ·split at h
  ·injection h with h;injection h with h1 h2;subst h1;subst h2;rfl
  ·cases h
 split at h
 ·cases h
 split at h
 ·split at h
  ·rename_i hc
   simp only [Bool.and_eq_true,decide_eq_true_eq]at hc;obtain⟨j,e1,_,_⟩:=hR.top (k:=1) (by omega) hc.1.1;injection h with h;injection h with h1 h2;subst h1;subst h2;simp only [e1];rw [if_neg (by omega),if_pos (by omega)]
  ·cases h
 split at h
 ·rename_i hc
  simp only [Bool.and_eq_true,decide_eq_true_eq]at hc;obtain⟨j,e1,_,_⟩:=hR.top (k:=1) (by omega) (by omega);simp only at h;split at h
  ·split at h
   ·injection h with h;injection h with h1 h2;subst h1;subst h2
    simp only [e1];rw [if_pos (by omega)]
   ·cases h
  ·split at h
   ·injection h with h;injection h with h1 h2;subst h1;subst h2
    simp only [e1];rw [if_pos (by omega)]
   ·cases h
 ·cases h
section
variable {q:QueryD} {x:PlanStepD} {Aq:Option Addr} {nq cq:Nat} {w W W':World} {N:List Value} {y z:StepInfoD} {gY gZ:Nat} {a b c d:Value}
structure Stp (q:QueryD) (x:PlanStepD) (Aq:Option Addr) (nq cq:Nat) (w:World) (N:List Value) (W:World):Prop where
 kR:Bk W (w.heap.size+1+1) 243 [.int .i64 0,.int .i64 0,.int .i64 0,.int .i64 0]
 kN:Bk W (w.heap.size+1+1+1) 243 N
 xq:Bx W w.heap.size [.int .i64 q.fVariableCount,.slice Aq nq cq]
 xx:Bx W (w.heap.size+1) [.int .i64 x.fKind,.int .i64 x.fAtom,.int .i64 x.fOrder]
 be:Below w.heap.size w W
theorem Stp.below (h:Stp q x Aq nq cq w N W) (hb:Below W.heap.size W W'):Stp q x Aq nq cq w N W' :=
 ⟨h.kR.below hb,h.kN.below hb,h.xq.below hb,h.xx.below hb,h.be.trans (hb.mono h.be.size)⟩
theorem Stp.set (h:Stp q x Aq nq cq w N W) (j:Nat) (v:Value):Stp q x Aq nq cq w (N.set j v) (W.setCell ⟨w.heap.size+1+1+1,j,none⟩ v) :=
 ⟨h.kR.setNe (by omega),h.kN.set j v,h.xq.setNe (by omega),h.xx.setNe (by omega),h.be.setCell (p:=⟨w.heap.size+1+1+1,j,none⟩) (by show w.heap.size<=w.heap.size+1+1+1;omega) v⟩
theorem stp0 (q:QueryD) (x:PlanStepD) (Aq:Option Addr) (nq cq:Nat) (w:World):∃ W,W=(((w.alloc (.cells #[.int .i64 q.fVariableCount,.slice Aq nq cq] 50)).alloc (.cells #[.int .i64 x.fKind,.int .i64 x.fAtom,.int .i64 x.fOrder] 173)).alloc (.cells #[.int .i64 0,.int .i64 0,.int .i64 0,.int .i64 0] 243)).alloc (.cells #[.int .i64 0,.int .i64 (-1),.int .i64 (-1),.int .i64 (-1)] 243)/\Stp q x Aq nq cq w [.int .i64 0,.int .i64 (-1),.int .i64 (-1),.int .i64 (-1)] W:=by
 refine⟨_,rfl,?_⟩;have b1:=(Below.refl w.heap.size w).alloc (Nat.le_refl _) (.cells #[.int .i64 q.fVariableCount,.slice Aq nq cq] 50);have e1:(w.alloc (.cells #[.int .i64 q.fVariableCount,.slice Aq nq cq] 50)).heap.size=w.heap.size+1:=World.size_alloc ..;have x1:=Bx.new w [.int .i64 q.fVariableCount,.slice Aq nq cq] 50;revert b1 e1 x1;generalize w.alloc (.cells #[.int .i64 q.fVariableCount,.slice Aq nq cq] 50)=w1;intro b1 e1 x1;have c2:=(Below.refl w1.heap.size w1).alloc (Nat.le_refl _) (.cells #[.int .i64 x.fKind,.int .i64 x.fAtom,.int .i64 x.fOrder] 173);have e2:(w1.alloc (.cells #[.int .i64 x.fKind,.int .i64 x.fAtom,.int .i64 x.fOrder] 173)).heap.size=w1.heap.size+1:=World.size_alloc ..
 have x2:=Bx.new w1 [.int .i64 x.fKind,.int .i64 x.fAtom,.int .i64 x.fOrder] 173;revert c2 e2 x2;generalize w1.alloc (.cells #[.int .i64 x.fKind,.int .i64 x.fAtom,.int .i64 x.fOrder] 173)=w2;intro c2 e2 x2;have c3:=(Below.refl w2.heap.size w2).alloc (Nat.le_refl _) (.cells #[.int .i64 0,.int .i64 0,.int .i64 0,.int .i64 0] 243);have e3:(w2.alloc (.cells #[.int .i64 0,.int .i64 0,.int .i64 0,.int .i64 0] 243)).heap.size=w2.heap.size+1:=World.size_alloc ..;have x3:=Bk.new w2 [.int .i64 0,.int .i64 0,.int .i64 0,.int .i64 0] 243;revert c3 e3 x3;generalize w2.alloc (.cells #[.int .i64 0,.int .i64 0,.int .i64 0,.int .i64 0] 243)=w3
 intro c3 e3 x3;have c4:=(Below.refl w3.heap.size w3).alloc (Nat.le_refl _) (.cells #[.int .i64 0,.int .i64 (-1),.int .i64 (-1),.int .i64 (-1)] 243);have x4:=Bk.new w3 [.int .i64 0,.int .i64 (-1),.int .i64 (-1),.int .i64 (-1)] 243;rw [e3,e2,e1]at x4;rw [e2,e1]at x3;rw [e1]at x2;exact⟨x3.below c4,x4,((x1.below c2).below c3).below c4,(x2.below c3).below c4,((b1.trans (c2.mono (by omega))).trans (c3.mono (by omega))).trans (c4.mono (by omega))⟩
structure Stj (q:QueryD) (x:PlanStepD) (Aq:Option Addr) (nq cq:Nat) (w:World) (N:List Value) (y z:StepInfoD) (gY gZ:Nat) (W:World):Prop extends Stp q x Aq nq cq w N W where
 kY:Bk W gY 243 [.int .i64 y.fMask,.int .i64 y.fOrder,.int .i64 y.fLeft,.int .i64 y.fRight]
 kZ:Bk W gZ 243 [.int .i64 z.fMask,.int .i64 z.fOrder,.int .i64 z.fLeft,.int .i64 z.fRight]
 lY:w.heap.size+1+1+1<gY
 lZ:w.heap.size+1+1+1<gZ
theorem Stj.below (h:Stj q x Aq nq cq w N y z gY gZ W) (hb:Below W.heap.size W W'):Stj q x Aq nq cq w N y z gY gZ W':=⟨h.toStp.below hb,h.kY.below hb,h.kZ.below hb,h.lY,h.lZ⟩
theorem Stj.set (h:Stj q x Aq nq cq w N y z gY gZ W) (j:Nat) (v:Value):Stj q x Aq nq cq w (N.set j v) y z gY gZ (W.setCell ⟨w.heap.size+1+1+1,j,none⟩ v) :=
 ⟨h.toStp.set j v,h.kY.setNe (by have:=h.lY;omega),h.kZ.setNe (by have:=h.lZ;omega),h.lY,h.lZ⟩
theorem Stj.c7 (h:Stj q x Aq nq cq w [a,b,c,d] y z gY gZ W) (hc:Chg [w.heap.size+1+1] W W') :
  W'.cell? ⟨w.heap.size+1+1+1,0,none⟩=some a/\W'.cell? ⟨w.heap.size+1+1+1,1,none⟩=some b/\W'.cell? ⟨w.heap.size+1+1+1,2,none⟩=some c/\W'.cell? ⟨w.heap.size+1+1+1,3,none⟩=some d/\W'.cell? ⟨w.heap.size+1,2,none⟩=some (.int .i64 x.fOrder)/\W'.cell? ⟨gY,1,none⟩=some (.int .i64 y.fOrder)/\W'.cell? ⟨gZ,1,none⟩=some (.int .i64 z.fOrder):=by
 have k:=bkChg h.kN hc (by simp);have lY:=h.lY;have lZ:=h.lZ;exact⟨k.bx 0 _ rfl,k.bx 1 _ rfl,k.bx 2 _ rfl,k.bx 3 _ rfl,(chgCell hc (p:=⟨w.heap.size+1,2,none⟩) (by have:=h.kN.lt;show w.heap.size+1<_;omega) (by simp)).trans (h.xx 2 _ rfl),(bkChg h.kY hc (by simp;omega)).bx 1 _ rfl,(bkChg h.kZ hc (by simp;omega)).bx 1 _ rfl⟩
theorem stj0 (h:Stp q x Aq nq cq w N W) (y z:StepInfoD):(∃ V gY gZ,V=((W.alloc (.cells #[.int .i64 y.fMask,.int .i64 y.fOrder,.int .i64 y.fLeft,.int .i64 y.fRight] 243)).alloc (.cells #[.int .i64 z.fMask,.int .i64 z.fOrder,.int .i64 z.fLeft,.int .i64 z.fRight] 243)).drew/\gY=W.heap.size/\gZ=W.heap.size+1/\Stj q x Aq nq cq w N y z gY gZ V/\Below W.heap.size W V) /\
  ∃ V gY gZ,V=((W.alloc (.cells #[.int .i64 z.fMask,.int .i64 z.fOrder,.int .i64 z.fLeft,.int .i64 z.fRight] 243)).alloc (.cells #[.int .i64 y.fMask,.int .i64 y.fOrder,.int .i64 y.fLeft,.int .i64 y.fRight] 243)).drew/\gZ=W.heap.size/\gY=W.heap.size+1/\Stj q x Aq nq cq w N y z gY gZ V/\Below W.heap.size W V:=by
 have hl:=h.kN.lt;have b:∀ u v,Below W.heap.size W ((W.alloc (.cells u 243)).alloc (.cells v 243)).drew:=fun u v=>(((Below.refl W.heap.size W).alloc (Nat.le_refl _) _).alloc (by simp) _).drew;have k:∀ u v,Bk ((W.alloc (.cells (List.toArray u) 243)).alloc (.cells v 243)).drew W.heap.size 243 u:=fun u v=>(Bk.new W u _).below (bal).drew;have l:∀ u v,Bk ((W.alloc (.cells u 243)).alloc (.cells (List.toArray v) 243)).drew (W.heap.size+1) 243 v:=fun u v=>by have h:=Bk.new (W.alloc (.cells u 243)) v 243;simp only [World.size_alloc]at h;exact h
 exact⟨⟨_,_,_,rfl,rfl,rfl,⟨h.below (b _ _),k _ _,l _ _,hl,by omega⟩,b _ _⟩,⟨_,_,_,rfl,rfl,rfl,⟨h.below (b _ _),l _ _,k _ _,by omega,hl⟩,b _ _⟩⟩
end
theorem iStepScan_c (csq:List Value) (q:QueryD) (csx:List Value) (x:PlanStepD) (Al:Option Addr) (nl cl:Nat) (l:List StepInfoD) (Ast:Option Addr) (nst cst:Nat) (st:List Int) (w:World) (hq:(rQuery NB).rep w csq q) (hx:(rPlanStep NB).rep w csx x) (hl:RS NB (rStepInfo NB) w Al nl cl l) (hst:RS NB rInt w Ast nst cst st) (hv:validQ q=true) (hR:Run q.fAtoms.length l st) (hn14:l.length<=14) (k1:x.fKind=1) :
  Calls Tryz.prog 249 #[.agg csq.toArray,.agg csx.toArray,.slice Al nl cl,.slice Ast nst cst] w (StepI (stepInfo q x l st) w):=by
 have rq:=hq;obtain⟨Aq_e,nq_e,cq_e,rfl,hq_p5,hq_e⟩:=rQuery_rep.1 hq;clear hq;have rx:=hx;obtain⟨rfl,hxKind,hx_d,hx_s3⟩:=rPlanStep_rep.1 hx;clear hx;have hB:Below w.heap.size w w:=Below.refl _ _;have K1:=Lib.hid k1;clear k1;have hnA:=hq_e.bound;have HL:=Lib.hid hq_e.len;have HV:=Lib.hid hv;clear hv;have hn4:nq_e<=4:=by have:=HL.out;have:=validQ_parts HV.out;omega
 have hnst:nst<=14:=by have:=hst.len;have:=hR.len;omega
 have hnl:nl<=14:=by have:=hl.len;omega
 have HN16:Hid (((2 ^ q.fAtoms.length:Nat):Int)<=16):=by
  show _<=_;have:=pow_le16 (n:=q.fAtoms.length) (by rw [HL.out];exact hn4);omega
 have HR:=Lib.hid hR;clear hR;clear hn14 hB;obtain⟨wb,hwb,J⟩:=stp0 q x Aq_e nq_e cq_e w
 go_enter Tryz.func249,Tryz.ntmps249
 go_upto_region 2 with fail
 rw [<- hwb];clear hwb;have hbsz:w.heap.size+1+1+1<wb.heap.size:=J.kN.lt;obtain⟨kq_0,kq_1⟩:=J.xq.b2;obtain⟨kx_0,kx_1,kx_2⟩:=J.xx.b3;have HRS:=Lib.hid hst;clear hst;have HRL:=Lib.hid hl;clear hl;have kb1:(x.fKind==1)=true:=by simp [K1.out]
 cases c1:inR x.fAtom 0 ((nq_e:Int) - 1)
 ·have C1:=Lib.hid (fun W=>within_v c1 W)
  have HS:Hid (stepInfo q x l st=none):=by show _=_;unfold stepInfo;rw [if_pos K1.out,HL.out,c1];rfl
  clear c1
  go_upto_region 4 with (go_at_call 89;refine(C1.out _).mono ?_;rintro e w' ⟨rfl,hww⟩;replace hww:=hww.symm;subst hww)
  obtain⟨n0,n1,n2,n3⟩:=J.kN.bx.b4;obtain⟨r0,f0,r1,f1,r2,f2,r3,f3⟩:=J.kR.r4;go_wp2;have q:=J.kR.s4;refine bodyPost_ret (v:=_) (by simp [results,Tryz.results249,go_sem,q];rfl) rfl ?_;exact StepI.no HS.out (bls4 J.be (le2 _) _ _ _ _)
 have C1:=Lib.hid (fun W=>within_v c1 W);have ha0:=(inR_t.1 c1).1;have ha1:=(inR_t.1 c1).2;have D1:=Lib.hid c1;clear c1;by_cases o1:x.fOrder=0
 rotate_left
 ·have ob1:(x.fOrder != 0)=true:=by simp [o1]
  have HS:Hid (stepInfo q x l st=none):=by show _=_;unfold stepInfo;rw [if_pos K1.out,HL.out,D1.out,decide_eq_false o1];rfl
  clear o1
  go_upto_region 4 with (go_at_call 89;refine(C1.out _).mono ?_;rintro e w' ⟨rfl,hww⟩;replace hww:=hww.symm;subst hww)
  obtain⟨n0,n1,n2,n3⟩:=J.kN.bx.b4;obtain⟨r0,f0,r1,f1,r2,f2,r3,f3⟩:=J.kR.r4;go_wp2;have q:=J.kR.s4;refine bodyPost_ret (v:=_) (by simp [results,Tryz.results249,go_sem,q];rfl) rfl ?_;exact StepI.no HS.out (bls4 J.be (le2 _) _ _ _ _)
 have ob1:(x.fOrder != 0)=false:=by simp [o1]
 obtain⟨ai,hai⟩:∃ ai:Nat,x.fAtom=(ai:Int):=⟨x.fAtom.toNat,by omega⟩;have hain:ai<nq_e:=by omega
 obtain⟨b,off,a,AV,nV,cV,rfl,hc0,hc1,hsz,hRV,ha⟩:=hq_e.eAtom hain;clear hc0
 have hnV:0<nV:=by
  have h1:=validQ_parts HV.out;have h2:=(atomOk_parts (h1.2.2.2.2.1 a (mem_of_at ha.out))).2.1;have:=hRV.len;omega
 obtain⟨b2,off2,v,rfl,hcv,hI,hvv⟩:=hRV.ati hnV;rw [Nat.add_zero]at hcv
 have HS:Hid (stepInfo q x l st=some (⟨pow2 ai,v,-1,-1⟩,0)):=by
  have hfv:firstVar q x.fAtom=v:=by unfold firstVar;rw [hai,Int.toNat_natCast,ha.out];simp [hvv.out]
  show _=_;unfold stepInfo;rw [if_pos K1.out,HL.out,D1.out,decide_eq_true o1,hfv,hai];rfl
 clear o1;have p1:=pow2_wrap (v:=x.fAtom) (by omega) (by omega);rw [hai]at kx_1;rw [hai,Int.toNat_natCast]at p1;have HAI:=Lib.hid hai;clear hai;rw [HAI.out]at ha0 ha1
 have C2:Hid (∀ W,Calls Tryz.prog 89 #[.int .i64 (ai:Int),.int .i64 0,.int .i64 ((nq_e:Int) - 1)] W fun e w'=>e=.returned (.bool true)/\w'=W):=by
  have:=C1.out;rw [HAI.out]at this;exact this
 clear C1;obtain⟨n0,fn0,n1,fn1,n2,fn2,n3,fn3⟩:=J.kN.r4
 go_upto_region 5 with (go_at_call 89;refine(C2.out _).mono ?_;rintro e w' ⟨rfl,hww⟩;replace hww:=hww.symm;subst hww)
 go_upto_region 6 with fail
 obtain⟨wc,hw1⟩:∃ W,W=wb.setCell ⟨w.heap.size+1+1+1,0,none⟩ (.int .i64 (pow2 ai)):=⟨_,rfl⟩;replace J:=J.set 0 (.int .i64 (pow2 ai));rw [<- hw1]at J ⊢;clear hw1 n0 n1 n2 n3 fn0 fn1 fn2 fn3;clear kx_0 kx_1 kx_2 kq_0 kq_1 p1;have kx_1:=J.xx 1 _ rfl;rw [HAI.out]at kx_1;have kq_1:=J.xq 1 _ rfl;have hc1':=cells_below J.be _ _ hc1;have hcv':=cells_below J.be _ _ hcv;obtain⟨n0,fn0,n1,fn1,n2,fn2,n3,fn3⟩:=J.kN.r4
 go_upto_region 7 with fail
 obtain⟨wd,hw1⟩:∃ W,W=wc.setCell ⟨w.heap.size+1+1+1,1,none⟩ (.int .i64 v):=⟨_,rfl⟩;replace J:=J.set 1 (.int .i64 v);rw [<- hw1]at J ⊢;clear hw1 n0 n1 n2 n3 fn0 fn1 fn2 fn3;clear kx_1 kq_1 hc1' hcv';obtain⟨n0,n1,n2,n3⟩:=J.kN.bx.b4;obtain⟨r0,f0,r1,f1,r2,f2,r3,f3⟩:=J.kR.r4;go_wp2;have q:=J.kR.s4;refine bodyPost_ret (v:=_) (by simp [results,Tryz.results249,go_sem,q];rfl) rfl ?_;exact StepI.yes HS.out hI (bls4 J.be (le2 _) _ _ _ _)
theorem iStepSort_c (csq:List Value) (q:QueryD) (csx:List Value) (x:PlanStepD) (Al:Option Addr) (nl cl:Nat) (l:List StepInfoD) (Ast:Option Addr) (nst cst:Nat) (st:List Int) (w:World) (hq:(rQuery NB).rep w csq q) (hx:(rPlanStep NB).rep w csx x) (hl:RS NB (rStepInfo NB) w Al nl cl l) (hst:RS NB rInt w Ast nst cst st) (hv:validQ q=true) (hR:Run q.fAtoms.length l st) (hn14:l.length<=14) (k1:¬ x.fKind=1) (k2:x.fKind=2) :
  Calls Tryz.prog 249 #[.agg csq.toArray,.agg csx.toArray,.slice Al nl cl,.slice Ast nst cst] w (StepI (stepInfo q x l st) w):=by
 have rq:=hq;obtain⟨Aq_e,nq_e,cq_e,rfl,hq_p5,hq_e⟩:=rQuery_rep.1 hq;clear hq;have rx:=hx;obtain⟨rfl,hxKind,hx_d,hx_s3⟩:=rPlanStep_rep.1 hx;clear hx;have hB:Below w.heap.size w w:=Below.refl _ _;have K1:=Lib.hid k1;clear k1;have K2:=Lib.hid k2;clear k2;have hnA:=hq_e.bound;have HL:=Lib.hid hq_e.len;have HV:=Lib.hid hv;clear hv;have hn4:nq_e<=4:=by have:=HL.out;have:=validQ_parts HV.out;omega
 have hnst:nst<=14:=by have:=hst.len;have:=hR.len;omega
 have hnl:nl<=14:=by have:=hl.len;omega
 have HN16:Hid (((2 ^ q.fAtoms.length:Nat):Int)<=16):=by
  show _<=_;have:=pow_le16 (n:=q.fAtoms.length) (by rw [HL.out];exact hn4);omega
 have HR:=Lib.hid hR;clear hR;clear hn14 hB;obtain⟨wb,hwb,J⟩:=stp0 q x Aq_e nq_e cq_e w
 go_enter Tryz.func249,Tryz.ntmps249
 go_upto_region 2 with fail
 rw [<- hwb];clear hwb;have hbsz:w.heap.size+1+1+1<wb.heap.size:=J.kN.lt;obtain⟨kq_0,kq_1⟩:=J.xq.b2;obtain⟨kx_0,kx_1,kx_2⟩:=J.xx.b3;have HRS:=Lib.hid hst;clear hst;have HRL:=Lib.hid hl;clear hl;have kb1:(x.fKind==1)=false:=by simp [K1.out]
 have kb2:(x.fKind==2)=true:=by simp [K2.out]
 by_cases a0:x.fAtom=0
 rotate_left
 ·have ab:(x.fAtom != 0)=true:=by simp [a0]
  have HS:Hid (stepInfo q x l st=none):=by show _=_;unfold stepInfo;rw [if_neg K1.out,if_pos a0]
  clear a0;obtain⟨n0,n1,n2,n3⟩:=J.kN.bx.b4;obtain⟨r0,f0,r1,f1,r2,f2,r3,f3⟩:=J.kR.r4;go_wp2;have q:=J.kR.s4;refine bodyPost_ret (v:=_) (by simp [results,Tryz.results249,go_sem,q];rfl) rfl ?_;exact StepI.no HS.out (bls4 J.be (le2 _) _ _ _ _)
 have ab:(x.fAtom != 0)=false:=by simp [a0]
 have A0:=Lib.hid a0;clear a0;by_cases hn1:nst<1
 ·have d1:decide ((nst:Int)<1)=true:=decide_eq_true (by omega)
  have HS:Hid (stepInfo q x l st=none):=by show _=_;unfold stepInfo;rw [if_neg K1.out,if_neg (fun h=>h A0.out),if_pos K2.out,decide_eq_false (by rw [HRS.out.len];omega)];rfl
  have HSS:Hid (∀ w',Below wb.heap.size wb w'->True):=by show ∀ w',_->_;exact fun _ _=>trivial
  go_wp2;refine hbg HSS.out (Below.refl _ _).drew (fun hH=>?_);refine tq2 0 hH ?_;simp only [putS];refine tq1 2 hH ?_;simp only [putS];refine tr2 3 hH ?_;simp only [putS];refine tr2 5 hH ?_;simp only [putS];refine tr2 7 hH ?_;simp only [putS];refine tr2 9 hH ?_;simp only [putS];refine tr2 11 hH ?_;simp only [putS];refine tr2 13 hH ?_;simp only [putS];refine tr2 15 hH ?_;simp only [putS];refine tr1 17 hH ?_;simp only [putS];refine tq2 18 hH ?_;simp only [putS];refine tr2 20 hH ?_;simp only [putS];refine tr2 22 hH ?_;simp only [putS];refine tr2 24 hH ?_;simp only [putS];refine tr2 26 hH ?_;simp only [putS]
  refine tr2 28 hH ?_;simp only [putS];refine tr2 30 hH ?_;simp only [putS];refine tq1 32 hH ?_;simp only [putS];refine wpAnyH_done (by kernel_rfl) ?_ _;clear hH;obtain⟨n0,n1,n2,n3⟩:=J.kN.bx.b4;obtain⟨r0,f0,r1,f1,r2,f2,r3,f3⟩:=J.kR.r4;go_wp2;have q:=J.kR.s4;refine bodyPost_ret (v:=_) (by simp [results,Tryz.results249,go_sem,q];rfl) rfl ?_;exact StepI.no HS.out (bls4 J.be (le2 _) _ _ _ _).drew
 have d1:decide ((nst:Int)<1)=false:=decide_eq_false (by omega);obtain⟨t,ht⟩:∃ t,t+1=nst:=⟨nst - 1,by omega⟩;obtain⟨j,y,bS,oS,bI,oI,tr⟩:=topRead HR.out HRS.out HRL.out (t:=t) (k:=1) ht (by omega);have hj:=tr.hj;have m0:=tr.m0;have m16:y.fMask<65536:=by have:=tr.m1;have:=HN16.out;omega
 have mj:IntKind.i64.wrap ((nst:Int) - 1)=(t:Int):=by rw [IntWalk.i64_in _ (by omega)];omega
 have htn:t<nst:=by omega
 have hn1':1<=st.length:=by rw [HRS.out.len];omega
 have eS:=tr.eS;have eI:=tr.eI;subst eS;subst eI;have HN1:=Lib.hid hn1';clear hn1' ht
 have HSS:Hid (∀ w',Below wb.heap.size wb w'->(w'.cell? ⟨w.heap.size,0,none⟩=some (.int .i64 q.fVariableCount)/\w'.cell? ⟨w.heap.size,1,none⟩=some (.slice Aq_e nq_e cq_e)/\w'.cell? ⟨w.heap.size+1,2,none⟩=some (.int .i64 x.fOrder)/\w'.cell? ⟨bS,oS+t,none⟩=some (.int .i64 j)/\w'.cell? ⟨bI,oI+j*4,none⟩=some (.int .i64 y.fMask)/\w'.cell? ⟨bI,oI+j*4+1,none⟩=some (.int .i64 y.fOrder))):=by
  show ∀ w',_->_;intro w' hb;have hz:=tr.below (J.be.trans (hb.mono J.be.size));exact⟨(J.xq.below hb) 0 _ rfl,(J.xq.below hb) 1 _ rfl,(J.xx.below hb) 2 _ rfl,hz.cS,hz.c0,hz.c1⟩
 have HV2:=Lib.hid (varsOf_contains HV.out y.fMask x.fOrder)
 have RV:Hid (∀ W,Below w.heap.size w W->(rQuery NB).rep W [.int .i64 q.fVariableCount,.slice Aq_e nq_e cq_e] q):=by
  show ∀ W,_->_;intro W hW;exact((rQuery_ok NB).keep rq (cells_below hW))
 have HV3:=Lib.hid ((hasI_contains (varsOf q y.fMask) x.fOrder).trans HV2.out);cases hh:hasV q.fAtoms y.fMask x.fOrder
 all_goals have KI:=Lib.hid (HV3.out.trans hh)
 rotate_left
 by_cases o1:y.fOrder=x.fOrder
 ·have ob1:(y.fOrder==x.fOrder)=true:=by simp [o1]
  have HS:Hid (stepInfo q x l st=none):=by show _=_;unfold stepInfo;rw [if_neg K1.out,if_neg (fun h=>h A0.out),if_pos K2.out,tr.yj,decide_eq_false (show ¬ ¬ y.fOrder=x.fOrder from fun h=>h o1),Bool.and_false];rfl
  clear hh o1;clear kx_2 kq_0 kq_1;go_wp2;refine hbg HSS.out (Below.refl _ _).drew (fun hH=>?_);refine tq2 0 hH ?_;simp only [putS];refine tq2 2 hH ?_;simp only [putS];refine tq2 4 hH ?_;simp only [putS];refine tq2 6 hH ?_;simp only [putS];refine tq2 8 hH ?_;simp only [putS];refine tq2 10 hH ?_;simp only [putS];refine tq1 12 hH ?_;simp only [putS];refine tq2 14 hH ?_;simp only [putS];refine rd 13 (some 70) fun K hK=>?_;clear hH;go_simp;refine(iVariables_c _ q y.fMask _ (RV.out _ J.be.drew) HV.out (by omega) m16).mono ?_;rintro e we ⟨AV,nV,cV,rfl,hMV,hbe⟩;have hC:Below wb.heap.size wb we:=(Below.refl _ wb).drew.trans hbe
  go_wp2_with fail
  refine hK.out _ _ (HSS.out _ hC) (fun hH=>?_);clear hK K
  try simp only [putS]
  refine rd 16 (some 73) fun K hK=>?_;clear hH;go_simp;refine(slicesContains_v KI.out (hMV.rs rInt_ok)).mono ?_;rintro e w' ⟨rfl,hww⟩;replace hww:=hww.symm;subst hww
  go_wp2_with fail
  refine hK.out _ _ (HSS.out _ hC) (fun hH=>?_);clear hK K
  try simp only [putS]
  refine tq2 17 hH ?_;simp only [putS];refine tq2 19 hH ?_;simp only [putS];refine tq2 21 hH ?_;simp only [putS];refine tq2 23 hH ?_;simp only [putS];refine tq2 25 hH ?_;simp only [putS];refine tq2 27 hH ?_;simp only [putS];refine tq2 29 hH ?_;simp only [putS];refine tq2 31 hH ?_;simp only [putS];refine wpAnyH_done (by kernel_rfl) ?_ _;clear hH;clear mj hbe hMV kx_0 kx_1;replace J:=J.below hC;obtain⟨n0,n1,n2,n3⟩:=J.kN.bx.b4;obtain⟨r0,f0,r1,f1,r2,f2,r3,f3⟩:=J.kR.r4;go_wp2;have q:=J.kR.s4;refine bodyPost_ret (v:=_) (by simp [results,Tryz.results249,go_sem,q];rfl) rfl ?_;exact StepI.no HS.out (bls4 J.be (le2 _) _ _ _ _)
 rotate_left
 ·have HS:Hid (stepInfo q x l st=none):=by show _=_;unfold stepInfo;rw [if_neg K1.out,if_neg (fun h=>h A0.out),if_pos K2.out,tr.yj,hh,Bool.and_false,Bool.false_and];rfl
  clear hh;clear kx_2 kq_0 kq_1;go_wp2;refine hbg HSS.out (Below.refl _ _).drew (fun hH=>?_);refine tq2 0 hH ?_;simp only [putS];refine tq2 2 hH ?_;simp only [putS];refine tq2 4 hH ?_;simp only [putS];refine tq2 6 hH ?_;simp only [putS];refine tq2 8 hH ?_;simp only [putS];refine tq2 10 hH ?_;simp only [putS];refine tq1 12 hH ?_;simp only [putS];refine tq2 14 hH ?_;simp only [putS];refine rd 13 (some 70) fun K hK=>?_;clear hH;go_simp;refine(iVariables_c _ q y.fMask _ (RV.out _ J.be.drew) HV.out (by omega) m16).mono ?_;rintro e we ⟨AV,nV,cV,rfl,hMV,hbe⟩;have hC:Below wb.heap.size wb we:=(Below.refl _ wb).drew.trans hbe
  go_wp2_with fail
  refine hK.out _ _ (HSS.out _ hC) (fun hH=>?_);clear hK K
  try simp only [putS]
  refine rd 16 (some 73) fun K hK=>?_;clear hH;go_simp;refine(slicesContains_v KI.out (hMV.rs rInt_ok)).mono ?_;rintro e w' ⟨rfl,hww⟩;replace hww:=hww.symm;subst hww
  go_wp2_with fail
  refine hK.out _ _ (HSS.out _ hC) (fun hH=>?_);clear hK K
  try simp only [putS]
  refine tq2 17 hH ?_;simp only [putS];refine tq1 19 hH ?_;simp only [putS];refine tr2 20 hH ?_;simp only [putS];refine tr2 22 hH ?_;simp only [putS];refine tr2 24 hH ?_;simp only [putS];refine tr2 26 hH ?_;simp only [putS];refine tr2 28 hH ?_;simp only [putS];refine tr2 30 hH ?_;simp only [putS];refine tq1 32 hH ?_;simp only [putS];refine wpAnyH_done (by kernel_rfl) ?_ _;clear hH;clear mj hbe hMV kx_0 kx_1;replace J:=J.below hC;obtain⟨n0,n1,n2,n3⟩:=J.kN.bx.b4;obtain⟨r0,f0,r1,f1,r2,f2,r3,f3⟩:=J.kR.r4;go_wp2;have q:=J.kR.s4;refine bodyPost_ret (v:=_) (by simp [results,Tryz.results249,go_sem,q];rfl) rfl ?_
  exact StepI.no HS.out (bls4 J.be (le2 _) _ _ _ _)
 have ob1:(y.fOrder==x.fOrder)=false:=by simp [o1]
 have HS:Hid (stepInfo q x l st=some (⟨y.fMask,x.fOrder,(j:Int),-1⟩,1)):=by
  show _=_;unfold stepInfo;rw [if_neg K1.out,if_neg (fun h=>h A0.out),if_pos K2.out,tr.yj,hh,tr.tj,decide_eq_true (show ¬ y.fOrder=x.fOrder from o1),decide_eq_true HN1.out];rfl
 clear hh o1;clear kx_2 kq_0 kq_1;go_wp2;refine hbg HSS.out (Below.refl _ _).drew (fun hH=>?_);refine tq2 0 hH ?_;simp only [putS];refine tq2 2 hH ?_;simp only [putS];refine tq2 4 hH ?_;simp only [putS];refine tq2 6 hH ?_;simp only [putS];refine tq2 8 hH ?_;simp only [putS];refine tq2 10 hH ?_;simp only [putS];refine tq1 12 hH ?_;simp only [putS];refine tq2 14 hH ?_;simp only [putS];refine rd 13 (some 70) fun K hK=>?_;clear hH;go_simp;refine(iVariables_c _ q y.fMask _ (RV.out _ J.be.drew) HV.out (by omega) m16).mono ?_;rintro e we ⟨AV,nV,cV,rfl,hMV,hbe⟩;have hC:Below wb.heap.size wb we:=(Below.refl _ wb).drew.trans hbe
 go_wp2_with fail
 refine hK.out _ _ (HSS.out _ hC) (fun hH=>?_);clear hK K
 try simp only [putS]
 refine rd 16 (some 73) fun K hK=>?_;clear hH;go_simp;refine(slicesContains_v KI.out (hMV.rs rInt_ok)).mono ?_;rintro e w' ⟨rfl,hww⟩;replace hww:=hww.symm;subst hww
 go_wp2_with fail
 refine hK.out _ _ (HSS.out _ hC) (fun hH=>?_);clear hK K
 try simp only [putS]
 refine tq2 17 hH ?_;simp only [putS];refine tq2 19 hH ?_;simp only [putS];refine tq2 21 hH ?_;simp only [putS];refine tq2 23 hH ?_;simp only [putS];refine tq2 25 hH ?_;simp only [putS];refine tq2 27 hH ?_;simp only [putS];refine tq2 29 hH ?_;simp only [putS];refine tq2 31 hH ?_;simp only [putS];refine wpAnyH_done (by kernel_rfl) ?_ _;clear hH;clear hbe hMV kx_0 kx_1 RV;have hcs:=((tr.below J.be).below hC).cS;replace J:=J.below hC;obtain⟨n0,fn0,n1,fn1,n2,fn2,n3,fn3⟩:=J.kN.r4
 go_upto_region 15 with fail
 obtain⟨wf,hw1⟩:∃ W,W=we.setCell ⟨w.heap.size+1+1+1,2,none⟩ (.int .i64 j):=⟨_,rfl⟩;replace J:=J.set 2 (.int .i64 j);rw [<- hw1]at J ⊢;clear hw1 n0 n1 n2 n3 fn0 fn1 fn2 fn3;clear mj hcs;have hc0:=(tr.below J.be).c0;have gn2:=J.kN.bx 2 _ rfl;obtain⟨n0,fn0,n1,fn1,n2,fn2,n3,fn3⟩:=J.kN.r4
 go_upto_region 16 with fail
 obtain⟨wg,hw1⟩:∃ W,W=wf.setCell ⟨w.heap.size+1+1+1,0,none⟩ (.int .i64 y.fMask):=⟨_,rfl⟩;replace J:=J.set 0 (.int .i64 y.fMask);rw [<- hw1]at J ⊢;clear hw1 n0 n1 n2 n3 fn0 fn1 fn2 fn3;clear hc0 gn2;have kx_2:=J.xx 2 _ rfl;obtain⟨n0,fn0,n1,fn1,n2,fn2,n3,fn3⟩:=J.kN.r4
 go_upto_region 17 with fail
 obtain⟨wh,hw1⟩:∃ W,W=wg.setCell ⟨w.heap.size+1+1+1,1,none⟩ (.int .i64 x.fOrder):=⟨_,rfl⟩;replace J:=J.set 1 (.int .i64 x.fOrder);rw [<- hw1]at J ⊢;clear hw1 n0 n1 n2 n3 fn0 fn1 fn2 fn3;clear kx_2;obtain⟨n0,n1,n2,n3⟩:=J.kN.bx.b4;obtain⟨r0,f0,r1,f1,r2,f2,r3,f3⟩:=J.kR.r4;go_wp2;have q:=J.kR.s4;refine bodyPost_ret (v:=_) (by simp [results,Tryz.results249,go_sem,q];rfl) rfl ?_;exact StepI.yes HS.out hx_s3 (bls4 J.be (le2 _) _ _ _ _)
theorem iStepRest_c (csq:List Value) (q:QueryD) (csx:List Value) (x:PlanStepD) (Al:Option Addr) (nl cl:Nat) (l:List StepInfoD) (Ast:Option Addr) (nst cst:Nat) (st:List Int) (w:World) (hq:(rQuery NB).rep w csq q) (hx:(rPlanStep NB).rep w csx x) (hl:RS NB (rStepInfo NB) w Al nl cl l) (hst:RS NB rInt w Ast nst cst st) (hv:validQ q=true) (hR:Run q.fAtoms.length l st) (hn14:l.length<=14) (k1:¬ x.fKind=1) (k2:¬ x.fKind=2) :
  Calls Tryz.prog 249 #[.agg csq.toArray,.agg csx.toArray,.slice Al nl cl,.slice Ast nst cst] w (StepI (stepInfo q x l st) w):=by
 have rq:=hq;obtain⟨Aq_e,nq_e,cq_e,rfl,hq_p5,hq_e⟩:=rQuery_rep.1 hq;clear hq;have rx:=hx;obtain⟨rfl,hxKind,hx_d,hx_s3⟩:=rPlanStep_rep.1 hx;clear hx;have hB:Below w.heap.size w w:=Below.refl _ _;have K1:=Lib.hid k1;clear k1;have K2:=Lib.hid k2;clear k2;have hnA:=hq_e.bound;have HL:=Lib.hid hq_e.len;have HV:=Lib.hid hv;clear hv;have hn4:nq_e<=4:=by have:=HL.out;have:=validQ_parts HV.out;omega
 have hnst:nst<=14:=by have:=hst.len;have:=hR.len;omega
 have hnl:nl<=14:=by have:=hl.len;omega
 have HN16:Hid (((2 ^ q.fAtoms.length:Nat):Int)<=16):=by
  show _<=_;have:=pow_le16 (n:=q.fAtoms.length) (by rw [HL.out];exact hn4);omega
 have HR:=Lib.hid hR;clear hR;clear hn14 hB;obtain⟨wb,hwb,J⟩:=stp0 q x Aq_e nq_e cq_e w
 go_enter Tryz.func249,Tryz.ntmps249
 go_upto_region 2 with fail
 rw [<- hwb];clear hwb;have hbsz:w.heap.size+1+1+1<wb.heap.size:=J.kN.lt;obtain⟨kq_0,kq_1⟩:=J.xq.b2;obtain⟨kx_0,kx_1,kx_2⟩:=J.xx.b3;have HRS:=Lib.hid hst;clear hst;have HRL:=Lib.hid hl;clear hl;have kb1:(x.fKind==1)=false:=by simp [K1.out]
 have kb2:(x.fKind==2)=false:=by simp [K2.out]
 by_cases a0:x.fAtom=0
 rotate_left
 ·have ab:(x.fAtom != 0)=true:=by simp [a0]
  have HS:Hid (stepInfo q x l st=none):=by show _=_;unfold stepInfo;rw [if_neg K1.out,if_pos a0]
  clear a0;obtain⟨n0,n1,n2,n3⟩:=J.kN.bx.b4;obtain⟨r0,f0,r1,f1,r2,f2,r3,f3⟩:=J.kR.r4;go_wp2;have q:=J.kR.s4;refine bodyPost_ret (v:=_) (by simp [results,Tryz.results249,go_sem,q];rfl) rfl ?_;exact StepI.no HS.out (bls4 J.be (le2 _) _ _ _ _)
 have ab:(x.fAtom != 0)=false:=by simp [a0]
 have A0:=Lib.hid a0;clear a0;by_cases hn1:nst<2
 ·have d1:decide ((nst:Int)<2)=true:=decide_eq_true (by omega)
  have HS:Hid (stepInfo q x l st=none):=by show _=_;unfold stepInfo;rw [if_neg K1.out,if_neg (fun h=>h A0.out),if_neg K2.out,decide_eq_false (show ¬ 2<=st.length by rw [HRS.out.len];omega),Bool.and_false,Bool.false_and];rfl
  obtain⟨n0,n1,n2,n3⟩:=J.kN.bx.b4;obtain⟨r0,f0,r1,f1,r2,f2,r3,f3⟩:=J.kR.r4;go_wp2;have q:=J.kR.s4;refine bodyPost_ret (v:=_) (by simp [results,Tryz.results249,go_sem,q];rfl) rfl ?_;exact StepI.no HS.out (bls4 J.be (le2 _) _ _ _ _)
 have d1:decide ((nst:Int)<2)=false:=decide_eq_false (by omega);obtain⟨t,ht⟩:∃ t,t+2=nst:=⟨nst - 2,by omega⟩;obtain⟨u,hu⟩:∃ u,u+1=nst:=⟨nst - 1,by omega⟩;obtain⟨j,y,bS,oS,bI,oI,tr⟩:=topRead HR.out HRS.out HRL.out (t:=t) (k:=2) ht (by omega);obtain⟨i,z,bS',oS',bI',oI',tz⟩:=topRead HR.out HRS.out HRL.out (t:=u) (k:=1) hu (by omega);have eq1:=tr.eS.symm.trans tz.eS;have eq2:=tr.eI.symm.trans tz.eI;injection eq1 with eq1;injection eq1 with eq1 eq3;subst eq1;subst eq3;injection eq2 with eq2;injection eq2 with eq2 eq4;subst eq2;subst eq4;have hj:=tr.hj;have hi:=tz.hj;have m0:=tr.m0;have m16:y.fMask<16:=by have:=tr.m1;have:=HN16.out;omega
 have n0':=tz.m0;have n16:z.fMask<16:=by have:=tz.m1;have:=HN16.out;omega
 have mj:IntKind.i64.wrap ((nst:Int) - 2)=(t:Int):=by rw [IntWalk.i64_in _ (by omega)];omega
 have mi:IntKind.i64.wrap ((nst:Int) - 1)=(u:Int):=by rw [IntWalk.i64_in _ (by omega)];omega
 have htn:t<nst:=by omega
 have hun:u<nst:=by omega
 have HJ:=Lib.hid (stepTail_of (q:=q) K1.out K2.out A0.out (by rw [HRS.out.len];omega) tr.yj tz.yj tr.tj tz.tj);have eS:=tr.eS;have eI:=tr.eI;subst eS;subst eI;clear ht hu;have HS20:=Lib.hid (fun w' (hb:Below w.heap.size w w')=>And.intro (tr.below hb).cS (tz.below hb).cS);obtain⟨n0,fn0,n1,fn1,n2,fn2,n3,fn3⟩:=J.kN.r4;go_wp2;refine hbg HS20.out J.be.drew (fun hH=>?_);refine tq2 0 hH ?_;simp only [putS];refine tq2 2 hH ?_;simp only [putS];refine tq2 4 hH ?_;simp only [putS];refine tq2 6 hH ?_;simp only [putS];refine tq2 8 hH ?_;simp only [putS];refine tq1 10 hH ?_;simp only [putS];refine rd 11 none fun K hK=>?_
 clear hH;go_simp;refine hK.out _ _ (HS20.out _ (J.set 2 _).be.drew) (fun hH=>?_);clear hK K
 try simp only [putS]
 refine tq1 12 hH ?_;simp only [putS];refine rd 13 none fun K hK=>?_;clear hH;go_simp;refine hK.out _ _ (HS20.out _ ((J.set 2 _).set 3 _).be.drew) (fun hH=>?_);clear hK K
 try simp only [putS]
 refine wpAnyH_done (by kernel_rfl) ?_ _;clear hH;obtain⟨wc,hwc⟩:∃ W,W=((wb.setCell ⟨w.heap.size+1+1+1,2,none⟩ (.int .i64 j)).setCell ⟨w.heap.size+1+1+1,3,none⟩ (.int .i64 i)).drew:=⟨_,rfl⟩;replace J:Stp q x Aq_e nq_e cq_e w [.int .i64 0,.int .i64 (-1),.int .i64 j,.int .i64 i] wc:=hwc▸((J.set 2 _).set 3 _).below (Below.refl _ _).drew;rw [<- hwc];clear hwc mj mi kx_0 kx_1 kx_2 kq_0 kq_1 n0 n1 n2 n3 fn0 fn1 fn2 fn3 HS20;have tyc:=tr.below J.be;have tzc:=tz.below J.be
 have HS21:Hid (∀ w',Below wc.heap.size wc w'->(w'.cell? ⟨w.heap.size+1+1+1,2,none⟩=some (.int .i64 j)/\w'.cell? ⟨w.heap.size+1+1+1,3,none⟩=some (.int .i64 i)/\w'.cell? ⟨bI,oI+j*4,none⟩=some (.int .i64 y.fMask)/\w'.cell? ⟨bI,oI+j*4+1,none⟩=some (.int .i64 y.fOrder)/\w'.cell? ⟨bI,oI+j*4+2,none⟩=some (.int .i64 y.fLeft)/\w'.cell? ⟨bI,oI+j*4+3,none⟩=some (.int .i64 y.fRight)/\w'.cell? ⟨bI,oI+i*4,none⟩=some (.int .i64 z.fMask)/\w'.cell? ⟨bI,oI+i*4+1,none⟩=some (.int .i64 z.fOrder)/\w'.cell? ⟨bI,oI+i*4+2,none⟩=some (.int .i64 z.fLeft)/\w'.cell? ⟨bI,oI+i*4+3,none⟩=some (.int .i64 z.fRight))):=by
  show ∀ w',_->_;intro w' hb;have ty:=tyc.below hb;have tz:=tzc.below hb;exact⟨(J.kN.below hb).bx 2 _ rfl,(J.kN.below hb).bx 3 _ rfl,ty.c0,ty.c1,ty.c2,ty.c3,tz.c0,tz.c1,tz.c2,tz.c3⟩
 have b1:∀ o,Below wc.heap.size wc (wc.alloc o).drew:=fun o=>((Below.refl wc.heap.size wc).alloc (Nat.le_refl _) _).drew;have b2:∀ o o',Below wc.heap.size wc ((wc.alloc o).alloc o').drew:=fun o o'=>(((Below.refl wc.heap.size wc).alloc (Nat.le_refl _) _).alloc (by simp) _).drew;go_wp2;refine hbg HS21.out (Below.refl _ _).drew (fun hH=>?_);refine tq2 0 hH ?_;simp only [putS];refine tq2 2 hH ?_;simp only [putS];refine tq2 4 hH ?_;simp only [putS];refine tq2 6 hH ?_;simp only [putS];refine tq2 8 hH ?_;simp only [putS];refine rd2 10 (some 12) 11 (some 13) (fun K hK=>?_) fun K hK=>?_
 all_goals clear hH
 go_simp;refine hK.out _ _ (HS21.out _ (b1 _)) (fun hH=>?_);clear hK K
 try simp only [putS]
 refine rd 11 (some 13) fun K hK=>?_;clear hH;go_simp;refine hK.out _ _ (HS21.out _ (b2 _ _)) (fun hH=>?_);clear hK K
 try simp only [putS]
 refine rd 12 none fun K hK=>?_;clear hH;go_simp;refine hK.out _ _ (HS21.out _ (b2 _ _)) (fun hH=>?_);clear hK K
 try simp only [putS]
 refine rd 13 none fun K hK=>?_;clear hH;go_simp;refine hK.out _ _ (HS21.out _ (b2 _ _)) (fun hH=>?_);clear hK K
 try simp only [putS]
 refine wpAnyH_done (by kernel_rfl) ?_ _;clear hH;obtain⟨wd,gY,gZ,e1,e2,e3,JJ,hcd⟩:=(stj0 J y z).1
 rotate_left
 go_simp;refine hK.out _ _ (HS21.out _ (b1 _)) (fun hH=>?_);clear hK K
 try simp only [putS]
 refine rd 10 (some 12) fun K hK=>?_;clear hH;go_simp;refine hK.out _ _ (HS21.out _ (b2 _ _)) (fun hH=>?_);clear hK K
 try simp only [putS]
 refine rd 12 none fun K hK=>?_;clear hH;go_simp;refine hK.out _ _ (HS21.out _ (b2 _ _)) (fun hH=>?_);clear hK K
 try simp only [putS]
 refine rd 13 none fun K hK=>?_;clear hH;go_simp;refine hK.out _ _ (HS21.out _ (b2 _ _)) (fun hH=>?_);clear hK K
 try simp only [putS]
 refine wpAnyH_done (by kernel_rfl) ?_ _;clear hH;obtain⟨wd,gY,gZ,e1,e3,e2,JJ,hcd⟩:=(stj0 J y z).2
 all_goals
  first|rw [<- e1,<- e3,<- e2]|rw [<- e1,<- e2,<- e3]
  clear e1 e2 e3 HS21 tyc tzc b1 b2;have hgN:w.heap.size+1+1+1<wc.heap.size:=J.kN.lt;clear J;have J:=JJ;clear JJ
  have HS22:Hid (∀ w',Below wd.heap.size wd w'->(w'.cell? ⟨w.heap.size,0,none⟩=some (.int .i64 q.fVariableCount)/\w'.cell? ⟨w.heap.size,1,none⟩=some (.slice Aq_e nq_e cq_e)/\w'.cell? ⟨gY,0,none⟩=some (.int .i64 y.fMask)/\w'.cell? ⟨gZ,0,none⟩=some (.int .i64 z.fMask))):=by
   show ∀ w',_->_;intro w' hb;exact⟨(J.xq.below hb) 0 _ rfl,(J.xq.below hb) 1 _ rfl,(J.kY.below hb).bx 0 _ rfl,(J.kZ.below hb).bx 0 _ rfl⟩
  have RV:Hid (∀ W,Below w.heap.size w W->(rQuery NB).rep W [.int .i64 q.fVariableCount,.slice Aq_e nq_e cq_e] q):=by
   show ∀ W,_->_;intro W hW;exact((rQuery_ok NB).keep rq (cells_below hW))
  have hNd:w.heap.size+1+1+1<wd.heap.size:=by have:=hcd.size;omega
  clear hcd hgN;go_wp2;refine hbg HS22.out (Below.refl _ _).drew (fun hH=>?_);refine tq2 0 hH ?_;simp only [putS];refine tq1 2 hH ?_;simp only [putS];refine tq2 4 hH ?_;simp only [putS];refine tq1 6 hH ?_;simp only [putS];refine rd 3 (some 136) fun K hK=>?_;clear hH;go_simp;refine(iVariables_c _ q y.fMask _ (RV.out _ J.be.drew) HV.out (by omega) (by omega)).mono ?_;rintro e we ⟨AV,nV,cV,rfl,hMV,hbe⟩;have hC1:Below wd.heap.size wd we:=(Below.refl _ wd).drew.trans hbe
  go_wp2_with fail
  refine hK.out _ _ (HS22.out _ hC1) (fun hH=>?_);clear hK K
  try simp only [putS]
  refine rd 7 (some 140) fun K hK=>?_;clear hH;go_simp;refine(iVariables_c _ q z.fMask _ (RV.out _ (J.be.trans (hC1.mono J.be.size))) HV.out (by omega) (by omega)).mono ?_;rintro e wf ⟨AW,nW,cW,rfl,hMW,hbf⟩;have hC2:Below wd.heap.size wd wf:=hC1.trans (hbf.mono hC1.size)
  go_wp2_with fail
  refine hK.out _ _ (HS22.out _ hC2) (fun hH=>?_);clear hK K
  try simp only [putS]
  have hRA:=(hMV.rs rInt_ok).below rInt_ok hbf;have hRB:=hMW.rs rInt_ok;refine rd 8 (some 141) fun K hK=>?_;clear hH;go_simp;refine(iBoth_c _ _ _ _ _ _ _ _ _ hRA hRB).mono ?_;rintro e wg ⟨AX,nX,cX,rfl,M,hbg⟩;have hC:Below wd.heap.size wd wg:=hC2.trans (hbg.mono hC2.size)
  go_wp2_with fail
  refine hK.out _ _ (HS22.out _ hC) (fun hH=>?_);clear hK K
  try simp only [putS]
  refine tq1 9 hH ?_;simp only [putS];refine wpAnyH_done (by kernel_rfl) ?_ _;clear hH;have hXB:wd.heap.size<=wf.heap.size:=hC2.size;have HXL:=Lib.hid M.len;clear hRA hRB hMV hMW hbe hbf hbg hC1 hC2 RV HS22;replace J:=J.below hC;have pO:=orI_bits (a:=y.fMask) (b:=z.fMask) (by omega) (by omega) (by omega) (by omega);have cy0:=J.kY.bx 0 _ rfl;have cz0:=J.kZ.bx 0 _ rfl;obtain⟨n0,fn0,n1,fn1,n2,fn2,n3,fn3⟩:=J.kN.r4
  go_upto_region 24 with fail
  obtain⟨wh,hw1⟩:∃ W,W=wg.setCell ⟨w.heap.size+1+1+1,0,none⟩ (.int .i64 (orI y.fMask z.fMask)):=⟨_,rfl⟩;replace J:=J.set 0 (.int .i64 (orI y.fMask z.fMask));replace M:=M.setNe rInt_ok (j:=0) (v:=.int .i64 (orI y.fMask z.fMask)) (k:=w.heap.size+1+1+1) (by omega);rw [<- hw1]at J M ⊢;clear hw1 n0 n1 n2 n3 fn0 fn1 fn2 fn3;clear pO cy0 cz0;have cy0:=J.kY.bx 0 _ rfl;have cz0:=J.kZ.bx 0 _ rfl;have kx_0:=J.xx 0 _ rfl;have pA:=andI_bits (a:=y.fMask) (b:=z.fMask) (by omega) (by omega) (by omega) (by omega);by_cases z1:andI y.fMask z.fMask=0
  rotate_left
  ·have zb:(andI y.fMask z.fMask != 0)=true:=by simp [z1]
   have HS:Hid (stepInfo q x l st=none):=by show _=_;rw [HJ.out,if_neg];unfold joinOk;rw [decide_eq_false z1];simp
   clear z1;obtain⟨n0,n1,n2,n3⟩:=J.kN.bx.b4;obtain⟨r0,f0,r1,f1,r2,f2,r3,f3⟩:=J.kR.r4;go_wp2;have q:=J.kR.s4;refine bodyPost_ret (v:=_) (by simp [results,Tryz.results249,go_sem,q];rfl) rfl ?_;exact StepI.no HS.out (bls4 J.be (le2 _) _ _ _ _)
  have zb:(andI y.fMask z.fMask != 0)=false:=by simp [z1]
  have Z1:=Lib.hid z1;clear z1;have HSN:=Lib.hid (shared_none HV.out y.fMask z.fMask);by_cases v1:nX=0
  ·have vb:((nX:Int)==0)=true:=by simp [v1]
   have HS:Hid (stepInfo q x l st=none):=by show _=_;rw [HJ.out,if_neg];unfold joinOk;rw [decide_eq_false (show ¬ ¬ andI (bitsQ q.fAtoms y.fMask) (bitsQ q.fAtoms z.fMask)=0 from fun h=>h (HSN.out.1 (HXL.out.trans v1)))];simp
   clear v1;obtain⟨n0,n1,n2,n3⟩:=J.kN.bx.b4;obtain⟨r0,f0,r1,f1,r2,f2,r3,f3⟩:=J.kR.r4;go_wp2;have q:=J.kR.s4;refine bodyPost_ret (v:=_) (by simp [results,Tryz.results249,go_sem,q];rfl) rfl ?_;exact StepI.no HS.out (bls4 J.be (le2 _) _ _ _ _)
  have vb:((nX:Int)==0)=false:=by simp [v1]
  have HK:Hid (stepInfo q x l st=stepTail q x y z j i):=by show _=_;rw [HJ.out,if_pos];unfold joinOk;rw [decide_eq_true Z1.out,decide_eq_true (show ¬ andI (bitsQ q.fAtoms y.fMask) (bitsQ q.fAtoms z.fMask)=0 from fun h=>v1 (HXL.out.symm.trans (HSN.out.2 h)))];rfl
  clear v1;by_cases k3:x.fKind=3
  ·have kb3:(x.fKind==3)=true:=by simp [k3]
   have HS:Hid (stepInfo q x l st=if (x.fOrder==0) then some (⟨orI y.fMask z.fMask,-1,(j:Int),(i:Int)⟩,2) else none):=by show _=_;rw [HK.out];unfold stepTail;rw [k3];simp [inR]
   clear k3
   go_upto_region 28 with fail
   clear kx_0 cy0 cz0 pA zb vb;have HS21:=Lib.hid (fun W (hc:Chg [w.heap.size+1+1] wh W)=>J.c7 hc);obtain⟨r0,f0,r1,f1,r2,f2,r3,f3⟩:=J.kR.r4;go_wp2;refine hbg HS21.out (Chg.ofBelow ((Below.refl _ _).drew) _) (fun hH=>?_);refine tq2 0 hH ?_;simp only [putS];refine tq2 2 hH ?_;simp only [putS];refine rd 4 none fun K hK=>?_;clear hH;go_simp;refine hK.out _ _ (HS21.out _ (chs4 wh (w.heap.size+1+1) _ _ _ _)) (fun hH=>?_);clear hK K
   try simp only [putS]
   refine tq1 5 hH ?_;simp only [putS];refine wpAnyH_done (by kernel_rfl) ?_ _;clear hH;go_wp2;have q:=J.kR.s4;refine bodyPost_ret (v:=_) (by simp [results,Tryz.results249,go_sem,q];rfl) rfl ?_;exact StepI.dec HS.out ⟨by omega,by omega⟩ (bls4 J.be (le2 _) _ _ _ _).drew
  have kb3:(x.fKind==3)=false:=by simp [k3]
  by_cases k5:x.fKind=5
  ·have kb5:(x.fKind==5)=true:=by simp [k5]
   have HS:Hid (stepInfo q x l st=if (x.fOrder==0) then some (⟨orI y.fMask z.fMask,y.fOrder,(j:Int),(i:Int)⟩,2) else none):=by show _=_;rw [HK.out];unfold stepTail;rw [k5];simp [inR]
   clear k3 k5;have cy1:=J.kY.bx 1 _ rfl;obtain⟨n0,fn0,n1,fn1,n2,fn2,n3,fn3⟩:=J.kN.r4
   go_upto_region 31 with fail
   obtain⟨wi,hw1⟩:∃ W,W=wh.setCell ⟨w.heap.size+1+1+1,1,none⟩ (.int .i64 y.fOrder):=⟨_,rfl⟩;replace J:=J.set 1 (.int .i64 y.fOrder);rw [<- hw1]at J ⊢;clear hw1 n0 n1 n2 n3 fn0 fn1 fn2 fn3;clear kx_0 cy0 cy1 cz0 pA zb vb;have HS21:=Lib.hid (fun W (hc:Chg [w.heap.size+1+1] wi W)=>J.c7 hc);obtain⟨r0,f0,r1,f1,r2,f2,r3,f3⟩:=J.kR.r4;go_wp2;refine hbg HS21.out (Chg.ofBelow ((Below.refl _ _).drew) _) (fun hH=>?_);refine tq2 0 hH ?_;simp only [putS];refine tq2 2 hH ?_;simp only [putS];refine rd 4 none fun K hK=>?_;clear hH;go_simp;refine hK.out _ _ (HS21.out _ (chs4 wi (w.heap.size+1+1) _ _ _ _)) (fun hH=>?_)
   clear hK K
   try simp only [putS]
   refine tq1 5 hH ?_;simp only [putS];refine wpAnyH_done (by kernel_rfl) ?_ _;clear hH;go_wp2;have q:=J.kR.s4;refine bodyPost_ret (v:=_) (by simp [results,Tryz.results249,go_sem,q];rfl) rfl ?_;exact StepI.dec HS.out tr.io (bls4 J.be (le2 _) _ _ _ _).drew
  have kb5:(x.fKind==5)=false:=by simp [k5]
  by_cases k4:x.fKind=4
  rotate_left
  ·have kb4:(x.fKind==4)=false:=by simp [k4]
   have HS:Hid (stepInfo q x l st=none):=by show _=_;rw [HK.out];unfold stepTail;rw [if_neg k4,inR_f.2 (by have:=K1.out;have:=K2.out;omega)];rfl
   clear k3 k4 k5;obtain⟨n0,n1,n2,n3⟩:=J.kN.bx.b4;obtain⟨r0,f0,r1,f1,r2,f2,r3,f3⟩:=J.kR.r4;go_wp2;have q:=J.kR.s4;refine bodyPost_ret (v:=_) (by simp [results,Tryz.results249,go_sem,q];rfl) rfl ?_;exact StepI.no HS.out (bls4 J.be (le2 _) _ _ _ _)
  have kb4:(x.fKind==4)=true:=by simp [k4]
  replace HK:Hid (stepInfo q x l st=if hasV q.fAtoms y.fMask x.fOrder&&hasV q.fAtoms z.fMask x.fOrder&&decide (y.fOrder=x.fOrder)&&decide (z.fOrder=x.fOrder) then some (⟨orI y.fMask z.fMask,x.fOrder,j,i⟩,2) else none):=by show _=_;rw [HK.out];unfold stepTail;rw [if_pos k4]
  clear k3 k4 k5;have kx_2:=J.xx 2 _ rfl;obtain⟨n0,fn0,n1,fn1,n2,fn2,n3,fn3⟩:=J.kN.r4
  go_upto_region 34 with fail
  obtain⟨wi,hw1⟩:∃ W,W=wh.setCell ⟨w.heap.size+1+1+1,1,none⟩ (.int .i64 x.fOrder):=⟨_,rfl⟩;replace J:=J.set 1 (.int .i64 x.fOrder);replace M:=M.setNe rInt_ok (j:=1) (v:=.int .i64 x.fOrder) (k:=w.heap.size+1+1+1) (by omega);rw [<- hw1]at J M ⊢;clear hw1 n0 n1 n2 n3 fn0 fn1 fn2 fn3;clear kx_0 kx_2 cy0 cz0 pA zb vb;have HBM:=Lib.hid (bothL_mem HV.out y.fMask z.fMask x.fOrder);have hRX:=M.rs rInt_ok;have HB3:=Lib.hid ((hasI_contains (bothL (varsOf q y.fMask) (varsOf q z.fMask)) x.fOrder).trans HBM.out);cases hh:(hasV q.fAtoms y.fMask x.fOrder&&hasV q.fAtoms z.fMask x.fOrder)
  all_goals have KI:=Lib.hid (HB3.out.trans hh)
  ·have HS:Hid (stepInfo q x l st=none):=by show _=_;rw [HK.out,hh,Bool.false_and,Bool.false_and];rfl
   clear hh;have HS21:=Lib.hid (fun W (hc:Chg [w.heap.size+1+1] wi W)=>J.c7 hc);obtain⟨r0,f0,r1,f1,r2,f2,r3,f3⟩:=J.kR.r4;go_wp2;refine hbg HS21.out (Chg.ofBelow ((Below.refl _ _).drew) _) (fun hH=>?_);refine tq2 0 hH ?_;simp only [putS];refine tq2 2 hH ?_;simp only [putS];refine rd 4 (some 186) fun K hK=>?_;clear hH;go_simp;refine(slicesContains_v KI.out (hRX.below rInt_ok (Below.refl _ _).drew)).mono ?_;rintro e w' ⟨rfl,hww⟩;replace hww:=hww.symm;subst hww
   go_wp2_with fail
   refine hK.out _ _ (HS21.out _ (Chg.ofBelow ((Below.refl _ _).drew) _)) (fun hH=>?_);clear hK K
   try simp only [putS]
   refine tq1 5 hH ?_;simp only [putS];refine tr2 6 hH ?_;simp only [putS];refine tr2 8 hH ?_;simp only [putS];refine tr1 10 hH ?_;simp only [putS];refine tq2 11 hH ?_;simp only [putS];refine tr2 13 hH ?_;simp only [putS];refine tr2 15 hH ?_;simp only [putS];refine tr1 17 hH ?_;refine tq1 18 hH ?_;simp only [putS];refine rd 19 none fun K hK=>?_;clear hH;go_simp;refine hK.out _ _ (HS21.out _ (chs4 wi (w.heap.size+1+1) _ _ _ _)) (fun hH=>?_);clear hK K
   try simp only [putS]
   refine tq1 20 hH ?_;simp only [putS];refine wpAnyH_done (by kernel_rfl) ?_ _;clear hH;go_wp2;have q:=J.kR.s4;refine bodyPost_ret (v:=_) (by simp [results,Tryz.results249,go_sem,q];rfl) rfl ?_;exact StepI.no HS.out (bls4 J.be (le2 _) _ _ _ _).drew
  by_cases o1:y.fOrder=x.fOrder
  rotate_left
  ·have ob:(y.fOrder==x.fOrder)=false:=by simp [o1]
   have HS:Hid (stepInfo q x l st=none):=by show _=_;rw [HK.out,hh,decide_eq_false o1,Bool.and_false,Bool.false_and];rfl
   clear hh o1;have HS21:=Lib.hid (fun W (hc:Chg [w.heap.size+1+1] wi W)=>J.c7 hc);obtain⟨r0,f0,r1,f1,r2,f2,r3,f3⟩:=J.kR.r4;go_wp2;refine hbg HS21.out (Chg.ofBelow ((Below.refl _ _).drew) _) (fun hH=>?_);refine tq2 0 hH ?_;simp only [putS];refine tq2 2 hH ?_;simp only [putS];refine rd 4 (some 186) fun K hK=>?_;clear hH;go_simp;refine(slicesContains_v KI.out (hRX.below rInt_ok (Below.refl _ _).drew)).mono ?_;rintro e w' ⟨rfl,hww⟩;replace hww:=hww.symm;subst hww
   go_wp2_with fail
   refine hK.out _ _ (HS21.out _ (Chg.ofBelow ((Below.refl _ _).drew) _)) (fun hH=>?_);clear hK K
   try simp only [putS]
   refine tq2 5 hH ?_;simp only [putS];refine tq2 7 hH ?_;simp only [putS];refine tq2 9 hH ?_;simp only [putS];refine tq2 11 hH ?_;simp only [putS];refine tr2 13 hH ?_;simp only [putS];refine tr2 15 hH ?_;simp only [putS];refine tr1 17 hH ?_;refine tq1 18 hH ?_;simp only [putS];refine rd 19 none fun K hK=>?_;clear hH;go_simp;refine hK.out _ _ (HS21.out _ (chs4 wi (w.heap.size+1+1) _ _ _ _)) (fun hH=>?_);clear hK K
   try simp only [putS]
   refine tq1 20 hH ?_;simp only [putS];refine wpAnyH_done (by kernel_rfl) ?_ _;clear hH;go_wp2;have q:=J.kR.s4;refine bodyPost_ret (v:=_) (by simp [results,Tryz.results249,go_sem,q];rfl) rfl ?_;exact StepI.no HS.out (bls4 J.be (le2 _) _ _ _ _).drew
  have ob:(y.fOrder==x.fOrder)=true:=by simp [o1]
  have HS:Hid (stepInfo q x l st=if (z.fOrder==x.fOrder) then some (⟨orI y.fMask z.fMask,x.fOrder,(j:Int),(i:Int)⟩,2) else none):=by show _=_;rw [HK.out,hh,decide_eq_true o1];simp
  clear hh o1;have HS21:=Lib.hid (fun W (hc:Chg [w.heap.size+1+1] wi W)=>J.c7 hc);obtain⟨r0,f0,r1,f1,r2,f2,r3,f3⟩:=J.kR.r4;go_wp2;refine hbg HS21.out (Chg.ofBelow ((Below.refl _ _).drew) _) (fun hH=>?_);refine tq2 0 hH ?_;simp only [putS];refine tq2 2 hH ?_;simp only [putS];refine rd 4 (some 186) fun K hK=>?_;clear hH;go_simp;refine(slicesContains_v KI.out (hRX.below rInt_ok (Below.refl _ _).drew)).mono ?_;rintro e w' ⟨rfl,hww⟩;replace hww:=hww.symm;subst hww
  go_wp2_with fail
  refine hK.out _ _ (HS21.out _ (Chg.ofBelow ((Below.refl _ _).drew) _)) (fun hH=>?_);clear hK K
  try simp only [putS]
  refine tq2 5 hH ?_;simp only [putS];refine tq2 7 hH ?_;simp only [putS];refine tq2 9 hH ?_;simp only [putS];refine tq2 11 hH ?_;simp only [putS];refine tq2 13 hH ?_;simp only [putS];refine tq2 15 hH ?_;simp only [putS];refine tq2 17 hH ?_;simp only [putS];refine rd 19 none fun K hK=>?_;clear hH;go_simp;refine hK.out _ _ (HS21.out _ (chs4 wi (w.heap.size+1+1) _ _ _ _)) (fun hH=>?_);clear hK K
  try simp only [putS]
  refine tq1 20 hH ?_;simp only [putS];refine wpAnyH_done (by kernel_rfl) ?_ _;clear hH;go_wp2;have q:=J.kR.s4;refine bodyPost_ret (v:=_) (by simp [results,Tryz.results249,go_sem,q];rfl) rfl ?_;exact StepI.dec HS.out hx_s3 (bls4 J.be (le2 _) _ _ _ _).drew
theorem iStepInfo_c (csq:List Value) (q:QueryD) (csx:List Value) (x:PlanStepD) (Al:Option Addr) (nl cl:Nat) (l:List StepInfoD) (Ast:Option Addr) (nst cst:Nat) (st:List Int) (w:World) (hq:(rQuery NB).rep w csq q) (hx:(rPlanStep NB).rep w csx x) (hl:RS NB (rStepInfo NB) w Al nl cl l) (hst:RS NB rInt w Ast nst cst st) (hv:validQ q=true) (hR:Run q.fAtoms.length l st) (hn14:l.length<=14) :
  Calls Tryz.prog 249 #[.agg csq.toArray,.agg csx.toArray,.slice Al nl cl,.slice Ast nst cst] w (StepI (stepInfo q x l st) w):=by
 by_cases k1:x.fKind=1
 ·exact iStepScan_c _ q _ x _ _ _ l _ _ _ st w hq hx hl hst hv hR hn14 k1
 by_cases k2:x.fKind=2
 ·exact iStepSort_c _ q _ x _ _ _ l _ _ _ st w hq hx hl hst hv hR hn14 k1 k2
 ·exact iStepRest_c _ q _ x _ _ _ l _ _ _ st w hq hx hl hst hv hR hn14 k1 k2
end Go.Proofs.YtnlcfkpcmfljeaaGreat
