/-
  Par
-/
import Derived.Test.YtiafklphblkpbaaGreatTda
import Derived.Test.YtiafklphblkpbaaGreatQry
import Derived.RegionTactic
import Derived.ChangeAlike
import Derived.BigRegion
import Derived.Test.YtiafklphblkpbaaGreatKeep
import Derived.Test.YtiafklphblkpbaaGreatCul
import Derived.Test.YtiafklphblkpbaaGreatCpr
namespace Go.Proofs.YtiafklphblkpbaaGreat
open Go.RowKit
set_option linter.unusedVariables false
set_option linter.unusedSimpArgs false
def DrawnP (g:Nat) (w:World) (e:Ending) (w':World):Prop:=∃ (d:DatabaseD) (q:QueryD) (Ad:Option Addr) (nd cd:Nat) (vc:Int) (Aq:Option Addr) (nq cq:Nat),e=.returned (.tuple #[.agg #[.slice Ad nd cd],.agg #[.int .i64 vc,.slice Aq nq cq]]) /\
 Stb (rDatabase NB) w.heap.size w' [.slice Ad nd cd] d/\Stb (rQuery NB) w.heap.size w' [.int .i64 vc,.slice Aq nq cq] q/\Cur w' g/\Chg [g] w w'
theorem repD {w:World}{cs:List Value}{x:DatabaseD}(h:(rDatabase NB).rep w cs x):∃ A n c,cs=[.slice A n c]:=by
 obtain⟨A,n,c,h,_⟩:=rDatabase_rep.1 h;exact⟨A,n,c,h⟩
theorem repQ {w:World}{cs:List Value}{x:QueryD}(h:(rQuery NB).rep w cs x):∃ vc A n c,cs=[.int .i64 vc,.slice A n c]:=by
 obtain⟨A,n,c,h,_⟩:=rQuery_rep.1 h;exact⟨_,A,n,c,h⟩
set_option maxRecDepth 100000 in
set_option maxHeartbeats 3200000 in
theorem l9Pair_c (g:Nat) (w:World) (hc:Cur w g):Calls Tryz.prog 44 #[.pointer (some ⟨g,0,none⟩)] w (DrawnP g w):=by
 have hgw:=hc.lt
 obtain⟨w1,hw1⟩:∃ W,W=w.alloc (.cells #[.slice none 0 0] 43):=⟨_,rfl⟩
 obtain⟨w2,hw2⟩:∃ W,W=w1.alloc (.cells #[.int .i64 0,.slice none 0 0] 46):=⟨_,rfl⟩
 have hs1:w1.heap.size=w.heap.size+1:=by rw [hw1];simp
 have hs2:w2.heap.size=w.heap.size+1+1:=by rw [hw2];simp [hs1]
 have b1:Below w.heap.size w w1:=by rw [hw1];exact(Below.refl _ _).alloc (Nat.le_refl _) _
 have b2:Below w1.heap.size w1 w2:=by rw [hw2];exact(Below.refl _ _).alloc (Nat.le_refl _) _
 have k1:Bk w2 w.heap.size 43 [.slice none 0 0]:=by refine Bk.below ?_ b2;rw [hw1];exact Bk.new w _ _
 have k2:Bk w2 (w.heap.size+1) 46 [.int .i64 0,.slice none 0 0]:=by rw [hw2,<- hs1];exact Bk.new w1 _ _
 have cu2:=(hc.below b1).below b2
 have C2:Chg [g] w w2:=Chg.ofBelow (b1.trans (b2.mono b1.size)) _
 have HW1:=Lib.hid hw1
 have HW2:=Lib.hid hw2
 have HS2:=Lib.hid hs2
 clear b1 b2 hw1 hw2 hs1 hs2
 go_enter Tryz.func44,Tryz.ntmps44
 go_upto_region 1 with fail
 rw [<- HW1.out,<- HW2.out]
 clear HW1 HW2
 go_wp2_with fail
 refine(l5Db_c g _ cu2).mono ?_
 rintro e w3 ⟨d,cs,fd,rfl,oD,fD,_,cu3,ch3⟩
 obtain⟨Ad,nd,cd,_,rfl,rfl,_⟩:=rDatabase_own.1 oD
 obtain⟨gd,hgd⟩:∃ z,z=w3.heap.size:=⟨_,rfl⟩
 obtain⟨w4,hw4⟩:∃ W,W=w3.alloc (.cells #[.slice Ad nd cd] 43):=⟨_,rfl⟩
 have b4:Below w3.heap.size w3 w4:=by rw [hw4];exact(Below.refl _ _).alloc (Nat.le_refl _) _
 have kd:Bk w4 gd 43 [.slice Ad nd cd]:=by rw [hw4,hgd];exact Bk.new w3 _ _
 have fd1:∀ z∈fd,w.heap.size+2<=z/\z<gd:=fun z hz=>⟨by have:=fD.ge z hz;have:=HS2.out;omega,by rw [hgd];exact(rDatabase_ok NB).lt oD z hz⟩
 replace oD:=(rDatabase_ok NB).ownB oD b4
 have D4:=ch3.trans (Chg.ofBelow b4 _)
 have cu4:=cu3.below b4
 have hgd2:w.heap.size+2<=gd:=by have:=ch3.size;have:=HS2.out;omega
 have HGD:=Lib.hid hgd
 have HW4:=Lib.hid hw4
 clear hgd hw4 cu2 cu3 ch3 b4 fD
 go_upto_region 2 with fail
 rw [<- HGD.out,<- HW4.out]
 clear HW4
 go_wp2_with fail
 refine(l7Query_c g _ cu4).mono ?_
 rintro e w5 ⟨q,cs,fq,rfl,oQ,fQ,_,cu5,ch5⟩
 obtain⟨Aq,nq,cq,_,rfl,rfl,_,_⟩:=rQuery_own.1 oQ
 obtain⟨gq,hgq⟩:∃ z,z=w5.heap.size:=⟨_,rfl⟩
 obtain⟨w6,hw6⟩:∃ W,W=w5.alloc (.cells #[.int .i64 q.fVariableCount,.slice Aq nq cq] 46):=⟨_,rfl⟩
 have b6:Below w5.heap.size w5 w6:=by rw [hw6];exact(Below.refl _ _).alloc (Nat.le_refl _) _
 have kq:Bk w6 gq 46 [.int .i64 q.fVariableCount,.slice Aq nq cq]:=by rw [hw6,hgq];exact Bk.new w5 _ _
 have hgd4:gd<w4.heap.size:=kd.lt
 have fq1:∀ z∈fq,gd<z/\z<gq:=fun z hz=>⟨by have:=fQ.ge z hz;omega,by rw [hgq];exact(rQuery_ok NB).lt oQ z hz⟩
 replace oQ:=(rQuery_ok NB).ownB oQ b6
 have D6:=ch5.trans (Chg.ofBelow b6 _)
 have cu6:=cu5.below b6
 have hgq2:gd<gq:=by have:=ch5.size;omega
 have kd6:Bk w6 gd 43 [.slice Ad nd cd]:=(D6.block _ kd.lt (by simp;omega)).trans kd
 have oD6:=Stb.low (rDatabase_ok NB) oD D6 (fun z hz=>by have:=fd1 z hz;simp;omega)
 have E6:=D4.trans D6
 have HGQ:=Lib.hid hgq
 have HW6:=Lib.hid hw6
 clear hgq hw6 cu4 cu5 ch5 b6 fQ kd oD D4 D6 HGD
 go_upto_region 3 with fail
 rw [<- HGQ.out,<- HW6.out]
 clear HW6 HGQ
 go_wp2_with fail
 refine(l1Once_c g 14 _ (by omega) cu6).mono ?_
 rintro e w7 ⟨b,rfl,cu7,ch7⟩
 have kd7:Bk w7 gd 43 [.slice Ad nd cd]:=(ch7.block _ kd6.lt (by simp;omega)).trans kd6
 have kq7:Bk w7 gq 46 [.int .i64 q.fVariableCount,.slice Aq nq cq]:=(ch7.block _ kq.lt (by simp;omega)).trans kq
 have oD7:=Stb.low (rDatabase_ok NB) oD6 ch7 (fun z hz=>by have:=fd1 z hz;simp;omega)
 have oQ7:=Stb.low (rQuery_ok NB) oQ ch7 (fun z hz=>by have:=fq1 z hz;simp;omega)
 have E7:=E6.trans ch7
 have hq7:=kq7.lt
 clear kd6 kq oD6 oQ E6 cu6 ch7
 cases b
 rotate_left
 focus
  go_wp2_with fail
  refine(l7Any_c g _ cu7).mono ?_
  rintro e w8 ⟨q2,cs,rfl,SQ,cu8,ch8⟩
  obtain⟨vc2,A2,n2,c2,rfl⟩:=repQ SQ.rep
  have kq8:Bk w8 gq 46 [.int .i64 q.fVariableCount,.slice Aq nq cq]:=(ch8.block _ hq7 (by simp;omega)).trans kq7
  have b9:Below gq w8 (set2 w8 gq (.int .i64 vc2) (.slice A2 n2 c2)):=bls2 (Below.refl _ _) (Nat.le_refl _) _ _
  have kq9:Bk (set2 w8 gq (.int .i64 vc2) (.slice A2 n2 c2)) gq 46 [.int .i64 vc2,.slice A2 n2 c2]:=(kq8.set 0 _).set 1 _
  have kd9:Bk (set2 w8 gq (.int .i64 vc2) (.slice A2 n2 c2)) gd 43 [.slice Ad nd cd]:=(b9.block _ (by omega)).trans ((ch8.block _ kd7.lt (by simp;omega)).trans kd7)
  have oD9:=Stb.low (rDatabase_ok NB) (Stb.low (rDatabase_ok NB) oD7 ch8 (fun z hz=>by have:=fd1 z hz;simp;omega)) (Chg.set2 (S:=[gq]) (g:=gq) (by simp) (Chg.refl _ _) (.int .i64 vc2) (.slice A2 n2 c2)) (fun z hz=>by have:=fd1 z hz;simp;omega)
  have SQ9:Stb (rQuery NB) w7.heap.size (set2 w8 gq (.int .i64 vc2) (.slice A2 n2 c2)) [.int .i64 vc2,.slice A2 n2 c2] q2:=SQ.out (Out.chg (Chg.set2 (S:=[gq]) (g:=gq) (by simp) (Chg.refl _ _) (.int .i64 vc2) (.slice A2 n2 c2)) (by simp;exact hq7))
  have HQ:Hid (∀ W',Chg [g,gd,w.heap.size,w.heap.size+1] (set2 w8 gq (.int .i64 vc2) (.slice A2 n2 c2)) W'->Stb (rQuery NB) (w.heap.size+2) W' [.int .i64 vc2,.slice A2 n2 c2] q2):=by
   show ∀ W',_->_
   exact fun W' hW=>(SQ9.out (Out.chg hW (by simp;omega))).mono (by omega)
  have E9:Chg [g] w2 (set2 w8 gq (.int .i64 vc2) (.slice A2 n2 c2)):=chgS (E7.trans ch8) b9 (by have:=HS2.out;omega)
  have cu9:=cu8.low (by omega) b9
  have ⟨x0,f0,x1,f1⟩:=kq8.r2
  go_upto_region 5 with fail
  obtain⟨W,hW⟩:∃ W,W=(w8.setCell ⟨gq,0,none⟩ (.int .i64 vc2)).setCell ⟨gq,1,none⟩ (.slice A2 n2 c2):=⟨_,rfl⟩
  have hW2:W=set2 w8 gq (.int .i64 vc2) (.slice A2 n2 c2):=hW
  rw [<- hW2]at kq9 kd9 oD9 HQ E9 cu9
  rw [<- hW]
  clear hW2 hW x0 f0 x1 f1 b9 SQ9 kq8 kd7 kq7 oD7 oQ7 E7 cu7 cu8 ch8 SQ
  refine Hid.out (?_:Hid _)
 rotate_left
 focus
  have HQ:Hid (∀ W',Chg [g,gd,w.heap.size,w.heap.size+1] w7 W'->Stb (rQuery NB) (w.heap.size+2) W' [.int .i64 q.fVariableCount,.slice Aq nq cq] q):=by
   show ∀ W',_->_
   exact fun W' hW=>Stb.ofOwn (rQuery_ok NB) (Stb.low (rQuery_ok NB) oQ7 hW (fun z hz=>by have:=fq1 z hz;simp;omega)) (fun z hz=>by have:=fq1 z hz;omega)
  go_upto_region 5 with fail
  obtain⟨vc2,hvc⟩:∃ v,v=q.fVariableCount:=⟨_,rfl⟩
  rw [<- hvc]at kq7 HQ
  have kq9:=kq7
  have kd9:=kd7
  have oD9:=oD7
  have E9:=E7
  have cu9:=cu7
  clear kq7 kd7 oD7 E7 cu7 oQ7 hvc
  obtain⟨A2,rfl⟩:∃ z,z=Aq:=⟨_,rfl⟩
  obtain⟨n2,rfl⟩:∃ z,z=nq:=⟨_,rfl⟩
  obtain⟨c2,rfl⟩:∃ z,z=cq:=⟨_,rfl⟩
  obtain⟨q2,rfl⟩:∃ z,z=q:=⟨_,rfl⟩
  refine Hid.out (?_:Hid _)
 all_goals
  refine Lib.hid ?_
  rename World=>V
  go_wp2_with fail
  refine(l1Once_c g 20 _ (by omega) cu9).mono ?_
  rintro e u1 ⟨b,rfl,cuA,chA⟩
  have kdA:Bk u1 gd 43 [.slice Ad nd cd]:=(chA.block _ kd9.lt (by simp;omega)).trans kd9
  have kqA:Bk u1 gq 46 [.int .i64 vc2,.slice A2 n2 c2]:=(chA.block _ kq9.lt (by simp;omega)).trans kq9
  have oDA:=Stb.low (rDatabase_ok NB) oD9 chA (fun z hz=>by have:=fd1 z hz;simp;omega)
  have EA:=E9.trans chA
  have DA:Chg [g,gd,w.heap.size,w.heap.size+1] V u1:=chA.mono (by simp)
  clear kd9 kq9 oD9 E9 cu9 chA
  have hs:w.heap.size+1+1<=w2.heap.size:=by have:=HS2.out;omega
  have kr1:Bk u1 w.heap.size 43 [.slice none 0 0]:=(EA.block _ k1.lt (by simp;omega)).trans k1
  have kr2:Bk u1 (w.heap.size+1) 46 [.int .i64 0,.slice none 0 0]:=(EA.block _ k2.lt (by simp;omega)).trans k2
  have hdl:=kdA.lt
  cases b
  focus
   obtain⟨u3,hu3⟩:∃ z,z=u1:=⟨_,rfl⟩
   rw [<- hu3]at kr1 kr2 kdA kqA DA EA cuA oDA ⊢
   clear hu3
   have HDF:Hid (∀ W',Out (w.heap.size+2) u3 W'->Stb (rDatabase NB) (w.heap.size+2) W' [.slice Ad nd cd] d):=by
    show ∀ W',_->_
    exact fun W' hW=>(Stb.ofOwn (rDatabase_ok NB) oDA (fun z hz=>(fd1 z hz).1)).out hW
   clear oDA
   go_upto_region 7 with fail
   have kdB:=kdA;clear kdA
   have kqB:=kqA;clear kqA
   obtain⟨Ae,rfl⟩:∃ z,z=Ad:=⟨_,rfl⟩
   obtain⟨ne,rfl⟩:∃ z,z=nd:=⟨_,rfl⟩
   obtain⟨ce,rfl⟩:∃ z,z=cd:=⟨_,rfl⟩
   obtain⟨d2,rfl⟩:∃ z,z=d:=⟨_,rfl⟩
   refine Hid.out (?_:Hid _)
  rotate_left
  focus
   go_wp2_with fail
   refine(l5Any_c g _ cuA).mono ?_
   rintro e u2 ⟨d2,cs,rfl,SD,cuB,chB⟩
   obtain⟨Ae,ne,ce,rfl⟩:=repD SD.rep
   have kdB:Bk u2 gd 43 [.slice Ad nd cd]:=(chB.block _ hdl (by simp;omega)).trans kdA
   have b9:Below gd u2 (u2.setCell ⟨gd,0,none⟩ (.slice Ae ne ce)):=(Below.refl _ _).setCell (p:=⟨gd,0,none⟩) (Nat.le_refl _) _
   have kdC:=kdB.set 0 (.slice Ae ne ce)
   have kqC:Bk (u2.setCell ⟨gd,0,none⟩ (.slice Ae ne ce)) gq 46 [.int .i64 vc2,.slice A2 n2 c2]:=(heap_setCell_other u2 ⟨gd,0,none⟩ gq _ (fun e=>by have e2:gq=gd:=e;omega)).trans ((chB.block _ kqA.lt (by simp;omega)).trans kqA)
   have kr1':Bk (u2.setCell ⟨gd,0,none⟩ (.slice Ae ne ce)) w.heap.size 43 [.slice none 0 0]:=(b9.block _ (by omega)).trans ((chB.block _ kr1.lt (by simp;omega)).trans kr1)
   have kr2':Bk (u2.setCell ⟨gd,0,none⟩ (.slice Ae ne ce)) (w.heap.size+1) 46 [.int .i64 0,.slice none 0 0]:=(b9.block _ (by omega)).trans ((chB.block _ kr2.lt (by simp;omega)).trans kr2)
   have D9:Chg [g,gd,w.heap.size,w.heap.size+1] V (u2.setCell ⟨gd,0,none⟩ (.slice Ae ne ce)):=(DA.trans (chB.mono (by simp))).setCell (by simp) 0 _
   have E9:=chgS (EA.trans chB) b9 (by have:=HS2.out;omega)
   have cu9:=cuB.low (by omega) b9
   have SD9:Stb (rDatabase NB) u1.heap.size (u2.setCell ⟨gd,0,none⟩ (.slice Ae ne ce)) [.slice Ae ne ce] d2:=SD.out ((Out.refl _ _).setCell (p:=⟨gd,0,none⟩) hdl _)
   have hu1:w.heap.size+2<=u1.heap.size:=by omega
   have x0:=kdB.bx 0 _ rfl
   have f0:=kdB.frozen 0
   go_upto_region 7 with fail
   obtain⟨u3,hu3⟩:∃ W,W=u2.setCell ⟨gd,0,none⟩ (.slice Ae ne ce):=⟨_,rfl⟩
   rw [<- hu3]at kdC kqC kr1' kr2' D9 E9 cu9 SD9 ⊢
   have HDF:Hid (∀ W',Out (w.heap.size+2) u3 W'->Stb (rDatabase NB) (w.heap.size+2) W' [.slice Ae ne ce] d2):=by
    show ∀ W',_->_
    exact fun W' hW=>(SD9.mono hu1).out hW
   clear hu3 x0 f0 b9 SD9 SD kdB kr1 kr2 kqA kdA DA EA cuA cuB chB oDA
   have kdB:=kdC;clear kdC
   have kqB:=kqC;clear kqC
   have kr1:=kr1';clear kr1'
   have kr2:=kr2';clear kr2'
   have DA:=D9;clear D9
   have EA:=E9;clear E9
   have cuA:=cu9;clear cu9
   refine Hid.out (?_:Hid _)
  all_goals
   refine Lib.hid ?_
   have ⟨r0,g0⟩:u3.cell? ⟨w.heap.size,0,none⟩=some (.slice none 0 0)/\u3.frozen? ⟨w.heap.size,0,none⟩=false:=⟨kr1.bx 0 _ rfl,kr1.frozen 0⟩
   have ⟨p0,q0,p1,q1⟩:=kr2.r2
   have kr2':=(heap_setCell_other u3 ⟨w.heap.size,0,none⟩ (w.heap.size+1) (.slice Ae ne ce) (fun e=>by have e2:w.heap.size+1=w.heap.size:=e;omega)).trans kr2
   have ⟨p2,q2_,p3,q3⟩:=Bk.r2 kr2'
   have dd:=kdB.bx 0 _ rfl
   have ⟨y0,y1⟩:=kqB.bx.b2
   have kq':Bk (u3.setCell ⟨w.heap.size,0,none⟩ (.slice Ae ne ce)) gq 46 [.int .i64 vc2,.slice A2 n2 c2]:=(heap_setCell_other u3 ⟨w.heap.size,0,none⟩ gq (.slice Ae ne ce) (fun e=>by have e2:gq=w.heap.size:=e;omega)).trans kqB
   have ⟨y2,y3⟩:=kq'.bx.b2
   have z0:=Bk.bx ((kr1.set 0 (.slice Ae ne ce)).pst (r:=w.heap.size+1) (by omega) (.int .i64 vc2) (.slice A2 n2 c2)) 0 _ rfl
   have ⟨z1,z2⟩:=Bk.s2 kr2'
   go_wp2
   go_region
   go_wp2
   refine bodyPost_ret (v:=.tuple #[.agg #[.slice Ae ne ce],.agg #[.int .i64 vc2,.slice A2 n2 c2]]) (by simp [results,Tryz.results44,go_sem,z0,z1,z2]) rfl ?_
   have bf:Below w.heap.size u3 (set2 (u3.setCell ⟨w.heap.size,0,none⟩ (.slice Ae ne ce)) (w.heap.size+1) (.int .i64 vc2) (.slice A2 n2 c2)):=bls2 (g:=w.heap.size+1) ((Below.refl w.heap.size u3).setCell (p:=⟨w.heap.size,0,none⟩) (Nat.le_refl _) (.slice Ae ne ce)) (Nat.le_succ _) (.int .i64 vc2) (.slice A2 n2 c2)
   have hO:Out (w.heap.size+2) u3 (set2 (u3.setCell ⟨w.heap.size,0,none⟩ (.slice Ae ne ce)) (w.heap.size+1) (.int .i64 vc2) (.slice A2 n2 c2)):=Out.chg (S:=[w.heap.size,w.heap.size+1]) (Chg.set2 (by simp) ((Chg.refl _ _).setCell (by simp) 0 _) _ _) (by simp)
   have hC:Chg [g,gd,w.heap.size,w.heap.size+1] V (set2 (u3.setCell ⟨w.heap.size,0,none⟩ (.slice Ae ne ce)) (w.heap.size+1) (.int .i64 vc2) (.slice A2 n2 c2)):=Chg.set2 (by simp) (DA.setCell (by simp) 0 _) _ _
   exact⟨d2,q2,Ae,ne,ce,vc2,A2,n2,c2,rfl,(HDF.out _ hO).mono (by omega),(HQ.out _ hC).mono (by omega),cuA.low hgw bf.drew,chgS (C2.trans EA) bf.drew (Nat.le_refl _)⟩
end Go.Proofs.YtiafklphblkpbaaGreat
namespace Go.Proofs.YtiafklphblkpbaaGreat
open Go.RowKit
set_option linter.unusedVariables false
set_option linter.unusedSimpArgs false
theorem OS.chgN {α:Type}{r:Rp α}{M:Nat}{e:TypeId}{w w':World}{fp:List Nat}{A:Option Addr}{n cap:Nat}{l:List α}{g:Nat}(h:OS M e r w fp A n cap l) (hr:r.Ok) (hc:Chg [g] w w') (hg:∀ k∈fp,k≠g):OS M e r w' fp A n cap l :=
 h.okeep hr (fun k hk=>hc.block k (h.lt hr k hk) (by simpa using hg k hk))
theorem MS.chgN {α:Type}{r:Rp α}{B M:Nat}{e:TypeId}{w w':World}{A:Option Addr}{n cap:Nat}{l:List α}{g:Nat}(h:MS B M e r w A n cap l) (hr:r.Ok) (hc:Chg [g] w w') (hg:g<B):MS B M e r w' A n cap l:=by
 obtain⟨fp,o,f⟩:=h
 exact⟨fp,o.chgN hr hc (fun k hk=>by have:=f.ge k hk;omega),f⟩
/-- a stream under way: its variables lie between its box and B, its rows from B on; beside them the cursor alone turns -/
structure Dst (w1:World) (g gO B:Nat) (V:List Int) (AV:Option Addr) (nV cV:Nat) (R:List (List Int)) (AR:Option Addr) (nR cR:Nat) (W:World):Prop where
 kO:Bk W gO 51 [.slice AV nV cV,.slice AR nR cR]
 oV:OS NB 3 rInt W (blk AV) AV nV cV V
 lV:∀ k∈blk AV,gO<k/\k<B
 mR:MS B NB 24 (rSlice NB 3 rInt) W AR nR cR R
 cur:Cur W g
 chg:Chg [g] w1 W
 sz:B<=W.heap.size
section
variable {w1 W W' WA:World} {g gO B:Nat} {V V':List Int} {AV AV':Option Addr} {nV cV nV' cV':Nat} {R R':List (List Int)} {AR AR':Option Addr} {nR cR nR' cR':Nat}
theorem Dst.step (h:Dst w1 g gO B V AV nV cV R AR nR cR W) (hg:g<gO/\gO<B) (hc:Chg [g] W W') (cu:Cur W' g):Dst w1 g gO B V AV nV cV R AR nR cR W' :=
 ⟨(hc.block gO h.kO.lt (by simp;omega)).trans h.kO,h.oV.chgN rInt_ok hc (fun k hk=>by have:=h.lV k hk;omega),h.lV,h.mR.chgN (rSlice_ok NB _ rInt_ok) hc (by omega),cu,h.chg.trans hc,Nat.le_trans h.sz hc.size⟩
theorem Dst.below (h:Dst w1 g gO B V AV nV cV R AR nR cR W) (hb:Below W.heap.size W W'):Dst w1 g gO B V AV nV cV R AR nR cR W' :=
 ⟨h.kO.below hb,h.oV.belowS rInt_ok hb,h.lV,h.mR.below (rSlice_ok NB _ rInt_ok) hb,h.cur.below hb,h.chg.trans (Chg.ofBelow hb _),Nat.le_trans h.sz hb.size⟩
/-- from a later base on, while there is no row -/
theorem Dst.rise (h:Dst w1 g gO B V AV nV cV R none 0 0 W):Dst w1 g gO W.heap.size V AV nV cV [] none 0 0 W :=
 ⟨h.kO,h.oV,fun k hk=>⟨(h.lV k hk).1,h.oV.lt rInt_ok k hk⟩,MS.nil _ (Nat.zero_le _),h.cur,h.chg,Nat.le_refl _⟩
theorem chgB {w0 a b:World}{B:Nat}(h:Chg [g] w0 a) (hb:Below B a b) (hB:w0.heap.size<=B):Chg [g] w0 b :=
 ⟨hb.os.trans h.os,hb.tape.trans h.tape,hb.output.trans h.output,Nat.le_trans h.size hb.size,fun k hk hn=>(hb.block k (by omega)).trans (h.block k hk hn)⟩
/-- a row appended -/
theorem Dst.appR (h:Dst w1 g gO B V AV nV cV R AR nR cR WA) (hg:g<gO/\gO<B) (h1:w1.heap.size<=gO) (hm:MS B NB 24 (rSlice NB 3 rInt) W' AR' nR' cR' R') (hb:Below B WA W') :
  Bk W' gO 51 [.slice AV nV cV,.slice AR nR cR]/\Dst w1 g gO B V AV nV cV R' AR' nR' cR' (W'.setCell ⟨gO,1,none⟩ (.slice AR' nR' cR')):=by
 have hs:∀ z,z≠gO->(W'.setCell ⟨gO,1,none⟩ (.slice AR' nR' cR')).heap[z]?=W'.heap[z]?:=fun z hz=>heap_setCell_other _ _ z _ (fun e=>hz e)
 have k1:Bk W' gO 51 [.slice AV nV cV,.slice AR nR cR]:=(hb.block _ hg.2).trans h.kO
 have b1:Below gO WA W':=hb.mono (by omega)
 have b2:Below gO WA (W'.setCell ⟨gO,1,none⟩ (.slice AR' nR' cR')):=b1.setCell (p:=⟨gO,1,none⟩) (Nat.le_refl _) _
 refine⟨k1,k1.set 1 _,h.oV.okeep rInt_ok (fun k hk=>(hs k (by have:=h.lV k hk;omega)).trans (hb.block k (h.lV k hk).2)),h.lV,?_,h.cur.low hg.1 b2,chgB h.chg b2 h1,by rw [World.size_setCell];exact Nat.le_trans h.sz hb.size⟩
 obtain⟨f,o,fr⟩:=hm
 exact⟨f,o.okeep (rSlice_ok NB _ rInt_ok) (fun k hk=>hs k (by have:=fr.ge k hk;omega)),fr⟩
/-- a variable appended while there is no row -/
theorem Dst.appV (h:Dst w1 g gO B V AV nV cV [] none 0 0 WA) (hg:g<gO/\gO<B) (h1:w1.heap.size<=gO) (hm:MS (gO+1) NB 3 rInt W' AV' nV' cV' V') (hb:Below (gO+1) WA W') :
  Bk W' gO 51 [.slice AV nV cV,.slice none 0 0]/\Dst w1 g gO W'.heap.size V' AV' nV' cV' [] none 0 0 (W'.setCell ⟨gO,0,none⟩ (.slice AV' nV' cV')):=by
 have hs:∀ z,z≠gO->(W'.setCell ⟨gO,0,none⟩ (.slice AV' nV' cV')).heap[z]?=W'.heap[z]?:=fun z hz=>heap_setCell_other _ _ z _ (fun e=>hz e)
 have k1:Bk W' gO 51 [.slice AV nV cV,.slice none 0 0]:=(hb.block _ (by omega)).trans h.kO
 have b1:Below gO WA W':=hb.mono (by omega)
 have b2:Below gO WA (W'.setCell ⟨gO,0,none⟩ (.slice AV' nV' cV')):=b1.setCell (p:=⟨gO,0,none⟩) (Nat.le_refl _) _
 have o1:=hm.bI
 exact⟨k1,k1.set 0 _,o1.1.okeep rInt_ok (fun k hk=>hs k (by have:=o1.2 k hk;omega)),fun k hk=>by have:=o1.2 k hk;omega,MS.nil _ (Nat.zero_le _),h.cur.low hg.1 b2,chgB h.chg b2 h1,by rw [World.size_setCell];exact Nat.le_refl _⟩
/-- what is handed back -/
def DrawnS (g:Nat) (w:World) (e:Ending) (w':World):Prop:=∃ (x:StreamD) (cs:List Value) (fp:List Nat),e=.returned (.agg cs.toArray)/\(rStream NB).own w' fp cs x/\Fr w.heap.size fp/\Cur w' g/\Chg [g] w w'
theorem dst_fin {w w1:World}{fR:List Nat}(oV:OS NB 3 rInt W (blk AV) AV nV cV V) (lV:∀ k∈blk AV,gO<k/\k∉fR) (oR:OS NB 24 (rSlice NB 3 rInt) W fR AR nR cR R) (fr:Fr (gO+1) fR) (cu:Cur W g) (hc:Chg [g] w1 W) (hs:w1.heap.size=w.heap.size+1) (hw:Chg [g] w w1) (hg:g<w.heap.size) (hO:w.heap.size<gO) (u v:Value) :
  DrawnS g w (.returned (.agg #[.slice AV nV cV,.slice AR nR cR])) (set2 W w.heap.size u v):=by
 have hk:∀ k,k≠w.heap.size->(set2 W w.heap.size u v).heap[k]?=W.heap[k]?:=fun k hk=>(heap_setCell_other _ ⟨w.heap.size,1,none⟩ k _ (fun e=>hk e)).trans (heap_setCell_other _ ⟨w.heap.size,0,none⟩ k _ (fun e=>hk e))
 have b2:Below w.heap.size W (set2 W w.heap.size u v):=bls2 (Below.refl _ _) (Nat.le_refl _) _ _
 refine⟨⟨V,R⟩,[.slice AV nV cV,.slice AR nR cR],blk AV++fR,rfl,rStream_own.2 ⟨AV,nV,cV,AR,nR,cR,blk AV,fR,rfl,rfl,oV.okeep rInt_ok (fun k h=>hk k (by have:=(lV k h).1;omega)),oR.okeep (rSlice_ok NB _ rInt_ok) (fun k h=>hk k (by have:=fr.ge k h;omega))⟩,⟨List.nodup_append.2 ⟨by cases AV<;>simp [blk],fr.nd,fun a ha b hb e=>(lV a ha).2 (e▸hb)⟩,fun k h=>?_⟩,cu.low hg b2,chgB (hw.trans hc) b2 (Nat.le_refl _)⟩
 rcases List.mem_append.1 h with h|h
 ·have:=(lV k h).1;omega
 ·have:=fr.ge k h;omega
theorem Dst.fin {w:World}(h:Dst w1 g gO B V AV nV cV R AR nR cR W) (hg:g<w.heap.size) (hO:w.heap.size<gO/\gO<B) (hs:w1.heap.size=w.heap.size+1) (hw:Chg [g] w w1) (u v:Value):DrawnS g w (.returned (.agg #[.slice AV nV cV,.slice AR nR cR])) (set2 W w.heap.size u v):=by
 obtain⟨f,o,fr⟩:=h.mR
 exact dst_fin h.oV (fun k hk=>⟨(h.lV k hk).1,fun hf=>by have:=(h.lV k hk).2;have:=fr.ge k hf;omega⟩) o (fr.mono (by omega)) h.cur h.chg hs hw hg hO.1 u v
/-- a variable appended behind the rows -/
theorem Dst.appX {w:World}(h:Dst w1 g gO B V AV nV cV R AR nR cR WA) (hg:g<gO/\gO<B) (hm:MS (gO+1) NB 3 rInt W' AV' nV' cV' V') (hb:Below (gO+1) WA W') (hgr:WA.grownBy W' (AV.map (·.block)))
  (hA:AV'.map (·.block)=AV.map (·.block)\/AV'.map (·.block)=some WA.heap.size) (hgw:g<w.heap.size) (hO:w.heap.size<gO) (hs:w1.heap.size=w.heap.size+1) (hw:Chg [g] w w1) :
  Bk W' gO 51 [.slice AV nV cV,.slice AR nR cR]/\Chg [g] w1 (W'.setCell ⟨gO,0,none⟩ (.slice AV' nV' cV'))/\∀ u v,DrawnS g w (.returned (.agg #[.slice AV' nV' cV',.slice AR nR cR])) (set2 (W'.setCell ⟨gO,0,none⟩ (.slice AV' nV' cV')) w.heap.size u v):=by
 have hs':∀ z,z≠gO->(W'.setCell ⟨gO,0,none⟩ (.slice AV' nV' cV')).heap[z]?=W'.heap[z]?:=fun z hz=>heap_setCell_other _ _ z _ (fun e=>hz e)
 have k1:Bk W' gO 51 [.slice AV nV cV,.slice AR nR cR]:=(hb.block _ (by omega)).trans h.kO
 have b1:Below gO WA W':=hb.mono (by omega)
 have b2:Below gO WA (W'.setCell ⟨gO,0,none⟩ (.slice AV' nV' cV')):=b1.setCell (p:=⟨gO,0,none⟩) (Nat.le_refl _) _
 have o1:=hm.bI
 obtain⟨fR,oR,fr⟩:=h.mR
 have hc:=chgB h.chg b2 (by omega)
 have hn:∀ k∈fR,k∉blk AV':=by
  intro k hk hk2
  have h1:=mem_blk.1 hk2
  rcases hA with e|e
  ·have:=h.lV k (mem_blk.2 (e▸h1));have:=fr.ge k hk;omega
  ·rw [e]at h1;injection h1 with h1;have:=oR.lt (rSlice_ok NB _ rInt_ok) k hk;omega
 refine⟨k1,hc,fun u v=>dst_fin (o1.1.okeep rInt_ok (fun k hk=>hs' k (by have:=o1.2 k hk;omega))) (fun k hk=>⟨by have:=o1.2 k hk;omega,fun hf=>hn k hf hk⟩) (oR.okeep (rSlice_ok NB _ rInt_ok) (fun k hk=>(hs' k (by have:=fr.ge k hk;omega)).trans (hgr.block k (oR.lt (rSlice_ok NB _ rInt_ok) k hk) (fun e=>by have:=h.lV k (mem_blk.2 e.symm);have:=fr.ge k hk;omega)))) (fr.mono (by omega)) (h.cur.low hg.1 b2) hc hs hw hgw hO u v⟩
end
set_option maxRecDepth 100000 in
set_option maxHeartbeats 3200000 in
theorem l27Stream_c (g:Nat) (w:World) (hc:Cur w g):Calls Tryz.prog 60 #[.pointer (some ⟨g,0,none⟩)] w (DrawnS g w):=by
 have hgw:=hc.lt
 obtain⟨w1,hw1⟩:∃ w1,w1=w.alloc (.cells #[.slice none 0 0,.slice none 0 0] 51):=⟨_,rfl⟩
 have hs1:w1.heap.size=w.heap.size+1:=by rw [hw1];simp
 have hc1:Chg [g] w w1:=by rw [hw1];exact Chg.ofBelow ((Below.refl _ _).alloc (Nat.le_refl _) _) _
 have kR:Bk w1 w.heap.size 51 [.slice none 0 0,.slice none 0 0]:=by rw [hw1];exact Bk.new w _ _
 obtain⟨w2,hw2⟩:∃ W,W=w1.alloc (.cells #[.slice none 0 0,.slice none 0 0] 51):=⟨_,rfl⟩
 have hs2:w2.heap.size=w.heap.size+1+1:=by rw [hw2];simp [hs1]
 have J0:Dst w1 g (w.heap.size+1) (w.heap.size+1+1) [] none 0 0 [] none 0 0 w2:=by
  refine⟨?_,MS.blkI (MS.nil (B:=0) _ (Nat.zero_le _)) |>.1,fun k hk=>by simp [blk]at hk,MS.nil _ (Nat.zero_le _),?_,?_,by omega⟩
  ·rw [hw2,<- hs1];exact Bk.new w1 _ _
  ·rw [hw2,hw1];exact(hc.alloc _).alloc _
  ·rw [hw2];exact Chg.ofBelow ((Below.refl _ _).alloc (Nat.le_refl _) _) _
 have HKR:Hid (∀ W,Chg [g] w1 W->Bk W w.heap.size 51 [.slice none 0 0,.slice none 0 0]):=by
  show ∀ W,_->_
  intro W h
  exact(h.block _ kR.lt (by simp;omega)).trans kR
 have HG:Hid (g<w.heap.size+1/\w.heap.size+1<w.heap.size+1+1):=by show _/\_;omega
 have HS1:=Lib.hid hs1
 have HC1:=Lib.hid hc1
 clear hs2 hs1 hc1 kR
 go_enter Tryz.func60,Tryz.ntmps60
 go_upto_region 2 with fail
 rw [<- hw1,<- hw2]
 clear hw1 hw2
 go_wp2
 go_loopw [4] (fun i wr=>∃ (k nV cV B:Nat) (AV:Option Addr) (V:List Int),k<=4/\nV<=3/\i=.int .i64 k/\w.heap.size+1<B/\Dst w1 g (w.heap.size+1) B V AV nV cV [] none 0 0 wr) (fun i _=>4 - (intOf i).toNat)
 case atStart=>exact⟨0,0,0,_,none,[],by omega,by omega,rfl,Nat.lt_succ_self _,J0⟩
 case round =>
  clear J0
  obtain⟨k,nV,cV,B,AV,V,hk,hnV,rfl,hB0,J⟩:=hrel
  obtain⟨o0,o1⟩:=J.kO.bx.b2
  by_cases hlt:k<4
  ·have hki:(k:Int)<4:=by omega
   by_cases h3:nV<3
   ·have h3i:(nV:Int)<3:=by omega
    go_wp2_with fail
    refine(l1Once_c g 3 _ (by omega) J.cur).mono ?_
    rintro e w3 ⟨b,rfl,cu3,ch3⟩
    have J3:=J.step ⟨HG.out.1,hB0⟩ ch3 cu3
    clear J cu3 ch3 o0 o1
    cases b
    ·have ⟨o0,o1⟩:=J3.kO.bx.b2
     have lv3:=J3.oV.lt rInt_ok
     have szW:w.heap.size+1+1<=w3.heap.size:=by have:=J3.sz;omega
     have mV:MS (w.heap.size+1+1) NB 3 rInt w3 AV nV cV V:=⟨blk AV,J3.oV,⟨by cases AV<;>simp [blk],fun k hk=>by have:=J3.lV k hk;omega⟩⟩
     go_wp2_with (at_builtin;refine wpList_appB (r:=rInt) rfl _ _ 24 rfl _ 8 eiInt rInt_ok rfl mV ((Below.refl _ _).alloc (Nat.le_refl _) _) szW ⟨w3.heap.size,0,none⟩ rfl [] [.int .i64 k] k ⟨rfl,rfl,⟨by omega,by omega⟩⟩ (Fr.nil _) (cell_one_new _ _ _) (by unfold NB;omega) (Nat.le_refl _) (by omega) ?_;intro A4 c4 w4 hM4 hb4 hg4 hA4;obtain⟨k4,J4⟩:=(J3.below ((Below.refl _ _).alloc (Nat.le_refl _) (.cells #[.int .i64 k] 3))).appV ⟨HG.out.1,hB0⟩ (by have:=HS1.out;omega) hM4 hb4;have f4:=k4.frozen 0;have x4:=k4.bx 0 _ rfl;have z4:=J4.sz;have hz4:=hb4.size)
     go_roundw
     case rel=>exact⟨k+1,nV+1,c4,w4.heap.size,A4,V++[(k:Int)],by omega,by omega,by go_num,by simp at hz4;omega,J4⟩
     case measure=>simp [intOf];omega
    ·go_wp2
     go_roundw
     case rel=>exact⟨k+1,nV,cV,B,AV,V,by omega,by omega,by go_num,hB0,J3⟩
     case measure=>simp [intOf];omega
   ·have h3i:¬ (nV:Int)<3:=by omega
    go_wp2
    go_roundw
    case rel=>exact⟨k+1,nV,cV,B,AV,V,by omega,by omega,by go_num,hB0,J⟩
    case measure=>simp [intOf];omega
  ·have hki:¬ (k:Int)<4:=by omega
   clear o0 o1
   go_wp2_with fail
   refine(l1Below_c g 7 _ (by omega) J.cur).mono ?_
   rintro e w3 ⟨m0,rfl,⟨m1,_,m2⟩,cu3,ch3⟩
   have m3:=m2 (by omega)
   have J3:=(J.step ⟨HG.out.1,hB0⟩ ch3 cu3).rise
   have hB3:w.heap.size+1<w3.heap.size:=by have:=J.sz;have:=ch3.size;omega
   clear J cu3 ch3 m2 hB0
   obtain⟨B,hBe⟩:∃ B,B=w3.heap.size:=⟨_,rfl⟩
   rw [<- hBe]at J3 hB3
   clear hBe
   have H1:Hid (w1.heap.size<=w.heap.size+1):=by show _<=_;have:=HS1.out;omega
   go_wp2
   go_loopw [5] (fun i wr=>∃ (m nR cR:Nat) (AR:Option Addr) (R:List (List Int)),m+nR<=6/\i=.int .i64 m/\Dst w1 g (w.heap.size+1) B V AV nV cV R AR nR cR wr) (fun i _=>(intOf i).toNat)
   case atStart=>exact⟨m0.toNat,0,0,none,[],by omega,by rw [Int.toNat_of_nonneg m1],J3⟩
   case round =>
    clear J3 m3 m1
    obtain⟨m,nR,cR,AR,R,hmn,rfl,J⟩:=hrel
    by_cases hm0:0<m
    ·have hm0i:(0:Int)<m:=by omega
     obtain⟨m',rfl⟩:∃ q,m=q+1:=⟨m - 1,by omega⟩
     have szr:=J.sz
     have hgr:=J.cur.lt
     obtain⟨wo,hwo⟩:∃ W,W=wr:=⟨_,rfl⟩
     rw [<- hwo]at J szr hgr ⊢
     have HJ:=Lib.hid J
     have M0:=MS.empty (B:=wo.heap.size) (M:=NB) (e:=3) (r:=rInt) wo (Nat.le_refl _)
     have C0:Chg [g] wo (wo.alloc (.cells #[] 3)):=Chg.ofBelow ((Below.refl _ _).alloc (Nat.le_refl _) _) _
     have U0:=J.cur.alloc (.cells #[] 3)
     clear J hwo
     go_wp2
     go_loopw [6,7] (fun o i wr=>∃ (k c:Nat) (A:Option Addr) (l:List Int),k<=nV/\i=.int .i64 k/\o=.slice A k c/\MS wo.heap.size NB 3 rInt wr A k c l/\Chg [g] wo wr/\Cur wr g) (fun _ i _=>nV - (intOf i).toNat)
     case atStart=>exact⟨0,0,_,[],Nat.zero_le _,rfl,rfl,M0,C0,U0⟩
     case round =>
      clear M0 C0 U0
      obtain⟨k2,c,A,l,hk2,rfl,rfl,M,C,U⟩:=hrel
      have J:=HJ.out.step ⟨HG.out.1,hB3⟩ C U
      obtain⟨o0,o1⟩:=J.kO.bx.b2
      have szW:=C.size
      by_cases hl2:k2<nV
      ·have hl2i:(k2:Int)<nV:=by omega
       clear J
       go_wp2_with fail
       refine(l1Below_c g 3 _ (by omega) U).mono ?_
       rintro e w4 ⟨y,rfl,⟨y0,_,y1⟩,cu4,ch4⟩
       have y2:=y1 (by omega)
       have M4:=M.chgN rInt_ok ch4 hgr
       have C4:=C.trans ch4
       have szW4:=C4.size
       clear M U C ch4 y1 o0 o1
       go_wp2_with (at_builtin;refine wpList_appB (r:=rInt) rfl _ _ 24 rfl _ 8 eiInt rInt_ok rfl M4 ((Below.refl _ _).alloc (Nat.le_refl _) _) szW4 ⟨w4.heap.size,0,none⟩ rfl [] [.int .i64 y] y ⟨rfl,rfl,⟨by omega,by omega⟩⟩ (Fr.nil _) (cell_one_new _ _ _) (by unfold NB;omega) (Nat.le_refl _) (by omega) ?_;intro A5 c5 w5 hM5 hb5 hg5 hA5)
       have hb45:Below wo.heap.size w4 w5:=(((Below.refl w4.heap.size w4).alloc (Nat.le_refl _) (.cells #[.int .i64 y] 3)).mono szW4).trans hb5
       go_roundw
       case rel=>exact⟨k2+1,by omega,by go_num,c5,A5,⟨rfl,rfl,rfl⟩,⟨l++[y],hM5⟩,chgB C4 hb45 (Nat.le_refl _),cu4.low hgr hb45⟩
       case measure=>simp [intOf];omega
      ·have hl2i:¬ (k2:Int)<nV:=by omega
       obtain⟨f,o,fr⟩:=M
       have hAl:=(Below.refl wr.heap.size wr).alloc (Nat.le_refl _) (.cells #[.slice A k2 c] 24)
       obtain⟨v,v1,v2,v3⟩:=HJ.out.mR.upto (rSlice_ok NB _ rInt_ok) C (Nat.lt_trans HG.out.1 hB3)
       have v4:=v2.trans (hAl.mono (by rw [v1];exact szW))
       have JA:=J.below hAl
       go_wp2_with (at_builtin;refine wpList_appB (r:=rSlice NB 3 rInt) rfl _ _ 49 rfl _ 24 eiRowS (rSlice_ok NB _ rInt_ok) rfl v3 v4 (v1.symm▸szr) ⟨wr.heap.size,0,none⟩ rfl f [.slice A k2 c] l ⟨A,k2,c,rfl,o.belowS rInt_ok hAl⟩ (v1.symm▸fr) (cell_one_new _ _ _) (by unfold NB;omega) (Nat.le_refl _) (by omega) ?_;intro A6 c6 w6 hM6 hb6 hg6 hA6;obtain⟨k6,J6⟩:=JA.appR ⟨HG.out.1,hB3⟩ H1.out hM6 hb6;have f6:=k6.frozen 1;have x6:=k6.bx 1 _ rfl)
       go_roundw
       case rel=>exact⟨m',nR+1,c6,A6,_,by omega,by go_num,J6⟩
       case measure=>simp [intOf]
    ·obtain rfl:m=0:=by omega
     go_wp2_with fail
     refine(l1Below_c g 16 _ (by omega) J.cur).mono ?_
     rintro e w6 ⟨q,rfl,⟨q0,_,q1⟩,cu6,ch6⟩
     have J6:=J.step ⟨HG.out.1,hB3⟩ ch6 cu6
     clear J cu6 ch6 q1
     have hd0:=(Below.refl w6.heap.size w6).drew
     have JD:=J6.below hd0
     by_cases hq0:q=0
     ·subst hq0
      have HSS:Hid (∀ w':World,w'.heap[w.heap.size+1]?=w6.heap[w.heap.size+1]?->w'.cell? ⟨w.heap.size+1,1,none⟩=some (.slice AR nR cR)):=by
       show ∀ w',_->_
       exact fun w' h=>Bk.bx (h.trans J6.kO) 1 _ rfl
      have hA:=Below.alb hd0 (.cells #[.int .i64 0,.int .i64 10,.int .i64 (-1)] 3)
      have J7:=J6.below hA
      go_wp2
      refine hgg 9 HSS.out rfl (fun hHeld=>?_)
      refine tgk 0 57 hHeld ?_;simp only [putS]
      refine tgk 1 58 hHeld ?_;simp only [putS]
      refine tgk 2 59 hHeld ?_;simp only [putS]
      refine rg 3 (some 60) fun K hK=>?_
      clear hHeld
      go_simp
      refine hK.out _ _ (fun _=>HSS.out _ (hA.block _ J6.kO.lt)) fun hHeld=>?_
      replace hHeld:=hHeld (by decide)
      clear hK K
      try simp only [putS]
      refine rg 4 (some 61) fun K hK=>?_
      clear hHeld
      go_simp
      refine(l1PickInt_c g _ 3 3 [0,10,-1] _ (RS.lit w6.drew [0,10,-1] _ (by simp) (by simp [I64])) JD.cur.ne (by omega) J7.cur).mono ?_
      rintro e w7 ⟨z,rfl,hz,cu7,ch7⟩
      have J8:=J7.step ⟨HG.out.1,hB3⟩ ch7 cu7
      have X5:w7.heap[w.heap.size+1]?=w6.heap[w.heap.size+1]?:=(ch7.block _ J7.kO.lt (by have:=HG.out.1;simp;omega)).trans (hA.block _ J6.kO.lt)
      have hz2:I64 z:=by simp at hz;unfold I64;omega
      go_wp2_with fail
      refine hK.out _ _ (fun _=>HSS.out _ X5) fun hHeld=>?_
      replace hHeld:=hHeld (by decide)
      clear hK K
      try simp only [putS]
      have o9:=(MS.one (B:=w7.heap.size) (M:=NB) (e:=3) w7 (Nat.le_refl _) (by unfold NB;omega) hz2).blkI
      have hC:=(Below.refl w7.heap.size w7).alloc (Nat.le_refl _) (.cells #[.int .i64 z] 3)
      have hD:=Below.alb hC (.cells #[.slice (some ⟨w7.heap.size,0,none⟩) 1 1] 24)
      have J9:=J8.below hD
      refine rg 5 (some 62) fun K hK=>?_
      clear hHeld
      go_simp
      refine hK.out _ _ (fun _=>HSS.out _ ((hC.block _ J8.kO.lt).trans X5)) fun hHeld=>?_
      replace hHeld:=hHeld (by decide)
      clear hK K
      try simp only [putS]
      refine rg 6 (some 63) fun K hK=>?_
      clear hHeld
      go_simp
      refine hK.out _ _ (fun _=>HSS.out _ ((hD.block _ J8.kO.lt).trans X5)) fun hHeld=>?_
      replace hHeld:=hHeld (by decide)
      clear hK K
      try simp only [putS]
      refine rg 7 (some 64) fun K hK=>?_
      clear hHeld
      refine step_appR (r:=rSlice NB 3 rInt) (by rfl) _ _ 49 (by rfl) _ 24 eiRowS (rSlice_ok NB _ rInt_ok) (by rfl) J8.mR hD J8.sz ⟨w7.heap.size+1,0,none⟩ (by rfl) (f:=blk (some ⟨w7.heap.size,0,none⟩)) (cs:=[.slice (some ⟨w7.heap.size,0,none⟩) 1 1]) (y:=[z]) ⟨_,_,_,rfl,o9.1.belowS rInt_ok ((Below.refl _ _).alloc (Nat.le_refl _) _)⟩ ⟨by simp [blk],o9.2⟩ (by have:=cell_one_new (w7.alloc (.cells #[.int .i64 z] 3)) (.slice (some ⟨w7.heap.size,0,none⟩) 1 1) 24;simpa using this) (by unfold NB;omega) (Nat.le_refl _) (by omega) ?_
      intro A9 c9 w9 hM9 hb9 hg9 hA9
      obtain⟨k9,JZ⟩:=J9.appR ⟨HG.out.1,hB3⟩ H1.out hM9 hb9
      have X9:w9.heap[w.heap.size+1]?=w6.heap[w.heap.size+1]?:=k9.trans J6.kO.symm
      have f9:=k9.frozen 1
      have x9:=k9.bx 1 _ rfl
      refine hK.out _ _ (fun _=>HSS.out _ X9) fun hHeld=>?_
      replace hHeld:=hHeld (by decide)
      clear hK K
      try simp only [putS]
      refine tgk 8 65 hHeld ?_;simp only [putS]
      refine rg 9 none fun K hK=>?_
      clear hHeld
      go_simp
      refine hK.out _ _ (fun h=>absurd rfl h) fun hHeld=>?_
      clear hK K
      try simp only [putS]
      refine wpG_done (by kernel_rfl) ?_ _
      clear hHeld
      clear HSS
      have kRW:=HKR.out _ JZ.chg
      have ⟨s0,s1,s2,s3⟩:=kRW.r2
      have ⟨c0,c1⟩:=JZ.kO.bx.b2
      go_wp2
      have ⟨z0,z1⟩:=kRW.s2
      refine bodyPost_ret (v:=.agg #[.slice AV nV cV,.slice A9 (nR+1) c9]) (by simp [results,Tryz.results60,go_sem,z0,z1]) rfl ?_
      exact JZ.fin hgw ⟨Nat.lt_succ_self _,hB3⟩ HS1.out HC1.out _ _
     ·by_cases hq1:q=1
      ·subst hq1
       have HSS:Hid (∀ w':World,w'.heap[w.heap.size+1]?=w6.heap[w.heap.size+1]?->w'.cell? ⟨w.heap.size+1,0,none⟩=some (.slice AV nV cV)):=by
        show ∀ w',_->_
        exact fun w' h=>Bk.bx (h.trans J6.kO) 0 _ rfl
       have hA:=Below.alb hd0 (.cells #[.int .i64 0,.int .i64 4,.int .i64 (-1)] 3)
       have J7:=J6.below hA
       go_wp2
       refine hgg 8 HSS.out rfl (fun hHeld=>?_)
       refine tgk 0 68 hHeld ?_;simp only [putS]
       refine tgk 1 69 hHeld ?_;simp only [putS]
       refine tgk 2 70 hHeld ?_;simp only [putS]
       refine rg 3 (some 71) fun K hK=>?_
       clear hHeld
       go_simp
       refine hK.out _ _ (fun _=>HSS.out _ (hA.block _ J6.kO.lt)) fun hHeld=>?_
       replace hHeld:=hHeld (by decide)
       clear hK K
       try simp only [putS]
       refine rg 4 (some 72) fun K hK=>?_
       clear hHeld
       go_simp
       refine(l1PickInt_c g _ 3 3 [0,4,-1] _ (RS.lit w6.drew [0,4,-1] _ (by simp) (by simp [I64])) JD.cur.ne (by omega) J7.cur).mono ?_
       rintro e w7 ⟨z,rfl,hz,cu7,ch7⟩
       have J8:=J7.step ⟨HG.out.1,hB3⟩ ch7 cu7
       have X5:w7.heap[w.heap.size+1]?=w6.heap[w.heap.size+1]?:=(ch7.block _ J7.kO.lt (by have:=HG.out.1;simp;omega)).trans (hA.block _ J6.kO.lt)
       have hz2:I64 z:=by simp at hz;unfold I64;omega
       go_wp2_with fail
       refine hK.out _ _ (fun _=>HSS.out _ X5) fun hHeld=>?_
       replace hHeld:=hHeld (by decide)
       clear hK K
       try simp only [putS]
       have hC:=(Below.refl w7.heap.size w7).alloc (Nat.le_refl _) (.cells #[.int .i64 z] 3)
       have J9:=J8.below hC
       have mV:MS (w.heap.size+1+1) NB 3 rInt w7 AV nV cV V:=⟨blk AV,J8.oV,⟨by cases AV<;>simp [blk],fun k hk=>by have:=J8.lV k hk;omega⟩⟩
       refine rg 5 (some 73) fun K hK=>?_
       clear hHeld
       go_simp
       refine hK.out _ _ (fun _=>HSS.out _ ((hC.block _ J8.kO.lt).trans X5)) fun hHeld=>?_
       replace hHeld:=hHeld (by decide)
       clear hK K
       try simp only [putS]
       refine rg 6 (some 74) fun K hK=>?_
       clear hHeld
       refine step_appR (r:=rInt) (by rfl) _ _ 24 (by rfl) _ 8 eiInt rInt_ok (by rfl) mV hC (by have:=J8.sz;omega) ⟨w7.heap.size,0,none⟩ (by rfl) (f:=[]) (cs:=[.int .i64 z]) (y:=z) ⟨rfl,rfl,hz2⟩ (Fr.nil _) (cell_one_new _ _ _) (by unfold NB;omega) (Nat.le_refl _) (by omega) ?_
       intro A9 c9 w9 hM9 hb9 hg9 hA9
       obtain⟨k9,ch9,JZ⟩:=J9.appX ⟨HG.out.1,hB3⟩ hM9 hb9 hg9 hA9 hgw (Nat.lt_succ_self _) HS1.out HC1.out
       have X9:w9.heap[w.heap.size+1]?=w6.heap[w.heap.size+1]?:=k9.trans J6.kO.symm
       have f9:=k9.frozen 0
       have x9:=k9.bx 0 _ rfl
       refine hK.out _ _ (fun _=>HSS.out _ X9) fun hHeld=>?_
       replace hHeld:=hHeld (by decide)
       clear hK K
       try simp only [putS]
       refine tgk 7 75 hHeld ?_;simp only [putS]
       refine rg 8 none fun K hK=>?_
       clear hHeld
       go_simp
       refine hK.out _ _ (fun h=>absurd rfl h) fun hHeld=>?_
       clear hK K
       try simp only [putS]
       refine wpG_done (by kernel_rfl) ?_ _
       clear hHeld
       clear HSS
       have kRW:=HKR.out _ ch9
       have ⟨s0,s1,s2,s3⟩:=kRW.r2
       have ⟨c0,c1⟩:=(k9.set 0 (.slice A9 (nV+1) c9)).bx.b2
       go_wp2
       have ⟨z0,z1⟩:=kRW.s2
       refine bodyPost_ret (v:=.agg #[.slice A9 (nV+1) c9,.slice AR nR cR]) (by simp [results,Tryz.results60,go_sem,z0,z1]) rfl ?_
       exact JZ _ _
      ·have kRW:=HKR.out _ J6.chg
       have ⟨s0,s1,s2,s3⟩:=kRW.r2
       have ⟨c0,c1⟩:=J6.kO.bx.b2
       clear JD hd0
       go_wp2
       have ⟨z0,z1⟩:=kRW.s2
       refine bodyPost_ret (v:=.agg #[.slice AV nV cV,.slice AR nR cR]) (by simp [results,Tryz.results60,go_sem,z0,z1]) rfl ?_
       exact J6.fin hgw ⟨Nat.lt_succ_self _,hB3⟩ HS1.out HC1.out _ _
end Go.Proofs.YtiafklphblkpbaaGreat
namespace Go.Proofs.YtiafklphblkpbaaGreat
open Go.RowKit
set_option linter.unusedVariables false
set_option linter.unusedSimpArgs false
theorem s2o {w:World}{r z:Nat}(h:z≠r) (u v:Value):(set2 w r u v).heap[z]?=w.heap[z]?:=(heap_setCell_other _ ⟨r,1,none⟩ z _ (fun e=>h e)).trans (heap_setCell_other _ ⟨r,0,none⟩ z _ (fun e=>h e))
set_option maxRecDepth 100000 in
set_option maxHeartbeats 1600000 in
theorem drawSort_c (A:Option Addr) (n cap:Nat) (l:List Int) (w:World) (hr:RS NB rByte w A n cap l) :
  Calls Tryz.prog 24 #[.slice A n cap] w fun e w'=>∃ (x:StreamD) (v:Int) (A1:Option Addr) (n1 c1:Nat) (A2:Option Addr) (n2 c2:Nat),e=.returned (.tuple #[.agg #[.slice A1 n1 c1,.slice A2 n2 c2],.int .i64 v])/\(rStream NB).rep w' [.slice A1 n1 c1,.slice A2 n2 c2] x/\I64 v/\Below w.heap.size w w':=by
 obtain⟨w1,hw1⟩:∃ W,W=w.alloc (.cells #[.slice none 0 0,.slice none 0 0] 51):=⟨_,rfl⟩
 have hs1:w1.heap.size=w.heap.size+1:=by rw [hw1];simp
 have b1:Below w.heap.size w w1:=by rw [hw1];exact(Below.refl _ _).alloc (Nat.le_refl _) _
 have kR:Bk w1 w.heap.size 51 [.slice none 0 0,.slice none 0 0]:=by rw [hw1];exact Bk.new w _ _
 replace hr:=hr.below rByte_ok b1
 have HW1:=Lib.hid hw1
 have HS1:=Lib.hid hs1
 clear hw1 hs1
 go_enter Tryz.func24,Tryz.ntmps24
 go_upto_region 1 with fail
 rw [<- HW1.out]
 go_wp2_with fail
 refine(l1New_c _ _ _ _ _ hr).mono ?_
 rintro e w2 ⟨g,rfl,hg,cu2,hb2⟩
 replace kR:=kR.below hb2
 replace b1:=b1.trans (hb2.mono b1.size)
 have hgw:w.heap.size<g:=by have:=HS1.out;omega
 clear hb2 hr
 go_wp2_with fail
 refine(l27Stream_c g _ cu2).mono ?_
 rintro e w3 ⟨x,cs,fp,rfl,ox,fx,cu3,ch3⟩
 obtain⟨A1,n1,c1,A2,n2,c2,f1,f2,rfl,rfl,_,_⟩:=rStream_own.1 ox
 have kR3:Bk w3 w.heap.size 51 [.slice none 0 0,.slice none 0 0]:=(ch3.block _ kR.lt (by simp;omega)).trans kR
 have hg2:=cu2.lt
 go_wp2_with fail
 refine(l1Below_c g 6 _ (by omega) cu3).mono ?_
 rintro e w4 ⟨y,rfl,⟨hy0,_,hy1⟩,cu4,ch4⟩
 have hy2:=hy1 (by omega)
 have kR4:Bk w4 w.heap.size 51 [.slice none 0 0,.slice none 0 0]:=(ch4.block _ kR3.lt (by simp;omega)).trans kR3
 have ox4:=Stb.low (rStream_ok NB) ox ch4 (fun z hz=>by have:=fx.ge z hz;simp;omega)
 have hB:=b1.trans ((ch3.trans ch4).toBelow b1.size (by simp;omega))
 have hwr:IntKind.i64.wrap (y - 1)=y - 1:=IntWalk.i64_in _ (by omega)
 have hfx:Fr (w.heap.size+1) (f1++f2):=fx.mono (by have:=kR.lt;omega)
 clear kR kR3 ox ch3 ch4 b1 hy1 cu2 cu3
 have ⟨r0,g0,r1,g1⟩:=kR4.r2
 have ⟨z0,z1⟩:=kR4.s2
 go_wp2
 refine bodyPost_ret (v:=.tuple #[.agg #[.slice A1 n1 c1,.slice A2 n2 c2],.int .i64 (y - 1)]) (by simp [results,Tryz.results24,go_sem,z0,z1]) rfl ?_
 exact⟨x,y - 1,A1,n1,c1,A2,n2,c2,rfl,(rStream_ok NB).toRep (own_set2 (rStream_ok NB) ox4 hfx _ _),⟨by omega,by omega⟩,bls2 hB (Nat.le_refl _) _ _⟩
set_option maxRecDepth 100000 in
set_option maxHeartbeats 1600000 in
theorem drawScan_c (A:Option Addr) (n cap:Nat) (l:List Int) (w:World) (hr:RS NB rByte w A n cap l) :
  Calls Tryz.prog 19 #[.slice A n cap] w fun e w'=>∃ (d:DatabaseD) (q:QueryD) (i:Int) (Ad:Option Addr) (nd cd:Nat) (vc:Int) (Aq:Option Addr) (nq cq:Nat),e=.returned (.tuple #[.agg #[.slice Ad nd cd],.agg #[.int .i64 vc,.slice Aq nq cq],.int .i64 i])/\(rDatabase NB).rep w' [.slice Ad nd cd] d/\(rQuery NB).rep w' [.int .i64 vc,.slice Aq nq cq] q/\I64 i/\Below w.heap.size w w':=by
 obtain⟨w1,hw1⟩:∃ W,W=w.alloc (.cells #[.slice none 0 0] 43):=⟨_,rfl⟩
 obtain⟨w2,hw2⟩:∃ W,W=w1.alloc (.cells #[.int .i64 0,.slice none 0 0] 46):=⟨_,rfl⟩
 have hs1:w1.heap.size=w.heap.size+1:=by rw [hw1];simp
 have hs2:w2.heap.size=w.heap.size+1+1:=by rw [hw2];simp [hs1]
 have b1:Below w.heap.size w w1:=by rw [hw1];exact(Below.refl _ _).alloc (Nat.le_refl _) _
 have b2:Below w1.heap.size w1 w2:=by rw [hw2];exact(Below.refl _ _).alloc (Nat.le_refl _) _
 have k1:Bk w2 w.heap.size 43 [.slice none 0 0]:=by refine Bk.below ?_ b2;rw [hw1];exact Bk.new w _ _
 have k2:Bk w2 (w.heap.size+1) 46 [.int .i64 0,.slice none 0 0]:=by rw [hw2,<- hs1];exact Bk.new w1 _ _
 replace b1:=b1.trans (b2.mono b1.size)
 replace hr:=hr.below rByte_ok b1
 have HW1:=Lib.hid hw1
 have HW2:=Lib.hid hw2
 have HS2:=Lib.hid hs2
 clear hw1 hw2 hs1 hs2 b2
 go_enter Tryz.func19,Tryz.ntmps19
 go_upto_region 1 with fail
 rw [<- HW1.out,<- HW2.out]
 go_wp2_with fail
 refine(l1New_c _ _ _ _ _ hr).mono ?_
 rintro e w3 ⟨g,rfl,hg,cu3,hb3⟩
 have k1':=k1.below hb3
 have k2':=k2.below hb3
 have B3:=b1.trans (hb3.mono b1.size)
 have hgw:w.heap.size+1<g:=by have:=HS2.out;omega
 clear hb3 hr k1 k2 b1
 go_wp2_with fail
 refine(l9Pair_c g _ cu3).mono ?_
 rintro e w4 ⟨d,q,Ad,nd,cd,vc,Aq,nq,cq,rfl,SD,SQ,cu4,ch4⟩
 obtain⟨gd,hgd⟩:∃ z,z=w4.heap.size:=⟨_,rfl⟩
 obtain⟨w5,hw5⟩:∃ W,W=w4.alloc (.cells #[.slice Ad nd cd] 43):=⟨_,rfl⟩
 obtain⟨w6,hw6⟩:∃ W,W=w5.alloc (.cells #[.int .i64 vc,.slice Aq nq cq] 46):=⟨_,rfl⟩
 have b5:Below w4.heap.size w4 w5:=by rw [hw5];exact(Below.refl _ _).alloc (Nat.le_refl _) _
 have b6:Below w5.heap.size w5 w6:=by rw [hw6];exact(Below.refl _ _).alloc (Nat.le_refl _) _
 have hs5:w5.heap.size=gd+1:=by rw [hw5,hgd];simp
 have kd:Bk w6 gd 43 [.slice Ad nd cd]:=by refine Bk.below ?_ b6;rw [hw5,hgd];exact Bk.new w4 _ _
 have kq:Bk w6 (gd+1) 46 [.int .i64 vc,.slice Aq nq cq]:=by rw [hw6,<- hs5];exact Bk.new w5 _ _
 have D6:=(ch4.trans (Chg.ofBelow b5 _)).trans (Chg.ofBelow b6 _)
 have SD6:=SD.out ((Out.refl _ _).below b5 |>.below b6)
 have SQ6:=SQ.out ((Out.refl _ _).below b5 |>.below b6)
 have cu6:=(cu4.below b5).below b6
 have hgd3:w3.heap.size<=gd:=by rw [hgd];exact ch4.size
 have HGD:=Lib.hid hgd
 have HW5:=Lib.hid hw5
 have HW6:=Lib.hid hw6
 have HS5:=Lib.hid hs5
 have hg3:=cu3.lt
 clear hgd hw5 hw6 hs5 b5 b6 SD SQ cu4 ch4
 go_upto_region 3 with fail
 rw [<- HGD.out,<- HW5.out,<- HW6.out]
 clear HW1 HW2 HGD HW5 HW6 HS5
 have k1:Bk w6 w.heap.size 43 [.slice none 0 0]:=(D6.block _ k1'.lt (by simp;omega)).trans k1'
 have k2:Bk w6 (w.heap.size+1) 46 [.int .i64 0,.slice none 0 0]:=(D6.block _ k2'.lt (by simp;omega)).trans k2'
 have HSS:=Lib.hid (fun (w':World) (h:w'.heap[gd]?=w6.heap[gd]?/\w'.heap[gd+1]?=w6.heap[gd+1]?)=>(⟨Bk.bx (h.1.trans kd:Bk w' gd 43 [.slice Ad nd cd]) 0 _ rfl,Bx.b2 (Bk.bx (h.2.trans kq:Bk w' (gd+1) 46 [.int .i64 vc,.slice Aq nq cq]))⟩:w'.cell? ⟨gd,0,none⟩=some (.slice Ad nd cd)/\w'.cell? ⟨gd+1,0,none⟩=some (.int .i64 vc)/\w'.cell? ⟨gd+1,1,none⟩=some (.slice Aq nq cq)))
 have hdl:=kd.lt
 have hql:=kq.lt
 clear k1' k2'
 refine hbg HSS.out ⟨rfl,rfl⟩ (fun hHeld=>?_)
 refine tka 0 15 hHeld ?_;simp only [putS]
 refine tka 1 16 hHeld ?_;simp only [putS]
 refine tka 2 17 hHeld ?_;simp only [putS]
 refine rd 3 (some 18) fun K hK=>?_
 clear hHeld
 go_simp
 refine(l1Below_c g 6 _ (by omega) (cu6.below (Below.refl _ _).drew)).mono ?_
 rintro e w7 ⟨y,rfl,⟨hy0,_,hy1⟩,cu7,ch7⟩
 have hy2:=hy1 (by omega)
 have CP:Chg [g] w6 w7:=(Chg.ofBelow (Below.refl _ _).drew _).trans ch7
 have XD:w7.heap[gd]?=w6.heap[gd]?/\w7.heap[gd+1]?=w6.heap[gd+1]?:=⟨CP.block _ hdl (by simp;omega),CP.block _ hql (by simp;omega)⟩
 have hwr:IntKind.i64.wrap (y - 1)=y - 1:=IntWalk.i64_in _ (by omega)
 have kr1:Bk w7 w.heap.size 43 [.slice none 0 0]:=(CP.block _ k1.lt (by simp;omega)).trans k1
 have kr2:Bk w7 (w.heap.size+1) 46 [.int .i64 0,.slice none 0 0]:=(CP.block _ k2.lt (by simp;omega)).trans k2
 have r0:=kr1.bx 0 _ rfl
 have g0:=kr1.frozen 0
 have kr2':Bk (w7.setCell ⟨w.heap.size,0,none⟩ (.slice Ad nd cd)) (w.heap.size+1) 46 [.int .i64 0,.slice none 0 0]:=(heap_setCell_other w7 ⟨w.heap.size,0,none⟩ (w.heap.size+1) (.slice Ad nd cd) (fun e=>by have e2:w.heap.size+1=w.heap.size:=e;omega)).trans kr2
 have ⟨p2,q2_,p3,q3⟩:=Bk.r2 kr2'
 have X5:(w7.setCell ⟨w.heap.size,0,none⟩ (.slice Ad nd cd)).heap[gd]?=w6.heap[gd]?/\(w7.setCell ⟨w.heap.size,0,none⟩ (.slice Ad nd cd)).heap[gd+1]?=w6.heap[gd+1]?:=⟨(heap_setCell_other w7 ⟨w.heap.size,0,none⟩ gd (.slice Ad nd cd) (fun e=>by have e2:gd=w.heap.size:=e;omega)).trans XD.1,(heap_setCell_other w7 ⟨w.heap.size,0,none⟩ (gd+1) (.slice Ad nd cd) (fun e=>by have e2:gd+1=w.heap.size:=e;omega)).trans XD.2⟩
 have hgd4:w.heap.size+1<gd:=by omega
 have X6:(set2 (w7.setCell ⟨w.heap.size,0,none⟩ (.slice Ad nd cd)) (w.heap.size+1) (.int .i64 vc) (.slice Aq nq cq)).heap[gd]?=w6.heap[gd]?/\(set2 (w7.setCell ⟨w.heap.size,0,none⟩ (.slice Ad nd cd)) (w.heap.size+1) (.int .i64 vc) (.slice Aq nq cq)).heap[gd+1]?=w6.heap[gd+1]?:=⟨(s2o (by omega) _ _).trans X5.1,(s2o (by omega) _ _).trans X5.2⟩
 go_wp2_with fail
 refine hK.out _ _ (HSS.out _ XD) (fun hHeld=>?_)
 clear hK K
 try simp only [putS]
 refine tka 4 19 hHeld ?_;simp only [putS]
 refine rd 5 none fun K hK=>?_
 clear hHeld
 go_simp
 refine hK.out _ _ (HSS.out _ X5) (fun hHeld=>?_)
 clear hK K
 try simp only [putS]
 refine rd 6 none fun K hK=>?_
 clear hHeld
 go_simp
 refine hK.out _ _ (HSS.out _ X6) (fun hHeld=>?_)
 clear hK K
 try simp only [putS]
 refine rd 7 (some 4) fun K hK=>?_
 clear hHeld
 go_simp
 refine hK.out _ _ (HSS.out _ X6) (fun hHeld=>?_)
 clear hK K
 try simp only [putS]
 refine wpAnyH_done (by kernel_rfl) ?_ _
 clear hHeld
 have z0:=Bk.bx ((kr1.set 0 (.slice Ad nd cd)).pst (r:=w.heap.size+1) (by omega) (.int .i64 vc) (.slice Aq nq cq)) 0 _ rfl
 have ⟨z1,z2⟩:=Bk.s2 kr2'
 go_wp2
 refine bodyPost_ret (v:=.tuple #[.agg #[.slice Ad nd cd],.agg #[.int .i64 vc,.slice Aq nq cq],.int .i64 (y - 1)]) (by simp [results,Tryz.results19,go_sem,z0,z1,z2]) rfl ?_
 have hB:Below w.heap.size w w7:=(B3.trans (D6.toBelow B3.size (by simp;omega))).trans (CP.toBelow (Nat.le_trans B3.size D6.size) (by simp;omega))
 have bf:Below w.heap.size w (set2 (w7.setCell ⟨w.heap.size,0,none⟩ (.slice Ad nd cd)) (w.heap.size+1) (.int .i64 vc) (.slice Aq nq cq)):=bls2 (g:=w.heap.size+1) (hB.setCell (p:=⟨w.heap.size,0,none⟩) (Nat.le_refl _) (.slice Ad nd cd)) (Nat.le_succ _) (.int .i64 vc) (.slice Aq nq cq)
 have hO:Out w3.heap.size w6 (set2 (w7.setCell ⟨w.heap.size,0,none⟩ (.slice Ad nd cd)) (w.heap.size+1) (.int .i64 vc) (.slice Aq nq cq)):=(Out.chg CP (by simp;omega)).trans (Out.chg (S:=[w.heap.size,w.heap.size+1]) (Chg.set2 (by simp) ((Chg.refl _ _).setCell (by simp) 0 _) _ _) (by simp;omega))
 exact⟨d,q,y - 1,Ad,nd,cd,vc,Aq,nq,cq,rfl,SD6 _ hO,SQ6 _ hO,⟨by omega,by omega⟩,bf⟩
end Go.Proofs.YtiafklphblkpbaaGreat
