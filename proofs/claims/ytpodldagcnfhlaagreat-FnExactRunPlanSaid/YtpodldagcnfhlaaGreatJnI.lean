/-
  JnI, Join
-/
import Derived.Test.YtpodldagcnfhlaaGreatKeep
import Derived.Test.YtpodldagcnfhlaaGreatSrt
import Derived.Test.YtpodldagcnfhlaaGreatStr
import Derived.Test.YtpodldagcnfhlaaGreatJnS
import Derived.Test.YtpodldagcnfhlaaGreatTo
import Derived.Test.YtpodldagcnfhlaaGreatCopy
import Derived.Test.YtpodldagcnfhlaaGreatMarkB
import Derived.Deep.RegionHeld3
namespace Go.Proofs.YtpodldagcnfhlaaGreat
open Go.RowKit
set_option linter.unusedVariables false
set_option linter.unusedSimpArgs false

set_option maxRecDepth 100000 in
set_option maxHeartbeats 1600000 in
theorem iNewJoiner_c (A1 A2 A3 A4:Option Addr) (n1 n2 n3 n4 c1 c2 c3 c4:Nat) (a b:List Int) (w:World) (ha:RS NB rInt w A1 n1 c1 a) (hb:RS NB rInt w A3 n3 c3 b) (hca:colsOk a 4=true) (hcb:colsOk b 4=true) :
  Calls Tryz.prog 211 #[.agg #[.slice A1 n1 c1,.slice A2 n2 c2],.agg #[.slice A3 n3 c3,.slice A4 n4 c4]] w fun e w'=>∃ (g:Nat) (A:Option Addr) (n cap:Nat),e=.returned (.pointer (some ⟨g,0,none⟩)) /\
   Bk w' g 250 [.slice A1 n1 c1,.slice A2 n2 c2,.slice A3 n3 c3,.slice A4 n4 c4,.slice A n cap,.slice none 0 0]/\w.heap.size<=g/\MS w.heap.size NB 3 rInt w' A n cap (unionI a b)/\(∀ k∈blk A,k≠g)/\Below w.heap.size w w':=by
 have hla:n1<=4:=by rw [<- ha.len];exact pw_len 0 4 (colsOk_pw hca) (fun c hc=>by have:=colsOk_mem hca hc;omega)
 have hlb:n3<=4:=by rw [<- hb.len];exact pw_len 0 4 (colsOk_pw hcb) (fun c hc=>by have:=colsOk_mem hcb hc;omega)
 have HU:=Lib.hid (union_eq hca hcb)
 clear hca hcb
 obtain⟨w1,hw1⟩:∃ w1,w1=(w.alloc (.cells #[.slice A1 n1 c1,.slice A2 n2 c2] 35)).alloc (.cells #[.slice A3 n3 c3,.slice A4 n4 c4] 35):=⟨_,rfl⟩
 have hB:Below w.heap.size w w1:=by rw [hw1];exact((Below.refl _ _).alloc (Nat.le_refl _) _).alloc (by simp) _
 have bxa:Bx w1 w.heap.size [.slice A1 n1 c1,.slice A2 n2 c2]:=by rw [hw1];exact(Bx.new w [.slice A1 n1 c1,.slice A2 n2 c2] _).below ((Below.refl _ _).alloc (Nat.le_refl _) _)
 have bxb:Bx w1 (w.heap.size+1) [.slice A3 n3 c3,.slice A4 n4 c4]:=by rw [hw1];have:=Bx.new (w.alloc (.cells #[.slice A1 n1 c1,.slice A2 n2 c2] 35)) [.slice A3 n3 c3,.slice A4 n4 c4] 35;simpa using this
 go_enter Tryz.func211,Tryz.ntmps211
 go_wp2
 rw [<- hw1]
 have HSS:=Lib.hid (fun (w':World) (hb':Below w1.heap.size w1 w')=>(⟨(bxa.below hb') 0 _ rfl,(bxa.below hb') 1 _ rfl,(bxb.below hb') 0 _ rfl,(bxb.below hb') 1 _ rfl⟩:w'.cell? ⟨w.heap.size,0,none⟩=some (.slice A1 n1 c1)/\w'.cell? ⟨w.heap.size,1,none⟩=some (.slice A2 n2 c2)/\w'.cell? ⟨w.heap.size+1,0,none⟩=some (.slice A3 n3 c3)/\w'.cell? ⟨w.heap.size+1,1,none⟩=some (.slice A4 n4 c4)))
 clear hw1 bxa bxb
 refine wp_region_held_drew (S:=fun w'=>w'.cell? ⟨w.heap.size,0,none⟩=some (.slice A1 n1 c1)/\w'.cell? ⟨w.heap.size,1,none⟩=some (.slice A2 n2 c2)/\w'.cell? ⟨w.heap.size+1,0,none⟩=some (.slice A3 n3 c3)/\w'.cell? ⟨w.heap.size+1,1,none⟩=some (.slice A4 n4 c4)) (by kernel_rfl) ?_ (fun hHeld=>?_)
 ·exact HSS.out _ (Below.refl _ _).drew
 refine tk 0 (some 6) rfl (by kernel_rfl) (by kernel_rfl) (by kernel_rfl) (fun _ _ _ h=>h) (by rfl) hHeld (fun w h=>by(try dsimp only at h);((go_simp)<;>with_reducible rfl)) ?_
 try simp only [putS]
 refine tk 1 (some 7) rfl (by kernel_rfl) (by kernel_rfl) (by kernel_rfl) (fun _ _ _ h=>h) (by rfl) hHeld (fun w h=>by(try dsimp only at h);((go_simp)<;>with_reducible rfl)) ?_
 try simp only [putS]
 refine tk 3 (some 9) rfl (by kernel_rfl) (by kernel_rfl) (by kernel_rfl) (fun _ _ _ h=>h) (by rfl) hHeld (fun w h=>by(try dsimp only at h);((go_simp)<;>with_reducible rfl)) ?_
 try simp only [putS]
 refine tk 4 (some 10) rfl (by kernel_rfl) (by kernel_rfl) (by kernel_rfl) (fun _ _ _ h=>h) (by rfl) hHeld (fun w h=>by(try dsimp only at h);((go_simp)<;>with_reducible rfl)) ?_
 try simp only [putS]
 refine wpAnyH_ready (rs:=[2]) (by kernel_rfl) (by simp) ?_
 refine AllReadyH.cons (o:=⟨some 8,_,_,_,_,_⟩) rfl (fun K hK=>?_) AllReadyH.nil
 clear hHeld
 go_simp
 refine(iCopyInts_c _ _ _ a _ ((ha.below rInt_ok hB).below rInt_ok (Below.refl _ _).drew)).mono ?_
 rintro e w2 ⟨Ac,nc,cc,rfl,Mc,hbc⟩
 have hC1:Below w1.heap.size w1 w2:=((Below.refl w1.heap.size w1).drew).trans hbc
 have hnc:nc=n1:=by rw [<- Mc.len,ha.len]
 subst hnc
 go_wp2_with fail
 refine hK.out _ _ (HSS.out _ hC1) (fun hHeld=>?_)
 clear hK K
 try simp only [putS]
 refine wpAnyH_ready (rs:=[5]) (by kernel_rfl) (by simp) ?_
 refine AllReadyH.cons (o:=⟨some 11,_,_,_,_,_⟩) rfl (fun K hK=>?_) AllReadyH.nil
 clear hHeld
 refine step_appf (r:=rInt) (by rfl) _ _ 32 (by rfl) _ 8 eiInt rInt_ok rInt_flat (by rfl) Mc (Below.refl _ _) hC1.size (by rfl) (hb.below rInt_ok (hB.trans (hC1.mono hB.size))) (by unfold NB;omega) (Nat.le_refl _) (by omega) ?_
 intro A5 c5 w3 M3 hb3 hg3
 have hC2:Below w1.heap.size w1 w3:=hC1.trans hb3
 refine hK.out _ _ (HSS.out _ hC2) (fun hHeld=>?_)
 clear hK K
 try simp only [putS]
 refine tk 6 (some 5) rfl (by kernel_rfl) (by kernel_rfl) (by kernel_rfl) (fun _ _ _ h=>h) (by rfl) hHeld (fun w h=>by(try dsimp only at h);((go_simp)<;>with_reducible rfl)) ?_
 try simp only [putS]
 refine wpAnyH_done (by kernel_rfl) ?_ _
 clear hHeld
 clear hg3 Mc hC1 hbc
 go_wp2_with fail
 refine(sortInts_c M3).mono ?_
 rintro e w4 ⟨rfl,M4,hb4⟩
 have hC4:Below w1.heap.size w1 w4:=hC2.trans hb4
 clear hb4 M3 hb3 hC2
 go_wp2_with fail
 have HSS4:=Lib.hid (fun (w':World) (hb':Below w1.heap.size w4 w')=>HSS.out w' (hC4.trans hb'))
 refine wp_region_held_drew (S:=fun w'=>w'.cell? ⟨w.heap.size,0,none⟩=some (.slice A1 nc c1)/\w'.cell? ⟨w.heap.size,1,none⟩=some (.slice A2 n2 c2)/\w'.cell? ⟨w.heap.size+1,0,none⟩=some (.slice A3 n3 c3)/\w'.cell? ⟨w.heap.size+1,1,none⟩=some (.slice A4 n4 c4)) (by kernel_rfl) ?_ (fun hHeld=>?_)
 ·exact HSS4.out _ (Below.refl _ _).drew
 refine tk 0 (some 14) rfl (by kernel_rfl) (by kernel_rfl) (by kernel_rfl) (fun _ _ _ h=>h) (by rfl) hHeld (fun w h=>by(try dsimp only at h);((go_simp)<;>with_reducible rfl)) ?_
 try simp only [putS]
 refine tk 1 (some 15) rfl (by kernel_rfl) (by kernel_rfl) (by kernel_rfl) (fun _ _ _ h=>h) (by rfl) hHeld (fun w h=>by(try dsimp only at h);((go_simp)<;>with_reducible rfl)) ?_
 try simp only [putS]
 refine tk 2 (some 16) rfl (by kernel_rfl) (by kernel_rfl) (by kernel_rfl) (fun _ _ _ h=>h) (by rfl) hHeld (fun w h=>by(try dsimp only at h);((go_simp)<;>with_reducible rfl)) ?_
 try simp only [putS]
 refine wpAnyH_ready (rs:=[3]) (by kernel_rfl) (by simp) ?_
 refine AllReadyH.cons (o:=⟨some 17,_,_,_,_,_⟩) rfl (fun K hK=>?_) AllReadyH.nil
 clear hHeld
 go_simp
 refine(compactInts_c (M4.below rInt_ok (Below.refl _ _).drew)).mono ?_
 rintro e w5 ⟨rfl,M5,hb5⟩
 have hC5:Below w1.heap.size w4 w5:=((Below.refl w1.heap.size w4).drew).trans hb5
 go_wp2_with fail
 refine hK.out _ _ (HSS4.out _ hC5) (fun hHeld=>?_)
 clear hK K
 try simp only [putS]
 refine tk 4 (some 18) rfl (by kernel_rfl) (by kernel_rfl) (by kernel_rfl) (fun _ _ _ h=>h) (by rfl) hHeld (fun w h=>by(try dsimp only at h);((go_simp)<;>with_reducible rfl)) ?_
 try simp only [putS]
 refine tk 5 (some 19) rfl (by kernel_rfl) (by kernel_rfl) (by kernel_rfl) (fun _ _ _ h=>h) (by rfl) hHeld (fun w h=>by(try dsimp only at h);((go_simp)<;>with_reducible rfl)) ?_
 try simp only [putS]
 refine wpAnyH_ready (rs:=[6]) (by kernel_rfl) (by simp) ?_
 refine AllReadyH.cons (o:=⟨some 20,_,_,_,_,_⟩) rfl (fun K hK=>?_) AllReadyH.nil
 clear hHeld
 go_simp
 refine hK.out _ _ (HSS4.out _ (hC5.alloc (Nat.le_trans hC4.size hC5.size) _)) (fun hHeld=>?_)
 clear hK K
 try simp only [putS]
 refine tk 7 (some 4) rfl (by kernel_rfl) (by kernel_rfl) (by kernel_rfl) (fun _ _ _ h=>h) (by rfl) hHeld (fun w h=>by(try dsimp only at h);((go_simp)<;>with_reducible rfl)) ?_
 try simp only [putS]
 refine wpAnyH_done (by kernel_rfl) ?_ _
 clear hHeld
 go_wp2
 go_ret
 have hW5:Below w.heap.size w w5:=hB.trans ((hC4.trans hC5).mono hB.size)
 have ltA:∀ k∈blk A5,k<w5.heap.size:=by
  obtain⟨fp,q1,q2⟩:=M5
  have:=q1.lt rInt_ok
  obtain⟨rfl,_⟩:=osInt.1 q1
  exact this
 refine⟨_,_,_,_,rfl,Bk.new w5 [.slice A1 nc c1,.slice A2 n2 c2,.slice A3 n3 c3,.slice A4 n4 c4,.slice A5 _ c5,.slice none 0 0] _,hW5.size,by have h9:=(M5.below rInt_ok ((Below.refl _ _).alloc (Nat.le_refl _) (.cells #[.slice A1 nc c1,.slice A2 n2 c2,.slice A3 n3 c3,.slice A4 n4 c4,.slice A5 (compactI (sortI (a++b))).length c5,.slice none 0 0] 250))).base hB.size;rw [HU.out]at h9 ⊢;exact h9,fun k hk=>by have:=ltA k hk;omega,hW5.alloc hW5.size _⟩
/-- the joiner in block g: the two streams' slices, the variables of the result, its rows so far; w0: the world ahead of its making; w1: behind it -/
structure Jn (w0 w1:World) (g:Nat) (cs:List Value) (vars:List Int) (rows:List (List Int)) (w:World):Prop where
 ex:∃ (AV:Option Addr) (nV cV:Nat) (AR:Option Addr) (nR cR:Nat),Bk w g 250 (cs++[.slice AV nV cV,.slice AR nR cR])/\OS NB 3 rInt w (blk AV) AV nV cV vars /\
  (∀ k∈blk AV,w0.heap.size<=k/\k<w1.heap.size/\k≠g)/\MS w1.heap.size NB 32 (rSlice NB 3 rInt) w AR nR cR rows
 g0:w0.heap.size<=g
 g1:g<w1.heap.size
 b0:Below w0.heap.size w0 w
 b1:w1.heap.size<=w.heap.size
theorem Jn.below {w0 w1 w w':World}{g:Nat}{cs:List Value}{vars:List Int}{rows:List (List Int)}(h:Jn w0 w1 g cs vars rows w) (hb:Below w.heap.size w w'):Jn w0 w1 g cs vars rows w':=by
 obtain⟨AV,nV,cV,AR,nR,cR,h1,h2,h3,h4⟩:=h.ex
 exact⟨⟨AV,nV,cV,AR,nR,cR,h1.below hb,h2.belowS rInt_ok hb,h3,h4.below (rSlice_ok NB _ rInt_ok) hb⟩,h.g0,h.g1,h.b0.trans (hb.mono h.b0.size),Nat.le_trans h.b1 hb.size⟩
theorem joinOpt_yes {vars a b x y:List Int}(h:vars.all (agreeAt a x b y)=true) (hm:∀ v,v∈vars↔v∈a\/v∈b):joinOpt vars a b x y=some (joinRow vars a x b y):=by
 unfold joinOpt;rw [<- agree_vars hm,h];rfl
theorem joinOpt_no {vars a b x y:List Int}{v:Int}(hv:v∈vars) (h:agreeAt a x b y v=false) (hm:∀ v,v∈vars↔v∈a\/v∈b):joinOpt vars a b x y=none:=by
 unfold joinOpt
 rw [<- agree_vars hm]
 have:vars.all (agreeAt a x b y)=false:=by
  rw [Bool.eq_false_iff];intro h2;rw [List.all_eq_true]at h2;rw [h2 v hv]at h;cases h
 rw [this];rfl
theorem slicesIndex_v {A:Option Addr}{n cap:Nat}{l:List Int}{x v:Int}{w:World}(hv:idxOf (fun b=>b==x) l=v) (hr:RS NB rInt w A n cap l) :
  Calls Tryz.prog 59 #[.slice A n cap,.int .i64 x] w fun e w'=>e=.returned (.int .i64 v)/\w'=w:=hv▸slicesIndex_q A n cap l x w hr
set_option maxRecDepth 100000 in
set_option maxHeartbeats 3200000 in
theorem iPair_c (g:Nat) (w0 w1 w:World) (A1 A3 Ax Ay:Option Addr) (n1 n3 nx ny c1 c3 cx cy:Nat) (v2 v4:Value) (a b x y vars:List Int) (rows:List (List Int))
  (hj:Jn w0 w1 g [.slice A1 n1 c1,v2,.slice A3 n3 c3,v4] vars rows w) (ha:RS NB rInt w0 A1 n1 c1 a) (hb:RS NB rInt w0 A3 n3 c3 b) (hx:RS NB rInt w0 Ax nx cx x) (hy:RS NB rInt w0 Ay ny cy y)
  (hm:∀ v,v∈vars↔v∈a\/v∈b) (hla:nx=n1) (hlb:ny=n3) (hrows:rows.length<=100000) :
  Calls Tryz.prog 212 #[.pointer (some ⟨g,0,none⟩),.slice Ax nx cx,.slice Ay ny cy] w fun e w'=>e=.returned (.tuple #[])/\Jn w0 w1 g [.slice A1 n1 c1,v2,.slice A3 n3 c3,v4] vars (rows++(joinOpt vars a b x y).toList) w':=by
 subst hla;subst hlb
 have hj0:=hj
 obtain⟨AV,nV,cV,AR,nR,cR,hk,hV,hVk,hR⟩:=hj.ex
 have hb0:=hj.b0
 have hb1:=hj.b1
 have g1:=hj.g1
 have HJ:=Lib.hid hj0;clear hj hj0
 have HM:=Lib.hid hm;clear hm
 have HLa:=Lib.hid ha.len
 have HLb:=Lib.hid hb.len
 have RV:=hV.rs rInt_ok
 have hnV:=RV.bound
 have hna:=ha.bound
 have hnb:=hb.bound
 have HLv:=Lib.hid RV.len
 have hnR:nR<=100000:=by rw [<- hR.len];exact hrows
 have k0:=hk.bx 0 _ rfl
 have k2:=hk.bx 2 _ rfl
 have k4:=hk.bx 4 _ rfl
 have f5:=hk.frozen 5
 have hgl:g<w.heap.size:=hk.lt
 have hM0:=MS.empty (B:=w.heap.size) (M:=NB) (e:=3) (r:=rInt) w (Nat.le_refl _)
 have hB0:=(Below.refl w.heap.size w).alloc (Nat.le_refl _) (.cells #[] 3)
 go_enter Tryz.func212,Tryz.ntmps212
 go_wp2
 go_loopw [6,18] (fun v i wr=>∃ (k c:Nat) (B:Option Addr),k<=nV/\i=.int .i64 k/\v=.slice B k c/\MS w.heap.size NB 3 rInt wr B k c (joinRow (vars.take k) a x b y)/\(vars.take k).all (agreeAt a x b y)=true/\Below w.heap.size w wr) (fun _ i _=>nV - (intOf i).toNat)
 case atStart=>exact⟨0,0,_,by omega,rfl,rfl,hM0,rfl,hB0⟩
 case round =>
  clear hM0 hB0
  obtain⟨k,c,B,hkn,rfl,rfl,hM,hall,hE⟩:=hrel
  have Hall:=Lib.hid hall;clear hall
  have hE0:=hb0.trans (hE.mono hb0.size)
  replace k0:=cells_below hE _ _ k0
  replace k2:=cells_below hE _ _ k2
  replace k4:=cells_below hE _ _ k4
  by_cases hlt:k<nV
  ·have R1:=ha.below rInt_ok hE0
   have R3:=hb.below rInt_ok hE0
   obtain⟨b1,o1,v,rfl,hc1,hI1,hv⟩:=(RV.below rInt_ok hE).ati hlt
   have HS:=Lib.hid (joinRow_snoc (a:=a) (x:=x) (b:=b) (y:=y) hv.out)
   rcases idxOf_or (l:=a) (v:=v) with ⟨f1,f2⟩|⟨i,f1,f2,f3⟩
   ·have hvb:v∈b:=by
     rcases (HM.out v).1 (mem_of_at hv.out) with h|h
     ·obtain⟨j,h1,_⟩:=mem_find h;rw [f2]at h1;cases h1
     ·exact h
    obtain⟨j,q1,q2⟩:=mem_find hvb
    have hj:j<ny:=by rw [<- HLb.out];exact q2
    obtain⟨b3,o3,z,rfl,hc3,hI3,hz⟩:=(hy.below rInt_ok hE0).ati hj
    have HV:Hid (joinVal a x b y v=z):=by show _=_;simp [joinVal,lk_none f2,lk_some q1 hz.out]
    have HA:Hid (agreeAt a x b y v=true):=by show _=_;simp [agreeAt,lk_none f2]
    have F1:=Lib.hid f1
    have F2:=Lib.hid (idxOf_find q1)
    clear f1 f2 q1 q2 hvb
    go_wp2
    go_quiet ((first|(go_at_call 59;with_reducible exact Calls.quiet_of_same (slicesIndex_v F1.out (R1.drewN rInt_ok _)))|(go_at_call 59;with_reducible exact Calls.quiet_of_same (slicesIndex_v F2.out (R3.drewN rInt_ok _)))))
    obtain⟨wq,hwq⟩:∃ wq,wq=wr.drewN nq:=⟨_,rfl⟩
    rw [<- hwq]
    have hbwq:Below wr.heap.size wr wq:=by rw [hwq];exact below_drewN (Below.refl _ _) _
    clear hwq
    replace hM:=hM.below rInt_ok hbwq
    replace hE:=hE.trans (hbwq.mono hE.size)
    replace hc3:=cells_below hbwq _ _ hc3
    clear hbwq
    go_wp2_with (at_builtin;refine wpList_app (r:=rInt) rfl _ _ 32 rfl _ 8 eiInt rInt_ok rfl hM ((Below.refl _ _).alloc (Nat.le_refl _) _) hE.size ⟨wq.heap.size,0,none⟩ rfl [] [.int .i64 z] z ⟨rfl,rfl,hI3⟩ (Fr.nil _) (cell_one_new _ _ _) (by unfold NB;omega) (Nat.le_refl _) (by omega) ?_;intro A2 k2 w2 hM2 hb2 hg2)
    go_roundw
    case rel=>exact⟨k+1,k2,_,by omega,by go_num,rfl,by rw [HS.out,HV.out];exact hM2,all_snoc' Hall.out hv.out HA.out,(hE.alloc hE.size _).trans hb2⟩
    case measure=>simp [intOf];omega
   ·have hi:i<nx:=by rw [<- HLa.out];exact f3
    obtain⟨b3,o3,z,rfl,hc3,hI3,hz⟩:=(hx.below rInt_ok hE0).ati hi
    have HV:Hid (joinVal a x b y v=z):=by show _=_;simp [joinVal,lk_some f2 hz.out]
    have HK:=Lib.hid (lk_some f2 hz.out)
    have F1:=Lib.hid f1
    clear f1 f2 f3
    rcases idxOf_or (l:=b) (v:=v) with ⟨f1,f2⟩|⟨j,f1,f2,f3⟩
    ·have HA:Hid (agreeAt a x b y v=true):=by show _=_;simp [agreeAt,HK.out,lk_none f2]
     have F2:=Lib.hid f1
     clear f1 f2
     go_wp2
     go_quiet ((first|(go_at_call 59;with_reducible exact Calls.quiet_of_same (slicesIndex_v F1.out (R1.drewN rInt_ok _)))|(go_at_call 59;with_reducible exact Calls.quiet_of_same (slicesIndex_v F2.out (R3.drewN rInt_ok _)))))
     obtain⟨ws,hws⟩:∃ ws,ws=wr.drewN nq:=⟨_,rfl⟩
     rw [<- hws]
     have hbws:Below wr.heap.size wr ws:=by rw [hws];exact below_drewN (Below.refl _ _) _
     clear hws
     replace hM:=hM.below rInt_ok hbws
     replace hE:=hE.trans (hbws.mono hE.size)
     replace hc3:=cells_below hbws _ _ hc3
     clear hbws
     go_wp2
     go_quiet (fail)
     obtain⟨wq,hwq⟩:∃ wq,wq=ws.drewN nq:=⟨_,rfl⟩
     rw [<- hwq]
     have hbwq:Below ws.heap.size ws wq:=by rw [hwq];exact below_drewN (Below.refl _ _) _
     clear hwq
     replace hM:=hM.below rInt_ok hbwq
     replace hE:=hE.trans (hbwq.mono hE.size)
     replace hc3:=cells_below hbwq _ _ hc3
     clear hbwq
     go_wp2_with (at_builtin;refine wpList_app (r:=rInt) rfl _ _ 32 rfl _ 8 eiInt rInt_ok rfl hM ((Below.refl _ _).alloc (Nat.le_refl _) _) hE.size ⟨wq.heap.size,0,none⟩ rfl [] [.int .i64 z] z ⟨rfl,rfl,hI3⟩ (Fr.nil _) (cell_one_new _ _ _) (by unfold NB;omega) (Nat.le_refl _) (by omega) ?_;intro A2 k2 w2 hM2 hb2 hg2)
     go_roundw
     case rel=>exact⟨k+1,k2,_,by omega,by go_num,rfl,by rw [HS.out,HV.out];exact hM2,all_snoc' Hall.out hv.out HA.out,(hE.alloc hE.size _).trans hb2⟩
     case measure=>simp [intOf];omega
    ·have hj:j<ny:=by rw [<- HLb.out];exact f3
     obtain⟨b4,o4,q,rfl,hc4,hI4,hq⟩:=(hy.below rInt_ok hE0).ati hj
     have HA0:Hid (agreeAt a x b y v=decide (z=q)):=by show _=_;simp [agreeAt,HK.out,lk_some f2 hq.out]
     have F2:=Lib.hid f1
     clear f1 f2 f3
     by_cases hzq:z=q
     ·have HA:Hid (agreeAt a x b y v=true):=by show _=_;rw [HA0.out];simp [hzq]
      have d1:(z != q)=false:=by simp [hzq]
      clear hzq
      go_wp2
      go_quiet ((first|(go_at_call 59;with_reducible exact Calls.quiet_of_same (slicesIndex_v F1.out (R1.drewN rInt_ok _)))|(go_at_call 59;with_reducible exact Calls.quiet_of_same (slicesIndex_v F2.out (R3.drewN rInt_ok _)))))
      obtain⟨ws,hws⟩:∃ ws,ws=wr.drewN nq:=⟨_,rfl⟩
      rw [<- hws]
      have hbws:Below wr.heap.size wr ws:=by rw [hws];exact below_drewN (Below.refl _ _) _
      clear hws
      replace hM:=hM.below rInt_ok hbws
      replace hE:=hE.trans (hbws.mono hE.size)
      replace hc3:=cells_below hbws _ _ hc3
      replace hc4:=cells_below hbws _ _ hc4
      clear hbws
      go_wp2
      go_quiet (fail)
      obtain⟨wq,hwq⟩:∃ wq,wq=ws.drewN nq:=⟨_,rfl⟩
      rw [<- hwq]
      have hbwq:Below ws.heap.size ws wq:=by rw [hwq];exact below_drewN (Below.refl _ _) _
      clear hwq
      replace hM:=hM.below rInt_ok hbwq
      replace hE:=hE.trans (hbwq.mono hE.size)
      replace hc3:=cells_below hbwq _ _ hc3
      clear hbwq
      go_wp2_with (at_builtin;refine wpList_app (r:=rInt) rfl _ _ 32 rfl _ 8 eiInt rInt_ok rfl hM ((Below.refl _ _).alloc (Nat.le_refl _) _) hE.size ⟨wq.heap.size,0,none⟩ rfl [] [.int .i64 z] z ⟨rfl,rfl,hI3⟩ (Fr.nil _) (cell_one_new _ _ _) (by unfold NB;omega) (Nat.le_refl _) (by omega) ?_;intro A2 k2 w2 hM2 hb2 hg2)
      go_roundw
      case rel=>exact⟨k+1,k2,_,by omega,by go_num,rfl,by rw [HS.out,HV.out];exact hM2,all_snoc' Hall.out hv.out HA.out,(hE.alloc hE.size _).trans hb2⟩
      case measure=>simp [intOf];omega
     ·have HN:=Lib.hid (joinOpt_no (mem_of_at hv.out) (by rw [HA0.out];simp [hzq]) HM.out)
      have d1:(z != q)=true:=by simp [hzq]
      clear hzq
      go_wp2
      go_quiet ((first|(go_at_call 59;with_reducible exact Calls.quiet_of_same (slicesIndex_v F1.out (R1.drewN rInt_ok _)))|(go_at_call 59;with_reducible exact Calls.quiet_of_same (slicesIndex_v F2.out (R3.drewN rInt_ok _)))))
      obtain⟨ws,hws⟩:∃ ws,ws=wr.drewN nq:=⟨_,rfl⟩
      rw [<- hws]
      have hbws:Below wr.heap.size wr ws:=by rw [hws];exact below_drewN (Below.refl _ _) _
      clear hws
      replace hM:=hM.below rInt_ok hbws
      replace hE:=hE.trans (hbws.mono hE.size)
      replace hc3:=cells_below hbws _ _ hc3
      replace hc4:=cells_below hbws _ _ hc4
      clear hbws
      go_wp2
      go_quiet (fail)
      obtain⟨wq,hwq⟩:∃ wq,wq=ws.drewN nq:=⟨_,rfl⟩
      rw [<- hwq]
      have hbwq:Below ws.heap.size ws wq:=by rw [hwq];exact below_drewN (Below.refl _ _) _
      clear hwq
      replace hM:=hM.below rInt_ok hbwq
      replace hE:=hE.trans (hbwq.mono hE.size)
      clear hbwq
      go_wp2
      refine bodyPost_ret (v:=.tuple #[]) (by simp [results,Tryz.results212,go_sem]) rfl ⟨rfl,?_⟩
      rw [HN.out]
      simpa using HJ.out.below hE
  ·have HY:=Lib.hid (joinOpt_yes (vars:=vars) (a:=a) (b:=b) (x:=x) (y:=y) (by have h2:=Hall.out;rwa [take_all HLv.out hlt]at h2) HM.out)
   rw [take_all HLv.out hlt]at hM
   obtain⟨fpM,oM,frM⟩:=hM
   have hkE:=hk.below hE
   have hgl2:=hkE.lt
   have k5:=hkE.bx 5 _ rfl
   go_wp2_with (at_builtin;refine wpList_app (r:=rSlice NB 3 rInt) rfl _ _ 33 rfl _ 24 eiIntS (rSlice_ok NB _ rInt_ok) rfl hR (hE.alloc hE.size _) hb1 ⟨wr.heap.size,0,none⟩ rfl fpM [.slice B k c] (joinRow vars a x b y) ⟨B,k,c,rfl,oM.belowS rInt_ok ((Below.refl _ _).alloc (Nat.le_refl _) _)⟩ frM (cell_one_new _ _ _) (by unfold NB;omega) (Nat.le_refl _) (by omega) ?_;intro A2 k2 w2 hM2 hb2 hg2;have hk2:Bk w2 g 250 ([.slice A1 nx c1,v2,.slice A3 ny c3,v4]++[.slice AV nV cV,.slice AR nR cR]):=(hb2.block g g1).trans (hkE.below ((Below.refl _ _).alloc (Nat.le_refl _) _));have f52:=hk2.frozen 5;have k52:=hk2.bx 5 _ rfl)
   go_end0
   refine⟨rfl,?_⟩
   rw [HY.out]
   have hk3:=hk2.set 5 (.slice A2 (nR+1) k2)
   have hW2:Below w1.heap.size w w2:=((hE.mono hb1).alloc (Nat.le_trans hb1 hE.size) _).trans hb2
   have hBase:Below w0.heap.size w0 (w2.setCell ⟨g,5,none⟩ (.slice A2 (nR+1) k2)):=(hb0.trans (hW2.mono (Nat.le_trans HJ.out.g0 (Nat.le_of_lt g1)))).setCell HJ.out.g0 _
   exact⟨⟨AV,nV,cV,A2,nR+1,k2,hk3,hV.okeep rInt_ok (fun q hq=>(heap_setCell_other w2 ⟨g,5,none⟩ q _ (fun e=>(hVk q hq).2.2 e)).trans (hW2.block q (hVk q hq).2.1)),hVk,hM2.out (rSlice_ok NB _ rInt_ok) ((Out.refl _ _).setCell g1 _)⟩,HJ.out.g0,g1,hBase,by rw [World.size_setCell];exact Nat.le_trans hb1 hW2.size⟩
def RetVBo {α:Type} (r:Rp α) (x:α) (v:Value) (w0:World) (en:Ending) (w':World):Prop:=∃ cs fp,en=.returned (.tuple #[.agg cs.toArray,v])/\r.own w' fp cs x/\Fr w0.heap.size fp/\Below w0.heap.size w0 w'
theorem zStream_ret (w:World) (w0:World) (h:Below w0.heap.size w0 w):∃ cs fp,Ending.returned (.tuple #[.agg #[.slice none 0 0,.slice none 0 0],.bool false])=.returned (.tuple #[.agg cs.toArray,.bool false])/\(rStream NB).own w fp cs ⟨[],[]⟩/\Fr w0.heap.size fp/\Below w0.heap.size w0 w :=
 ⟨[.slice none 0 0,.slice none 0 0],[],rfl,zStream_own w,Fr.nil _,h⟩
set_option maxRecDepth 100000 in
set_option maxHeartbeats 1600000 in
theorem iResult_c (g:Nat) (w0 w1 w:World) (v1 v2 v3 v4:Value) (vars:List Int) (rows:List (List Int)) (hj:Jn w0 w1 g [v1,v2,v3,v4] vars rows w) :
  Calls Tryz.prog 213 #[.pointer (some ⟨g,0,none⟩)] w (RetVBo (rStream NB) (capS vars rows).1 (.bool (capS vars rows).2) w0):=by
 obtain⟨AV,nV,cV,AR,nR,cR,hk,hV,hVk,hR⟩:=hj.ex
 have hb0:=hj.b0
 have hgl:=hk.lt
 have k4:=hk.bx 4 _ rfl
 have k5:=hk.bx 5 _ rfl
 have HR:=Lib.hid hR.len
 have hnR:=(hR.rs (rSlice_ok NB _ rInt_ok)).bound
 by_cases hlen:(4096:Int)<nR
 ·have HC:Hid (capS vars rows=(⟨[],[]⟩,false)):=by show _=_;unfold capS;rw [if_neg (by rw [HR.out];omega)]
  go_enter Tryz.func213,Tryz.ntmps213
  go_wp2
  refine bodyPost_ret (v:=.tuple #[.agg #[.slice none 0 0,.slice none 0 0],.bool false]) (by simp [results,Tryz.results213,go_sem]) rfl ?_
  rw [HC.out]
  exact zStream_ret _ _ (hb0.alloc hb0.size _)
 ·have HC:Hid (capS vars rows=(⟨vars,rows⟩,true)):=by show _=_;unfold capS;rw [if_pos (by rw [HR.out];omega)]
  go_enter Tryz.func213,Tryz.ntmps213
  go_wp2
  refine bodyPost_ret (v:=.tuple #[.agg #[.slice AV nV cV,.slice AR nR cR],.bool true]) (by simp [results,Tryz.results213,go_sem]) rfl ?_
  rw [HC.out]
  obtain⟨fpR,oR,frR⟩:=hR
  have hA:=(Below.refl w.heap.size w).alloc (Nat.le_refl _) (.cells #[.slice AV nV cV,.slice AR nR cR] 35)
  refine⟨[.slice AV nV cV,.slice AR nR cR],blk AV++fpR,rfl,rStream_own.2 ⟨AV,nV,cV,AR,nR,cR,blk AV,fpR,rfl,rfl,hV.belowS rInt_ok hA,oR.belowS (rSlice_ok NB _ rInt_ok) hA⟩,⟨List.nodup_append.2 ⟨by cases AV<;>simp [blk],frR.nd,fun p hp q hq e=>by have:=(hVk p hp).2.1;have:=frR.ge q hq;omega⟩,fun q hq=>?_⟩,hb0.alloc hb0.size _⟩
  rcases List.mem_append.1 hq with hq|hq
  ·exact(hVk q hq).1
  ·have:=frR.ge q hq;have:=hj.g0;have:=hj.g1;omega
end Go.Proofs.YtpodldagcnfhlaaGreat
namespace Go.Proofs.YtpodldagcnfhlaaGreat
open Go.RowKit
set_option linter.unusedVariables false
set_option linter.unusedSimpArgs false

theorem union_iff {a b:List Int}(ha:colsOk a 4=true) (hb:colsOk b 4=true) (v:Int):v∈unionI a b↔v∈a\/v∈b:=by
 rw [unionI_mem]
 constructor
 ·exact fun h=>h.2
 ·intro h
  refine⟨?_,h⟩
  rcases h with h|h
  ·have:=colsOk_mem ha h;omega
  ·have:=colsOk_mem hb h;omega
theorem validStream_parts {x:StreamD}(h:validStream x=true):colsOk x.fVars 4=true/\(∀ r∈x.fRows,rowOk r x.fVars.length=true)/\x.fRows.length<=4096:=by
 unfold validStream at h
 simp only [Bool.and_eq_true,List.all_eq_true,decide_eq_true_eq]at h
 exact⟨h.1,h.2.1,h.2.2⟩
theorem rowOk_len {r:List Int}{n:Nat}(h:rowOk r n=true):r.length=n:=by
 unfold rowOk at h
 simp only [Bool.and_eq_true,decide_eq_true_eq]at h
 omega
theorem bset2 {B:Nat}{a w:World}(h:Below B a w) {Y:Nat}(hY:B<=Y) (u v:Value):Below B a ((w.setCell ⟨Y,0,none⟩ u).setCell ⟨Y,1,none⟩ v):=(h.setCell hY _).setCell hY _
theorem rows_len {α β γ:Type}(f:α->β->Option γ) (xs:List α) (ys:List β) (k:Nat) (x:α) (hx:xs[k]?=some x) (h:¬ (nestRows f (xs.take (k+1)) ys).length<=4096):¬ (nestRows f xs ys).length<=4096:=by
 have:=nest_le (f:=f) (xs:=xs) (ys:=ys) (k+1);omega
theorem capS_full {vars:List Int}{r r':List (List Int)}(h:¬ r.length<=4096) (h':¬ r'.length<=4096):capS vars r=capS vars r':=by unfold capS;rw [if_neg h,if_neg h']
theorem fmt_snoc {α γ:Type}{f:α->Option γ}{ys:List α}{k:Nat}{y:α}(r:List γ) (h:ys[k]?=some y):r++(ys.take (k+1)).filterMap f=(r++(ys.take k).filterMap f)++(f y).toList:=by rw [fm_snoc h,List.append_assoc]

set_option maxRecDepth 100000 in
set_option maxHeartbeats 1600000 in
theorem iHashJoin_c (csx:List Value) (x:StreamD) (csy:List Value) (y:StreamD) (w:World) (hx:(rStream NB).rep w csx x) (hy:(rStream NB).rep w csy y) :
  Calls Tryz.prog 153 #[.agg csx.toArray,.agg csy.toArray] w (RetVB (rStream NB) (hashJoin x y).1 (.bool (hashJoin x y).2) w):=by
 have rx:=hx
 obtain⟨AxVars,nxVars,cxVars,AxRows,nxRows,cxRows,rfl,hxVars,hxRows⟩:=rStream_rep.1 hx
 clear hx
 have ry:=hy
 obtain⟨AyVars,nyVars,cyVars,AyRows,nyRows,cyRows,rfl,hyVars,hyRows⟩:=rStream_rep.1 hy
 clear hy
 have hB:Below w.heap.size w w:=Below.refl _ _
 have hAx:=(Below.refl (World.heap (w)).size (w)).alloc (Nat.le_refl _) (.cells #[.slice AxVars nxVars cxVars,.slice AxRows nxRows cxRows] 35)
 replace hB:=hB.trans (hAx.mono hB.size)
 have bxx:=Bx.new (w) [.slice AxVars nxVars cxVars,.slice AxRows nxRows cxRows] 35
 clear hAx
 have hAy:=(Below.refl (World.heap ((w).alloc (.cells #[.slice AxVars nxVars cxVars,.slice AxRows nxRows cxRows] 35))).size ((w).alloc (.cells #[.slice AxVars nxVars cxVars,.slice AxRows nxRows cxRows] 35))).alloc (Nat.le_refl _) (.cells #[.slice AyVars nyVars cyVars,.slice AyRows nyRows cyRows] 35)
 replace hB:=hB.trans (hAy.mono hB.size)
 replace bxx:=bxx.below hAy
 have bxy:=Bx.new ((w).alloc (.cells #[.slice AxVars nxVars cxVars,.slice AxRows nxRows cxRows] 35)) [.slice AyVars nyVars cyVars,.slice AyRows nyRows cyRows] 35
 simp only [World.size_alloc]at bxy
 clear hAy
 have hnx:=hxRows.bound
 have hny:=hyRows.bound
 have HLX:=Lib.hid hxRows.len
 have HLY:=Lib.hid hyRows.len
 obtain⟨wa,hwa⟩:∃ wa,wa=(w.alloc (.cells #[.slice AxVars nxVars cxVars,.slice AxRows nxRows cxRows] 35)).alloc (.cells #[.slice AyVars nyVars cyVars,.slice AyRows nyRows cyRows] 35):=⟨_,rfl⟩
 rw [<- hwa]at hB bxx bxy
 have hsa:wa.heap.size=w.heap.size+1+1:=by rw [hwa];simp
 have hBA:=(Below.refl wa.heap.size wa).alloc (Nat.le_refl _) (.cells #[.slice none 0 0,.slice none 0 0] 35)
 have bkR:=Bk.new wa [.slice none 0 0,.slice none 0 0] 35
 replace hB:=hB.trans (hBA.mono hB.size)
 replace bxx:=bxx.below hBA
 replace bxy:=bxy.below hBA
 clear hBA
 rw [hwa]at hB bxx bxy bkR hsa
 have HSA:=Lib.hid hsa;clear hsa
 simp only [World.size_alloc]at bkR
 clear hwa
 go_enter Tryz.func153,Tryz.ntmps153
 go_wp2_with fail
 refine(iIsValidStream_c _ x _ ((rStream_ok NB).keep rx (cells_below hB))).mono ?_
 rintro e w1 ⟨rfl,hb1⟩
 replace hB:=hB.trans (hb1.mono hB.size)
 replace bxx:=bxx.below hb1
 replace bxy:=bxy.below hb1
 replace bkR:=bkR.below hb1
 clear hb1
 cases e1:validStream x
 ·have rf0:=bkR.frozen 0
  have rf1:=bkR.frozen 1
  have rc0:=bkR.bx 0 _ rfl
  have rc1:=bkR.bx 1 _ rfl
  have rl:=bkR.lt
  have he:hashJoin x y=(⟨[],[]⟩,false):=by simp [hashJoin,e1]
  have HE:=Lib.hid he;clear he
  go_wp2
  have bk3:=(bkR.set 0 (.slice none 0 0)).set 1 (.slice none 0 0)
  have q0:=bk3.bx 0 _ rfl
  have q1:=bk3.bx 1 _ rfl
  refine bodyPost_ret (v:=.tuple #[.agg #[.slice none 0 0,.slice none 0 0],.bool false]) (by simp [results,Tryz.results153,go_sem,q0,q1]) rfl ?_
  rw [HE.out]
  exact⟨[.slice none 0 0,.slice none 0 0],[],rfl,zStream_own _,Fr.nil _,bset2 hB (by omega) _ _⟩
 have ky_0:=bxy 0 _ rfl
 have ky_1:=bxy 1 _ rfl
 go_wp2_with fail
 refine(iIsValidStream_c _ y _ ((rStream_ok NB).keep ry (cells_below hB))).mono ?_
 rintro e w2 ⟨rfl,hb2⟩
 replace hB:=hB.trans (hb2.mono hB.size)
 replace bxx:=bxx.below hb2
 replace bxy:=bxy.below hb2
 replace bkR:=bkR.below hb2
 clear hb2 ky_0 ky_1
 cases e2:validStream y
 ·have rf0:=bkR.frozen 0
  have rf1:=bkR.frozen 1
  have rc0:=bkR.bx 0 _ rfl
  have rc1:=bkR.bx 1 _ rfl
  have rl:=bkR.lt
  have he:hashJoin x y=(⟨[],[]⟩,false):=by simp [hashJoin,e2]
  have HE:=Lib.hid he;clear he
  go_wp2
  have bk3:=(bkR.set 0 (.slice none 0 0)).set 1 (.slice none 0 0)
  have q0:=bk3.bx 0 _ rfl
  have q1:=bk3.bx 1 _ rfl
  refine bodyPost_ret (v:=.tuple #[.agg #[.slice none 0 0,.slice none 0 0],.bool false]) (by simp [results,Tryz.results153,go_sem,q0,q1]) rfl ?_
  rw [HE.out]
  exact⟨[.slice none 0 0,.slice none 0 0],[],rfl,zStream_own _,Fr.nil _,bset2 hB (by omega) _ _⟩
 have HE:Hid (hashJoin x y=capS (unionI x.fVars y.fVars) (nestRows (fun q p=>joinBy x y p q) y.fRows x.fRows)):=by show _=_;simp [hashJoin,e1,e2]
 obtain⟨px1,px2,px3⟩:=validStream_parts e1
 obtain⟨py1,py2,py3⟩:=validStream_parts e2
 have HM:=Lib.hid (union_iff px1 py1)
 have PX:=Lib.hid px2
 have PY:=Lib.hid py2
 clear e1 e2 px2 py2
 rw [HLX.out]at px3
 rw [HLY.out]at py3
 have kx_0:=bxx 0 _ rfl
 have kx_1:=bxx 1 _ rfl
 have ky_0:=bxy 0 _ rfl
 have ky_1:=bxy 1 _ rfl
 have RX:=(hxRows.below (rSlice_ok NB _ rInt_ok) hB)
 have RY:=(hyRows.below (rSlice_ok NB _ rInt_ok) hB)
 have RVx:=(hxVars.below rInt_ok hB)
 have RVy:=(hyVars.below rInt_ok hB)
 go_wp2_with fail
 refine(iNewJoiner_c _ _ _ _ _ _ _ _ _ _ _ _ x.fVars y.fVars _ RVx RVy px1 py1).mono ?_
 rintro e w3 ⟨g,AV,nV,cV,rfl,hkJ,hgB,⟨fpV,oV,frV⟩,hVg,hb3⟩
 obtain rfl:fpV=blk AV:=(osInt.1 oV).1
 obtain⟨v2,hv2⟩:∃ v,v=Value.slice AxRows nxRows cxRows:=⟨_,rfl⟩
 obtain⟨v4,hv4⟩:∃ v,v=Value.slice AyRows nyRows cyRows:=⟨_,rfl⟩
 rw [<- hv2,<- hv4]at hkJ
 clear hv2 hv4
 have hJ:Jn w2 w3 g [.slice AxVars nxVars cxVars,v2,.slice AyVars nyVars cyVars,v4] (unionI x.fVars y.fVars) [] w3:=⟨⟨AV,nV,cV,none,0,0,hkJ,oV,fun q hq=>⟨frV.ge q hq,oV.lt rInt_ok q hq,hVg q hq⟩,MS.nil _ (Nat.zero_le _)⟩,hgB,hkJ.lt,hb3,Nat.le_refl _⟩
 clear hkJ oV frV hVg px1 py1
 have ky_1:=(bxy.below hb3) 1 _ rfl
 go_wp2_with fail
 go_loopw [26] (fun i wr=>∃ k:Nat,k<=nyRows/\i=.int .i64 k/\(nestRows (fun q p=>joinBy x y p q) (y.fRows.take k) x.fRows).length<=4096/\Jn w2 w3 g [.slice AxVars nxVars cxVars,v2,.slice AyVars nyVars cyVars,v4] (unionI x.fVars y.fVars) (nestRows (fun q p=>joinBy x y p q) (y.fRows.take k) x.fRows) wr) (fun i _=>nyRows - (intOf i).toNat)
 case atStart=>exact⟨0,Nat.zero_le _,rfl,Nat.zero_le _,hJ⟩
 case round =>
  clear hJ ky_1
  obtain⟨k,hk,rfl,hle,hJ⟩:=hrel
  have hE:=hJ.b0
  by_cases hlt:k<nyRows
  ·obtain⟨b1,o1,q,Aq,nq,cq,e0,hc,hrq,hq⟩:=RY.row hlt
   subst e0
   replace hc:=cells_below hE _ _ hc
   have kx_1:=(bxx.below hE) 1 _ rfl
   have HS:=Lib.hid (nest_snoc (f:=(fun q p=>joinBy x y p q)) (ys:=x.fRows) hq.out)
   have lq:nq=nyVars:=by rw [<- hrq.len,rowOk_len (PY.out _ (mem_of_at hq.out)),RVy.len]
   have Lq:=Lib.hid lq;clear lq
   go_wp2
   go_loopw [33] (fun i wr2=>∃ j:Nat,j<=nxRows/\i=.int .i64 j/\Jn w2 w3 g [.slice AxVars nxVars cxVars,v2,.slice AyVars nyVars cyVars,v4] (unionI x.fVars y.fVars) (nestRows (fun q p=>joinBy x y p q) (y.fRows.take k) x.fRows++(x.fRows.take j).filterMap ((fun q p=>joinBy x y p q) q)) wr2) (fun i _=>nxRows - (intOf i).toNat)
   case atStart=>exact⟨0,Nat.zero_le _,rfl,by simpa using hJ⟩
   case round =>
    clear hJ hE hc
    obtain⟨j,hj,rfl,hJ⟩:=hrel
    have hE:=hJ.b0
    by_cases hlt2:j<nxRows
    ·obtain⟨b2,o2,p,Ap,np,cp,e0,hc,hrp,hp⟩:=RX.row hlt2
     subst e0
     replace hc:=cells_below hE _ _ hc
     have HS2:=Lib.hid (fmt_snoc (f:=(fun q p=>joinBy x y p q) q) (nestRows (fun q p=>joinBy x y p q) (y.fRows.take k) x.fRows) hp.out)
     have lp:np=nxVars:=by rw [<- hrp.len,rowOk_len (PX.out _ (mem_of_at hp.out)),RVx.len]
     have Lp:=Lib.hid lp;clear lp
     have hbd:(nestRows (fun q p=>joinBy x y p q) (y.fRows.take k) x.fRows++(x.fRows.take j).filterMap ((fun q p=>joinBy x y p q) q)).length<=100000:=by
      have h1:=fm_le ((fun q p=>joinBy x y p q) q) (x.fRows.take j)
      have h2:(x.fRows.take j).length<=j:=List.length_take_le _ _
      rw [List.length_append];omega
     go_wp2_with fail
     refine(iPair_c g w2 w3 _ _ _ _ _ _ _ _ _ _ _ _ _ _ _ x.fVars y.fVars p q _ _ hJ RVx RVy hrp hrq HM.out Lp.out Lq.out hbd).mono ?_
     rintro e w4 ⟨rfl,hJ4⟩
     go_wp2
     go_roundw
     case rel=>exact⟨j+1,by omega,by go_num,by rw [HS2.out];exact hJ4⟩
     case measure=>simp [intOf];omega
    ·have hje:x.fRows.take j=x.fRows:=take_all HLX.out hlt2
     rw [hje,<- HS.out]at hJ
     clear hje
     obtain⟨AV1,nV1,cV1,AR1,nR1,cR1,hkj,_,_,hRR⟩:=hJ.ex
     have hkl:=hkj.lt
     have k5:=hkj.bx 5 _ rfl
     have hRl:=Lib.hid hRR.len
     clear hRR hkj
     by_cases h4:(4096:Int)<nR1
     ·have HF:Hid (hashJoin x y=capS (unionI x.fVars y.fVars) (nestRows (fun q p=>joinBy x y p q) (y.fRows.take (k+1)) x.fRows)):=by
       show _=_
       have hbig:¬ (nestRows (fun q p=>joinBy x y p q) (y.fRows.take (k+1)) x.fRows).length<=4096:=by rw [hRl.out];omega
       rw [HE.out];exact capS_full (rows_len _ _ _ k _ hq.out hbig) hbig
      go_wp2_with fail
      refine(iResult_c g w2 w3 _ _ _ _ _ _ _ hJ).mono ?_
      rintro e w5 ⟨cs5,fp5,rfl,o5,fr5,hb5⟩
      obtain⟨B1,m1,d1,B2,m2,d2,f1,f2,rfl,rfl,oL,oH⟩:=rStream_own.1 o5
      have bkR5:=bkR.below hb5
      have rf0:=bkR5.frozen 0
      have rf1:=bkR5.frozen 1
      have rc0:=bkR5.bx 0 _ rfl
      have rc1:=bkR5.bx 1 _ rfl
      have rl:=bkR5.lt
      go_wp2
      have bk3:=(bkR5.set 0 (.slice B1 m1 d1)).set 1 (.slice B2 m2 d2)
      have q0:=bk3.bx 0 _ rfl
      have q1:=bk3.bx 1 _ rfl
      refine bodyPost_ret (v:=.tuple #[.agg #[.slice B1 m1 d1,.slice B2 m2 d2],.bool (hashJoin x y).2]) (by simp [results,Tryz.results153,go_sem,q0,q1,HF.out]) rfl ?_
      have hYl:=bkR.lt
      rw [HF.out]
      refine⟨_,f1++f2,rfl,(rStream_ok NB).okeep o5 (fun z hz=>?_),⟨fr5.nd,fun z hz=>Nat.le_trans hB.size (fr5.ge z hz)⟩,bset2 (hB.trans (hb5.mono hB.size)) (by omega) _ _⟩
      have:=fr5.ge z hz
      exact(heap_setCell_other _ ⟨w.heap.size+1+1,1,none⟩ z _ (fun e=>by simp only at e;omega)).trans (heap_setCell_other _ ⟨w.heap.size+1+1,0,none⟩ z _ (fun e=>by simp only at e;omega))
     ·go_wp2
      go_roundw
      case rel=>exact⟨k+1,by omega,by go_num,by rw [hRl.out];omega,hJ⟩
      case measure=>simp [intOf];omega
  ·have HF:Hid (hashJoin x y=capS (unionI x.fVars y.fVars) (nestRows (fun q p=>joinBy x y p q) (y.fRows.take k) x.fRows)):=by
    show _=_
    rw [HE.out,take_all HLY.out hlt]
   go_wp2_with fail
   refine(iResult_c g w2 w3 _ _ _ _ _ _ _ hJ).mono ?_
   rintro e w5 ⟨cs5,fp5,rfl,o5,fr5,hb5⟩
   obtain⟨B1,m1,d1,B2,m2,d2,f1,f2,rfl,rfl,oL,oH⟩:=rStream_own.1 o5
   have bkR5:=bkR.below hb5
   have rf0:=bkR5.frozen 0
   have rf1:=bkR5.frozen 1
   have rc0:=bkR5.bx 0 _ rfl
   have rc1:=bkR5.bx 1 _ rfl
   have rl:=bkR5.lt
   go_wp2
   have bk3:=(bkR5.set 0 (.slice B1 m1 d1)).set 1 (.slice B2 m2 d2)
   have q0:=bk3.bx 0 _ rfl
   have q1:=bk3.bx 1 _ rfl
   refine bodyPost_ret (v:=.tuple #[.agg #[.slice B1 m1 d1,.slice B2 m2 d2],.bool (hashJoin x y).2]) (by simp [results,Tryz.results153,go_sem,q0,q1,HF.out]) rfl ?_
   have hYl:=bkR.lt
   rw [HF.out]
   refine⟨_,f1++f2,rfl,(rStream_ok NB).okeep o5 (fun z hz=>?_),⟨fr5.nd,fun z hz=>Nat.le_trans hB.size (fr5.ge z hz)⟩,bset2 (hB.trans (hb5.mono hB.size)) (by omega) _ _⟩
   have:=fr5.ge z hz
   exact(heap_setCell_other _ ⟨w.heap.size+1+1,1,none⟩ z _ (fun e=>by simp only at e;omega)).trans (heap_setCell_other _ ⟨w.heap.size+1+1,0,none⟩ z _ (fun e=>by simp only at e;omega))
set_option maxRecDepth 100000 in
set_option maxHeartbeats 1600000 in
theorem iNestedJoin_c (csx:List Value) (x:StreamD) (csy:List Value) (y:StreamD) (w:World) (hx:(rStream NB).rep w csx x) (hy:(rStream NB).rep w csy y) :
  Calls Tryz.prog 155 #[.agg csx.toArray,.agg csy.toArray] w (RetVB (rStream NB) (nestedJoin x y).1 (.bool (nestedJoin x y).2) w):=by
 have rx:=hx
 obtain⟨AxVars,nxVars,cxVars,AxRows,nxRows,cxRows,rfl,hxVars,hxRows⟩:=rStream_rep.1 hx
 clear hx
 have ry:=hy
 obtain⟨AyVars,nyVars,cyVars,AyRows,nyRows,cyRows,rfl,hyVars,hyRows⟩:=rStream_rep.1 hy
 clear hy
 have hB:Below w.heap.size w w:=Below.refl _ _
 have hAx:=(Below.refl (World.heap (w)).size (w)).alloc (Nat.le_refl _) (.cells #[.slice AxVars nxVars cxVars,.slice AxRows nxRows cxRows] 35)
 replace hB:=hB.trans (hAx.mono hB.size)
 have bxx:=Bx.new (w) [.slice AxVars nxVars cxVars,.slice AxRows nxRows cxRows] 35
 clear hAx
 have hAy:=(Below.refl (World.heap ((w).alloc (.cells #[.slice AxVars nxVars cxVars,.slice AxRows nxRows cxRows] 35))).size ((w).alloc (.cells #[.slice AxVars nxVars cxVars,.slice AxRows nxRows cxRows] 35))).alloc (Nat.le_refl _) (.cells #[.slice AyVars nyVars cyVars,.slice AyRows nyRows cyRows] 35)
 replace hB:=hB.trans (hAy.mono hB.size)
 replace bxx:=bxx.below hAy
 have bxy:=Bx.new ((w).alloc (.cells #[.slice AxVars nxVars cxVars,.slice AxRows nxRows cxRows] 35)) [.slice AyVars nyVars cyVars,.slice AyRows nyRows cyRows] 35
 simp only [World.size_alloc]at bxy
 clear hAy
 have hnx:=hxRows.bound
 have hny:=hyRows.bound
 have HLX:=Lib.hid hxRows.len
 have HLY:=Lib.hid hyRows.len
 obtain⟨wa,hwa⟩:∃ wa,wa=(w.alloc (.cells #[.slice AxVars nxVars cxVars,.slice AxRows nxRows cxRows] 35)).alloc (.cells #[.slice AyVars nyVars cyVars,.slice AyRows nyRows cyRows] 35):=⟨_,rfl⟩
 rw [<- hwa]at hB bxx bxy
 have hsa:wa.heap.size=w.heap.size+1+1:=by rw [hwa];simp
 have hBA:=(Below.refl wa.heap.size wa).alloc (Nat.le_refl _) (.cells #[.slice none 0 0,.slice none 0 0] 35)
 have bkR:=Bk.new wa [.slice none 0 0,.slice none 0 0] 35
 replace hB:=hB.trans (hBA.mono hB.size)
 replace bxx:=bxx.below hBA
 replace bxy:=bxy.below hBA
 clear hBA
 rw [hwa]at hB bxx bxy bkR hsa
 have HSA:=Lib.hid hsa;clear hsa
 simp only [World.size_alloc]at bkR
 clear hwa
 go_enter Tryz.func155,Tryz.ntmps155
 go_wp2_with fail
 refine(iIsValidStream_c _ x _ ((rStream_ok NB).keep rx (cells_below hB))).mono ?_
 rintro e w1 ⟨rfl,hb1⟩
 replace hB:=hB.trans (hb1.mono hB.size)
 replace bxx:=bxx.below hb1
 replace bxy:=bxy.below hb1
 replace bkR:=bkR.below hb1
 clear hb1
 cases e1:validStream x
 ·have rf0:=bkR.frozen 0
  have rf1:=bkR.frozen 1
  have rc0:=bkR.bx 0 _ rfl
  have rc1:=bkR.bx 1 _ rfl
  have rl:=bkR.lt
  have he:nestedJoin x y=(⟨[],[]⟩,false):=by simp [nestedJoin,e1]
  have HE:=Lib.hid he;clear he
  go_wp2
  have bk3:=(bkR.set 0 (.slice none 0 0)).set 1 (.slice none 0 0)
  have q0:=bk3.bx 0 _ rfl
  have q1:=bk3.bx 1 _ rfl
  refine bodyPost_ret (v:=.tuple #[.agg #[.slice none 0 0,.slice none 0 0],.bool false]) (by simp [results,Tryz.results155,go_sem,q0,q1]) rfl ?_
  rw [HE.out]
  exact⟨[.slice none 0 0,.slice none 0 0],[],rfl,zStream_own _,Fr.nil _,bset2 hB (by omega) _ _⟩
 have ky_0:=bxy 0 _ rfl
 have ky_1:=bxy 1 _ rfl
 go_wp2_with fail
 refine(iIsValidStream_c _ y _ ((rStream_ok NB).keep ry (cells_below hB))).mono ?_
 rintro e w2 ⟨rfl,hb2⟩
 replace hB:=hB.trans (hb2.mono hB.size)
 replace bxx:=bxx.below hb2
 replace bxy:=bxy.below hb2
 replace bkR:=bkR.below hb2
 clear hb2 ky_0 ky_1
 cases e2:validStream y
 ·have rf0:=bkR.frozen 0
  have rf1:=bkR.frozen 1
  have rc0:=bkR.bx 0 _ rfl
  have rc1:=bkR.bx 1 _ rfl
  have rl:=bkR.lt
  have he:nestedJoin x y=(⟨[],[]⟩,false):=by simp [nestedJoin,e2]
  have HE:=Lib.hid he;clear he
  go_wp2
  have bk3:=(bkR.set 0 (.slice none 0 0)).set 1 (.slice none 0 0)
  have q0:=bk3.bx 0 _ rfl
  have q1:=bk3.bx 1 _ rfl
  refine bodyPost_ret (v:=.tuple #[.agg #[.slice none 0 0,.slice none 0 0],.bool false]) (by simp [results,Tryz.results155,go_sem,q0,q1]) rfl ?_
  rw [HE.out]
  exact⟨[.slice none 0 0,.slice none 0 0],[],rfl,zStream_own _,Fr.nil _,bset2 hB (by omega) _ _⟩
 have HE:Hid (nestedJoin x y=capS (unionI x.fVars y.fVars) (nestRows (fun p q=>joinBy x y p q) x.fRows y.fRows)):=by show _=_;simp [nestedJoin,e1,e2]
 obtain⟨px1,px2,px3⟩:=validStream_parts e1
 obtain⟨py1,py2,py3⟩:=validStream_parts e2
 have HM:=Lib.hid (union_iff px1 py1)
 have PX:=Lib.hid px2
 have PY:=Lib.hid py2
 clear e1 e2 px2 py2
 rw [HLX.out]at px3
 rw [HLY.out]at py3
 have kx_0:=bxx 0 _ rfl
 have kx_1:=bxx 1 _ rfl
 have ky_0:=bxy 0 _ rfl
 have ky_1:=bxy 1 _ rfl
 have RX:=(hxRows.below (rSlice_ok NB _ rInt_ok) hB)
 have RY:=(hyRows.below (rSlice_ok NB _ rInt_ok) hB)
 have RVx:=(hxVars.below rInt_ok hB)
 have RVy:=(hyVars.below rInt_ok hB)
 go_wp2_with fail
 refine(iNewJoiner_c _ _ _ _ _ _ _ _ _ _ _ _ x.fVars y.fVars _ RVx RVy px1 py1).mono ?_
 rintro e w3 ⟨g,AV,nV,cV,rfl,hkJ,hgB,⟨fpV,oV,frV⟩,hVg,hb3⟩
 obtain rfl:fpV=blk AV:=(osInt.1 oV).1
 obtain⟨v2,hv2⟩:∃ v,v=Value.slice AxRows nxRows cxRows:=⟨_,rfl⟩
 obtain⟨v4,hv4⟩:∃ v,v=Value.slice AyRows nyRows cyRows:=⟨_,rfl⟩
 rw [<- hv2,<- hv4]at hkJ
 clear hv2 hv4
 have hJ:Jn w2 w3 g [.slice AxVars nxVars cxVars,v2,.slice AyVars nyVars cyVars,v4] (unionI x.fVars y.fVars) [] w3:=⟨⟨AV,nV,cV,none,0,0,hkJ,oV,fun q hq=>⟨frV.ge q hq,oV.lt rInt_ok q hq,hVg q hq⟩,MS.nil _ (Nat.zero_le _)⟩,hgB,hkJ.lt,hb3,Nat.le_refl _⟩
 clear hkJ oV frV hVg px1 py1
 have kx_1:=(bxx.below hb3) 1 _ rfl
 go_wp2_with fail
 go_loopw [26] (fun i wr=>∃ k:Nat,k<=nxRows/\i=.int .i64 k/\(nestRows (fun p q=>joinBy x y p q) (x.fRows.take k) y.fRows).length<=4096/\Jn w2 w3 g [.slice AxVars nxVars cxVars,v2,.slice AyVars nyVars cyVars,v4] (unionI x.fVars y.fVars) (nestRows (fun p q=>joinBy x y p q) (x.fRows.take k) y.fRows) wr) (fun i _=>nxRows - (intOf i).toNat)
 case atStart=>exact⟨0,Nat.zero_le _,rfl,Nat.zero_le _,hJ⟩
 case round =>
  clear hJ kx_1
  obtain⟨k,hk,rfl,hle,hJ⟩:=hrel
  have hE:=hJ.b0
  by_cases hlt:k<nxRows
  ·obtain⟨b1,o1,p,Ap,np,cp,e0,hc,hrp,hp⟩:=RX.row hlt
   subst e0
   replace hc:=cells_below hE _ _ hc
   have ky_1:=(bxy.below hE) 1 _ rfl
   have HS:=Lib.hid (nest_snoc (f:=(fun p q=>joinBy x y p q)) (ys:=y.fRows) hp.out)
   have lp:np=nxVars:=by rw [<- hrp.len,rowOk_len (PX.out _ (mem_of_at hp.out)),RVx.len]
   have Lp:=Lib.hid lp;clear lp
   go_wp2
   go_loopw [33] (fun i wr2=>∃ j:Nat,j<=nyRows/\i=.int .i64 j/\Jn w2 w3 g [.slice AxVars nxVars cxVars,v2,.slice AyVars nyVars cyVars,v4] (unionI x.fVars y.fVars) (nestRows (fun p q=>joinBy x y p q) (x.fRows.take k) y.fRows++(y.fRows.take j).filterMap ((fun p q=>joinBy x y p q) p)) wr2) (fun i _=>nyRows - (intOf i).toNat)
   case atStart=>exact⟨0,Nat.zero_le _,rfl,by simpa using hJ⟩
   case round =>
    clear hJ hE hc
    obtain⟨j,hj,rfl,hJ⟩:=hrel
    have hE:=hJ.b0
    by_cases hlt2:j<nyRows
    ·obtain⟨b2,o2,q,Aq,nq,cq,e0,hc,hrq,hq⟩:=RY.row hlt2
     subst e0
     replace hc:=cells_below hE _ _ hc
     have HS2:=Lib.hid (fmt_snoc (f:=(fun p q=>joinBy x y p q) p) (nestRows (fun p q=>joinBy x y p q) (x.fRows.take k) y.fRows) hq.out)
     have lq:nq=nyVars:=by rw [<- hrq.len,rowOk_len (PY.out _ (mem_of_at hq.out)),RVy.len]
     have Lq:=Lib.hid lq;clear lq
     have hbd:(nestRows (fun p q=>joinBy x y p q) (x.fRows.take k) y.fRows++(y.fRows.take j).filterMap ((fun p q=>joinBy x y p q) p)).length<=100000:=by
      have h1:=fm_le ((fun p q=>joinBy x y p q) p) (y.fRows.take j)
      have h2:(y.fRows.take j).length<=j:=List.length_take_le _ _
      rw [List.length_append];omega
     go_wp2_with fail
     refine(iPair_c g w2 w3 _ _ _ _ _ _ _ _ _ _ _ _ _ _ _ x.fVars y.fVars p q _ _ hJ RVx RVy hrp hrq HM.out Lp.out Lq.out hbd).mono ?_
     rintro e w4 ⟨rfl,hJ4⟩
     go_wp2
     go_roundw
     case rel=>exact⟨j+1,by omega,by go_num,by rw [HS2.out];exact hJ4⟩
     case measure=>simp [intOf];omega
    ·have hje:y.fRows.take j=y.fRows:=take_all HLY.out hlt2
     rw [hje,<- HS.out]at hJ
     clear hje
     obtain⟨AV1,nV1,cV1,AR1,nR1,cR1,hkj,_,_,hRR⟩:=hJ.ex
     have hkl:=hkj.lt
     have k5:=hkj.bx 5 _ rfl
     have hRl:=Lib.hid hRR.len
     clear hRR hkj
     by_cases h4:(4096:Int)<nR1
     ·have HF:Hid (nestedJoin x y=capS (unionI x.fVars y.fVars) (nestRows (fun p q=>joinBy x y p q) (x.fRows.take (k+1)) y.fRows)):=by
       show _=_
       have hbig:¬ (nestRows (fun p q=>joinBy x y p q) (x.fRows.take (k+1)) y.fRows).length<=4096:=by rw [hRl.out];omega
       rw [HE.out];exact capS_full (rows_len _ _ _ k _ hp.out hbig) hbig
      go_wp2_with fail
      refine(iResult_c g w2 w3 _ _ _ _ _ _ _ hJ).mono ?_
      rintro e w5 ⟨cs5,fp5,rfl,o5,fr5,hb5⟩
      obtain⟨B1,m1,d1,B2,m2,d2,f1,f2,rfl,rfl,oL,oH⟩:=rStream_own.1 o5
      have bkR5:=bkR.below hb5
      have rf0:=bkR5.frozen 0
      have rf1:=bkR5.frozen 1
      have rc0:=bkR5.bx 0 _ rfl
      have rc1:=bkR5.bx 1 _ rfl
      have rl:=bkR5.lt
      go_wp2
      have bk3:=(bkR5.set 0 (.slice B1 m1 d1)).set 1 (.slice B2 m2 d2)
      have q0:=bk3.bx 0 _ rfl
      have q1:=bk3.bx 1 _ rfl
      refine bodyPost_ret (v:=.tuple #[.agg #[.slice B1 m1 d1,.slice B2 m2 d2],.bool (nestedJoin x y).2]) (by simp [results,Tryz.results155,go_sem,q0,q1,HF.out]) rfl ?_
      have hYl:=bkR.lt
      rw [HF.out]
      refine⟨_,f1++f2,rfl,(rStream_ok NB).okeep o5 (fun z hz=>?_),⟨fr5.nd,fun z hz=>Nat.le_trans hB.size (fr5.ge z hz)⟩,bset2 (hB.trans (hb5.mono hB.size)) (by omega) _ _⟩
      have:=fr5.ge z hz
      exact(heap_setCell_other _ ⟨w.heap.size+1+1,1,none⟩ z _ (fun e=>by simp only at e;omega)).trans (heap_setCell_other _ ⟨w.heap.size+1+1,0,none⟩ z _ (fun e=>by simp only at e;omega))
     ·go_wp2
      go_roundw
      case rel=>exact⟨k+1,by omega,by go_num,by rw [hRl.out];omega,hJ⟩
      case measure=>simp [intOf];omega
  ·have HF:Hid (nestedJoin x y=capS (unionI x.fVars y.fVars) (nestRows (fun p q=>joinBy x y p q) (x.fRows.take k) y.fRows)):=by
    show _=_
    rw [HE.out,take_all HLX.out hlt]
   go_wp2_with fail
   refine(iResult_c g w2 w3 _ _ _ _ _ _ _ hJ).mono ?_
   rintro e w5 ⟨cs5,fp5,rfl,o5,fr5,hb5⟩
   obtain⟨B1,m1,d1,B2,m2,d2,f1,f2,rfl,rfl,oL,oH⟩:=rStream_own.1 o5
   have bkR5:=bkR.below hb5
   have rf0:=bkR5.frozen 0
   have rf1:=bkR5.frozen 1
   have rc0:=bkR5.bx 0 _ rfl
   have rc1:=bkR5.bx 1 _ rfl
   have rl:=bkR5.lt
   go_wp2
   have bk3:=(bkR5.set 0 (.slice B1 m1 d1)).set 1 (.slice B2 m2 d2)
   have q0:=bk3.bx 0 _ rfl
   have q1:=bk3.bx 1 _ rfl
   refine bodyPost_ret (v:=.tuple #[.agg #[.slice B1 m1 d1,.slice B2 m2 d2],.bool (nestedJoin x y).2]) (by simp [results,Tryz.results155,go_sem,q0,q1,HF.out]) rfl ?_
   have hYl:=bkR.lt
   rw [HF.out]
   refine⟨_,f1++f2,rfl,(rStream_ok NB).okeep o5 (fun z hz=>?_),⟨fr5.nd,fun z hz=>Nat.le_trans hB.size (fr5.ge z hz)⟩,bset2 (hB.trans (hb5.mono hB.size)) (by omega) _ _⟩
   have:=fr5.ge z hz
   exact(heap_setCell_other _ ⟨w.heap.size+1+1,1,none⟩ z _ (fun e=>by simp only at e;omega)).trans (heap_setCell_other _ ⟨w.heap.size+1+1,0,none⟩ z _ (fun e=>by simp only at e;omega))
end Go.Proofs.YtpodldagcnfhlaaGreat
