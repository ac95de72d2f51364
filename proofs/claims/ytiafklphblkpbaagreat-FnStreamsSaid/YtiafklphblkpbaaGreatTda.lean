/-
  Tda
-/
import Derived.Test.YtiafklphblkpbaaGreatTdb
import Derived.Test.YtiafklphblkpbaaGreatUpd
import Derived.Test.YtiafklphblkpbaaGreatPqs
import Derived.Test.YtiafklphblkpbaaGreatKeep
namespace Go.Proofs.YtiafklphblkpbaaGreat
open Go.RowKit
set_option linter.unusedVariables false
set_option linter.unusedSimpArgs false
theorem neTR:(24:TypeId)≠82:=by decide
theorem neTN:(3:TypeId)≠82:=by decide
theorem tab_fin {w W:World}{g:Nat}{nm:ByteArray}{ar:Int}{A:Option Addr}{n c:Nat}{R:List (List Int)}(hg:g<w.heap.size) (m:MS (w.heap.size+1) NB 24 (rSlice NB 3 rInt) W A n c R) (hn:n<=9) (hs:nm.size<=NB) (hv:I64 ar) (cu:Cur W g) (hc:Chg [g] w W) (x y z:Value) :
  DrawnV (rTable NB) (fun t=>t.fRows.length<=9) g w (.returned (.agg #[.string nm,.int .i64 ar,.slice A n c])) (set3 W w.heap.size x y z):=by
 have hl:=m.len
 obtain⟨fp,o,f⟩:=m
 have ho:(rTable NB).own W fp [.string nm,.int .i64 ar,.slice A n c] ⟨nm,ar,R⟩:=rTable_own.2 ⟨A,n,c,fp,rfl,rfl,hs,hv,o⟩
 exact⟨⟨nm,ar,R⟩,_,fp,rfl,own_set3 (rTable_ok NB) ho f x y z,f.mono (by omega),by show R.length<=9;omega,cu.low hg (bls3 (Below.refl _ _) (Nat.le_refl _) _ _ _),chgS hc (bls3 (Below.refl _ _) (Nat.le_refl _) _ _ _) (Nat.le_refl _)⟩
/-- a table's rows, behind a store into its box -/
theorem rows_box {W:World}{gt B:Nat}{x y z:Value}{A:Option Addr}{n c:Nat}{R:List (List Int)}(k:Bk W gt 82 [x,y,z]) (m:MS B NB 24 (rSlice NB 3 rInt) W A n c R) (j:Nat) (v:Value):MS B NB 24 (rSlice NB 3 rInt) (W.setCell ⟨gt,j,none⟩ v) A n c R:=by
 obtain⟨fp,o,f⟩:=m
 have hn:=(o.nt (rSlice_nt rInt_nt neTN) neTR).ne k
 exact⟨fp,o.okeep (rSlice_ok NB _ rInt_ok) (fun q hq=>heap_setCell_other _ ⟨gt,j,none⟩ q _ (fun e=>hn (by have e2:q=gt:=e;rw [<- e2];exact hq))),f⟩
theorem rows_ne {W:World}{gt B:Nat}{x y z:Value}{A:Option Addr}{n c:Nat}{R:List (List Int)}(k:Bk W gt 82 [x,y,z]) (m:MS B NB 24 (rSlice NB 3 rInt) W A n c R):gt∉blk A:=fun h=>by
 obtain⟨fp,o,f⟩:=m
 obtain⟨_,fps,_,e,_⟩:=o.ex
 exact(o.nt (rSlice_nt rInt_nt neTN) neTR).ne k (by rw [e];exact List.mem_append_left _ h)
set_option maxRecDepth 100000 in
set_option maxHeartbeats 3200000 in
theorem l4Any_c (g:Nat) (w:World) (hc:Cur w g):Calls Tryz.prog 113 #[.pointer (some ⟨g,0,none⟩)] w (DrawnV (rTable NB) (fun t=>t.fRows.length<=9) g w):=by
 have hgw:=hc.lt
 obtain⟨w1,hw1⟩:∃ W,W=w.alloc (.cells #[.string ⟨#[]⟩,.int .i64 0,.slice none 0 0] 82):=⟨_,rfl⟩
 have hs1:w1.heap.size=w.heap.size+1:=by rw [hw1];simp
 have b1:Below w.heap.size w w1:=by rw [hw1];exact(Below.refl _ _).alloc (Nat.le_refl _) _
 have kR:Bk w1 w.heap.size 82 [.string ⟨#[]⟩,.int .i64 0,.slice none 0 0]:=by rw [hw1];exact Bk.new w _ _
 have cu1:=hc.below b1
 have C1:Chg [g] w w1:=Chg.ofBelow b1 _
 have HW1:=Lib.hid hw1
 have HS1:=Lib.hid hs1
 clear b1 hw1 hs1
 go_enter Tryz.func113,Tryz.ntmps113
 go_upto_region 1 with fail
 rw [<- HW1.out]
 go_wp2_with fail
 refine(l1Pick_c g _ 3 3 [⟨#[114]⟩,⟨#[115]⟩,⟨#[116]⟩] _ (RS.litS w1 [⟨#[114]⟩,⟨#[115]⟩,⟨#[116]⟩] _ (by decide) (by decide)) cu1.ne (by omega) (cu1.alloc _)).mono ?_
 rintro e w2 ⟨nm,rfl,hnm,cu2,ch2⟩
 have hnz:nm.size<=NB:=by simp at hnm;rcases hnm with rfl|rfl|rfl<;>decide
 replace ch2:=ch2.al
 go_wp2_with fail
 refine(l1Below_c g 3 _ (by omega) cu2).mono ?_
 rintro e w3 ⟨x,rfl,⟨hx0,_,hx1⟩,cu3,ch3⟩
 have hx2:=hx1 (by omega)
 obtain⟨x,rfl⟩:∃ j:Nat,x=j:=⟨x.toNat,by omega⟩
 have har:(1+(x:Int))=((1+x:Nat):Int):=by omega
 have HAR:=Lib.hid har
 have C3:=(C1.trans ch2).trans ch3
 have kR3:Bk w3 w.heap.size 82 [.string ⟨#[]⟩,.int .i64 0,.slice none 0 0]:=((ch2.trans ch3).block _ kR.lt (by simp;omega)).trans kR
 have hs3:w.heap.size+1<=w3.heap.size:=by have:=ch2.size;have:=ch3.size;have:=HS1.out;omega
 clear har hx1 cu1 C1 kR ch2 ch3 cu2 hnm
 go_wp2_with fail
 have CT:=l4Tab_c g nm (1+x) 6 4 w3 cu3 hnz (by omega) (by omega) (by omega) (by omega)
 rw [<- HAR.out]at CT
 refine CT.mono ?_
 clear CT
 rintro e w4 ⟨t,cs,fp,rfl,oT,fT,hl,cu4,ch4⟩
 obtain⟨A,n,c,_,rfl,rfl,hts,hta,oR⟩:=rTable_own.1 oT
 have hln:=oR.len
 have hn8:n<=8:=by omega
 obtain⟨gt,hgt⟩:∃ z,z=w4.heap.size:=⟨_,rfl⟩
 obtain⟨w5,hw5⟩:∃ W,W=w4.alloc (.cells #[.string t.fName,.int .i64 t.fArity,.slice A n c] 82):=⟨_,rfl⟩
 have b5:Below w4.heap.size w4 w5:=by rw [hw5];exact(Below.refl _ _).alloc (Nat.le_refl _) _
 have kt:Bk w5 gt 82 [.string t.fName,.int .i64 t.fArity,.slice A n c]:=by rw [hw5,hgt];exact Bk.new w4 _ _
 have kR5:Bk w5 w.heap.size 82 [.string ⟨#[]⟩,.int .i64 0,.slice none 0 0]:=Bk.below ((ch4.block _ kR3.lt (by simp;omega)).trans kR3) b5
 have mR:MS (w.heap.size+1) NB 24 (rSlice NB 3 rInt) w5 A n c t.fRows:=⟨fp,oR.belowS (rSlice_ok NB _ rInt_ok) b5,fT.mono (by omega)⟩
 have cu5:=cu4.below b5
 have C5:=(C3.trans ch4).trans (Chg.ofBelow b5 _)
 have hgtw:w.heap.size+1<=gt:=by have:=ch4.size;omega
 have HGT:=Lib.hid hgt
 have HW5:=Lib.hid hw5
 clear oT fT oR hl hln cu4 ch4 b5 kR3 C3 cu3 hgt hw5 HAR
 go_upto_region 2 with fail
 rw [<- HGT.out,<- HW5.out]
 clear HGT HW5
 go_wp2_with fail
 refine(l1Below_c g 12 _ (by omega) cu5).mono ?_
 rintro e w6 ⟨y,rfl,_,cu6,ch6⟩
 have kt6:Bk w6 gt 82 [.string t.fName,.int .i64 t.fArity,.slice A n c]:=(ch6.block _ kt.lt (by simp;omega)).trans kt
 have kR6:Bk w6 w.heap.size 82 [.string ⟨#[]⟩,.int .i64 0,.slice none 0 0]:=(ch6.block _ kR5.lt (by simp;omega)).trans kR5
 have mR6:=Stb.lowM mR (rSlice_ok NB _ rInt_ok) ch6 (fun k hk=>by simp;omega)
 have C6:=C5.trans ch6
 have hgv:g<gt:=by omega
 have hg1:g<w.heap.size+1:=by omega
 have hgt6:=kt6.lt
 clear kt kR5 mR C5 cu5 ch6
 by_cases e0:y=0
 ·have d0:(y==0)=true:=by simp [e0]
  subst e0
  go_wp2_with fail
  refine(l1Pick_c g _ 4 4 [⟨#[]⟩,⟨#[82]⟩,⟨#[114,115]⟩,⟨#[122]⟩] _ (RS.litS w6 [⟨#[]⟩,⟨#[82]⟩,⟨#[114,115]⟩,⟨#[122]⟩] _ (by decide) (by decide)) cu6.ne (by omega) (cu6.alloc _)).mono ?_
  rintro e w7 ⟨s,rfl,hsm,cu7,ch7⟩
  have hsz:s.size<=NB:=by simp at hsm;rcases hsm with rfl|rfl|rfl|rfl<;>decide
  replace ch7:=ch7.al
  have kt7:Bk w7 gt 82 [.string t.fName,.int .i64 t.fArity,.slice A n c]:=(ch7.block _ kt6.lt (by simp;omega)).trans kt6
  have kR7:Bk w7 w.heap.size 82 [.string ⟨#[]⟩,.int .i64 0,.slice none 0 0]:=(ch7.block _ kR6.lt (by simp;omega)).trans kR6
  have mR7:=Stb.lowM mR6 (rSlice_ok NB _ rInt_ok) ch7 (fun k hk=>by simp;omega)
  have mR8:=rows_box kt7 mR7 0 (.string s)
  have kt8:=kt7.set 0 (.string s)
  have b8:Below gt w7 (w7.setCell ⟨gt,0,none⟩ (.string s)):=(Below.refl _ _).setCell (p:=⟨gt,0,none⟩) (Nat.le_refl _) _
  have kR8:Bk (w7.setCell ⟨gt,0,none⟩ (.string s)) w.heap.size 82 [.string ⟨#[]⟩,.int .i64 0,.slice none 0 0]:=(b8.block _ (by omega)).trans kR7
  have C8:=chgS (C6.trans ch7) b8 (by omega)
  have cu8:=cu7.low hgv b8
  have t0:=kt7.bx 0 _ rfl
  have f0:=kt7.frozen 0
  clear hsm kR7 mR7 kt6 kR6 mR6 C6 cu6 ch7
  go_upto_region 11 with fail
  obtain⟨w8,hw8⟩:∃ W,W=w7.setCell ⟨gt,0,none⟩ (.string s):=⟨_,rfl⟩
  rw [<- hw8]at mR8 kt8 kR8 C8 cu8 ⊢
  clear hw8 b8 t0 f0 kt7
  have ⟨t0,_,t1,_,t2,_⟩:=kt8.r3
  have ⟨r0,g0,r1,g1,r2,g2⟩:=kR8.r3
  have ⟨z0,z1,z2⟩:=kR8.s3
  go_wp2
  refine bodyPost_ret (v:=.agg #[.string s,.int .i64 t.fArity,.slice A n c]) (by simp [results,Tryz.results113,go_sem,z0,z1,z2]) rfl ?_
  exact tab_fin hgw mR8 (by omega) hsz hta cu8 C8 _ _ _
 have d0:(y==0)=false:=by simp [e0]
 by_cases e1:y=1
 ·have d1:(y==1)=true:=by simp [e1]
  subst e1
  go_wp2_with fail
  refine(l1PickInt_c g _ 3 3 [0,4,-1] _ (RS.lit w6 [0,4,-1] _ (by simp) (by simp [I64])) cu6.ne (by omega) (cu6.alloc _)).mono ?_
  rintro e w7 ⟨s,rfl,hsm,cu7,ch7⟩
  have hsz:I64 s:=by unfold I64;simp at hsm;omega
  replace ch7:=ch7.al
  have kt7:Bk w7 gt 82 [.string t.fName,.int .i64 t.fArity,.slice A n c]:=(ch7.block _ kt6.lt (by simp;omega)).trans kt6
  have kR7:Bk w7 w.heap.size 82 [.string ⟨#[]⟩,.int .i64 0,.slice none 0 0]:=(ch7.block _ kR6.lt (by simp;omega)).trans kR6
  have mR7:=Stb.lowM mR6 (rSlice_ok NB _ rInt_ok) ch7 (fun k hk=>by simp;omega)
  have mR8:=rows_box kt7 mR7 1 (.int .i64 s)
  have kt8:=kt7.set 1 (.int .i64 s)
  have b8:Below gt w7 (w7.setCell ⟨gt,1,none⟩ (.int .i64 s)):=(Below.refl _ _).setCell (p:=⟨gt,1,none⟩) (Nat.le_refl _) _
  have kR8:Bk (w7.setCell ⟨gt,1,none⟩ (.int .i64 s)) w.heap.size 82 [.string ⟨#[]⟩,.int .i64 0,.slice none 0 0]:=(b8.block _ (by omega)).trans kR7
  have C8:=chgS (C6.trans ch7) b8 (by omega)
  have cu8:=cu7.low hgv b8
  have t0:=kt7.bx 1 _ rfl
  have f0:=kt7.frozen 1
  clear hsm kR7 mR7 kt6 kR6 mR6 C6 cu6 ch7
  go_upto_region 11 with fail
  obtain⟨w8,hw8⟩:∃ W,W=w7.setCell ⟨gt,1,none⟩ (.int .i64 s):=⟨_,rfl⟩
  rw [<- hw8]at mR8 kt8 kR8 C8 cu8 ⊢
  clear hw8 b8 t0 f0 kt7
  have ⟨t0,_,t1,_,t2,_⟩:=kt8.r3
  have ⟨r0,g0,r1,g1,r2,g2⟩:=kR8.r3
  have ⟨z0,z1,z2⟩:=kR8.s3
  go_wp2
  refine bodyPost_ret (v:=.agg #[.string t.fName,.int .i64 s,.slice A n c]) (by simp [results,Tryz.results113,go_sem,z0,z1,z2]) rfl ?_
  exact tab_fin hgw mR8 (by omega) hts hsz cu8 C8 _ _ _
 have d1:(y==1)=false:=by simp [e1]
 by_cases e2:y=2
 ·have d2:(y==2)=true:=by simp [e2]
  subst e2
  have hA:=(Below.refl w6.heap.size w6).alloc (Nat.le_refl _) (.cells #[.int .i64 0] 3)
  have hA2:=Below.alb hA (.cells #[.slice (some ⟨w6.heap.size,0,none⟩) 1 1] 24)
  have oI:OS NB 3 rInt (w6.alloc (.cells #[.int .i64 0] 3)) (blk (some ⟨w6.heap.size,0,none⟩)) (some ⟨w6.heap.size,0,none⟩) 1 1 [0]:=osInt.2 ⟨rfl,by unfold NB;omega,⟨by simp,.inr ⟨w6.heap.size,1,#[.int .i64 0],rfl,Nat.zero_le _,heap_alloc_new w6 _,Nat.le_refl _,by unfold maxLen;omega,by simp,by simp⟩⟩,by simp [I64]⟩
  have ho:(rSlice NB 3 rInt).own ((w6.alloc (.cells #[.int .i64 0] 3)).alloc (.cells #[.slice (some ⟨w6.heap.size,0,none⟩) 1 1] 24)) (blk (some ⟨w6.heap.size,0,none⟩)) [.slice (some ⟨w6.heap.size,0,none⟩) 1 1] [0]:=⟨_,_,_,rfl,oI.belowS rInt_ok (Below.alb (Below.refl _ _) _)⟩
  have hf:Fr w6.heap.size (blk (some ⟨w6.heap.size,0,none⟩)):=⟨by simp [blk],by simp [blk]⟩
  have hszw:w.heap.size+1<=w6.heap.size:=by omega
  have ktA:=kt6.below hA2
  have kRA:=kR6.below hA2
  have CA:=C6.trans (Chg.ofBelow hA2 _)
  have cuA:=cu6.below hA2
  have hng:=rows_ne kt6 mR6
  have t2:=kt6.bx 2 _ rfl
  clear hA oI
  go_upto_region 11 with (at_builtin;refine wpList_appB (r:=rSlice NB 3 rInt) rfl _ _ 49 rfl _ 24 eiRowS (rSlice_ok NB _ rInt_ok) rfl mR6 hA2 hszw ⟨w6.heap.size+1,0,none⟩ rfl _ _ [0] ho hf (by have h:=cells_new (w6.alloc (.cells #[.int .i64 0] 3)) 24 [.slice (some ⟨w6.heap.size,0,none⟩) 1 1];rw [World.size_alloc]at h;exact h) (by unfold NB;omega) (Nat.le_refl _) (by omega) ?_;intro A9 c9 w9 hM9 hb9 hg9 hA9;have k9:=ktA.grw hg9 hng;have f9:=k9.frozen 2;have x9:=k9.bx 2 _ rfl)
  have mR8:=rows_box k9 hM9 2 (.slice A9 (n+1) c9)
  have kt8:=k9.set 2 (.slice A9 (n+1) c9)
  have b8:Below gt w9 (w9.setCell ⟨gt,2,none⟩ (.slice A9 (n+1) c9)):=(Below.refl _ _).setCell (p:=⟨gt,2,none⟩) (Nat.le_refl _) _
  have kR8:Bk (w9.setCell ⟨gt,2,none⟩ (.slice A9 (n+1) c9)) w.heap.size 82 [.string ⟨#[]⟩,.int .i64 0,.slice none 0 0]:=(b8.block _ (by omega)).trans ((hb9.block _ (by omega)).trans kRA)
  have C8:=chgS (chgS CA hb9 (by omega)) b8 (by omega)
  have cu8:=(cuA.low hg1 hb9).low hgv b8
  obtain⟨w8,hw8⟩:∃ W,W=w9.setCell ⟨gt,2,none⟩ (.slice A9 (n+1) c9):=⟨_,rfl⟩
  rw [<- hw8]at mR8 kt8 kR8 C8 cu8 ⊢
  clear hw8 b8 f9 x9 k9 hM9 hg9 hA9 hb9 kRA ktA CA cuA ho hf hA2 t2
  have ⟨t0,_,t1,_,t2,_⟩:=kt8.r3
  have ⟨r0,g0,r1,g1,r2,g2⟩:=kR8.r3
  have ⟨z0,z1,z2⟩:=kR8.s3
  go_wp2
  refine bodyPost_ret (v:=.agg #[.string t.fName,.int .i64 t.fArity,.slice A9 (n+1) c9]) (by simp [results,Tryz.results113,go_sem,z0,z1,z2]) rfl ?_
  exact tab_fin hgw mR8 (by omega) hts hta cu8 C8 _ _ _
 have d2:(y==2)=false:=by simp [e2]
 by_cases e3:y=3
 ·have d3:(y==3)=true:=by simp [e3]
  subst e3
  have hA:=(Below.refl w6.heap.size w6).alloc (Nat.le_refl _) (.cells #[.int .i64 9,.int .i64 9,.int .i64 10] 3)
  have hA2:=Below.alb hA (.cells #[.slice (some ⟨w6.heap.size,0,none⟩) 3 3] 24)
  have oI:OS NB 3 rInt (w6.alloc (.cells #[.int .i64 9,.int .i64 9,.int .i64 10] 3)) (blk (some ⟨w6.heap.size,0,none⟩)) (some ⟨w6.heap.size,0,none⟩) 3 3 [9,9,10]:=osInt.2 ⟨rfl,by unfold NB;omega,⟨by simp,.inr ⟨w6.heap.size,3,#[.int .i64 9,.int .i64 9,.int .i64 10],rfl,Nat.zero_le _,heap_alloc_new w6 _,Nat.le_refl _,by unfold maxLen;omega,by simp,by simp⟩⟩,by simp [I64]⟩
  have ho:(rSlice NB 3 rInt).own ((w6.alloc (.cells #[.int .i64 9,.int .i64 9,.int .i64 10] 3)).alloc (.cells #[.slice (some ⟨w6.heap.size,0,none⟩) 3 3] 24)) (blk (some ⟨w6.heap.size,0,none⟩)) [.slice (some ⟨w6.heap.size,0,none⟩) 3 3] [9,9,10]:=⟨_,_,_,rfl,oI.belowS rInt_ok (Below.alb (Below.refl _ _) _)⟩
  have hf:Fr w6.heap.size (blk (some ⟨w6.heap.size,0,none⟩)):=⟨by simp [blk],by simp [blk]⟩
  have hszw:w.heap.size+1<=w6.heap.size:=by omega
  have ktA:=kt6.below hA2
  have kRA:=kR6.below hA2
  have CA:=C6.trans (Chg.ofBelow hA2 _)
  have cuA:=cu6.below hA2
  have hng:=rows_ne kt6 mR6
  have t2:=kt6.bx 2 _ rfl
  clear hA oI
  go_upto_region 11 with (at_builtin;refine wpList_appB (r:=rSlice NB 3 rInt) rfl _ _ 49 rfl _ 24 eiRowS (rSlice_ok NB _ rInt_ok) rfl mR6 hA2 hszw ⟨w6.heap.size+1,0,none⟩ rfl _ _ [9,9,10] ho hf (by have h:=cells_new (w6.alloc (.cells #[.int .i64 9,.int .i64 9,.int .i64 10] 3)) 24 [.slice (some ⟨w6.heap.size,0,none⟩) 3 3];rw [World.size_alloc]at h;exact h) (by unfold NB;omega) (Nat.le_refl _) (by omega) ?_;intro A9 c9 w9 hM9 hb9 hg9 hA9;have k9:=ktA.grw hg9 hng;have f9:=k9.frozen 2;have x9:=k9.bx 2 _ rfl)
  have mR8:=rows_box k9 hM9 2 (.slice A9 (n+1) c9)
  have kt8:=k9.set 2 (.slice A9 (n+1) c9)
  have b8:Below gt w9 (w9.setCell ⟨gt,2,none⟩ (.slice A9 (n+1) c9)):=(Below.refl _ _).setCell (p:=⟨gt,2,none⟩) (Nat.le_refl _) _
  have kR8:Bk (w9.setCell ⟨gt,2,none⟩ (.slice A9 (n+1) c9)) w.heap.size 82 [.string ⟨#[]⟩,.int .i64 0,.slice none 0 0]:=(b8.block _ (by omega)).trans ((hb9.block _ (by omega)).trans kRA)
  have C8:=chgS (chgS CA hb9 (by omega)) b8 (by omega)
  have cu8:=(cuA.low hg1 hb9).low hgv b8
  obtain⟨w8,hw8⟩:∃ W,W=w9.setCell ⟨gt,2,none⟩ (.slice A9 (n+1) c9):=⟨_,rfl⟩
  rw [<- hw8]at mR8 kt8 kR8 C8 cu8 ⊢
  clear hw8 b8 f9 x9 k9 hM9 hg9 hA9 hb9 kRA ktA CA cuA ho hf hA2 t2
  have ⟨t0,_,t1,_,t2,_⟩:=kt8.r3
  have ⟨r0,g0,r1,g1,r2,g2⟩:=kR8.r3
  have ⟨z0,z1,z2⟩:=kR8.s3
  go_wp2
  refine bodyPost_ret (v:=.agg #[.string t.fName,.int .i64 t.fArity,.slice A9 (n+1) c9]) (by simp [results,Tryz.results113,go_sem,z0,z1,z2]) rfl ?_
  exact tab_fin hgw mR8 (by omega) hts hta cu8 C8 _ _ _
 have d3:(y==3)=false:=by simp [e3]
 have ⟨t0,_,t1,_,t2,_⟩:=kt6.r3
 have ⟨r0,g0,r1,g1,r2,g2⟩:=kR6.r3
 have ⟨z0,z1,z2⟩:=kR6.s3
 go_wp2
 refine bodyPost_ret (v:=.agg #[.string t.fName,.int .i64 t.fArity,.slice A n c]) (by simp [results,Tryz.results113,go_sem,z0,z1,z2]) rfl ?_
 exact tab_fin hgw mR6 (by omega) hts hta cu6 C6 _ _ _
end Go.Proofs.YtiafklphblkpbaaGreat
namespace Go.Proofs.YtiafklphblkpbaaGreat
open Go.RowKit
set_option linter.unusedVariables false
set_option linter.unusedSimpArgs false
theorem rTable_nt {t:TypeId}(h1:(24:TypeId)≠t) (h2:(3:TypeId)≠t):(rTable NB).NT t:=rIso_nt (rPair_nt rStr_nt (rPair_nt rInt_nt (rSlice_nt (rSlice_nt rInt_nt h2) h1))) _
theorem neDB:(82:TypeId)≠43/\(24:TypeId)≠43/\(3:TypeId)≠43:=by decide
/-- a database's tables, behind a store into its box -/
theorem tabs_box {W:World}{gD B:Nat}{x:Value}{A:Option Addr}{n c:Nat}{R:List TableD}(k:Bk W gD 43 [x]) (m:MS B NB 82 (rTable NB) W A n c R) (v:Value):MS B NB 82 (rTable NB) (W.setCell ⟨gD,0,none⟩ v) A n c R:=by
 obtain⟨fp,o,f⟩:=m
 have hn:=(o.nt (rTable_nt neDB.2.1 neDB.2.2) neDB.1).ne k
 exact⟨fp,o.okeep (rTable_ok NB) (fun q hq=>heap_setCell_other _ ⟨gD,0,none⟩ q _ (fun e=>hn (by have e2:q=gD:=e;rw [<- e2];exact hq))),f⟩
theorem tabs_ne {W:World}{gD B:Nat}{x:Value}{A:Option Addr}{n c:Nat}{R:List TableD}(k:Bk W gD 43 [x]) (m:MS B NB 82 (rTable NB) W A n c R):gD∉blk A:=fun h=>by
 obtain⟨fp,o,f⟩:=m
 obtain⟨_,fps,_,e,_⟩:=o.ex
 exact(o.nt (rTable_nt neDB.2.1 neDB.2.2) neDB.1).ne k (by rw [e];exact List.mem_append_left _ h)
theorem db_fin {w W:World}{g:Nat}{A:Option Addr}{n c:Nat}{L:List TableD}(hg:g<w.heap.size) (m:MS (w.heap.size+1) NB 82 (rTable NB) W A n c L) (hn:n=5) (cu:Cur W g) (hc:Chg [g] w W) (x:Value) :
  DrawnV (rDatabase NB) (fun d=>d.fTables.length=5) g w (.returned (.agg #[.slice A n c])) (W.setCell ⟨w.heap.size,0,none⟩ x):=by
 have hl:=m.len
 obtain⟨fp,o,f⟩:=m
 have b:Below w.heap.size W (W.setCell ⟨w.heap.size,0,none⟩ x):=(Below.refl _ _).setCell (p:=⟨w.heap.size,0,none⟩) (Nat.le_refl _) _
 refine⟨⟨L⟩,[.slice A n c],fp,rfl,rDatabase_own.2 ⟨A,n,c,fp,rfl,rfl,o.okeep (rTable_ok NB) (fun k hk=>heap_setCell_other _ ⟨w.heap.size,0,none⟩ k _ (fun e=>?_))⟩,f.mono (by omega),by show L.length=5;omega,cu.low hg b,chgS hc b (Nat.le_refl _)⟩
 have:=f.ge k hk;have e2:k=w.heap.size:=e;omega
theorem chgW2 {g gX:Nat}{w w7 W:World}(h:Chg [g] w w7) (hc:Chg [g,gX] w7 W) (hX:w.heap.size+1<=gX):Chg [g] w W :=
 ⟨hc.os.trans h.os,hc.tape.trans h.tape,hc.output.trans h.output,Nat.le_trans h.size hc.size,fun k hk hn=>(hc.block k (Nat.lt_of_lt_of_le hk h.size) (by simp at hn ⊢;omega)).trans (h.block k hk hn)⟩
set_option maxRecDepth 100000 in
set_option maxHeartbeats 3200000 in
theorem l5Db_c (g:Nat) (w:World) (hc:Cur w g):Calls Tryz.prog 79 #[.pointer (some ⟨g,0,none⟩)] w (DrawnV (rDatabase NB) (fun d=>d.fTables.length=5) g w):=by
 have hgw:=hc.lt
 obtain⟨w1,hw1⟩:∃ W,W=w.alloc (.cells #[.slice none 0 0] 43):=⟨_,rfl⟩
 have hs1:w1.heap.size=w.heap.size+1:=by rw [hw1];simp
 have b1:Below w.heap.size w w1:=by rw [hw1];exact(Below.refl _ _).alloc (Nat.le_refl _) _
 have kR:Bk w1 w.heap.size 43 [.slice none 0 0]:=by rw [hw1];exact Bk.new w _ _
 have cu1:=hc.below b1
 have C1:Chg [g] w w1:=Chg.ofBelow b1 _
 have HW1:=Lib.hid hw1
 have HS1:=Lib.hid hs1
 clear b1 hw1 hs1
 go_enter Tryz.func79,Tryz.ntmps79
 go_upto_region 1 with fail
 rw [<- HW1.out]
 go_wp2_with fail
 refine(l1PickInt_c g _ 4 4 [2,3,4,6] _ (RS.lit w1 [2,3,4,6] _ (by simp) (by simp [I64])) cu1.ne (by omega) (cu1.alloc _)).mono ?_
 rintro e w2 ⟨val,rfl,hval,cu2,ch2⟩
 have hv9:val<=9:=by simp at hval;omega
 replace ch2:=ch2.al
 go_wp2_with fail
 refine(l1PickInt_c g _ 4 4 [2,4,6,8] _ (RS.lit w2 [2,4,6,8] _ (by simp) (by simp [I64])) cu2.ne (by omega) (cu2.alloc _)).mono ?_
 rintro e w3 ⟨most,rfl,hmost,cu3,ch3⟩
 have hm0:0<=most/\most<=8:=by simp at hmost;omega
 replace ch3:=ch3.al
 have C3:=(C1.trans ch2).trans ch3
 have kR3:Bk w3 w.heap.size 43 [.slice none 0 0]:=((ch2.trans ch3).block _ kR.lt (by simp;omega)).trans kR
 have hs3:w.heap.size+1<=w3.heap.size:=by have:=ch2.size;have:=ch3.size;have:=HS1.out;omega
 clear hval hmost cu1 C1 kR ch2 ch3 cu2
 obtain⟨gD,hgD⟩:∃ z,z=w3.heap.size:=⟨_,rfl⟩
 obtain⟨w4,hw4⟩:∃ W,W=w3.alloc (.cells #[.slice none 0 0] 43):=⟨_,rfl⟩
 obtain⟨w5,hw5⟩:∃ W,W=w4.alloc (.cells #[.string ⟨#[114]⟩,.string ⟨#[115]⟩,.string ⟨#[116]⟩,.string ⟨#[117]⟩,.string ⟨#[118]⟩] 9):=⟨_,rfl⟩
 have b4:Below w3.heap.size w3 w4:=by rw [hw4];exact(Below.refl _ _).alloc (Nat.le_refl _) _
 have b5:Below w4.heap.size w4 w5:=by rw [hw5];exact(Below.refl _ _).alloc (Nat.le_refl _) _
 have hs4:w4.heap.size=gD+1:=by rw [hw4,hgD];simp
 have hs5:w5.heap.size=gD+1+1:=by rw [hw5];simp [hs4]
 have kD:Bk w5 gD 43 [.slice none 0 0]:=by refine Bk.below ?_ b5;rw [hw4,hgD];exact Bk.new w3 _ _
 have rN:RS NB (rStr NB) w5 (some ⟨gD+1,0,none⟩) 5 5 [⟨#[114]⟩,⟨#[115]⟩,⟨#[116]⟩,⟨#[117]⟩,⟨#[118]⟩]:=by rw [hw5,<- hs4];exact RS.litS w4 [⟨#[114]⟩,⟨#[115]⟩,⟨#[116]⟩,⟨#[117]⟩,⟨#[118]⟩] _ (by decide) (by decide)
 have kR5:=(kR3.below b4).below b5
 have C5:=(C3.trans (Chg.ofBelow b4 _)).trans (Chg.ofBelow b5 _)
 have cu5:=(cu3.below b4).below b5
 have hgDw:w.heap.size+1<=gD:=by omega
 have hgv:g<gD:=by omega
 have HN:Hid (∀ W,Chg [g,gD] w5 W->RS NB (rStr NB) W (some ⟨gD+1,0,none⟩) 5 5 [⟨#[114]⟩,⟨#[115]⟩,⟨#[116]⟩,⟨#[117]⟩,⟨#[118]⟩]):=by
  show ∀ W,_->_
  exact fun W hW=>rN.chgS hW (fun k hk=>by simp [blk]at hk;simp;omega)
 have HK:Hid (∀ W,Chg [g,gD] w5 W->Bk W w.heap.size 43 [.slice none 0 0]):=by
  show ∀ W,_->_
  exact fun W hW=>(hW.block _ kR5.lt (by simp;omega)).trans kR5
 have HC5:=Lib.hid C5
 have HW4:=Lib.hid hw4
 have HW5:=Lib.hid hw5
 have HGD:=Lib.hid hgD
 have HS5:=Lib.hid hs5
 have HS4:=Lib.hid hs4
 clear hw4 hw5 hgD hs4 hs5 b4 b5 rN kR5 kR3 C5 C3 cu3
 go_upto_region 4 with fail
 rw [<- HGD.out,<- HW4.out]
 go_wp2
 rw [HS4.out,<- HW5.out]
 clear HW4 HW5 HGD HS4 HW1 HS1 hs3
 obtain⟨B,hBe⟩:∃ B,B=w5.heap.size:=⟨_,rfl⟩
 have HBE:=Lib.hid hBe
 have hB:gD+1+1<=B:=by have:=HS5.out;omega
 clear hBe HS5
 go_loopw [19] (fun iv wr=>∃ (k c:Nat) (A:Option Addr) (L:List TableD),k<=5/\iv=.int .i64 k/\Bk wr gD 43 [.slice A k c]/\MS B NB 82 (rTable NB) wr A k c L/\Chg [g,gD] w5 wr/\Cur wr g) (fun iv _=>5 - (intOf iv).toNat)
 case atStart=>exact⟨0,0,none,[],by omega,rfl,kD,MS.nil _ (Nat.zero_le _),Chg.refl _ _,cu5⟩
 case round =>
  clear kD cu5
  obtain⟨k,c,A,L,hk,rfl,kD,mT,hC,hcu⟩:=hrel
  have hszB:B<=wr.heap.size:=by have:=hC.size;have:=HBE.out;omega
  by_cases hk5:k<5
  ·have hki:(k:Int)<5:=by omega
   obtain⟨b,off,nm,e,hcn,hnz,_⟩:=(HN.out wr hC).atS hk5
   injection e with e;injection e with e1 e2;subst e1;subst e2
   rw [Nat.zero_add]at hcn
   have hB1:B<=wr.heap.size:=hszB
   cases hu:(nm.toList==[117])<;>cases hv:(nm.toList==[118])
   all_goals
    go_wp2_with fail
    refine(l4Tab_i g nm _ most val _ hcu hnz (by omega) (by omega) hm0.1 hm0.2 hv9).mono ?_
    rintro e w6 ⟨t,cs,fp,rfl,oT,fT,_,cu6,ch6⟩
    obtain⟨At,nt,ct,_,rfl,rfl,hts,hta,oR⟩:=rTable_own.1 oT
    obtain⟨gt,hgt⟩:∃ z,z=w6.heap.size:=⟨_,rfl⟩
    obtain⟨w7,hw7⟩:∃ W,W=w6.alloc (.cells #[.string t.fName,.int .i64 t.fArity,.slice At nt ct] 82):=⟨_,rfl⟩
    have b7:Below w6.heap.size w6 w7:=by rw [hw7];exact(Below.refl _ _).alloc (Nat.le_refl _) _
    have kt:Bk w7 gt 82 [.string t.fName,.int .i64 t.fArity,.slice At nt ct]:=by rw [hw7,hgt];exact Bk.new w6 _ _
    have C7:=ch6.trans (Chg.ofBelow b7 _)
    have b8:=(Below.refl w7.heap.size w7).alloc (Nat.le_refl _) (.cells #[.string t.fName,.int .i64 t.fArity,.slice At nt ct] 82)
    have C8:=C7.trans (Chg.ofBelow b8 _)
    obtain⟨v0,hv0,hbv,hMv⟩:=mT.upto (rTable_ok NB) C8 (by omega)
    have ho:=(rTable_ok NB).ownB ((rTable_ok NB).ownB oT b7) b8
    have hfr:Fr v0.heap.size fp:=fT.mono (by omega)
    have hBv:B<=v0.heap.size:=by omega
    have kD7:Bk w7 gD 43 [.slice A k c]:=(C7.block _ kD.lt (by simp;omega)).trans kD
    have kD8:=kD7.below b8
    have hng:=tabs_ne kD mT
    have D8:Chg [g,gD] w5 (w7.alloc (.cells #[.string t.fName,.int .i64 t.fArity,.slice At nt ct] 82)):=hC.trans (C8.mono (by simp))
    have cu8:=(cu6.below b7).below b8
    have HGT:=Lib.hid hgt
    have HW7:=Lib.hid hw7
    have d0:=kD7.bx 0 _ rfl
    have ⟨t0,_,t1,_,t2,_⟩:=kt.r3
    clear hgt hw7 oT fT oR cu6 ch6 b7 C7 hcn
    go_upto_region 13 with fail
    rw [<- HGT.out,<- HW7.out]
    clear HGT HW7
    go_wp2_with (at_builtin;refine wpList_appB (r:=rTable NB) rfl _ _ 41 rfl _ 48 eiTable (rTable_ok NB) rfl hMv hbv hBv ⟨w7.heap.size,0,none⟩ rfl fp [.string t.fName,.int .i64 t.fArity,.slice At nt ct] t ho hfr (cells_new _ _ _) (by unfold NB;omega) (Nat.le_refl _) (by omega) ?_;intro A9 c9 w9 hM9 hb9 hg9 hA9;have k9:=kD8.grw hg9 hng;have f9:=k9.frozen 0;have x9:=k9.bx 0 _ rfl)
    go_roundw
    case rel=>exact⟨k+1,c9,A9,L++[t],by omega,by go_num,k9.set 0 _,tabs_box k9 hM9 _,(chgS D8 hb9 (by rw [HBE.out];exact Nat.le_refl _)).setCell (by simp) _ _,(cu8.low (by omega) hb9).low hgv ((Below.refl _ _).setCell (p:=⟨gD,0,none⟩) (Nat.le_refl _) _)⟩
    case measure=>simp [intOf];omega
  ·have hki:¬ (k:Int)<5:=by omega
   have H5:Hid (k=5):=by show _=_;omega
   have kR:=HK.out wr hC
   have C6:Chg [g] w wr:=chgW2 HC5.out hC hgDw
   have mT1:=mT.base (B':=w.heap.size+1) (by omega)
   clear mT hC
   go_wp2_with fail
   refine(l1Once_c g 8 _ (by omega) hcu).mono ?_
   rintro e w6 ⟨b,rfl,cu6,ch6⟩
   have kD6:Bk w6 gD 43 [.slice A k c]:=(ch6.block _ kD.lt (by simp;omega)).trans kD
   have kR6:Bk w6 w.heap.size 43 [.slice none 0 0]:=(ch6.block _ kR.lt (by simp;omega)).trans kR
   have m6:=Stb.lowM mT1 (rTable_ok NB) ch6 (fun z hz=>by simp;omega)
   have C7:=C6.trans ch6
   have hgD6:=kD6.lt
   clear kD kR mT1 hcu C6 ch6
   cases b
   ·have d0:=kD6.bx 0 _ rfl
    have r0:=kR6.bx 0 _ rfl
    have g0:=kR6.frozen 0
    have z0:∀ v,(w6.setCell ⟨w.heap.size,0,none⟩ v).cell? ⟨w.heap.size,0,none⟩=some v:=fun v=>(kR6.set 0 v).bx 0 _ rfl
    go_wp2
    refine bodyPost_ret (v:=.agg #[.slice A k c]) (by simp [results,Tryz.results79,go_sem,z0]) rfl ?_
    exact db_fin hgw m6 H5.out cu6 C7 _
   ·have hk0:0<k:=by have:=H5.out;omega
    obtain⟨gb,rfl,hgb1,hgb2⟩:=m6.form hk0
    have HSS:=Lib.hid (fun (w':World) (h:w'.heap[gD]?=w6.heap[gD]?)=>(Bk.bx (h.trans kD6:Bk w' gD 43 [.slice (some ⟨gb,0,none⟩) k c]) 0 _ rfl:w'.cell? ⟨gD,0,none⟩=some (.slice (some ⟨gb,0,none⟩) k c)))
    go_wp2
    refine hgg 6 HSS.out rfl (fun hHeld=>?_)
    refine tgk 0 42 hHeld ?_;simp only [putS]
    refine tgk 1 43 hHeld ?_;simp only [putS]
    refine tgk 2 44 hHeld ?_;simp only [putS]
    refine rg 3 (some 45) fun K hK=>?_
    clear hHeld
    go_simp
    refine(l1Below_c g 5 _ (by omega) (cu6.below (Below.refl _ _).drew)).mono ?_
    rintro e w7 ⟨y,rfl,⟨hy0,_,hy1⟩,cu7,ch7⟩
    have hy2:=hy1 (by omega)
    have CP:Chg [g] w6 w7:=(Chg.ofBelow (Below.refl _ _).drew _).trans ch7
    have XD:w7.heap[gD]?=w6.heap[gD]?:=CP.block _ hgD6 (by simp;omega)
    obtain⟨y,rfl⟩:∃ j:Nat,y=j:=⟨y.toNat,by omega⟩
    have hyk:y<k:=by have:=H5.out;omega
    have hyi:(y:Int)<k:=by omega
    have m7:=Stb.lowM m6 (rTable_ok NB) CP (fun z hz=>by simp;omega)
    obtain⟨u,hu⟩:=m7.hasCell (j:=y*3+2) (by show y*3+2<k*3;omega)
    have fu:=m7.frozen (y*3+2)
    go_wp2_with fail
    refine hK.out _ _ (fun _=>HSS.out _ XD) fun hHeld=>?_
    replace hHeld:=hHeld (by decide)
    clear hK K
    try simp only [putS]
    refine rg 4 (some 46) fun K hK=>?_
    clear hHeld
    go_simp
    refine hK.out _ _ (fun _=>HSS.out _ XD) fun hHeld=>?_
    replace hHeld:=hHeld (by decide)
    clear hK K
    try simp only [putS]
    refine rg 5 (some 47) fun K hK=>?_
    clear hHeld
    go_simp
    refine hK.out _ _ (fun _=>HSS.out _ XD) fun hHeld=>?_
    replace hHeld:=hHeld (by decide)
    clear hK K
    try simp only [putS]
    refine rg 6 none fun K hK=>?_
    clear hHeld
    go_simp
    refine hK.out _ _ (fun h=>absurd rfl h) fun hHeld=>?_
    clear hK K
    try simp only [putS]
    refine wpG_done (by kernel_rfl) ?_ _
    clear hHeld
    obtain⟨w8,hw8⟩:∃ W,W=w7.setCell ⟨gb,y*3+2,none⟩ (.slice none 0 0):=⟨_,rfl⟩
    have b8:Below (w.heap.size+1) w7 w8:=by rw [hw8];exact(Below.refl _ _).setCell (p:=⟨gb,y*3+2,none⟩) hgb2 _
    have hgbD:gD≠gb:=fun h=>tabs_ne kD6 m6 (by rw [h];simp [blk])
    have kD7:Bk w7 gD 43 [.slice (some ⟨gb,0,none⟩) k c]:=XD.trans kD6
    have kD8:Bk w8 gD 43 [.slice (some ⟨gb,0,none⟩) k c]:=by rw [hw8];exact(heap_setCell_other _ ⟨gb,y*3+2,none⟩ gD _ (fun e=>hgbD e)).trans kD7
    have kR8:Bk w8 w.heap.size 43 [.slice none 0 0]:=(b8.block _ (by omega)).trans ((CP.block _ kR6.lt (by simp;omega)).trans kR6)
    obtain⟨L8,m8⟩:∃ L8,MS (w.heap.size+1) NB 82 (rTable NB) w8 (some ⟨gb,0,none⟩) k c L8:=by
     obtain⟨fp,o,f⟩:=m7
     have hx:L[y]?=some (L[y]'(by rw [o.len];exact hyk)):=List.getElem?_eq_getElem _
     obtain⟨fp',o',f',_⟩:=o.setH (rTable_ok NB) f hx (x':=⟨(L[y]'(by rw [o.len];exact hyk)).fName,(L[y]'(by rw [o.len];exact hyk)).fArity,[]⟩) (j:=2) (by decide) (.slice none 0 0) (fun W f c h=>by
      obtain⟨AV,nV,cV,fV,rfl,rfl,h1,h2,h3⟩:=rTable_own.1 h
      exact .inr (rTable_own.2 ⟨none,0,0,[],rfl,rfl,h1,h2,⟨rfl,Nat.zero_le _,[],[],World.ownsRow_nil _ 0 _ _,rfl,trivial⟩⟩))
     rw [hw8];exact⟨_,fp',o',f'⟩
    have C8:=chgS (C7.trans CP) b8 (by omega)
    have cu8:=cu7.low (by omega) b8
    rw [<- hw8]
    clear hw8 hu fu m7
    have d0:=kD8.bx 0 _ rfl
    have r0:=kR8.bx 0 _ rfl
    have g0:=kR8.frozen 0
    have z0:∀ v,(w8.setCell ⟨w.heap.size,0,none⟩ v).cell? ⟨w.heap.size,0,none⟩=some v:=fun v=>(kR8.set 0 v).bx 0 _ rfl
    go_wp2
    refine bodyPost_ret (v:=.agg #[.slice (some ⟨gb,0,none⟩) k c]) (by simp [results,Tryz.results79,go_sem,z0]) rfl ?_
    exact db_fin hgw m8 H5.out cu8 C8 _
end Go.Proofs.YtiafklphblkpbaaGreat
namespace Go.Proofs.YtiafklphblkpbaaGreat
open Go.RowKit
set_option linter.unusedVariables false
set_option linter.unusedSimpArgs false
theorem dba_fin {w W:World}{g:Nat}{A:Option Addr}{n c:Nat}{L:List TableD}(hg:g<w.heap.size) (hS:∀ W',Out (w.heap.size+1) W W'->RS NB (rTable NB) W' A n c L) (cu:Cur W g) (hc:Chg [g] w W) (x:Value) :
  DrawnR (rDatabase NB) g w (.returned (.agg #[.slice A n c])) (W.setCell ⟨w.heap.size,0,none⟩ x):=by
 have b:Below w.heap.size W (W.setCell ⟨w.heap.size,0,none⟩ x):=(Below.refl _ _).setCell (p:=⟨w.heap.size,0,none⟩) (Nat.le_refl _) _
 refine⟨⟨L⟩,[.slice A n c],rfl,fun W' hW'=>rDatabase_rep.2 ⟨A,n,c,rfl,hS W' ?_⟩,cu.low hg b,chgS hc b (Nat.le_refl _)⟩
 exact((Out.refl (w.heap.size+1) W).setCell (p:=⟨w.heap.size,0,none⟩) (Nat.lt_succ_self _) x).trans (hW'.mono (Nat.le_succ _))
theorem dba_own {w W:World}{g:Nat}{A:Option Addr}{n c:Nat}{L:List TableD}(hg:g<w.heap.size) (m:MS (w.heap.size+1) NB 82 (rTable NB) W A n c L):∀ W',Out (w.heap.size+1) W W'->RS NB (rTable NB) W' A n c L :=
 fun W' hW=>(m.out (rTable_ok NB) hW).rs (rTable_ok NB)
theorem own_cap {α:Type}{r:Rp α}{B M:Nat}{e:TypeId}{w:World}{A:Option Addr}{n cap:Nat}{l:List α}(h:MS B M e r w A n cap l):cap<=maxLen:=by
 obtain⟨fp,o,f⟩:=h
 obtain⟨css,fps,h3,_,_⟩:=o.ex
 rcases h3.2 with ⟨h1,_⟩|⟨g,c,cur,h1,_,_,_,q4,_⟩
 ·injection h1 with _ _ h1;subst h1;exact Nat.zero_le _
 ·injection h1 with _ _ h1;subst h1;exact q4
set_option maxRecDepth 100000 in
set_option maxHeartbeats 3200000 in
theorem l5Any_c (g:Nat) (w:World) (hc:Cur w g):Calls Tryz.prog 82 #[.pointer (some ⟨g,0,none⟩)] w (DrawnR (rDatabase NB) g w):=by
 have hgw:=hc.lt
 obtain⟨w1,hw1⟩:∃ W,W=w.alloc (.cells #[.slice none 0 0] 43):=⟨_,rfl⟩
 have hs1:w1.heap.size=w.heap.size+1:=by rw [hw1];simp
 have b1:Below w.heap.size w w1:=by rw [hw1];exact(Below.refl _ _).alloc (Nat.le_refl _) _
 have kR:Bk w1 w.heap.size 43 [.slice none 0 0]:=by rw [hw1];exact Bk.new w _ _
 have cu1:=hc.below b1
 have C1:Chg [g] w w1:=Chg.ofBelow b1 _
 have HW1:=Lib.hid hw1
 have HS1:=Lib.hid hs1
 clear b1 hw1 hs1
 go_enter Tryz.func82,Tryz.ntmps82
 go_upto_region 1 with fail
 rw [<- HW1.out]
 go_wp2_with fail
 refine(l5Db_c g _ cu1).mono ?_
 rintro e w2 ⟨d,cs,fp,rfl,oD,fD,hlen,cu2,ch2⟩
 obtain⟨A,k,c,_,rfl,rfl,oT⟩:=rDatabase_own.1 oD
 have hk5:k=5:=by rw [<- oT.len];exact hlen
 have H5:=Lib.hid hk5
 obtain⟨gD,hgD⟩:∃ z,z=w2.heap.size:=⟨_,rfl⟩
 obtain⟨w3,hw3⟩:∃ W,W=w2.alloc (.cells #[.slice A k c] 43):=⟨_,rfl⟩
 have b3:Below w2.heap.size w2 w3:=by rw [hw3];exact(Below.refl _ _).alloc (Nat.le_refl _) _
 have kD:Bk w3 gD 43 [.slice A k c]:=by rw [hw3,hgD];exact Bk.new w2 _ _
 have kR3:Bk w3 w.heap.size 43 [.slice none 0 0]:=Bk.below ((ch2.block _ kR.lt (by simp;omega)).trans kR) b3
 have mT:MS (w.heap.size+1) NB 82 (rTable NB) w3 A k c d.fTables:=⟨fp,oT.belowS (rTable_ok NB) b3,fD.mono (by have:=HS1.out;omega)⟩
 have cu3:=cu2.below b3
 have C3:=(C1.trans ch2).trans (Chg.ofBelow b3 _)
 have hgDw:w.heap.size+1<=gD:=by have:=ch2.size;have:=HS1.out;omega
 have HGD:=Lib.hid hgD
 have HW3:=Lib.hid hw3
 clear kR cu1 C1 oD fD oT cu2 ch2 b3 hgD hw3 hk5 hlen
 go_upto_region 2 with fail
 rw [<- HGD.out,<- HW3.out]
 go_wp2_with fail
 refine(l1Below_c g 10 _ (by omega) cu3).mono ?_
 rintro e w4 ⟨x,rfl,_,cu4,ch4⟩
 have kD4:Bk w4 gD 43 [.slice A k c]:=(ch4.block _ kD.lt (by simp;omega)).trans kD
 have kR4:Bk w4 w.heap.size 43 [.slice none 0 0]:=(ch4.block _ kR3.lt (by simp;omega)).trans kR3
 have m4:=Stb.lowM mT (rTable_ok NB) ch4 (fun z hz=>by simp;omega)
 have C4:=C3.trans ch4
 have hgv:g<gD:=by omega
 have hg1:g<w.heap.size+1:=by omega
 have hk0:0<k:=by have:=H5.out;omega
 have hgD4:=kD4.lt
 clear kD kR3 mT cu3 C3 ch4 HGD HW3 HW1
 obtain⟨gb,rfl,hgb1,hgb2⟩:=m4.form hk0
 have hng:=tabs_ne kD4 m4
 have hgbD:gD≠gb:=fun h=>hng (by rw [h];simp [blk])
 by_cases e0:x=0
 ·have d0:(x==0)=true:=by simp [e0]
  subst e0
  go_wp2_with fail
  refine(l4Any_c g _ cu4).mono ?_
  rintro e w5 ⟨t,cs,ft,rfl,oA,fA,_,cu5,ch5⟩
  obtain⟨At,nt,ct,_,rfl,rfl,hts,hta,oR⟩:=rTable_own.1 oA
  obtain⟨gt,hgt⟩:∃ z,z=w5.heap.size:=⟨_,rfl⟩
  obtain⟨w6,hw6⟩:∃ W,W=w5.alloc (.cells #[.string t.fName,.int .i64 t.fArity,.slice At nt ct] 82):=⟨_,rfl⟩
  have b6:Below w5.heap.size w5 w6:=by rw [hw6];exact(Below.refl _ _).alloc (Nat.le_refl _) _
  have kt:Bk w6 gt 82 [.string t.fName,.int .i64 t.fArity,.slice At nt ct]:=by rw [hw6,hgt];exact Bk.new w5 _ _
  have D6:=ch5.trans (Chg.ofBelow b6 _)
  have kD6:Bk w6 gD 43 [.slice (some ⟨gb,0,none⟩) k c]:=(D6.block _ hgD4 (by simp;omega)).trans kD4
  have oA6:=(rTable_ok NB).ownB oA b6
  have cu6:=cu5.below b6
  have hgt6:w4.heap.size<=gt:=by have:=ch5.size;omega
  have HSS:=Lib.hid (fun (w':World) (h:w'.heap[gD]?=w6.heap[gD]?/\w'.heap[gt]?=w6.heap[gt]?)=>(⟨Bk.bx (h.1.trans kD6:Bk w' gD 43 [.slice (some ⟨gb,0,none⟩) k c]) 0 _ rfl,Bx.b3 (Bk.bx (h.2.trans kt:Bk w' gt 82 [.string t.fName,.int .i64 t.fArity,.slice At nt ct]))⟩:w'.cell? ⟨gD,0,none⟩=some (.slice (some ⟨gb,0,none⟩) k c)/\w'.cell? ⟨gt,0,none⟩=some (.string t.fName)/\w'.cell? ⟨gt,1,none⟩=some (.int .i64 t.fArity)/\w'.cell? ⟨gt,2,none⟩=some (.slice At nt ct)))
  have HGT:=Lib.hid hgt
  have HW6:=Lib.hid hw6
  have ktl:=kt.lt
  clear hgt hw6 oA oR ch5 cu5 b6
  go_upto_region 5 with fail
  rw [<- HGT.out,<- HW6.out]
  clear HGT HW6
  go_wp2
  refine hgg 6 HSS.out ⟨rfl,rfl⟩ (fun hHeld=>?_)
  refine tgk 0 16 hHeld ?_;simp only [putS]
  refine tgk 1 17 hHeld ?_;simp only [putS]
  refine tgk 2 18 hHeld ?_;simp only [putS]
  refine tgk 4 20 hHeld ?_;simp only [putS]
  refine rg 3 (some 19) fun K hK=>?_
  clear hHeld
  go_simp
  refine(l1Below_c g 5 _ (by omega) (cu6.below (Below.refl _ _).drew)).mono ?_
  rintro e w7 ⟨y,rfl,⟨hy0,_,hy1⟩,cu7,ch7⟩
  have hy2:=hy1 (by omega)
  have CP:Chg [g] w6 w7:=(Chg.ofBelow (Below.refl _ _).drew _).trans ch7
  have XD:w7.heap[gD]?=w6.heap[gD]?/\w7.heap[gt]?=w6.heap[gt]?:=⟨CP.block _ kD6.lt (by simp;omega),CP.block _ ktl (by simp;omega)⟩
  obtain⟨y,rfl⟩:∃ j:Nat,y=j:=⟨y.toNat,by omega⟩
  have hyk:y<k:=by have:=H5.out;omega
  have hyi:(y:Int)<k:=by omega
  have D7:=D6.trans CP
  have m7:=Stb.lowM m4 (rTable_ok NB) D7 (fun z hz=>by simp;omega)
  obtain⟨u0,hu0⟩:=m7.hasCell (j:=y*3) (by show y*3<k*3;omega)
  obtain⟨u1,hu1⟩:=m7.hasCell (j:=y*3+1) (by show y*3+1<k*3;omega)
  obtain⟨u2,hu2⟩:=m7.hasCell (j:=y*3+2) (by show y*3+2<k*3;omega)
  have fu0:=m7.frozen (y*3)
  have fu1:=m7.frozen (y*3+1)
  have fu2:=m7.frozen (y*3+2)
  go_wp2_with fail
  refine hK.out _ _ (fun _=>HSS.out _ XD) fun hHeld=>?_
  replace hHeld:=hHeld (by decide)
  clear hK K
  try simp only [putS]
  refine rg 5 (some 21) fun K hK=>?_
  clear hHeld
  go_simp
  refine hK.out _ _ (fun _=>HSS.out _ XD) fun hHeld=>?_
  replace hHeld:=hHeld (by decide)
  clear hK K
  try simp only [putS]
  refine rg 6 none fun K hK=>?_
  clear hHeld
  go_simp
  refine hK.out _ _ (fun h=>absurd rfl h) fun hHeld=>?_
  clear hK K
  try simp only [putS]
  refine wpG_done (by kernel_rfl) ?_ _
  clear hHeld
  obtain⟨v0,hv0,hbv,hMv⟩:=m4.upto (rTable_ok NB) D7 hg1
  have oA7:=Stb.low (rTable_ok NB) oA6 CP (fun z hz=>by have:=fA.ge z hz;have:=cu4.lt;simp;omega)
  have m8:=hMv.setE (rTable_ok NB) hbv (by omega) hyk oA7 (fA.mono (by omega))
  obtain⟨w8,hw8⟩:∃ W,W=((w7.setCell ⟨gb,y*3,none⟩ (.string t.fName)).setCell ⟨gb,y*3+1,none⟩ (.int .i64 t.fArity)).setCell ⟨gb,y*3+2,none⟩ (.slice At nt ct):=⟨_,rfl⟩
  have m9:MS (w.heap.size+1) NB 82 (rTable NB) w8 (some ⟨gb,0,none⟩) k c (d.fTables.set y t):=by rw [hw8];exact m8
  have b8:Below (w.heap.size+1) w7 w8:=by rw [hw8];exact(((Below.refl _ _).setCell (p:=⟨gb,y*3,none⟩) hgb2 _).setCell (p:=⟨gb,y*3+1,none⟩) hgb2 _).setCell (p:=⟨gb,y*3+2,none⟩) hgb2 _
  have kD8:Bk w8 gD 43 [.slice (some ⟨gb,0,none⟩) k c]:=by
   rw [hw8]
   exact((heap_setCell_other _ ⟨gb,y*3+2,none⟩ gD _ (fun e=>hgbD e)).trans ((heap_setCell_other _ ⟨gb,y*3+1,none⟩ gD _ (fun e=>hgbD e)).trans (heap_setCell_other _ ⟨gb,y*3,none⟩ gD _ (fun e=>hgbD e)))).trans (XD.1.trans kD6)
  have kR8:Bk w8 w.heap.size 43 [.slice none 0 0]:=(b8.block _ (by omega)).trans ((D7.block _ kR4.lt (by simp;omega)).trans kR4)
  have C8:=chgS (C4.trans D7) b8 (by omega)
  have cu8:=cu7.low hg1 b8
  rw [<- hw8]
  clear hw8 hu0 hu1 hu2 fu0 fu1 fu2 m7 m8
  have d0:=kD8.bx 0 _ rfl
  have r0:=kR8.bx 0 _ rfl
  have g0:=kR8.frozen 0
  have z0:∀ v,(w8.setCell ⟨w.heap.size,0,none⟩ v).cell? ⟨w.heap.size,0,none⟩=some v:=fun v=>(kR8.set 0 v).bx 0 _ rfl
  go_wp2
  refine bodyPost_ret (v:=.agg #[.slice (some ⟨gb,0,none⟩) k c]) (by simp [results,Tryz.results82,go_sem,z0]) rfl ?_
  exact dba_fin hgw (dba_own hgw m9) cu8 C8 _
 have d0:(x==0)=false:=by simp [e0]
 by_cases e1:x=1
 ·have d1:(x==1)=true:=by simp [e1]
  subst e1
  go_wp2_with fail
  refine(l1Pick_c g _ 3 3 [⟨#[97]⟩,⟨#[119]⟩,⟨#[122]⟩] _ (RS.litS w4 [⟨#[97]⟩,⟨#[119]⟩,⟨#[122]⟩] _ (by decide) (by decide)) cu4.ne (by omega) (cu4.alloc _)).mono ?_
  rintro e w5 ⟨nm,rfl,hnm,cu5,ch5⟩
  have hnz:nm.size<=NB:=by simp at hnm;rcases hnm with rfl|rfl|rfl<;>decide
  replace ch5:=ch5.al
  go_wp2_with fail
  refine(l4Tab_i g nm _ 4 3 _ cu5 hnz (by omega) (by omega) (by omega) (by omega) (by omega)).mono ?_
  rintro e w6 ⟨t,cs,ft,rfl,oT,fT,_,cu6,ch6⟩
  obtain⟨At,nt,ct,_,rfl,rfl,hts,hta,oR⟩:=rTable_own.1 oT
  obtain⟨gt,hgt⟩:∃ z,z=w6.heap.size:=⟨_,rfl⟩
  obtain⟨w7,hw7⟩:∃ W,W=w6.alloc (.cells #[.string t.fName,.int .i64 t.fArity,.slice At nt ct] 82):=⟨_,rfl⟩
  have b7:Below w6.heap.size w6 w7:=by rw [hw7];exact(Below.refl _ _).alloc (Nat.le_refl _) _
  have kt:Bk w7 gt 82 [.string t.fName,.int .i64 t.fArity,.slice At nt ct]:=by rw [hw7,hgt];exact Bk.new w6 _ _
  have D7:=(ch5.trans ch6).trans (Chg.ofBelow b7 _)
  have b8:=(Below.refl w7.heap.size w7).alloc (Nat.le_refl _) (.cells #[.string t.fName,.int .i64 t.fArity,.slice At nt ct] 82)
  have D8:=D7.trans (Chg.ofBelow b8 _)
  obtain⟨v0,hv0,hbv,hMv⟩:=m4.upto (rTable_ok NB) D8 hg1
  have ho:=(rTable_ok NB).ownB ((rTable_ok NB).ownB oT b7) b8
  have hfr:Fr v0.heap.size ft:=fT.mono (by have:=ch5.size;omega)
  have hBv:w.heap.size+1<=v0.heap.size:=by omega
  have kD7:Bk w7 gD 43 [.slice (some ⟨gb,0,none⟩) k c]:=(D7.block _ hgD4 (by simp;omega)).trans kD4
  have kD8:=kD7.below b8
  have kR8:Bk (w7.alloc (.cells #[.string t.fName,.int .i64 t.fArity,.slice At nt ct] 82)) w.heap.size 43 [.slice none 0 0]:=(D8.block _ kR4.lt (by simp;omega)).trans kR4
  have C8:=C4.trans D8
  have cu8:=(cu6.below b7).below b8
  have HGT:=Lib.hid hgt
  have HW7:=Lib.hid hw7
  have dd0:=kD7.bx 0 _ rfl
  have ⟨t0,_,t1,_,t2,_⟩:=kt.r3
  have hkn:k+1<=6:=by have:=H5.out;omega
  clear hgt hw7 oT fT oR cu6 ch6 b7 D7 hnm ch5
  go_upto_region 8 with fail
  rw [<- HGT.out,<- HW7.out]
  clear HGT HW7
  go_upto_region 15 with (at_builtin;refine wpList_appB (r:=rTable NB) rfl _ _ 41 rfl _ 48 eiTable (rTable_ok NB) rfl hMv hbv hBv ⟨w7.heap.size,0,none⟩ rfl ft [.string t.fName,.int .i64 t.fArity,.slice At nt ct] t ho hfr (cells_new _ _ _) (by unfold NB;omega) (Nat.le_refl _) (by omega) ?_;intro A9 c9 w9 hM9 hb9 hg9 hA9;have k9:=kD8.grw hg9 hng;have f9:=k9.frozen 0;have x9:=k9.bx 0 _ rfl)
  have b9:Below gD w9 (w9.setCell ⟨gD,0,none⟩ (.slice A9 (k+1) c9)):=(Below.refl _ _).setCell (p:=⟨gD,0,none⟩) (Nat.le_refl _) _
  have m10:=tabs_box k9 hM9 (.slice A9 (k+1) c9)
  have kD10:=k9.set 0 (.slice A9 (k+1) c9)
  have kR10:Bk (w9.setCell ⟨gD,0,none⟩ (.slice A9 (k+1) c9)) w.heap.size 43 [.slice none 0 0]:=(b9.block _ (by omega)).trans ((hb9.block _ (by omega)).trans kR8)
  have C10:=chgS (chgS C8 hb9 (by omega)) b9 (by omega)
  have cu10:=(cu8.low hg1 hb9).low hgv b9
  obtain⟨w10,hw10⟩:∃ W,W=w9.setCell ⟨gD,0,none⟩ (.slice A9 (k+1) c9):=⟨_,rfl⟩
  rw [<- hw10]at m10 kD10 kR10 C10 cu10 ⊢
  clear hw10 f9 x9 k9 hM9 hb9 hg9 hA9 t0 t1 t2 dd0
  have d0:=kD10.bx 0 _ rfl
  have r0:=kR10.bx 0 _ rfl
  have g0:=kR10.frozen 0
  have z0:∀ v,(w10.setCell ⟨w.heap.size,0,none⟩ v).cell? ⟨w.heap.size,0,none⟩=some v:=fun v=>(kR10.set 0 v).bx 0 _ rfl
  go_wp2
  refine bodyPost_ret (v:=.agg #[.slice A9 (k+1) c9]) (by simp [results,Tryz.results82,go_sem,z0]) rfl ?_
  exact dba_fin hgw (dba_own hgw m10) cu10 C10 _
 have d1:(x==1)=false:=by simp [e1]
 by_cases e2:x=2
 ·have d2:(x==2)=true:=by simp [e2]
  subst e2
  have HSS:=Lib.hid (fun (w':World) (h:w'.heap[gD]?=w4.heap[gD]?)=>(Bk.bx (h.trans kD4:Bk w' gD 43 [.slice (some ⟨gb,0,none⟩) k c]) 0 _ rfl:w'.cell? ⟨gD,0,none⟩=some (.slice (some ⟨gb,0,none⟩) k c)))
  have hkc:=(m4.rs (rTable_ok NB)).nc
  have hcm:=own_cap m4
  go_wp2
  refine hgg 6 HSS.out rfl (fun hHeld=>?_)
  refine tgk 0 37 hHeld ?_;simp only [putS]
  refine tgk 1 38 hHeld ?_;simp only [putS]
  refine tgk 2 39 hHeld ?_;simp only [putS]
  refine rg 3 (some 40) fun K hK=>?_
  clear hHeld
  go_simp
  refine(l1Below_c g 5 _ (by omega) (cu4.below (Below.refl _ _).drew)).mono ?_
  rintro e w7 ⟨y,rfl,⟨hy0,_,hy1⟩,cu7,ch7⟩
  have hy2:=hy1 (by omega)
  have CP:Chg [g] w4 w7:=(Chg.ofBelow (Below.refl _ _).drew _).trans ch7
  have XD:w7.heap[gD]?=w4.heap[gD]?:=CP.block _ hgD4 (by simp;omega)
  obtain⟨y,rfl⟩:∃ j:Nat,y=j:=⟨y.toNat,by omega⟩
  have hyk:y<k:=by have:=H5.out;omega
  have hyi:(y:Int)<=k:=by omega
  have hcy:¬ c=y:=by omega
  have kD7:Bk w7 gD 43 [.slice (some ⟨gb,0,none⟩) k c]:=XD.trans kD4
  have fD7:=kD7.frozen 0
  have dD7:=kD7.bx 0 _ rfl
  go_wp2_with fail
  refine hK.out _ _ (fun _=>HSS.out _ XD) fun hHeld=>?_
  replace hHeld:=hHeld (by decide)
  clear hK K
  try simp only [putS]
  refine rg 4 (some 41) fun K hK=>?_
  clear hHeld
  go_simp
  refine hK.out _ _ (fun _=>HSS.out _ XD) fun hHeld=>?_
  replace hHeld:=hHeld (by decide)
  clear hK K
  try simp only [putS]
  refine rg 5 (some 42) fun K hK=>?_
  clear hHeld
  go_simp
  refine hK.out _ _ (fun _=>HSS.out _ XD) fun hHeld=>?_
  replace hHeld:=hHeld (by decide)
  clear hK K
  try simp only [putS]
  refine rg 6 none fun K hK=>?_
  clear hHeld
  go_simp
  refine hK.out _ _ (fun h=>absurd rfl h) fun hHeld=>?_
  clear hK K
  try simp only [putS]
  refine wpG_done (by kernel_rfl) ?_ _
  clear hHeld
  have m7:=Stb.lowM m4 (rTable_ok NB) CP (fun z hz=>by simp;omega)
  have m10:=tabs_box kD7 m7 (.slice (some ⟨gb,y*3,none⟩) (k - y) (c - y))
  have b9:Below gD w7 (w7.setCell ⟨gD,0,none⟩ (.slice (some ⟨gb,y*3,none⟩) (k - y) (c - y))):=(Below.refl _ _).setCell (p:=⟨gD,0,none⟩) (Nat.le_refl _) _
  have kD10:=kD7.set 0 (.slice (some ⟨gb,y*3,none⟩) (k - y) (c - y))
  have kR10:Bk (w7.setCell ⟨gD,0,none⟩ (.slice (some ⟨gb,y*3,none⟩) (k - y) (c - y))) w.heap.size 43 [.slice none 0 0]:=(b9.block _ (by omega)).trans ((CP.block _ kR4.lt (by simp;omega)).trans kR4)
  have C10:=chgS (C4.trans CP) b9 (by omega)
  have cu10:=cu7.low hgv b9
  obtain⟨w10,hw10⟩:∃ W,W=w7.setCell ⟨gD,0,none⟩ (.slice (some ⟨gb,y*3,none⟩) (k - y) (c - y)):=⟨_,rfl⟩
  rw [<- hw10]at m10 kD10 kR10 C10 cu10 ⊢
  clear hw10 fD7 dD7 kD7 m7 b9
  have HSR:∀ W',Out (w.heap.size+1) w10 W'->RS NB (rTable NB) W' (some ⟨gb,y*3,none⟩) (k - y) (c - y) (d.fTables.drop y):=fun W' hW=>by
   have h:=(dba_own hgw m10 W' hW).drop (k:=y) (by omega)
   rw [show(0:Nat)+y*(rTable NB).size=y*3 from Nat.zero_add _]at h
   exact h
  have d0:=kD10.bx 0 _ rfl
  have r0:=kR10.bx 0 _ rfl
  have g0:=kR10.frozen 0
  have z0:∀ v,(w10.setCell ⟨w.heap.size,0,none⟩ v).cell? ⟨w.heap.size,0,none⟩=some v:=fun v=>(kR10.set 0 v).bx 0 _ rfl
  go_wp2
  refine bodyPost_ret (v:=.agg #[.slice (some ⟨gb,y*3,none⟩) (k - y) (c - y)]) (by simp [results,Tryz.results82,go_sem,z0]) rfl ?_
  exact dba_fin hgw (HSR) cu10 C10 _
 have d2:(x==2)=false:=by simp [e2]
 by_cases e3:x=3
 ·have d3:(x==3)=true:=by simp [e3]
  subst e3
  go_wp2_with fail
  refine(l4Tab_i g _ _ 2 3 _ cu4 (by decide) (by omega) (by omega) (by omega) (by omega) (by omega)).mono ?_
  rintro e w5 ⟨t,cs,ft,rfl,oT,fT,_,cu5,ch5⟩
  obtain⟨At,nt,ct,_,rfl,rfl,hts,hta,oR⟩:=rTable_own.1 oT
  obtain⟨gt,hgt⟩:∃ z,z=w5.heap.size:=⟨_,rfl⟩
  obtain⟨w6,hw6⟩:∃ W,W=w5.alloc (.cells #[.string t.fName,.int .i64 t.fArity,.slice At nt ct] 82):=⟨_,rfl⟩
  have b6:Below w5.heap.size w5 w6:=by rw [hw6];exact(Below.refl _ _).alloc (Nat.le_refl _) _
  have kt:Bk w6 gt 82 [.string t.fName,.int .i64 t.fArity,.slice At nt ct]:=by rw [hw6,hgt];exact Bk.new w5 _ _
  have oT6:=(rTable_ok NB).ownB oT b6
  have ltT:∀ z∈ft,z<w6.heap.size:=fun z hz=>(rTable_ok NB).lt oT6 z hz
  have D6:=ch5.trans (Chg.ofBelow b6 _)
  have cu6:=cu5.below b6
  have HGT:=Lib.hid hgt
  have HW6:=Lib.hid hw6
  have hgtl:=kt.lt
  have hs4:w4.heap.size<=gt:=by have:=ch5.size;omega
  clear hgt hw6 oT oR cu5 ch5 b6
  go_upto_region 13 with fail
  rw [<- HGT.out,<- HW6.out]
  clear HGT HW6
  go_wp2_with fail
  refine(l4Tab_i g _ _ 2 3 _ cu6 (by decide) (by omega) (by omega) (by omega) (by omega) (by omega)).mono ?_
  rintro e w7 ⟨u,cs,fu,rfl,oU,fU,_,cu7,ch7⟩
  obtain⟨Au,nu,cu_,_,rfl,rfl,hus,hua,oR⟩:=rTable_own.1 oU
  obtain⟨gu,hgu⟩:∃ z,z=w7.heap.size:=⟨_,rfl⟩
  obtain⟨w8,hw8⟩:∃ W,W=w7.alloc (.cells #[.string u.fName,.int .i64 u.fArity,.slice Au nu cu_] 82):=⟨_,rfl⟩
  have b8:Below w7.heap.size w7 w8:=by rw [hw8];exact(Below.refl _ _).alloc (Nat.le_refl _) _
  have ku:Bk w8 gu 82 [.string u.fName,.int .i64 u.fArity,.slice Au nu cu_]:=by rw [hw8,hgu];exact Bk.new w7 _ _
  have D8':=ch7.trans (Chg.ofBelow b8 _)
  have kt8:Bk w8 gt 82 [.string t.fName,.int .i64 t.fArity,.slice At nt ct]:=(D8'.block _ hgtl (by simp;omega)).trans kt
  have D8:=D6.trans D8'
  have b9:=(Below.refl w8.heap.size w8).alloc (Nat.le_refl _) (.cells #[.string t.fName,.int .i64 t.fArity,.slice At nt ct,.string u.fName,.int .i64 u.fArity,.slice Au nu cu_] 82)
  have D9:=D8.trans (Chg.ofBelow b9 _)
  obtain⟨v0,hv0,hbv,hMv⟩:=m4.upto (rTable_ok NB) D9 hg1
  have hoT:=(rTable_ok NB).ownB (Stb.low (rTable_ok NB) oT6 D8' (fun z hz=>by have:=fT.ge z hz;have:=cu4.lt;simp;omega)) b9
  have hoU:=(rTable_ok NB).ownB ((rTable_ok NB).ownB oU b8) b9
  have h2:All3 ((rTable NB).own (w8.alloc (.cells #[.string t.fName,.int .i64 t.fArity,.slice At nt ct,.string u.fName,.int .i64 u.fArity,.slice Au nu cu_] 82))) [ft,fu] [[.string t.fName,.int .i64 t.fArity,.slice At nt ct],[.string u.fName,.int .i64 u.fArity,.slice Au nu cu_]] [t,u]:=⟨hoT,hoU,trivial⟩
  have hfr:Fr v0.heap.size [ft,fu].flatten:=by
   rw [show [ft,fu].flatten=ft++fu by simp]
   exact(fT.mono (by omega)).append fU ltT (by have:=D6.size;omega)
  have hBv:w.heap.size+1<=v0.heap.size:=by omega
  have hbk:=Bk.new w8 [.string t.fName,.int .i64 t.fArity,.slice At nt ct,.string u.fName,.int .i64 u.fArity,.slice Au nu cu_] 82
  have hc2:0<2->∃ b off,(some ⟨w8.heap.size,0,none⟩:Option Addr)=some ⟨b,off,none⟩/\∀ (j:Nat) c,[[Value.string t.fName,.int .i64 t.fArity,.slice At nt ct],[.string u.fName,.int .i64 u.fArity,.slice Au nu cu_]][j]?=some c->∀ (i:Nat) v,c[i]?=some v->(w8.alloc (.cells #[.string t.fName,.int .i64 t.fArity,.slice At nt ct,.string u.fName,.int .i64 u.fArity,.slice Au nu cu_] 82)).cell? ⟨b,off+j*(rTable NB).size+i,none⟩=some v:=fun _=>by
   refine⟨_,_,rfl,fun j cc hj i v hi=>?_⟩
   match j,hj with
   | 0,hj =>
    simp at hj;subst hj
    rw [show 0+0*(rTable NB).size+i=i by show 0+0*3+i=i;omega]
    match i,hi with
    | 0,hi=>exact hbk.bx 0 _ hi
    | 1,hi=>exact hbk.bx 1 _ hi
    | 2,hi=>exact hbk.bx 2 _ hi
   | 1,hj =>
    simp at hj;subst hj
    rw [show 0+1*(rTable NB).size+i=3+i by show 0+1*3+i=3+i;omega]
    match i,hi with
    | 0,hi=>exact hbk.bx 3 _ hi
    | 1,hi=>exact hbk.bx 4 _ hi
    | 2,hi=>exact hbk.bx 5 _ hi
  have kD8:Bk w8 gD 43 [.slice (some ⟨gb,0,none⟩) k c]:=(D8.block _ hgD4 (by simp;omega)).trans kD4
  have kD9:=kD8.below b9
  have kR9:Bk (w8.alloc (.cells #[.string t.fName,.int .i64 t.fArity,.slice At nt ct,.string u.fName,.int .i64 u.fArity,.slice Au nu cu_] 82)) w.heap.size 43 [.slice none 0 0]:=(D9.block _ kR4.lt (by simp;omega)).trans kR4
  have C9:=C4.trans D9
  have cu9:=(cu7.below b8).below b9
  have HGU:=Lib.hid hgu
  have HW8:=Lib.hid hw8
  have dd0:=kD8.bx 0 _ rfl
  have ⟨t0,_,t1,_,t2,_⟩:=kt8.r3
  have ⟨u0,_,u1,_,u2,_⟩:=ku.r3
  have hkn:k+2<=7:=by have:=H5.out;omega
  clear hgu hw8 oU oR cu7 ch7 b8 D8 D8' hoT hoU hbk
  go_upto_region 14 with fail
  rw [<- HGU.out,<- HW8.out]
  clear HGU HW8
  go_upto_region 15 with (at_builtin;refine wpList_apps (r:=rTable NB) rfl _ _ 41 rfl _ 48 eiTable (rTable_ok NB) rfl hMv hbv hBv rfl h2 rfl hfr hc2 (by unfold NB;omega) (Nat.le_refl _) (by omega) ?_;intro A9 c9 w9 hM9 hb9 hg9;have k9:=kD9.grw hg9 hng;have f9:=k9.frozen 0;have x9:=k9.bx 0 _ rfl)
  have b10:Below gD w9 (w9.setCell ⟨gD,0,none⟩ (.slice A9 (k+2) c9)):=(Below.refl _ _).setCell (p:=⟨gD,0,none⟩) (Nat.le_refl _) _
  have m10:=tabs_box k9 hM9 (.slice A9 (k+2) c9)
  have kD10:=k9.set 0 (.slice A9 (k+2) c9)
  have kR10:Bk (w9.setCell ⟨gD,0,none⟩ (.slice A9 (k+2) c9)) w.heap.size 43 [.slice none 0 0]:=(b10.block _ (by omega)).trans ((hb9.block _ (by omega)).trans kR9)
  have C10:=chgS (chgS C9 hb9 (by omega)) b10 (by omega)
  have cu10:=(cu9.low hg1 hb9).low hgv b10
  obtain⟨w10,hw10⟩:∃ W,W=w9.setCell ⟨gD,0,none⟩ (.slice A9 (k+2) c9):=⟨_,rfl⟩
  rw [<- hw10]at m10 kD10 kR10 C10 cu10 ⊢
  clear hw10 f9 x9 k9 hM9 hb9 hg9 t0 t1 t2 u0 u1 u2 dd0 h2 hc2
  have d0:=kD10.bx 0 _ rfl
  have r0:=kR10.bx 0 _ rfl
  have g0:=kR10.frozen 0
  have z0:∀ v,(w10.setCell ⟨w.heap.size,0,none⟩ v).cell? ⟨w.heap.size,0,none⟩=some v:=fun v=>(kR10.set 0 v).bx 0 _ rfl
  go_wp2
  refine bodyPost_ret (v:=.agg #[.slice A9 (k+2) c9]) (by simp [results,Tryz.results82,go_sem,z0]) rfl ?_
  exact dba_fin hgw (dba_own hgw m10) cu10 C10 _
 have d3:(x==3)=false:=by simp [e3]
 have dd0:=kD4.bx 0 _ rfl
 have r0:=kR4.bx 0 _ rfl
 have g0:=kR4.frozen 0
 have z0:∀ v,(w4.setCell ⟨w.heap.size,0,none⟩ v).cell? ⟨w.heap.size,0,none⟩=some v:=fun v=>(kR4.set 0 v).bx 0 _ rfl
 go_wp2
 refine bodyPost_ret (v:=.agg #[.slice (some ⟨gb,0,none⟩) k c]) (by simp [results,Tryz.results82,go_sem,z0]) rfl ?_
 exact dba_fin hgw (dba_own hgw m4) cu4 C4 _
end Go.Proofs.YtiafklphblkpbaaGreat
