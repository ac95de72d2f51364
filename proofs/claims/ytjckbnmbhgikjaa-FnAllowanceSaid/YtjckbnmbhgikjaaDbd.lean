/-
  Dbd
-/
import Derived.Test.YtjckbnmbhgikjaaTda
import Derived.Test.YtjckbnmbhgikjaaKeep
import Derived.Test.YtjckbnmbhgikjaaTo
namespace Go.Proofs.Ytjckbnmbhgikjaa
open Go.RowKit
set_option linter.unusedVariables false
set_option linter.unusedSimpArgs false
theorem rTable_nt {t:TypeId}(h1:(51:TypeId)≠t) (h2:(3:TypeId)≠t):(rTable NB).NT t:=rIso_nt (rPair_nt rStr_nt (rPair_nt rInt_nt (rSlice_nt (rSlice_nt rInt_nt h2) h1))) _
theorem neDB:(84:TypeId)≠40/\(51:TypeId)≠40/\(3:TypeId)≠40:=by decide
/-- a database's tables, behind a store into its box -/
theorem tabs_box {W:World}{gD B:Nat}{x:Value}{A:Option Addr}{n c:Nat}{R:List TableD}(k:Bk W gD 40 [x]) (m:MS B NB 84 (rTable NB) W A n c R) (v:Value):MS B NB 84 (rTable NB) (W.setCell ⟨gD,0,none⟩ v) A n c R:=by
 obtain⟨fp,o,f⟩:=m
 have hn:=(o.nt (rTable_nt neDB.2.1 neDB.2.2) neDB.1).ne k
 exact⟨fp,o.okeep (rTable_ok NB) (fun q hq=>heap_setCell_other _ ⟨gD,0,none⟩ q _ (fun e=>hn (by have e2:q=gD:=e;rw [<- e2];exact hq))),f⟩
theorem tabs_ne {W:World}{gD B:Nat}{x:Value}{A:Option Addr}{n c:Nat}{R:List TableD}(k:Bk W gD 40 [x]) (m:MS B NB 84 (rTable NB) W A n c R):gD∉blk A:=fun h=>by
 obtain⟨fp,o,f⟩:=m
 obtain⟨_,fps,_,e,_⟩:=o.ex
 exact(o.nt (rTable_nt neDB.2.1 neDB.2.2) neDB.1).ne k (by rw [e];exact List.mem_append_left _ h)
theorem db_fin {w W:World}{g:Nat}{A:Option Addr}{n c:Nat}{L:List TableD}(hg:g<w.heap.size) (m:MS (w.heap.size+1) NB 84 (rTable NB) W A n c L) (hn:n=5) (cu:Cur W g) (hc:Chg [g] w W) (x:Value) :
  DrawnV (rDatabase NB) (fun d=>d.fTables.length=5) g w (.returned (.agg #[.slice A n c])) (W.setCell ⟨w.heap.size,0,none⟩ x):=by
 have hl:=m.len
 obtain⟨fp,o,f⟩:=m
 have b:Below w.heap.size W (W.setCell ⟨w.heap.size,0,none⟩ x):=(Below.refl _ _).setCell (p:=⟨w.heap.size,0,none⟩) (Nat.le_refl _) _
 refine⟨⟨L⟩,[.slice A n c],fp,rfl,rDatabase_own.2 ⟨A,n,c,fp,rfl,rfl,o.okeep (rTable_ok NB) (fun k hk=>heap_setCell_other _ ⟨w.heap.size,0,none⟩ k _ (fun e=>?_))⟩,f.mono (by omega),by show L.length=5;omega,cu.low hg b,chgS hc b (Nat.le_refl _)⟩
 have:=f.ge k hk;have e2:k=w.heap.size:=e;omega
theorem chgW2 {g gX:Nat}{w w7 W:World}(h:Chg [g] w w7) (hc:Chg [g,gX] w7 W) (hX:w.heap.size+1<=gX):Chg [g] w W :=
 ⟨hc.os.trans h.os,hc.tape.trans h.tape,hc.output.trans h.output,Nat.le_trans h.size hc.size,fun k hk hn=>(hc.block k (Nat.lt_of_lt_of_le hk h.size) (by simp at hn ⊢;omega)).trans (h.block k hk hn)⟩
set_option maxRecDepth 100000 in
set_option maxHeartbeats 3200000 in
theorem l5Db_c (g:Nat) (w:World) (hc:Cur w g):Calls Try.prog 31 #[.pointer (some ⟨g,0,none⟩)] w (DrawnV (rDatabase NB) (fun d=>d.fTables.length=5) g w):=by
 have hgw:=hc.lt
 obtain⟨w1,hw1⟩:∃ W,W=w.alloc (.cells #[.slice none 0 0] 40):=⟨_,rfl⟩
 have hs1:w1.heap.size=w.heap.size+1:=by rw [hw1];simp
 have b1:Below w.heap.size w w1:=by rw [hw1];exact(Below.refl _ _).alloc (Nat.le_refl _) _
 have kR:Bk w1 w.heap.size 40 [.slice none 0 0]:=by rw [hw1];exact Bk.new w _ _
 have cu1:=hc.below b1
 have C1:Chg [g] w w1:=Chg.ofBelow b1 _
 have HW1:=Lib.hid hw1
 have HS1:=Lib.hid hs1
 clear b1 hw1 hs1
 go_enter Try.func31,Try.ntmps31
 go_upto_region 1 with fail
 rw [<- HW1.out]
 go_wp2_with fail
 refine(l1PickInt_c g _ 4 4 [2,3,4,6] _ (RS.lit w1 [2,3,4,6] _ (by simp) (by simp [I64])) cu1.ne (by omega) (cu1.alloc _)).mono ?_
 rintro e w2 ⟨val,rfl,hval,cu2,ch2⟩
 have hv9:val<=9:=by simp at hval;omega
 replace ch2:=ch2.al
 go_wp2_with fail
 refine(l1PickInt_c g _ 4 4 [2,4,6,8] _ (RS.lit w2 [2,4,6,8] _ (by simp) (by simp [I64])) cu2.ne (by omega) (cu2.alloc _)).mono ?_
 rintro e w3 ⟨most,rfl,hmost,cu3,ch3⟩
 have hm0:0<=most/\most<=8:=by simp at hmost;omega
 replace ch3:=ch3.al
 have C3:=(C1.trans ch2).trans ch3
 have kR3:Bk w3 w.heap.size 40 [.slice none 0 0]:=((ch2.trans ch3).block _ kR.lt (by simp;omega)).trans kR
 have hs3:w.heap.size+1<=w3.heap.size:=by have:=ch2.size;have:=ch3.size;have:=HS1.out;omega
 clear hval hmost cu1 C1 kR ch2 ch3 cu2
 obtain⟨gD,hgD⟩:∃ z,z=w3.heap.size:=⟨_,rfl⟩
 obtain⟨w4,hw4⟩:∃ W,W=w3.alloc (.cells #[.slice none 0 0] 40):=⟨_,rfl⟩
 obtain⟨w5,hw5⟩:∃ W,W=w4.alloc (.cells #[.string ⟨#[114]⟩,.string ⟨#[115]⟩,.string ⟨#[116]⟩,.string ⟨#[117]⟩,.string ⟨#[118]⟩] 9):=⟨_,rfl⟩
 have b4:Below w3.heap.size w3 w4:=by rw [hw4];exact(Below.refl _ _).alloc (Nat.le_refl _) _
 have b5:Below w4.heap.size w4 w5:=by rw [hw5];exact(Below.refl _ _).alloc (Nat.le_refl _) _
 have hs4:w4.heap.size=gD+1:=by rw [hw4,hgD];simp
 have hs5:w5.heap.size=gD+1+1:=by rw [hw5];simp [hs4]
 have kD:Bk w5 gD 40 [.slice none 0 0]:=by refine Bk.below ?_ b5;rw [hw4,hgD];exact Bk.new w3 _ _
 have rN:RS NB (rStr NB) w5 (some ⟨gD+1,0,none⟩) 5 5 [⟨#[114]⟩,⟨#[115]⟩,⟨#[116]⟩,⟨#[117]⟩,⟨#[118]⟩]:=by rw [hw5,<- hs4];exact RS.litS w4 [⟨#[114]⟩,⟨#[115]⟩,⟨#[116]⟩,⟨#[117]⟩,⟨#[118]⟩] _ (by decide) (by decide)
 have kR5:=(kR3.below b4).below b5
 have C5:=(C3.trans (Chg.ofBelow b4 _)).trans (Chg.ofBelow b5 _)
 have cu5:=(cu3.below b4).below b5
 have hgDw:w.heap.size+1<=gD:=by omega
 have hgv:g<gD:=by omega
 have HN:Hid (∀ W,Chg [g,gD] w5 W->RS NB (rStr NB) W (some ⟨gD+1,0,none⟩) 5 5 [⟨#[114]⟩,⟨#[115]⟩,⟨#[116]⟩,⟨#[117]⟩,⟨#[118]⟩]):=by
  show ∀ W,_->_
  exact fun W hW=>rN.chgS hW (fun k hk=>by simp [blk]at hk;simp;omega)
 have HK:Hid (∀ W,Chg [g,gD] w5 W->Bk W w.heap.size 40 [.slice none 0 0]):=by
  show ∀ W,_->_
  exact fun W hW=>(hW.block _ kR5.lt (by simp;omega)).trans kR5
 have HC5:=Lib.hid C5
 have HW4:=Lib.hid hw4
 have HW5:=Lib.hid hw5
 have HGD:=Lib.hid hgD
 have HS5:=Lib.hid hs5
 have HS4:=Lib.hid hs4
 clear hw4 hw5 hgD hs4 hs5 b4 b5 rN kR5 kR3 C5 C3 cu3
 go_upto_region 4 with fail
 rw [<- HGD.out,<- HW4.out]
 go_wp2
 rw [HS4.out,<- HW5.out]
 clear HW4 HW5 HGD HS4 HW1 HS1 hs3
 obtain⟨B,hBe⟩:∃ B,B=w5.heap.size:=⟨_,rfl⟩
 have HBE:=Lib.hid hBe
 have hB:gD+1+1<=B:=by have:=HS5.out;omega
 clear hBe HS5
 go_loopw [19] (fun iv wr=>∃ (k c:Nat) (A:Option Addr) (L:List TableD),k<=5/\iv=.int .i64 k/\Bk wr gD 40 [.slice A k c]/\MS B NB 84 (rTable NB) wr A k c L/\Chg [g,gD] w5 wr/\Cur wr g) (fun iv _=>5 - (intOf iv).toNat)
 case atStart=>exact⟨0,0,none,[],by omega,rfl,kD,MS.nil _ (Nat.zero_le _),Chg.refl _ _,cu5⟩
 case round =>
  clear kD cu5
  obtain⟨k,c,A,L,hk,rfl,kD,mT,hC,hcu⟩:=hrel
  have hszB:B<=wr.heap.size:=by have:=hC.size;have:=HBE.out;omega
  by_cases hk5:k<5
  ·have hki:(k:Int)<5:=by omega
   obtain⟨b,off,nm,e,hcn,hnz,_⟩:=(HN.out wr hC).atS hk5
   injection e with e;injection e with e1 e2;subst e1;subst e2
   rw [Nat.zero_add]at hcn
   have hB1:B<=wr.heap.size:=hszB
   cases hu:(nm.toList==[117])<;>cases hv:(nm.toList==[118])
   all_goals
    go_wp2_with fail
    refine(l4Tab_i g nm _ most val _ hcu hnz (by omega) (by omega) hm0.1 hm0.2 hv9).mono ?_
    rintro e w6 ⟨t,cs,fp,rfl,oT,fT,_,cu6,ch6⟩
    obtain⟨At,nt,ct,_,rfl,rfl,hts,hta,oR⟩:=rTable_own.1 oT
    obtain⟨gt,hgt⟩:∃ z,z=w6.heap.size:=⟨_,rfl⟩
    obtain⟨w7,hw7⟩:∃ W,W=w6.alloc (.cells #[.string t.fName,.int .i64 t.fArity,.slice At nt ct] 84):=⟨_,rfl⟩
    have b7:Below w6.heap.size w6 w7:=by rw [hw7];exact(Below.refl _ _).alloc (Nat.le_refl _) _
    have kt:Bk w7 gt 84 [.string t.fName,.int .i64 t.fArity,.slice At nt ct]:=by rw [hw7,hgt];exact Bk.new w6 _ _
    have C7:=ch6.trans (Chg.ofBelow b7 _)
    have b8:=(Below.refl w7.heap.size w7).alloc (Nat.le_refl _) (.cells #[.string t.fName,.int .i64 t.fArity,.slice At nt ct] 84)
    have C8:=C7.trans (Chg.ofBelow b8 _)
    obtain⟨v0,hv0,hbv,hMv⟩:=mT.upto (rTable_ok NB) C8 (by omega)
    have ho:=(rTable_ok NB).ownB ((rTable_ok NB).ownB oT b7) b8
    have hfr:Fr v0.heap.size fp:=fT.mono (by omega)
    have hBv:B<=v0.heap.size:=by omega
    have kD7:Bk w7 gD 40 [.slice A k c]:=(C7.block _ kD.lt (by simp;omega)).trans kD
    have kD8:=kD7.below b8
    have hng:=tabs_ne kD mT
    have D8:Chg [g,gD] w5 (w7.alloc (.cells #[.string t.fName,.int .i64 t.fArity,.slice At nt ct] 84)):=hC.trans (C8.mono (by simp))
    have cu8:=(cu6.below b7).below b8
    have HGT:=Lib.hid hgt
    have HW7:=Lib.hid hw7
    have d0:=kD7.bx 0 _ rfl
    have ⟨t0,_,t1,_,t2,_⟩:=kt.r3
    clear hgt hw7 oT fT oR cu6 ch6 b7 C7 hcn
    go_upto_region 13 with fail
    rw [<- HGT.out,<- HW7.out]
    clear HGT HW7
    go_wp2_with (at_builtin;refine wpList_appB (r:=rTable NB) rfl _ _ 38 rfl _ 48 eiTable (rTable_ok NB) rfl hMv hbv hBv ⟨w7.heap.size,0,none⟩ rfl fp [.string t.fName,.int .i64 t.fArity,.slice At nt ct] t ho hfr (cells_new _ _ _) (by unfold NB;omega) (Nat.le_refl _) (by omega) ?_;intro A9 c9 w9 hM9 hb9 hg9 hA9;have k9:=kD8.grw hg9 hng;have f9:=k9.frozen 0;have x9:=k9.bx 0 _ rfl)
    go_roundw
    case rel=>exact⟨k+1,c9,A9,L++[t],by omega,by go_num,k9.set 0 _,tabs_box k9 hM9 _,(chgS D8 hb9 (by rw [HBE.out];exact Nat.le_refl _)).setCell (by simp) _ _,(cu8.low (by omega) hb9).low hgv ((Below.refl _ _).setCell (p:=⟨gD,0,none⟩) (Nat.le_refl _) _)⟩
    case measure=>simp [intOf];omega
  ·have hki:¬ (k:Int)<5:=by omega
   have H5:Hid (k=5):=by show _=_;omega
   have kR:=HK.out wr hC
   have C6:Chg [g] w wr:=chgW2 HC5.out hC hgDw
   have mT1:=mT.base (B':=w.heap.size+1) (by omega)
   clear mT hC
   go_wp2_with fail
   refine(l1Once_c g 8 _ (by omega) hcu).mono ?_
   rintro e w6 ⟨b,rfl,cu6,ch6⟩
   have kD6:Bk w6 gD 40 [.slice A k c]:=(ch6.block _ kD.lt (by simp;omega)).trans kD
   have kR6:Bk w6 w.heap.size 40 [.slice none 0 0]:=(ch6.block _ kR.lt (by simp;omega)).trans kR
   have m6:=Stb.lowM mT1 (rTable_ok NB) ch6 (fun z hz=>by simp;omega)
   have C7:=C6.trans ch6
   have hgD6:=kD6.lt
   clear kD kR mT1 hcu C6 ch6
   cases b
   ·have d0:=kD6.bx 0 _ rfl
    have r0:=kR6.bx 0 _ rfl
    have g0:=kR6.frozen 0
    have z0:∀ v,(w6.setCell ⟨w.heap.size,0,none⟩ v).cell? ⟨w.heap.size,0,none⟩=some v:=fun v=>(kR6.set 0 v).bx 0 _ rfl
    go_wp2
    refine bodyPost_ret (v:=.agg #[.slice A k c]) (by simp [results,Try.results31,go_sem,z0]) rfl ?_
    exact db_fin hgw m6 H5.out cu6 C7 _
   ·have hk0:0<k:=by have:=H5.out;omega
    obtain⟨gb,rfl,hgb1,hgb2⟩:=m6.form hk0
    have HSS:=Lib.hid (fun (w':World) (h:w'.heap[gD]?=w6.heap[gD]?)=>(Bk.bx (h.trans kD6:Bk w' gD 40 [.slice (some ⟨gb,0,none⟩) k c]) 0 _ rfl:w'.cell? ⟨gD,0,none⟩=some (.slice (some ⟨gb,0,none⟩) k c)))
    go_wp2
    refine hgg 6 HSS.out rfl (fun hHeld=>?_)
    refine tgk 0 42 hHeld ?_;simp only [putS]
    refine tgk 1 43 hHeld ?_;simp only [putS]
    refine tgk 2 44 hHeld ?_;simp only [putS]
    refine rg 3 (some 45) fun K hK=>?_
    clear hHeld
    go_simp
    refine(l1Below_c g 5 _ (by omega) (cu6.below (Below.refl _ _).drew)).mono ?_
    rintro e w7 ⟨y,rfl,⟨hy0,_,hy1⟩,cu7,ch7⟩
    have hy2:=hy1 (by omega)
    have CP:Chg [g] w6 w7:=(Chg.ofBelow (Below.refl _ _).drew _).trans ch7
    have XD:w7.heap[gD]?=w6.heap[gD]?:=CP.block _ hgD6 (by simp;omega)
    obtain⟨y,rfl⟩:∃ j:Nat,y=j:=⟨y.toNat,by omega⟩
    have hyk:y<k:=by have:=H5.out;omega
    have hyi:(y:Int)<k:=by omega
    have m7:=Stb.lowM m6 (rTable_ok NB) CP (fun z hz=>by simp;omega)
    obtain⟨u,hu⟩:=m7.hasCell (j:=y*3+2) (by show y*3+2<k*3;omega)
    have fu:=m7.frozen (y*3+2)
    go_wp2_with fail
    refine hK.out _ _ (fun _=>HSS.out _ XD) fun hHeld=>?_
    replace hHeld:=hHeld (by decide)
    clear hK K
    try simp only [putS]
    refine rg 4 (some 46) fun K hK=>?_
    clear hHeld
    go_simp
    refine hK.out _ _ (fun _=>HSS.out _ XD) fun hHeld=>?_
    replace hHeld:=hHeld (by decide)
    clear hK K
    try simp only [putS]
    refine rg 5 (some 47) fun K hK=>?_
    clear hHeld
    go_simp
    refine hK.out _ _ (fun _=>HSS.out _ XD) fun hHeld=>?_
    replace hHeld:=hHeld (by decide)
    clear hK K
    try simp only [putS]
    refine rg 6 none fun K hK=>?_
    clear hHeld
    go_simp
    refine hK.out _ _ (fun h=>absurd rfl h) fun hHeld=>?_
    clear hK K
    try simp only [putS]
    refine wpG_done (by kernel_rfl) ?_ _
    clear hHeld
    obtain⟨w8,hw8⟩:∃ W,W=w7.setCell ⟨gb,y*3+2,none⟩ (.slice none 0 0):=⟨_,rfl⟩
    have b8:Below (w.heap.size+1) w7 w8:=by rw [hw8];exact(Below.refl _ _).setCell (p:=⟨gb,y*3+2,none⟩) hgb2 _
    have hgbD:gD≠gb:=fun h=>tabs_ne kD6 m6 (by rw [h];simp [blk])
    have kD7:Bk w7 gD 40 [.slice (some ⟨gb,0,none⟩) k c]:=XD.trans kD6
    have kD8:Bk w8 gD 40 [.slice (some ⟨gb,0,none⟩) k c]:=by rw [hw8];exact(heap_setCell_other _ ⟨gb,y*3+2,none⟩ gD _ (fun e=>hgbD e)).trans kD7
    have kR8:Bk w8 w.heap.size 40 [.slice none 0 0]:=(b8.block _ (by omega)).trans ((CP.block _ kR6.lt (by simp;omega)).trans kR6)
    obtain⟨L8,m8⟩:∃ L8,MS (w.heap.size+1) NB 84 (rTable NB) w8 (some ⟨gb,0,none⟩) k c L8:=by
     obtain⟨fp,o,f⟩:=m7
     have hx:L[y]?=some (L[y]'(by rw [o.len];exact hyk)):=List.getElem?_eq_getElem _
     obtain⟨fp',o',f',_⟩:=o.setH (rTable_ok NB) f hx (x':=⟨(L[y]'(by rw [o.len];exact hyk)).fName,(L[y]'(by rw [o.len];exact hyk)).fArity,[]⟩) (j:=2) (by decide) (.slice none 0 0) (fun W f c h=>by
      obtain⟨AV,nV,cV,fV,rfl,rfl,h1,h2,h3⟩:=rTable_own.1 h
      exact .inr (rTable_own.2 ⟨none,0,0,[],rfl,rfl,h1,h2,⟨rfl,Nat.zero_le _,[],[],World.ownsRow_nil _ 0 _ _,rfl,trivial⟩⟩))
     rw [hw8];exact⟨_,fp',o',f'⟩
    have C8:=chgS (C7.trans CP) b8 (by omega)
    have cu8:=cu7.low (by omega) b8
    rw [<- hw8]
    clear hw8 hu fu m7
    have d0:=kD8.bx 0 _ rfl
    have r0:=kR8.bx 0 _ rfl
    have g0:=kR8.frozen 0
    have z0:∀ v,(w8.setCell ⟨w.heap.size,0,none⟩ v).cell? ⟨w.heap.size,0,none⟩=some v:=fun v=>(kR8.set 0 v).bx 0 _ rfl
    go_wp2
    refine bodyPost_ret (v:=.agg #[.slice (some ⟨gb,0,none⟩) k c]) (by simp [results,Try.results31,go_sem,z0]) rfl ?_
    exact db_fin hgw m8 H5.out cu8 C8 _
end Go.Proofs.Ytjckbnmbhgikjaa
