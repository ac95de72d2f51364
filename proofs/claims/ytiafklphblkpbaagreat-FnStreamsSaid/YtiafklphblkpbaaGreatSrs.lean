/-
  Srs
-/
import Derived.Test.YtiafklphblkpbaaGreatKeep
import Derived.Test.YtiafklphblkpbaaGreatStw
import Derived.Test.YtiafklphblkpbaaGreatCpr
import Derived.Test.YtiafklphblkpbaaGreatMrp
namespace Go.Proofs.YtiafklphblkpbaaGreat
open Go.RowKit
set_option linter.unusedVariables false
set_option linter.unusedSimpArgs false
/-- the rows that bear v in column t -/
def atV (t:Nat) (v:Nat) (l:List (List Int)):List (List Int):=l.filter fun r=>decide (r[t]?=some (v:Int))
/-- the rows that bear less than k in column t, by their values -/
def bkt (t:Nat) (l:List (List Int)) (k:Nat):List (List Int):=(List.range k).flatMap fun v=>atV t v l
theorem bkt_snoc (t:Nat) (l:List (List Int)) (k:Nat):bkt t l (k+1)=bkt t l k++atV t k l:=by unfold bkt;rw [List.range_succ,List.flatMap_append];simp
theorem atV_len (t v:Nat) (l:List (List Int)):(atV t v l).length<=l.length:=List.length_filter_le _ _
theorem bkt_len (t:Nat) (l:List (List Int)) (k:Nat):(bkt t l k).length<=k*l.length:=by
 induction k with
 | zero=>simp [bkt]
 | succ k ih=>rw [bkt_snoc,List.length_append,Nat.add_mul];have:=atV_len t k l;omega
theorem atV_yes {t v:Nat}{l:List (List Int)}{k:Nat}{x:List Int}(h:l[k]?=some x) (hv:x[t]?=some (v:Int)):atV t v (l.take (k+1))=atV t v (l.take k)++[x]:=by
 unfold atV;rw [take_snoc h,List.filter_append];simp [hv]
theorem atV_no {t v:Nat}{l:List (List Int)}{k:Nat}{x:List Int}(h:l[k]?=some x) (hv:¬ x[t]?=some (v:Int)):atV t v (l.take (k+1))=atV t v (l.take k):=by
 unfold atV;rw [take_snoc h,List.filter_append];simp [hv]
def sortStream (x:StreamD) (v:Int):StreamD × Bool:=if validStream x then (match x.fVars.findIdx? (fun c=>c==v) with|some t=>(⟨x.fVars,bkt t x.fRows 10⟩,true)|none=>(⟨[],[]⟩,false)) else (⟨[],[]⟩,false)
theorem sortStream_no1 {x:StreamD}{v:Int}(h:validStream x=false):sortStream x v=(⟨[],[]⟩,false):=by unfold sortStream;rw [if_neg (by rw [h];decide)]
theorem sortStream_no2 {x:StreamD}{v:Int}(h:x.fVars.findIdx? (fun c=>c==v)=none):sortStream x v=(⟨[],[]⟩,false):=by unfold sortStream;rw [h];split<;>rfl
theorem sortStream_yes {x:StreamD}{v:Int}{t:Nat}(h:validStream x=true) (ht:x.fVars.findIdx? (fun c=>c==v)=some t):sortStream x v=(⟨x.fVars,bkt t x.fRows 10⟩,true):=by unfold sortStream;rw [if_pos h,ht]
set_option maxRecDepth 100000 in
set_option maxHeartbeats 1600000 in
theorem sSortStream_c (csx:List Value) (x:StreamD) (v:Int) (w:World) (hx:(rStream NB).rep w csx x) :
  Calls Tryz.prog 26 #[.agg csx.toArray,.int .i64 v] w (RetVB (rStream NB) (sortStream x v).1 (.bool (sortStream x v).2) w):=by
 have rx:=hx
 obtain⟨AxVars,nxVars,cxVars,AxRows,nxRows,cxRows,rfl,hxVars,hxRows⟩:=rStream_rep.1 hx
 clear hx
 have hB:Below w.heap.size w w:=Below.refl _ _
 have hAx:=(Below.refl (World.heap (w)).size (w)).alloc (Nat.le_refl _) (.cells #[.slice AxVars nxVars cxVars,.slice AxRows nxRows cxRows] 51)
 replace hB:=hB.trans (hAx.mono hB.size)
 have bxx:=Bx.new (w) [.slice AxVars nxVars cxVars,.slice AxRows nxRows cxRows] 51
 clear hAx
 have hnr:=hxRows.bound
 have hnv:=hxVars.bound
 obtain⟨wa,hwa⟩:∃ W,W=w.alloc (.cells #[.slice AxVars nxVars cxVars,.slice AxRows nxRows cxRows] 51):=⟨_,rfl⟩
 rw [<- hwa]at hB bxx
 have hsa:wa.heap.size=w.heap.size+1:=by rw [hwa];simp
 have kR:=Bk.new wa [.slice none 0 0,.slice none 0 0] 51
 have hb0:=(Below.refl wa.heap.size wa).alloc (Nat.le_refl _) (.cells #[.slice none 0 0,.slice none 0 0] 51)
 rw [hsa]at kR
 replace hB:=hB.trans (hb0.mono hB.size)
 replace bxx:=bxx.below hb0
 clear hb0
 obtain⟨wb,hwb⟩:∃ W,W=wa.alloc (.cells #[.slice none 0 0,.slice none 0 0] 51):=⟨_,rfl⟩
 rw [<- hwb]at hB bxx kR
 have HR:=Lib.hid hxRows.len
 have HRows:=Lib.hid hxRows
 go_enter Tryz.func26,Tryz.ntmps26
 go_upto_region 1 with fail
 rw [<- hwa,<- hwb]
 clear hwa hwb hsa
 have kx_0:=bxx 0 _ rfl
 have kx_1:=bxx 1 _ rfl
 rcases idxOf_or (l:=x.fVars) (v:=v) with ⟨f1,f2⟩|⟨t,f1,f2,f3⟩
 ·have HS:Hid (sortStream x v=(⟨[],[]⟩,false)):=by show _=_;exact sortStream_no2 f2
  have F1:=Lib.hid f1;clear f1 f2
  go_wp2_with fail
  refine(sl27Find_b F1.out (hxVars.below rInt_ok hB)).mono ?_
  rintro e w1 ⟨rfl,he1⟩
  have hb1:=Below.of_eq he1;clear he1
  replace hB:=hB.trans (hb1.mono hB.size)
  replace bxx:=bxx.below hb1
  replace kR:=kR.below hb1
  clear hb1 kx_0 kx_1
  have kx_0:=bxx 0 _ rfl
  have kx_1:=bxx 1 _ rfl
  go_wp2_with fail
  refine(sIsValidStream_c _ x _ ((rStream_ok NB).keep rx (cells_below hB))).mono ?_
  rintro e w2 ⟨rfl,hb2⟩
  replace hB:=hB.trans (hb2.mono hB.size)
  replace bxx:=bxx.below hb2
  replace kR:=kR.below hb2
  clear hb2 kx_0 kx_1
  obtain⟨r0,g0,r1,g1⟩:=kR.r2
  cases hv:validStream x
  all_goals
   go_wp2
   have q:=kR.s2
   refine bodyPost_ret (v:=_) (by simp [results,Tryz.results26,go_sem,q];rfl) rfl ?_
   rw [HS.out]
   exact zStm_r _ w (bls2 hB (Nat.le_succ _) _ _)
 have F1:=Lib.hid f1;clear f1
 go_wp2_with fail
 refine(sl27Find_b F1.out (hxVars.below rInt_ok hB)).mono ?_
 rintro e w3 ⟨rfl,he3⟩
 have hb3:=Below.of_eq he3;clear he3
 replace hB:=hB.trans (hb3.mono hB.size)
 replace bxx:=bxx.below hb3
 replace kR:=kR.below hb3
 clear hb3 kx_0 kx_1
 have kx_0:=bxx 0 _ rfl
 have kx_1:=bxx 1 _ rfl
 go_wp2_with fail
 refine(sIsValidStream_c _ x _ ((rStream_ok NB).keep rx (cells_below hB))).mono ?_
 rintro e w4 ⟨rfl,hb4⟩
 replace hB:=hB.trans (hb4.mono hB.size)
 replace bxx:=bxx.below hb4
 replace kR:=kR.below hb4
 clear hb4 kx_0 kx_1
 cases hv:validStream x
 ·have HS:Hid (sortStream x v=(⟨[],[]⟩,false)):=by show _=_;exact sortStream_no1 hv
  clear hv
  obtain⟨r0,g0,r1,g1⟩:=kR.r2
  go_wp2
  have q:=kR.s2
  refine bodyPost_ret (v:=_) (by simp [results,Tryz.results26,go_sem,q];rfl) rfl ?_
  rw [HS.out]
  exact zStm_r _ w (bls2 hB (Nat.le_succ _) _ _)
 have HS:Hid (sortStream x v=(⟨x.fVars,bkt t x.fRows 10⟩,true)):=by show _=_;exact sortStream_yes hv f2
 have HC:=Lib.hid (col_of hv f3)
 have hn4:nxRows<=4096:=by rw [<- HR.out];exact(validStream_parts hv).2.2
 clear hv f2 f3
 have kx_0:=bxx 0 _ rfl
 have kx_1:=bxx 1 _ rfl
 have kz:=cells_below ((Below.refl w4.heap.size w4).alloc (Nat.le_refl _) (.cells #[] 3)) _ _ kx_0
 go_upto_region 5 with (at_builtin;refine wpList_appe (r:=rInt) (M:=NB) rfl _ _ 24 rfl _ 8 eiInt rInt_ok rInt_flat rfl (heap_alloc_new _ _) rfl (hxVars.below rInt_ok (hB.trans (((Below.refl _ _).alloc (Nat.le_refl _) _).mono hB.size))) hxVars.nb (Nat.le_refl _) (by omega) ?_;intro A1 c1 w5 o1 g1 hb5)
 obtain⟨w6,hw6⟩:∃ W,W=w5.alloc (.cells #[.slice A1 nxVars c1,.slice none 0 0] 51):=⟨_,rfl⟩
 have hb45:Below w4.heap.size w4 w5:=((Below.refl _ _).alloc (Nat.le_refl _) _).trans (hb5.mono (by simp))
 have hb6:Below w5.heap.size w5 w6:=by rw [hw6];exact(Below.refl _ _).alloc (Nat.le_refl _) _
 have hz6:w6.heap.size=w5.heap.size+1:=by rw [hw6];simp
 have J0:Stw w6 w5.heap.size A1 nxVars c1 none 0 0 [] w6:=⟨by rw [hw6];exact Bk.new _ _ _,MS.nil _ (Nat.zero_le _),Below.refl _ _,by omega⟩
 have hlt4:=kR.lt
 have hz45:=hb45.size
 have HV:Hid (∀ k∈blk A1,w.heap.size+1<k/\k<w5.heap.size):=by
  show ∀ k∈blk A1,_
  intro k hk
  have h1:=o1.lt rInt_ok k hk
  rcases g1 k hk with h|h
  ·omega
  ·simp at h;omega
 have ov:=o1.belowS rInt_ok hb6
 have hb46:=hb45.trans (hb6.mono hb45.size)
 replace hB:=hB.trans (hb46.mono hB.size)
 replace bxx:=bxx.below hb46
 replace kR:=kR.below hb46
 clear hb46 kx_0 kx_1
 rw [<- hw6]
 clear hw6 hb45 hb6 hb5 o1 g1 kz hxVars
 have hgX:w.heap.size+1<w5.heap.size:=by omega
 have OV:=Lib.hid ov;clear ov
 have hzz:w.heap.size<w5.heap.size:=by omega
 obtain⟨gX,hgx⟩:∃ g,g=w5.heap.size:=⟨_,rfl⟩
 rw [<- hgx]at J0 HV hgX hzz ⊢
 clear hz6 hz45 hlt4
 clear hgx
 go_wp2
 go_loopw [8] (fun i wr=>∃ (v n c:Nat) (A:Option Addr),v<=10/\i=.int .i64 v/\Stw w6 gX A1 nxVars c1 A n c (bkt t x.fRows v) wr) (fun i _=>10 - (intOf i).toNat)
 case atStart=>exact⟨0,0,0,none,by omega,rfl,J0⟩
 case round =>
  clear J0
  obtain⟨u,n0,c0,A0,hu,rfl,J0⟩:=hrel
  by_cases hu9:u<=9
  ·have hu9':(u:Int)<=9:=by omega
   obtain⟨wo,hwo⟩:∃ W,W=wr:=⟨_,rfl⟩
   rw [<- hwo]at J0 ⊢
   clear hwo
   go_wp2
   go_loopw [9] (fun i wr=>∃ (k n c:Nat) (A:Option Addr),k<=nxRows/\i=.int .i64 k/\Stw w6 gX A1 nxVars c1 A n c (bkt t x.fRows u++atV t u (x.fRows.take k)) wr) (fun i _=>nxRows - (intOf i).toNat)
   case atStart=>exact⟨0,n0,c0,A0,Nat.zero_le _,rfl,by rw [List.take_zero];simpa [atV]using J0⟩
   case round =>
    clear J0
    obtain⟨k,n,c,A,hk,rfl,J⟩:=hrel
    have kx_1:=(bxx.low hzz J.be) 1 _ rfl
    by_cases hlt:k<nxRows
    ·obtain⟨b,off,y,Ar,nr,cr,hAx,hc0,hy0,hyy⟩:=HRows.out.row hlt
     subst hAx
     obtain⟨a,ha,ha0,ha9⟩:=HC.out y (mem_of_at hyy.out)
     have hBr:Below w.heap.size w wr:=hB.trans (J.be.mono (by omega))
     have hcr:=cells_below hBr _ _ hc0
     have hy:=hy0.below rInt_ok hBr
     have htn:t<nr:=by rw [<- hy.len];exact lt_of_at ha
     obtain⟨b2,off2,a',rfl,hca,_,haa⟩:=hy.ati htn
     obtain rfl:a'=a:=by have:=haa.out;rw [ha]at this;injection this with this;exact this.symm
     have hbl:b<gX:=by have h1:b<w.heap.size:=World.block_lt_of_cell? w _ hc0;omega
     clear haa hc0 hy0
     by_cases hau:a'=(u:Int)
     ·have kb:(a'==(u:Int))=true:=by simp [hau]
      have HS9:=Lib.hid (atV_yes hyy.out (by rw [ha,hau]))
      clear ha hau
      have hn:n<=45056:=by
       have h1:=J.ms.len
       rw [List.length_append]at h1
       have h2:=bkt_len t x.fRows u
       have h3:=atV_len t u (x.fRows.take k)
       rw [List.length_take]at h3
       have h4:u*x.fRows.length<=9*4096:=Nat.mul_le_mul hu9 (by have:=HR.out;omega)
       have:=HR.out;omega
      have HSS:Hid (∀ w',Below (gX+1) wr w'->(w'.cell? ⟨w.heap.size,1,none⟩=some (.slice (some ⟨b,off,none⟩) nxRows cxRows)/\w'.cell? ⟨b,off+k,none⟩=some (.slice (some ⟨b2,off2,none⟩) nr cr)/\w'.cell? ⟨gX,1,none⟩=some (.slice A n c))):=by
       show ∀ w',_->_
       intro w' hb
       exact⟨(bxx.low hzz (J.be.trans (hb.mono (by omega)))) 1 _ rfl,(hb.cell (p:=⟨b,off+k,none⟩) (by show b<_;omega)).trans hcr,Bk.bx ((hb.block gX (by omega)).trans J.kX) 1 _ rfl⟩
      have hd0:=(Below.refl wr.heap.size wr).drew
      have hyn:=hy.bound
      go_wp2
      refine hgg 12 HSS.out (hd0.mono J.sz) (fun hHeld=>?_)
      refine tgk 0 48 hHeld ?_;simp only [putS]
      refine tgk 1 49 hHeld ?_;simp only [putS]
      refine tgk 3 51 hHeld ?_;simp only [putS]
      refine tgk 4 52 hHeld ?_;simp only [putS]
      refine tgk 5 53 hHeld ?_;simp only [putS]
      refine tgk 6 54 hHeld ?_;simp only [putS]
      refine tgk 7 55 hHeld ?_;simp only [putS]
      have hA:=Below.alb hd0 (.cells #[] 3)
      refine rg 2 (some 50) fun K hK=>?_
      clear hHeld
      go_simp
      refine hK.out _ _ (fun _=>HSS.out _ (hA.mono J.sz)) fun hHeld=>?_
      replace hHeld:=hHeld (by decide)
      clear hK K
      try simp only [putS]
      refine rg 8 (some 56) fun K hK=>?_
      clear hHeld
      refine step_appe (r:=rInt) (M:=NB) (by rfl) _ _ 24 (by rfl) _ 8 eiInt rInt_ok rInt_flat (by rfl) (heap_alloc_new _ _) (by rfl) (hy.below rInt_ok hA) hy.nb (Nat.le_refl _) (by omega) ?_
      intro A5 c5 w3 o5 g5 hb3
      have hC8:=hA.trans (hb3.mono hA.size)
      have F5:=cpyFr hd0 o5 g5
      refine hK.out _ _ (fun _=>HSS.out _ (hC8.mono J.sz)) fun hHeld=>?_
      replace hHeld:=hHeld (by decide)
      clear hK K
      try simp only [putS]
      have hD:=Below.alb hC8 (.cells #[.slice A5 nr c5] 24)
      refine rg 9 (some 57) fun K hK=>?_
      clear hHeld
      go_simp
      refine hK.out _ _ (fun _=>HSS.out _ (hD.mono J.sz)) fun hHeld=>?_
      replace hHeld:=hHeld (by decide)
      clear hK K
      try simp only [putS]
      refine rg 10 (some 58) fun K hK=>?_
      clear hHeld
      refine step_appR (r:=rSlice NB 3 rInt) (by rfl) _ _ 49 (by rfl) _ 24 eiRowS (rSlice_ok NB _ rInt_ok) (by rfl) J.ms hD J.sz ⟨w3.heap.size,0,none⟩ (by rfl) (f:=blk A5) (cs:=[.slice A5 nr c5]) (y:=y) ⟨A5,nr,c5,rfl,o5.belowS rInt_ok ((Below.refl _ _).alloc (Nat.le_refl _) _)⟩ F5 (cell_one_new _ _ _) (by unfold NB;omega) (Nat.le_refl _) (by omega) ?_
      intro A9 c9 w9 hM9 hb9 hg9 hA9
      have hG:=(hD.mono J.sz).trans hb9
      have J9:=(J.below hD).app hM9 hb9
      have X9:Bk w9 gX 51 [.slice A1 nxVars c1,.slice A n c]:=(hb9.block _ (by omega)).trans (J.below hD).kX
      have f9:=X9.frozen 1
      have k9:=X9.bx 1 _ rfl
      refine hK.out _ _ (fun _=>HSS.out _ hG) fun hHeld=>?_
      replace hHeld:=hHeld (by decide)
      clear hK K
      try simp only [putS]
      refine tgk 11 59 hHeld ?_;simp only [putS]
      refine rg 12 none fun K hK=>?_
      clear hHeld
      go_simp
      refine hK.out _ _ (fun h=>absurd rfl h) fun hHeld=>?_
      clear hK K
      try simp only [putS]
      refine wpG_done (by kernel_rfl) ?_ _
      clear hHeld
      clear HSS
      go_wp2
      go_roundw
      case rel=>exact⟨k+1,n+1,c9,A9,by omega,by go_num,by rw [HS9.out,<- List.append_assoc];exact J9⟩
      case measure=>simp [intOf];omega
     ·have kb:(a'==(u:Int))=false:=by simp [hau]
      have HS9:=Lib.hid (atV_no (v:=u) hyy.out (by rw [ha];simpa using hau))
      clear ha hau
      go_wp2
      go_roundw
      case rel=>exact⟨k+1,n,c,A,by omega,by go_num,by rw [HS9.out];exact J⟩
      case measure=>simp [intOf];omega
    ·have HE:Hid (bkt t x.fRows u++atV t u (x.fRows.take k)=bkt t x.fRows (u+1)):=by show _=_;rw [bkt_snoc,List.take_of_length_le (by have:=HR.out;omega)]
     go_wp2
     go_roundw
     case rel=>exact⟨u+1,n,c,A,by omega,by go_num,by rw [<- HE.out];exact J⟩
     case measure=>simp [intOf];omega
  ·have hu10:u=10:=by omega
   subst hu10
   have kR2:Bk wr (w.heap.size+1) 51 [.slice none 0 0,.slice none 0 0]:=(J0.be.block _ hgX).trans kR
   obtain⟨r0,g0,r1,g1⟩:=kR2.r2
   obtain⟨y0,y1⟩:=J0.kX.bx.b2
   go_wp2
   have q:=kR2.s2
   refine bodyPost_ret (v:=_) (by simp [results,Tryz.results26,go_sem,q];rfl) rfl ?_
   rw [HS.out]
   obtain⟨fp,e1,e2,e3⟩:=J0.fin (w:=w) OV.out HV.out hgX (Nat.le_succ _) (hB.trans (J0.be.mono (by omega))) (.slice A1 nxVars c1) (.slice A0 n0 c0)
   exact⟨_,fp,rfl,e1,e2,e3⟩
end Go.Proofs.YtiafklphblkpbaaGreat
