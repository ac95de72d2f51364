/-
  Ssb, Sst
-/
import Derived.Test.YtiafklphblkpbaaGreatSsm
import Derived.Test.YtiafklphblkpbaaGreatSrs
import Derived.Test.YtiafklphblkpbaaGreatEl
namespace Go.Proofs.YtiafklphblkpbaaGreat
open Go.RowKit Go.Sort
set_option linter.unusedVariables false
set_option linter.unusedSimpArgs false
section
variable {h:Hdr} {key:Nat->Int} {w0:World} {blk off N gk cap:Nat} {d:Array Nat} {w:World}
set_option maxRecDepth 100000 in
set_option maxHeartbeats 1600000 in
theorem stable_c (C:StC h key w0 blk off N gk) (S:Go.Proofs.SW h.enc w0 blk off d w) (hd:Okd N d) (hN2:N<=4294967296) (hown:∀ x,x<N->d[x]! = x) :
  Calls Tryz.prog 101 #[.slice (some ⟨blk,off,none⟩) N cap,.int .i64 N,.func (.func 63) #[] #[.pointer (some ⟨gk,0,none⟩)]] w fun e w'=>e=.returned (.tuple #[])/\∃ d',Blk key d' 0 N/\PermIn 0 N d d'/\Go.Proofs.SW h.enc w0 blk off d' w':=by
 have HS:=Lib.hid S;clear S
 have HD:=Lib.hid hd;clear hd
 have HO:=Lib.hid hown;clear hown
 go_enter Tryz.func101,Tryz.ntmps101
 go_wp2
 go_loopw [7,8] (fun av bv wr=>∃ (q a b:Nat) (dk:Array Nat),av=.int .i64 a/\bv=.int .i64 b/\b<=a+20/\a+20<=b/\a<=N/\Hid (a=q*20)/\Hid (BlksTo key dk 20 q)/\Hid (PermIn 0 a d dk)/\Hid (Go.Proofs.SW h.enc w0 blk off dk wr)) (fun av _ _=>N - (intOf av).toNat)
 case atStart=>exact⟨0,0,20,d,rfl,rfl,by omega,by omega,Nat.zero_le _,rfl,fun k hk=>absurd hk (Nat.not_lt_zero _),permIn_refl _ _ _,HS⟩
 case round =>
  obtain⟨q,a,b,dk,rfl,rfl,hb1,hb2,haN,QA,BT,P,S⟩:=hrel
  have hok:=Lib.hid (HD.out.perm P.out haN)
  have OW:Hid (∀ x,a<=x->x<N->dk[x]! = x):=by
   show ∀ x,_->_->_
   intro x h1 h2
   rw [P.out.2.1 x (by omega)];exact HO.out x h2
  have hN4:=C.hN
  obtain⟨b',hb'⟩:∃ b',b'=b+20:=⟨_,rfl⟩
  have rb:IntKind.i64.wrap ((b:Int)+20)=(b':Int):=by rw [IntWalk.i64_in _ (by omega)];omega
  have l1:b'<=b+20:=by omega
  have l2:b+20<=b':=by omega
  clear hb'
  by_cases hbn:b<=N
  ·have hbz:(b:Int)<=N:=by omega
   go_wp2_with fail
   refine(insert_c C S.out hok.out (a:=a) (b:=b) (by omega) hbn (fun x h1 h2=>OW.out x h1 (by omega))).mono ?_
   rintro e w2 ⟨rfl,d2,B2,P2,S2⟩
   have BT2:Hid (BlksTo key d2 20 (q+1)):=by
    have h1:=QA.out
    obtain rfl:b=q*20+20:=by omega
    subst h1
    exact BT.out.snoc P2 B2
   have P3:Hid (PermIn 0 b d d2):=by
    exact permIn_trans _ _ _ _ _ (permIn_mono _ _ _ _ _ _ (Nat.le_refl _) (by omega) (by rw [HD.out.1];omega) P.out) (permIn_mono _ _ _ _ _ _ (Nat.zero_le _) (Nat.le_refl _) (by rw [hok.out.1];omega) P2)
   have QB:Hid (b=(q+1)*20):=by show _=_;have:=QA.out;omega
   go_wp2
   go_roundw
   case rel=>exact⟨q+1,b,b',d2,rfl,rfl,by omega,by omega,hbn,QB,BT2,P3,S2⟩
   case measure=>simp [intOf];omega
  ·have hbz:¬ (b:Int)<=N:=by omega
   go_wp2_with fail
   refine(insert_c C S.out hok.out (a:=a) (b:=N) haN (Nat.le_refl _) OW.out).mono ?_
   rintro e w2 ⟨rfl,d2,B2,P2,S2⟩
   have J0:Hid (Blks key d2 20 0 N):=by
    have h1:=QA.out
    subst h1
    exact BT.out.all P2 (fun _=>B2) (by omega) haN
   have P0:Hid (PermIn 0 N d d2):=permIn_trans _ _ _ _ _ (permIn_mono _ _ _ _ _ _ (Nat.le_refl _) haN (by rw [HD.out.1];omega) P.out) (permIn_mono _ _ _ _ _ _ (Nat.zero_le _) (Nat.le_refl _) (by rw [hok.out.1];omega) P2)
   have S2:=Lib.hid S2
   clear hok OW rb hb1 hb2 l1 l2 QA BT P S B2 P2
   go_wp2
   go_loopw [6] (fun sv wr=>∃ (s:Nat) (dk:Array Nat),sv=.int .i64 s/\20<=s/\s<=2*N+20/\Hid (Blks key dk s 0 N)/\Hid (PermIn 0 N d dk)/\Hid (Go.Proofs.SW h.enc w0 blk off dk wr)) (fun sv _=>2*N+20 - (intOf sv).toNat)
   case atStart=>exact⟨20,d2,rfl,Nat.le_refl _,by omega,J0,P0,S2⟩
   case round =>
    clear J0 P0 S2
    obtain⟨s,dk,rfl,hs20,hsN,J,P,S⟩:=hrel
    have hok:=Lib.hid (HD.out.perm P.out (Nat.le_refl _))
    by_cases hsn:s<N
    ·have hsz:(s:Int)<N:=by omega
     obtain⟨s2,hs2⟩:∃ q,q=2*s:=⟨_,rfl⟩
     have r2:IntKind.i64.wrap ((2:Int)*(s:Int))=(s2:Int):=by rw [IntWalk.i64_in _ (by omega)];omega
     have r2':IntKind.i64.wrap ((s:Int)*(2:Int))=(s2:Int):=by rw [IntWalk.i64_in _ (by omega)];omega
     have l1:s2<=2*s:=by omega
     have l2:2*s<=s2:=by omega
     have HS2:=Lib.hid hs2;clear hs2
     go_wp2
     go_loopw [7,8] (fun av bv wr=>∃ (q a b:Nat) (dk:Array Nat),av=.int .i64 a/\bv=.int .i64 b/\b<=a+s2/\a+s2<=b/\a<=N/\Hid (a=q*s2)/\Hid (BlksTo key dk s2 q)/\Hid (Blks key dk s a N)/\Hid (PermIn 0 N d dk)/\Hid (Go.Proofs.SW h.enc w0 blk off dk wr)) (fun av _ _=>N - (intOf av).toNat)
     case atStart=>exact⟨0,0,s2,dk,rfl,rfl,by omega,by omega,Nat.zero_le _,by show _=_;omega,fun k hk=>absurd hk (Nat.not_lt_zero _),J,P,S⟩
     case round =>
      clear J P S hok
      obtain⟨q,a,b,dk,rfl,rfl,hb1,hb2,haN,QA,BT,J,P,S⟩:=hrel
      have hok:=Lib.hid (HD.out.perm P.out (Nat.le_refl _))
      obtain⟨m,hm⟩:∃ m,m=a+s:=⟨_,rfl⟩
      have rm:IntKind.i64.wrap ((a:Int)+(s:Int))=(m:Int):=by rw [IntWalk.i64_in _ (by omega)];omega
      have m1:m<=a+s:=by omega
      have m2:a+s<=m:=by omega
      have HM:=Lib.hid hm;clear hm
      obtain⟨b',hb'⟩:∃ b',b'=b+s2:=⟨_,rfl⟩
      have rb:IntKind.i64.wrap ((b:Int)+(s2:Int))=(b':Int):=by rw [IntWalk.i64_in _ (by omega)];omega
      have l3:b'<=b+s2:=by omega
      have l4:b+s2<=b':=by omega
      clear hb'
      by_cases hbn:b<=N
      ·have hbz:(b:Int)<=N:=by omega
       have F1:Hid (Blk key dk a m):=by have:=J.out.first (by omega);rw [Nat.min_eq_left (by omega),<- HM.out]at this;exact this
       have F2:Hid (Blk key dk m b):=by have:=J.out.second (by omega);rw [Nat.min_eq_left (by omega),<- HM.out,show m+s=b by omega]at this;exact this
       go_wp2_with fail
       refine(symMerge_c C N (d:=dk) (a:=a) (m:=m) (b:=b) (by omega) S.out hok.out (by omega) (by omega) hbn (F1.out.halves F2.out)).mono ?_
       rintro e w3 ⟨rfl,d3,M3,S3⟩
       have B3:=M3.blk F1.out F2.out ⟨by omega,by omega⟩ (by rw [hok.out.1];exact hbn)
       have BT3:Hid (BlksTo key d3 s2 (q+1)):=by
        have h1:=QA.out
        obtain rfl:b=q*s2+s2:=by omega
        subst h1
        exact BT.out.snoc M3.perm B3
       have J3:Hid (Blks key d3 s b N):=by
        have:=(J.out.drop 2)
        rw [show a+2*s=b by omega]at this
        exact this.out M3.perm (Nat.le_refl _)
       have P3:Hid (PermIn 0 N d d3):=permIn_trans _ _ _ _ _ P.out (permIn_mono _ _ _ _ _ _ (Nat.zero_le _) hbn (by rw [hok.out.1];omega) M3.perm)
       have QB:Hid (b=(q+1)*s2):=by show _=_;rw [Nat.add_mul,Nat.one_mul,<- QA.out];omega
       go_wp2
       go_roundw
       case rel=>exact⟨q+1,b,b',d3,rfl,rfl,by omega,by omega,hbn,QB,BT3,J3,P3,S3⟩
       case measure=>simp [intOf];omega
      ·have hbz:¬ (b:Int)<=N:=by omega
       by_cases hmn:m<N
       ·have hmz:(m:Int)<N:=by omega
        have F1:Hid (Blk key dk a m):=by have:=J.out.first (by omega);rw [Nat.min_eq_left (by omega),<- HM.out]at this;exact this
        have F2:Hid (Blk key dk m N):=by have:=J.out.second (by omega);rw [Nat.min_eq_right (by omega),<- HM.out]at this;exact this
        go_wp2_with fail
        refine(symMerge_c C N (d:=dk) (a:=a) (m:=m) (b:=N) (by omega) S.out hok.out (by omega) hmn (Nat.le_refl _) (F1.out.halves F2.out)).mono ?_
        rintro e w3 ⟨rfl,d3,M3,S3⟩
        have B3:=M3.blk F1.out F2.out ⟨by omega,by omega⟩ (by rw [hok.out.1];omega)
        have J3:Hid (Blks key d3 s2 0 N):=by
         have h1:=QA.out
         subst h1
         exact BT.out.all M3.perm (fun _=>B3) (by omega) haN
        have P3:Hid (PermIn 0 N d d3):=permIn_trans _ _ _ _ _ P.out (permIn_mono _ _ _ _ _ _ (Nat.zero_le _) (Nat.le_refl _) (by rw [hok.out.1];omega) M3.perm)
        go_wp2
        go_roundw
        case rel=>exact⟨s2,d3,rfl,by omega,by omega,J3,P3,S3⟩
        case measure=>simp [intOf];omega
       ·have hmz:¬ (m:Int)<N:=by omega
        have J3:Hid (Blks key dk s2 0 N):=by
         have h1:=QA.out
         have hf:a<N->Blk key dk a N:=fun hl=>by have:=J.out.first hl;rw [Nat.min_eq_right (by omega)]at this;exact this
         subst h1
         exact BT.out.all (permIn_refl _ _ _) hf (by omega) haN
        go_wp2
        go_roundw
        case rel=>exact⟨s2,dk,rfl,by omega,by omega,J3,P,S⟩
        case measure=>simp [intOf];omega
    ·have hsz:¬ (s:Int)<N:=by omega
     have F:Hid (Blk key dk 0 N):=by
      rcases Nat.eq_zero_or_pos N with h0|h0
      ·exact Blk.none (by omega)
      ·have:=J.out.first h0;rw [Nat.min_eq_right (by omega)]at this;exact this
     go_wp2
     go_end0
     exact⟨rfl,dk,F.out,P.out,S.out⟩
set_option maxRecDepth 100000 in
set_option maxHeartbeats 800000 in
theorem sortStable_c (C:StC h key w0 blk off N gk) (S:Go.Proofs.SW h.enc w0 blk off d w) (hd:Okd N d) (hN2:N<=4294967296) (hown:∀ x,x<N->d[x]! = x) :
  Calls Tryz.prog 62 #[.slice (some ⟨blk,off,none⟩) N cap,.func (.func 63) #[] #[.pointer (some ⟨gk,0,none⟩)]] w fun e w'=>e=.returned (.tuple #[])/\∃ d',Blk key d' 0 N/\PermIn 0 N d d'/\Go.Proofs.SW h.enc w0 blk off d' w':=by
 go_enter Tryz.func62,Tryz.ntmps62
 go_wp2_with fail
 refine(stable_c C S hd hN2 hown).mono ?_
 rintro e w2 ⟨rfl,d2,B2,P2,S2⟩
 go_wp2
 go_end0
 exact⟨rfl,d2,B2,P2,S2⟩
end
end Go.Proofs.YtiafklphblkpbaaGreat
namespace Go.Proofs.YtiafklphblkpbaaGreat
open Go.RowKit Go.Sort
set_option linter.unusedVariables false
set_option linter.unusedSimpArgs false
theorem byKey_bkt {key:Nat->Int}{l:List (List Int)}{t K:Nat}(hc:∀ i,i<l.length->∃ r,l[i]?=some r/\r[t]?=some (key i)):(byKey key K l.length).map (fun i=>l[i]?.getD [])=bkt t l K:=by
 unfold byKey bkt
 rw [List.map_flatMap]
 congr 1
 funext v
 have e:l=(List.range l.length).map (fun i=>l[i]?.getD []):=by
  refine List.ext_getElem (by simp) fun i h1 h2=>?_
  simp [List.getElem?_eq_getElem h1]
 unfold atV
 conv=>rhs;rw [e]
 rw [List.filter_map]
 congr 1
 refine List.filter_congr fun i hi=>?_
 obtain⟨r,h1,h2⟩:=hc i (List.mem_range.1 hi)
 show decide (key i=(v:Int))=decide ((l[i]?.getD [])[t]?=some (v:Int))
 rw [h1,Option.getD_some,h2]
 simp
set_option maxRecDepth 100000 in
set_option maxHeartbeats 800000 in
theorem iCmpAtS_q (A B:Option Addr) (n m c d:Nat) (p q:List Int) (t g:Nat) (a b:Int) (w:World) (hp:RS NB rInt w A n c p) (hq:RS NB rInt w B m d q) (hk:w.cell? ⟨g,0,none⟩=some (.int .i64 t))
  (ha:p[t]?=some a) (hb:q[t]?=some b) (h1:0<=a/\a<=9) (h2:0<=b/\b<=9) :
  Calls Tryz.prog 63 #[.slice A n c,.slice B m d,.pointer (some ⟨g,0,none⟩)] w fun e w'=>e=.returned (.int .i64 (a - b))/\Qt w w':=by
 have hlt:t<n:=by rw [<- hp.len];exact(List.getElem?_eq_some_iff.1 ha).1
 have hlt2:t<m:=by rw [<- hq.len];exact(List.getElem?_eq_some_iff.1 hb).1
 have hn:=hp.bound
 have hm:=hq.bound
 obtain⟨b1,o1,z,rfl,hc1,hI1,hz⟩:=hp.ati hlt
 obtain rfl:z=a:=by have:=hz.out;rw [ha]at this;injection this with this;exact this.symm
 obtain⟨b2,o2,y,rfl,hc2,hI2,hy⟩:=hq.ati hlt2
 obtain rfl:y=b:=by have:=hy.out;rw [hb]at this;injection this with this;exact this.symm
 have hw:IntKind.i64.wrap (z - y)=z - y:=IntWalk.i64_in _ (by omega)
 clear ha hb hp hq hz hy
 go_enter Tryz.func63,Tryz.ntmps63
 go_wp2_with fail
 go_quiet (fail)
 go_wp2
 go_ret
 exact⟨rfl,(by first|exact⟨_,rfl⟩|(simp only [World.drewN_drewN];exact⟨_,rfl⟩))⟩
def hdrOf:Value->Option Addr × Nat × Nat|.slice A n c=>(A,n,c)|_=>(none,0,0)
section
variable {w0:World} {blk cap N gk t:Nat}
def hdrs (E:List (El 3 w0)):Hdr:=⟨fun i=>(hdrOf E[i]!.v).1,fun i=>(hdrOf E[i]!.v).2.1,fun i=>(hdrOf E[i]!.v).2.2⟩
theorem hdrs_enc (E:List (El 3 w0)) (i:Nat):(hdrs E).enc i=E[i]!.v:=by
 obtain⟨A,n,c,h,_⟩:=E[i]!.own
 have:E[i]!.v=.slice A n c:=by injection h
 show Value.slice _ _ _=_
 unfold hdrs;simp only [this];rfl
/-- a row's value in column t -/
def keyE (E:List (El 3 w0)) (t i:Nat):Int:=(E[i]!.x[t]?).getD 0
set_option maxHeartbeats 800000 in
theorem stC_of {E:List (El 3 w0)}(ho:w0.ownsRow 0 24 1 (.slice (some ⟨blk,0,none⟩) N cap) N (E.map El.v)) (hN:N<=4294967296) (hb:∀ a∈E,blk∉a.fp) (hblk:blk<w0.heap.size) (hk:w0.cell? ⟨gk,0,none⟩=some (.int .i64 t)) (hgk:gk≠blk)
  (hc:∀ i,i<N->E[i]!.x[t]?=some (keyE E t i)/\0<=keyE E t i/\keyE E t i<=9):StC (hdrs E) (keyE E t) w0 blk 0 N gk:=by
 have hl:E.length=N:=by have:=ho.1;simpa using this
 have hmap:(List.range N).map (hdrs E).enc=E.map El.v:=by
  refine List.ext_getElem (by simp [hl]) fun i h1 h2=>?_
  have hi:i<E.length:=by simpa using h2
  simp [hdrs_enc,hi]
 have hgl:gk<w0.heap.size:=World.block_lt_of_cell? w0 _ hk
 refine⟨⟨fun x=>rfl,?_,hblk⟩,by omega,fun d W x y hd hx hy S=>?_⟩
 ·rw [<- hmap]at ho
  have:=holdsE ho
  rwa [show(List.range N).toArray=Array.range N by simp]at this
 ·obtain⟨m,os,rfl⟩:=S
  have hW:∀ k,k≠blk->k<w0.heap.size->(Go.Proofs.sortWorld (hdrs E).enc w0 blk 0 m d os).heap[k]?=w0.heap[k]?:=fun k h1 h2=>by
   have:=putRow_heapE (enc:=(hdrs E).enc) w0 m blk d.toList os k h1 h2
   simpa [Go.Proofs.sortWorld]using this
  have rs:∀ i,i<N->RS NB rInt (Go.Proofs.sortWorld (hdrs E).enc w0 blk 0 m d os) ((hdrs E).A i) ((hdrs E).n i) ((hdrs E).c i) E[i]!.x:=fun i hi=>by
   have hm:E[i]! ∈ E:=by rw [getElem!_pos E i (by omega)];exact List.getElem_mem _
   have ho:=(rSlice_ok NB 3 rInt_ok).okeep E[i]!.own (w':=Go.Proofs.sortWorld (hdrs E).enc w0 blk 0 m d os) (fun k hk=>hW k (fun e=>hb _ hm (e▸hk)) ((rSlice_ok NB 3 rInt_ok).lt E[i]!.own k hk))
   obtain⟨A,n,c,h,hr⟩:=(rSlice_ok NB 3 rInt_ok).toRep ho
   have e:E[i]!.v=.slice A n c:=by injection h
   show RS NB rInt _ (hdrOf E[i]!.v).1 (hdrOf E[i]!.v).2.1 (hdrOf E[i]!.v).2.2 _
   rw [e];exact hr
  have hk2:(Go.Proofs.sortWorld (hdrs E).enc w0 blk 0 m d os).cell? ⟨gk,0,none⟩=some (.int .i64 t):=by
   rw [World.cell?_of_block (w:=w0) (hW gk hgk hgl)];exact hk
  exact iCmpAtS_q _ _ _ _ _ _ _ _ t gk _ _ _ (rs x hx) (rs y hy) hk2 (hc x hx).1 (hc y hy).1 (hc x hx).2 (hc y hy).2
set_option maxHeartbeats 1600000 in
/-- the rows sorted by column t, by value and then by place -/
theorem sortRowsAt_c {B g N cap t gk:Nat}{l:List (List Int)}{w:World}(h:MS B NB 24 (rSlice NB 3 rInt) w (some ⟨g,0,none⟩) N cap l) (hk:w.cell? ⟨gk,0,none⟩=some (.int .i64 t)) (hgk:gk<B)
  (hc:∀ r∈l,∃ a:Int,r[t]?=some a/\0<=a/\a<=9) :
  Calls Tryz.prog 62 #[.slice (some ⟨g,0,none⟩) N cap,.func (.func 63) #[] #[.pointer (some ⟨gk,0,none⟩)]] w fun e w'=>e=.returned (.tuple #[])/\MS B NB 24 (rSlice NB 3 rInt) w' (some ⟨g,0,none⟩) N cap (bkt t l 10)/\Below B w w'/\∀ k,k≠g->k<w.heap.size->w'.heap[k]?=w.heap[k]?:=by
 have hlen:=h.len
 have hnb:=h.nb
 obtain⟨E,e1,ho,hf⟩:=h.els
 have hl:E.length=N:=by have:=ho.1;simpa using this
 have hg:∀ a∈E,g∉a.fp:=by
  intro a ha hk
  have hnd:=hf.nd
  simp only [blk,List.cons_append,List.nil_append,List.nodup_cons]at hnd
  exact hnd.1 (List.mem_flatten.2 ⟨a.fp,List.mem_map.2 ⟨a,ha,rfl⟩,hk⟩)
 have hgB:B<=g:=hf.ge g (by simp [blk])
 have hblk:g<w.heap.size:=by
  rcases ho.2 with ⟨h1,_⟩|⟨g',c,cur,h1,hB,hg,hc,hm,hs,ht⟩
  ·cases h1
  ·injection h1 with e1 e2 e3;injection e1 with e1;injection e1 with e1
   subst e1;exact(Array.getElem?_eq_some_iff.1 hg).1
 have hx:∀ i,i<N->l[i]?=some E[i]!.x:=fun i hi=>by
  rw [<- e1,List.getElem?_map,getElem!_pos E i (by omega),List.getElem?_eq_getElem (by omega)];rfl
 have hkey:∀ i,i<N->E[i]!.x[t]?=some (keyE E t i)/\0<=keyE E t i/\keyE E t i<=9:=fun i hi=>by
  obtain⟨a,h1,h2⟩:=hc _ (List.mem_of_getElem? (hx i hi))
  have:keyE E t i=a:=by unfold keyE;rw [h1];rfl
  rw [this];exact⟨h1,h2⟩
 have C:=stC_of ho hnb hg hblk hk (by omega) hkey
 refine(sortStable_c C (SW.start (C.R.hH)) ⟨by simp,fun i hi=>by simp [hi]⟩ hnb (fun x hx=>by simp [hx])).mono ?_
 rintro e w' ⟨rfl,d',hB',hP,m,os,rfl⟩
 have hsz:d'.size=N:=by have:=hP.1;simpa using this
 have hp:d'.toList.Perm (List.range N):=by
  have h2:=hP.2.2
  rw [show d'.extract 0 N=d' from by rw [<- hsz];simp,show(Array.range N).extract 0 N=Array.range N from by simp]at h2
  simpa using h2
 have hal:=sorted_alone (key:=keyE E t) (K:=10) (fun i hi=>by have:=hkey i hi;omega) hp hB'.srt
 have hperm:(d'.toList.map (fun i=>E[i]!)).Perm E:=by
  have h1:=hp.map (fun i=>E[i]!)
  have h2:(List.range N).map (fun i=>E[i]!)=E:=by
   refine List.ext_getElem (by simp [hl]) fun i h1 h2=>?_
   simp [h2]
  rw [h2]at h1;exact h1
 have hcont:(d'.toList.map (fun i=>E[i]!)).map El.x=bkt t l 10:=by
  rw [hal,List.map_map]
  have hll:l.length=N:=hlen
  rw [<- byKey_bkt (key:=keyE E t) (l:=l) (t:=t) (K:=10) (fun i hi=>⟨_,hx i (by omega),(hkey i (by omega)).1⟩),hll]
  refine List.map_congr_left fun i hi=>?_
  have hi':i<N:=by rw [<- hal]at hi;exact List.mem_range.1 (hp.mem_iff.1 hi)
  show E[i]!.x=_
  rw [hx i hi'];rfl
 refine⟨rfl,?_,?_⟩
 ·rw [<- hcont]
  refine MS.ofEls _ (by simp [hsz]) hnb ?_ (hf.perm hperm.symm) (fun a ha k hk=>?_)
  ·have h5:(d'.toList.map (fun i=>E[i]!)).map El.v=d'.toList.map (hdrs E).enc:=by rw [List.map_map];exact List.map_congr_left fun i _=>(hdrs_enc E i).symm
   rw [h5]
   have hmap:(List.range N).map (hdrs E).enc=E.map El.v:=by
    refine List.ext_getElem (by simp [hl]) fun i h1 h2=>?_
    have hi:i<E.length:=by simpa using h2
    simp [hdrs_enc,hi]
   have:=putRow_ownE (enc:=(hdrs E).enc) (l':=d'.toList) ho (by simp [hsz]) m os
   simpa [Go.Proofs.sortWorld]using this
  ·have ha':a∈E:=hperm.mem_iff.1 ha
   have:=putRow_heapE (enc:=(hdrs E).enc) w m g d'.toList os k (fun e=>hg a ha' (e▸hk)) ((rSlice_ok NB 3 rInt_ok).lt a.own k hk)
   simpa [Go.Proofs.sortWorld]using this
 ·have hk1:∀ k,k≠g->k<w.heap.size->(Go.Proofs.sortWorld (hdrs E).enc w g 0 m d' os).heap[k]?=w.heap[k]?:=fun k h1 h2=>by
   have:=putRow_heapE (enc:=(hdrs E).enc) w m g d'.toList os k h1 h2
   simpa [Go.Proofs.sortWorld]using this
  have hz1:w.heap.size<=(Go.Proofs.sortWorld (hdrs E).enc w g 0 m d' os).heap.size:=by
   simp [Go.Proofs.sortWorld]
  exact⟨⟨rfl,rfl,rfl,hz1,fun k hk=>hk1 k (by omega) (by omega)⟩,hk1⟩
/-- nothing to sort -/
theorem ins0_c (A:Option Addr) (cap:Nat) (f:Value) (w:World) :
  Calls Tryz.prog 131 #[.slice A 0 cap,.int .i64 0,.int .i64 0,f] w fun e w'=>e=.returned (.tuple #[])/\w'=w:=by
 go_enter Tryz.func131,Tryz.ntmps131
 go_wp2
 go_loop [8] (fun i=>i=.int .i64 1) (fun _=>0)
 case atStart=>rfl
 case round =>
  subst hrel
  go_wp2
  go_end0
  exact⟨rfl,rfl⟩
theorem stable0_c (A:Option Addr) (cap:Nat) (f:Value) (w:World) :
  Calls Tryz.prog 62 #[.slice A 0 cap,f] w fun e w'=>e=.returned (.tuple #[])/\w'=w:=by
 have h1:Calls Tryz.prog 101 #[.slice A 0 cap,.int .i64 0,f] w fun e w'=>e=.returned (.tuple #[])/\w'=w:=by
  go_enter Tryz.func101,Tryz.ntmps101
  go_wp2
  go_loop [7,8] (fun a b=>a=.int .i64 0/\b=.int .i64 20) (fun _ _=>0)
  case atStart=>exact⟨rfl,rfl⟩
  case round =>
   obtain⟨rfl,rfl⟩:=hrel
   go_wp2_with fail
   refine(ins0_c A cap f _).mono ?_
   rintro e w' ⟨rfl,hw⟩
   subst hw
   go_wp2
   go_loop [6] (fun s=>s=.int .i64 20) (fun _=>0)
   case atStart=>rfl
   case round =>
    subst hrel
    go_wp2
    go_end0
    exact⟨rfl,rfl⟩
 go_enter Tryz.func62,Tryz.ntmps62
 go_wp2_with fail
 refine h1.mono ?_
 rintro e w' ⟨rfl,hw⟩
 subst hw
 go_wp2
 go_end0
 exact⟨rfl,rfl⟩
end
/-- the rows sorted, whatever their slice -/
theorem sortRowsAny_c {B N cap t gk:Nat}{A:Option Addr}{l:List (List Int)}{w:World}(h:MS B NB 24 (rSlice NB 3 rInt) w A N cap l) (hk:w.cell? ⟨gk,0,none⟩=some (.int .i64 t)) (hgk:gk<B)
  (hc:∀ r∈l,∃ a:Int,r[t]?=some a/\0<=a/\a<=9) :
  Calls Tryz.prog 62 #[.slice A N cap,.func (.func 63) #[] #[.pointer (some ⟨gk,0,none⟩)]] w fun e w'=>e=.returned (.tuple #[])/\MS B NB 24 (rSlice NB 3 rInt) w' A N cap (bkt t l 10)/\Below B w w'/\∀ k,k∉blk A->k<w.heap.size->w'.heap[k]?=w.heap[k]?:=by
 rcases Nat.eq_zero_or_pos N with h0|h0
 ·subst h0
  obtain rfl:l=[]:=List.eq_nil_of_length_eq_zero h.len
  refine(stable0_c A cap _ w).mono ?_
  rintro e w' ⟨rfl,rfl⟩
  have e:bkt t [] 10=[]:=by unfold bkt atV;simp
  rw [e]
  exact⟨rfl,h,Below.refl _ _,fun _ _ _=>rfl⟩
 ·obtain⟨g,rfl,_,_⟩:=h.form h0
  refine(sortRowsAt_c h hk hgk hc).mono ?_
  rintro e w' ⟨h1,h2,h3,h4⟩
  exact⟨h1,h2,h3,fun k hk hl=>h4 k (by simpa [blk]using hk) hl⟩
end Go.Proofs.YtiafklphblkpbaaGreat
