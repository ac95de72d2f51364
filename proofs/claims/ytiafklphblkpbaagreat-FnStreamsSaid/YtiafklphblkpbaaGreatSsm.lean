/-
  Ssf, Ssm
-/
import Derived.Test.YtiafklphblkpbaaGreatStc
import Derived.Test.YtiafklphblkpbaaGreatMrp
import Derived.Shelf.SlSortCmp.Kit1
import Derived.RegionTactic
import Derived.BigRegion
namespace Go.Proofs.YtiafklphblkpbaaGreat
open Go.RowKit Go.Sort
set_option linter.unusedVariables false
set_option linter.unusedSimpArgs false
/-- the rows' headers, by their places at first -/
structure Hdr where
 A:Nat->Option Addr
 n:Nat->Nat
 c:Nat->Nat
def Hdr.enc (h:Hdr) (x:Nat):Value:=.slice (h.A x) (h.n x) (h.c x)
/-- what the sort is told: the rows' block, and the comparison -/
structure StC (h:Hdr) (key:Nat->Int) (w0:World) (blk off N gk:Nat):Prop where
 R:Go.Proofs.Row1 h.enc w0 blk off (Array.range N)
 hN:N<4611686018427387904
 cmp:∀ (d:Array Nat) (W:World) (x y:Nat),d.size=N->x<N->y<N->Go.Proofs.SW h.enc w0 blk off d W ->
  Calls Tryz.prog 63 #[.slice (h.A x) (h.n x) (h.c x),.slice (h.A y) (h.n y) (h.c y),.pointer (some ⟨gk,0,none⟩)] W fun e w'=>e=.returned (.int .i64 (key x - key y))/\Qt W w'
/-- the places still all there -/
def Okd (N:Nat) (d:Array Nat):Prop:=d.size=N/\∀ i,i<N->d[i]!<N
theorem Okd.perm {N:Nat}{d d':Array Nat}{a b:Nat}(h:Okd N d) (hp:PermIn a b d d') (hb:b<=N):Okd N d':=by
 refine⟨hp.1.trans h.1,fun i hi=>?_⟩
 by_cases h1:a<=i/\i<b
 ·exact permIn_all d d' a b (fun v=>v<N) (by rw [h.1];exact hb) hp (fun j _ hj=>h.2 j (by omega)) i h1.1 h1.2
 ·rw [hp.2.1 i (by omega)];exact h.2 i hi
section
variable {h:Hdr} {key:Nat->Int} {w0 w:World} {blk off N gk cap:Nat} {d:Array Nat}
theorem StC.at1 (C:StC h key w0 blk off N gk) (S:Go.Proofs.SW h.enc w0 blk off d w) (hd:d.size=N) {i:Nat}(hi:i<N) :
  w.cell? ⟨blk,off+i,none⟩=some (.slice (h.A d[i]!) (h.n d[i]!) (h.c d[i]!))/\w.frozen? ⟨blk,off+i,none⟩=false :=
 ⟨S.c1 C.R (by simp [hd]) i (by omega),S.f1 C.R (by simp [hd]) i (by omega)⟩
theorem StC.swap (C:StC h key w0 blk off N gk) (S:Go.Proofs.SW h.enc w0 blk off d w) (hd:d.size=N) {i j:Nat}(hi:i<N) (hj:j<N) :
  (∃ u,(w.setCell ⟨blk,off+i,none⟩ (.slice (h.A d[j]!) (h.n d[j]!) (h.c d[j]!))).cell? ⟨blk,off+j,none⟩=some u) /\
  Go.Proofs.SW h.enc w0 blk off (swp d i j) ((w.setCell ⟨blk,off+i,none⟩ (.slice (h.A d[j]!) (h.n d[j]!) (h.c d[j]!))).setCell ⟨blk,off+j,none⟩ (.slice (h.A d[i]!) (h.n d[i]!) (h.c d[i]!))).drew :=
 ⟨S.c2 C.R (by simp [hd]) i j (by omega) (by omega) _,S.swapped C.R i j (by omega) (by omega)⟩
theorem StC.all (C:StC h key w0 blk off N gk) (S:Go.Proofs.SW h.enc w0 blk off d w) (hd:d.size=N) {i j x y:Nat}(hi:i<N) (hj:j<N) (hx:d[i]! = x) (hy:d[j]! = y) :
  (w.cell? ⟨blk,off+i,none⟩=some (.slice (h.A x) (h.n x) (h.c x))/\w.frozen? ⟨blk,off+i,none⟩=false)/\(w.cell? ⟨blk,off+j,none⟩=some (.slice (h.A y) (h.n y) (h.c y))/\w.frozen? ⟨blk,off+j,none⟩=false) /\
  (∃ u,(w.setCell ⟨blk,off+i,none⟩ (.slice (h.A y) (h.n y) (h.c y))).cell? ⟨blk,off+j,none⟩=some u)/\Hid (Go.Proofs.SW h.enc w0 blk off (swp d i j) ((w.setCell ⟨blk,off+i,none⟩ (.slice (h.A y) (h.n y) (h.c y))).setCell ⟨blk,off+j,none⟩ (.slice (h.A x) (h.n x) (h.c x))).drew):=by
 subst hx;subst hy
 exact⟨C.at1 S hd hi,C.at1 S hd hj,(C.swap S hd hi hj).1,(C.swap S hd hi hj).2⟩
set_option maxRecDepth 100000 in
set_option maxHeartbeats 1600000 in
theorem swapRange_c (C:StC h key w0 blk off N gk) (S:Go.Proofs.SW h.enc w0 blk off d w) (hd:d.size=N) {lo hi a b n:Nat}(hab:a+n<=b) (hlo:lo<=a) (hb:b+n<=hi) (hhi:hi<=N) :
  Calls Tryz.prog 173 #[.slice (some ⟨blk,off,none⟩) N cap,.int .i64 a,.int .i64 b,.int .i64 n,.func (.func 63) #[] #[.pointer (some ⟨gk,0,none⟩)]] w fun e w'=>e=.returned (.tuple #[])/\∃ d',SwapTo d d' lo hi a b n/\Go.Proofs.SW h.enc w0 blk off d' w':=by
 have hN:=C.hN
 have S0:Hid (Go.Proofs.SW h.enc w0 blk off d w):=S
 clear S
 go_enter Tryz.func173,Tryz.ntmps173
 go_wp2
 go_loopw [10] (fun i wr=>∃ (k:Nat) (dk:Array Nat),k<=n/\i=.int .i64 k/\SwapTo d dk lo hi a b k/\Hid (Go.Proofs.SW h.enc w0 blk off dk wr)) (fun i _=>n - (intOf i).toNat)
 case atStart=>exact⟨0,d,Nat.zero_le _,rfl,SwapTo.zero _ _ _ _ _,S0⟩
 case round =>
  clear S0
  obtain⟨k,dk,hk,rfl,T,S⟩:=hrel
  by_cases hlt:k<n
  ·have hkz:(k:Int)<n:=by omega
   have hs:dk.size=N:=T.size.trans hd
   have T2:=Lib.hid (T.step hlt hab hlo hb (by omega))
   clear T
   obtain⟨i,hi1⟩:∃ i,i=a+k:=⟨_,rfl⟩
   obtain⟨j,hj1⟩:∃ j,j=b+k:=⟨_,rfl⟩
   have hin:i<N:=by omega
   have hjn:j<N:=by omega
   have ra:IntKind.i64.wrap ((a:Int)+(k:Int))=(i:Int):=by rw [IntWalk.i64_in _ (by omega)];omega
   have rb:IntKind.i64.wrap ((b:Int)+(k:Int))=(j:Int):=by rw [IntWalk.i64_in _ (by omega)];omega
   rw [<- hi1,<- hj1]at T2
   obtain⟨ca,fa⟩:=C.at1 S.out hs hin
   obtain⟨cb,fb⟩:=C.at1 S.out hs hjn
   obtain⟨⟨u,cc⟩,S2⟩:=C.swap S.out hs hin hjn
   clear S hi1 hj1
   generalize dk[i]! = x at ca cc S2
   generalize dk[j]! = y at cb cc S2
   go_wp2_with fail
   go_region
   generalize ((wr.setCell ⟨blk,off+i,none⟩ (.slice (h.A y) (h.n y) (h.c y))).setCell ⟨blk,off+j,none⟩ (.slice (h.A x) (h.n x) (h.c x))).drew=w2 at S2 ⊢
   clear ca cb cc fa fb ra rb
   go_wp2
   go_roundw
   case rel=>exact⟨k+1,_,hlt,by go_num,T2.out,S2⟩
   case measure=>simp [intOf];omega
  ·have hkn:k=n:=by omega
   subst hkn
   go_wp2
   go_end0
   exact⟨rfl,dk,T,S.out⟩
set_option maxRecDepth 100000 in
set_option maxHeartbeats 1600000 in
theorem rotate_c (C:StC h key w0 blk off N gk) (S:Go.Proofs.SW h.enc w0 blk off d w) (hd:d.size=N) {a m b:Nat}(h1:a<m) (h2:m<b) (hb:b<=N) :
  Calls Tryz.prog 157 #[.slice (some ⟨blk,off,none⟩) N cap,.int .i64 a,.int .i64 m,.int .i64 b,.func (.func 63) #[] #[.pointer (some ⟨gk,0,none⟩)]] w fun e w'=>e=.returned (.tuple #[])/\∃ d',Rot d d' a m b/\Go.Proofs.SW h.enc w0 blk off d' w':=by
 have hN:=C.hN
 have S0:Hid (Go.Proofs.SW h.enc w0 blk off d w):=S
 clear S
 obtain⟨i0,hi0⟩:∃ i,i=m - a:=⟨_,rfl⟩
 obtain⟨j0,hj0⟩:∃ j,j=b - m:=⟨_,rfl⟩
 have r0:IntKind.i64.wrap ((m:Int) - (a:Int))=(i0:Int):=by rw [IntWalk.i64_in _ (by omega)];omega
 have r1:IntKind.i64.wrap ((b:Int) - (m:Int))=(j0:Int):=by rw [IntWalk.i64_in _ (by omega)];omega
 have J0:=RotSt.start d h1 h2
 rw [<- hi0,<- hj0]at J0
 clear hi0 hj0
 go_enter Tryz.func157,Tryz.ntmps157
 go_wp2
 go_loopw [10,11] (fun iv jv wr=>∃ (i j:Nat) (dk:Array Nat),iv=.int .i64 i/\jv=.int .i64 j/\RotSt d dk a m b i j/\Hid (Go.Proofs.SW h.enc w0 blk off dk wr)) (fun iv jv _=>(intOf iv).toNat+(intOf jv).toNat)
 case atStart=>exact⟨i0,j0,d,rfl,rfl,J0,S0⟩
 case round =>
  clear S0 J0 r0 r1
  obtain⟨i,j,dk,rfl,rfl,J,S⟩:=hrel
  have hs:dk.size=N:=J.size.trans hd
  have i1:=J.i0
  have j1:=J.j0
  have ia:=J.ia
  have jb:=J.jb
  obtain⟨p,hp⟩:∃ p,p=m - i:=⟨_,rfl⟩
  have rp:IntKind.i64.wrap ((m:Int) - (i:Int))=(p:Int):=by rw [IntWalk.i64_in _ (by omega)];omega
  have p1:p+i=m:=by omega
  have HP:=Lib.hid hp;clear hp
  by_cases hij:i=j
  ·subst hij
   have nb:((i:Int) != (i:Int))=false:=by simp
   go_wp2_with fail
   refine(swapRange_c C S.out hs (lo:=a) (hi:=b) (by omega) (by omega) (by omega) hb).mono ?_
   rintro e w2 ⟨rfl,d2,T,S2⟩
   go_wp2
   go_end0
   rw [HP.out]at T
   exact⟨rfl,d2,J.fin (by omega) T,S2⟩
  ·have nb:((i:Int) != (j:Int))=true:=by simp;omega
   by_cases hlt:j<i
   ·have hltz:(j:Int)<i:=by omega
    obtain⟨i',hi'⟩:∃ i',i'=i - j:=⟨_,rfl⟩
    have ri:IntKind.i64.wrap ((i:Int) - (j:Int))=(i':Int):=by rw [IntWalk.i64_in _ (by omega)];omega
    have HI:=Lib.hid hi';clear hi'
    go_wp2_with fail
    refine(swapRange_c C S.out hs (lo:=a) (hi:=b) (by omega) (by omega) (by omega) hb).mono ?_
    rintro e w2 ⟨rfl,d2,T,S2⟩
    go_wp2
    go_roundw
    case rel=>exact⟨i',j,d2,rfl,rfl,by rw [HI.out];rw [HP.out]at T;exact J.left hlt (by omega) T,S2⟩
    case measure=>have:=HI.out;simp [intOf];omega
   ·have hltz:¬ (j:Int)<i:=by omega
    obtain⟨q,hq⟩:∃ q,q=m+j - i:=⟨_,rfl⟩
    obtain⟨s,hs'⟩:∃ s,s=m+j:=⟨_,rfl⟩
    obtain⟨j',hj'⟩:∃ j',j'=j - i:=⟨_,rfl⟩
    have rs:IntKind.i64.wrap ((m:Int)+(j:Int))=(s:Int):=by rw [IntWalk.i64_in _ (by omega)];omega
    have rq:IntKind.i64.wrap ((s:Int) - (i:Int))=(q:Int):=by rw [IntWalk.i64_in _ (by omega)];omega
    have rj:IntKind.i64.wrap ((j:Int) - (i:Int))=(j':Int):=by rw [IntWalk.i64_in _ (by omega)];omega
    have q1:q+i=m+j:=by omega
    have HQ:=Lib.hid hq;clear hq
    have HJ:=Lib.hid hj';clear hj' hs'
    go_wp2_with fail
    refine(swapRange_c C S.out hs (lo:=a) (hi:=b) (by omega) (by omega) (by omega) hb).mono ?_
    rintro e w2 ⟨rfl,d2,T,S2⟩
    go_wp2
    go_roundw
    case rel=>exact⟨i,j',d2,rfl,rfl,by rw [HJ.out];rw [HP.out,HQ.out]at T;exact J.right (by omega) (by omega) T,S2⟩
    case measure=>have:=HJ.out;simp [intOf];omega
set_option maxRecDepth 100000 in
set_option maxHeartbeats 3200000 in
theorem insert_c (C:StC h key w0 blk off N gk) (S:Go.Proofs.SW h.enc w0 blk off d w) (hd:Okd N d) {a b:Nat}(hab:a<=b) (hb:b<=N) (hown:∀ x,a<=x->x<b->d[x]! = x) :
  Calls Tryz.prog 131 #[.slice (some ⟨blk,off,none⟩) N cap,.int .i64 a,.int .i64 b,.func (.func 63) #[] #[.pointer (some ⟨gk,0,none⟩)]] w fun e w'=>e=.returned (.tuple #[])/\∃ d',Blk key d' a b/\PermIn a b d d'/\Go.Proofs.SW h.enc w0 blk off d' w':=by
 have hN:=C.hN
 have S0:Hid (Go.Proofs.SW h.enc w0 blk off d w):=S
 have HO:=Lib.hid hown;clear hown
 have HD:=Lib.hid hd;clear hd
 clear S
 go_enter Tryz.func131,Tryz.ntmps131
 go_wp2
 go_loopw [8] (fun iv wr=>∃ (i:Nat) (dk:Array Nat),iv=.int .i64 i/\a<i/\i<=N+1/\Hid (PermIn a b d dk)/\(a<b->i<=b/\Hid (Blk key dk a i)/\Hid (∀ x,i<=x->x<b->dk[x]! = x))/\Hid (Go.Proofs.SW h.enc w0 blk off dk wr)) (fun iv _=>N+1 - (intOf iv).toNat)
 case atStart=>exact⟨a+1,d,by go_num,by omega,by omega,permIn_refl _ _ _,fun h=>⟨by omega,Blk.one (HO.out a (Nat.le_refl _) h),fun x h1 h2=>HO.out x (by omega) h2⟩,S0⟩
 case round =>
  clear S0
  obtain⟨i,dk,rfl,hai,hiN,P,hB,S⟩:=hrel
  have hok:=HD.out.perm P.out hb
  by_cases hlt:i<b
  ·have hltz:(i:Int)<b:=by omega
   obtain⟨_,B,O⟩:=hB (by omega)
   clear hB
   have I0:=Lib.hid (Ins.start key dk (Nat.le_of_lt hai))
   have hdi:=Lib.hid (O.out i (Nat.le_refl _) hlt)
   have his:i<dk.size:=by rw [hok.1];omega
   have HK:=Lib.hid hok;clear hok
   go_wp2
   go_loopw [9] (fun jv wr=>∃ (j:Nat) (dj:Array Nat),jv=.int .i64 j/\j<=i/\Hid (Ins key dk dj a i j)/\Hid (Go.Proofs.SW h.enc w0 blk off dj wr)) (fun jv _=>(intOf jv).toNat)
   case atStart=>exact⟨i,dk,rfl,Nat.le_refl _,I0,S⟩
   case round =>
    clear S I0
    obtain⟨j,dj,rfl,hji,I,S⟩:=hrel
    have out:(j<=a\/¬ key dj[j]!<key dj[j - 1]!)->Hid (PermIn a b d dj)/\(a<b->i+1<=b/\Hid (Blk key dj a (i+1))/\Hid (∀ x,i+1<=x->x<b->dj[x]! = x)):=fun hs=>by
     obtain⟨h1,h2⟩:=I.out.blk his B.out hdi.out hs
     exact⟨permIn_trans _ _ _ _ _ P.out (permIn_mono _ _ _ _ _ _ (Nat.le_refl _) hlt (by rw [HK.out.1];exact hb) h2),fun _=>⟨hlt,h1,fun x hx hxb=>(I.out.rest his (by omega)).trans (O.out x (by omega) hxb)⟩⟩
    have OUT:=Lib.hid out;clear out
    have hja:=I.out.ja
    have hsj:dj.size=N:=I.out.rot.size.trans HK.out.1
    have hkj:=HK.out.perm (permIn_mono _ _ _ _ _ _ hja (Nat.le_refl _) (by omega) I.out.rot.perm) (by omega)
    by_cases hj:a<j
    ·have hjz:(a:Int)<j:=by omega
     obtain⟨p,hp⟩:∃ p,p=j - 1:=⟨_,rfl⟩
     have rp:IntKind.i64.wrap ((j:Int) - 1)=(p:Int):=by rw [IntWalk.i64_in _ (by omega)];omega
     have hjN:j<N:=by omega
     have hpN:p<N:=by omega
     have hpj:p<j:=by omega
     have HP:=Lib.hid hp;clear hp
     have hx:=hkj.2 j hjN
     have hy:=hkj.2 p hpN
     have K:=Lib.hid (C.cmp dj)
     have OUT2:Hid (¬ key dj[j]!<key dj[p]! -> Hid (PermIn a b d dj)/\(a<b->i+1<=b/\Hid (Blk key dj a (i+1))/\Hid (∀ x,i+1<=x->x<b->dj[x]! = x))):=by
      show _->_
      intro hn
      rw [HP.out]at hn
      exact OUT.out (.inr hn)
     have DN:Hid (key dj[j]!<key dj[p]! -> Ins key dk (swp dj j p) a i p):=by
      show _->_
      intro hl
      obtain rfl:j=p+1:=by have:=HP.out;omega
      exact I.out.down (by omega) his B.out hdi.out hl
     obtain⟨x,hx0⟩:∃ x,dj[j]! = x:=⟨_,rfl⟩
     obtain⟨y,hy0⟩:∃ y,dj[p]! = y:=⟨_,rfl⟩
     rw [hx0]at OUT2 DN hx
     rw [hy0]at OUT2 DN hy
     obtain⟨⟨ca,fa⟩,⟨cb,fb⟩,_,_⟩:=C.all S.out hsj hjN hpN hx0 hy0
     have HX:=Lib.hid hx0
     have HY:=Lib.hid hy0
     clear OUT hx0 hy0
     have Kx:=Lib.hid (fun q=>K.out (wr.drewN q) x y hsj hx hy (S.out.drewN q))
     clear K
     by_cases hl:key x - key y<0
     ·have HL:=Lib.hid (show key x<key y by omega)
      go_wp2_with fail
      go_quiet ((go_at_call 63;exact Calls.quiet_of (Kx.out _)))
      go_wp2_with fail
      have S3:=S.out.drewN nq
      generalize wr.drewN nq=w3 at S3 ⊢
      clear ca fa cb fb hl S Kx
      obtain⟨⟨ca,fa⟩,⟨cb,fb⟩,⟨u,cc⟩,S4⟩:=C.all S3 hsj hjN hpN HX.out HY.out
      clear S3
      go_region
      generalize ((w3.setCell ⟨blk,off+j,none⟩ (.slice (h.A y) (h.n y) (h.c y))).setCell ⟨blk,off+p,none⟩ (.slice (h.A x) (h.n x) (h.c x))).drew=w4 at S4 ⊢
      clear ca fa cb fb cc
      go_wp2
      go_roundw
      case rel=>exact⟨p,_,rfl,by omega,DN.out HL.out,S4⟩
      case measure=>simp [intOf];omega
     ·have HL:=Lib.hid (OUT2.out (show ¬ key x<key y by omega))
      go_wp2_with fail
      go_quiet ((go_at_call 63;exact Calls.quiet_of (Kx.out _)))
      go_wp2
      go_roundw
      case rel=>exact⟨i+1,dj,by go_num,by omega,by omega,HL.out.1,HL.out.2,S.out.drewN _⟩
      case measure=>simp [intOf];omega
    ·have hjz:¬ (a:Int)<j:=by omega
     have hjd:decide ((j:Int)>a)=false:=decide_eq_false (by omega)
     have HL:=Lib.hid (OUT.out (.inl (by omega)))
     clear OUT
     go_wp2_with fail
     go_quiet (fail)
     go_wp2
     go_roundw
     case rel=>exact⟨i+1,dj,by go_num,by omega,by omega,HL.out.1,HL.out.2,S.out.drewN _⟩
     case measure=>simp [intOf];omega
  ·have hltz:¬ (i:Int)<b:=by omega
   go_wp2
   go_end0
   refine⟨rfl,dk,?_,P.out,S.out⟩
   by_cases h3:a<b
   ·obtain⟨h4,h5,_⟩:=hB h3
    obtain rfl:i=b:=by omega
    exact h5.out
   ·exact Blk.none (by omega)
end
end Go.Proofs.YtiafklphblkpbaaGreat
namespace Go.Proofs.YtiafklphblkpbaaGreat
open Go.RowKit Go.Sort
set_option linter.unusedVariables false
set_option linter.unusedSimpArgs false
theorem Halves.congr {key:Nat->Int}{d d':Array Nat}{a m b:Nat}(h:Halves key d a m b) (he:∀ i,a<=i->i<b->d'[i]! = d[i]!) (hm:a<=m/\m<=b):Halves key d' a m b :=
 ⟨h.l.congr (fun i h1 h2=>he i h1 (by omega)),h.r.congr (fun i h1 h2=>he i (by omega) h2),fun i j h1 h2 h3 h4=>by rw [he i h1 (by omega),he j (by omega) h4];exact h.x i j h1 h2 h3 h4⟩
section
variable {h:Hdr} {key:Nat->Int} {w0:World} {blk off N gk cap:Nat}
set_option maxRecDepth 100000 in
set_option maxHeartbeats 6400000 in
theorem symMerge_c (C:StC h key w0 blk off N gk) (f:Nat):∀ {d:Array Nat}{w:World}{a m b:Nat},b - a<=f->Go.Proofs.SW h.enc w0 blk off d w->Okd N d->a<m->m<b->b<=N->Halves key d a m b ->
  Calls Tryz.prog 132 #[.slice (some ⟨blk,off,none⟩) N cap,.int .i64 a,.int .i64 m,.int .i64 b,.func (.func 63) #[] #[.pointer (some ⟨gk,0,none⟩)]] w fun e w'=>e=.returned (.tuple #[])/\∃ d',Merged key d d' a b/\Go.Proofs.SW h.enc w0 blk off d' w':=by
 have hN:=C.hN
 induction f with
 | zero=>intro d w a m b hf;omega
 | succ f ih =>
  intro d w a m b hf S hd ham hmb hb hH
  have HS:=Lib.hid S;clear S
  have HH:=Lib.hid hH;clear hH
  have hsz:=hd.1
  have HD:=Lib.hid hd;clear hd
  have IH:=Lib.hid (fun (d:Array Nat) (w:World) (a m b:Nat) (h1:b - a<=f) h2 h3 h4 h5 h6 h7=>ih (d:=d) (w:=w) (a:=a) (m:=m) (b:=b) h1 h2 h3 h4 h5 h6 h7);clear ih
  by_cases h1:m - a=1
  ·have hm:m=a+1:=by omega
   have HM:=Lib.hid hm;clear hm
   have r1:IntKind.i64.wrap ((m:Int) - (a:Int))=1:=by rw [IntWalk.i64_in _ (by omega)];omega
   have J0:Sc1 key d a b m b:=HM.out▸Sc1.start key d (by omega)
   have HH1:Hid (Halves key d a (a+1) b):=HM.out▸HH.out
   go_enter Tryz.func132,Tryz.ntmps132
   go_wp2
   go_loopw [10,11] (fun iv jv wr=>∃ (i j:Nat),iv=.int .i64 i/\jv=.int .i64 j/\Sc1 key d a b i j/\Hid (Go.Proofs.SW h.enc w0 blk off d wr)) (fun iv jv _=>(intOf jv).toNat - (intOf iv).toNat)
   case atStart=>exact⟨m,b,rfl,rfl,J0,HS⟩
   case round =>
    clear J0
    obtain⟨i,j,rfl,rfl,J,S⟩:=hrel
    have j1:=J.h1
    have j2:=J.h2
    have j3:=J.h3
    by_cases hij:i<j
    ·obtain⟨c,hc⟩:∃ c,c=(i+j) / 2:=⟨_,rfl⟩
     have hh:((i:Int)+(j:Int)) / 2=(c:Int):=by omega
     have c1:i<=c:=by omega
     have c2:c<j:=by omega
     have hcN:c<N:=by omega
     have haN:a<N:=by omega
     clear hc
     have UP:=Lib.hid (fun hl=>J.up HH1.out c1 c2 hl)
     have DN:=Lib.hid (fun hl=>J.dn HH1.out c1 c2 hl)
     have hx:=HD.out.2 c hcN
     have hy:=HD.out.2 a haN
     have K:=Lib.hid (C.cmp d)
     obtain⟨x,hx0⟩:∃ x,d[c]! = x:=⟨_,rfl⟩
     obtain⟨y,hy0⟩:∃ y,d[a]! = y:=⟨_,rfl⟩
     rw [hx0]at hx
     rw [hy0]at hy
     have UP:Hid (key x<key y->_):=(hx0▸hy0▸UP)
     have DN:Hid (¬ key x<key y->_):=(hx0▸hy0▸DN)
     obtain⟨⟨ca,fa⟩,⟨cb,fb⟩,_,_⟩:=C.all S.out hsz hcN haN hx0 hy0
     have Kx:=Lib.hid (fun q=>K.out (wr.drewN q) x y hsz hx hy (S.out.drewN q))
     clear K hx0 hy0 J
     by_cases hl:key x - key y<0
     ·have HL:=Lib.hid (UP.out (show key x<key y by omega))
      go_wp2_with fail
      go_quiet ((go_at_call 63;exact Calls.quiet_of (Kx.out _)))
      go_wp2
      go_roundw
      case rel=>exact⟨c+1,j,by go_num,rfl,HL.out,S.out.drewN _⟩
      case measure=>simp [intOf];omega
     ·have HL:=Lib.hid (DN.out (show ¬ key x<key y by omega))
      go_wp2_with fail
      go_quiet ((go_at_call 63;exact Calls.quiet_of (Kx.out _)))
      go_wp2
      go_roundw
      case rel=>exact⟨i,c,rfl,rfl,HL.out,S.out.drewN _⟩
      case measure=>simp [intOf];omega
    ·obtain rfl:j=i:=by omega
     obtain⟨e,he⟩:∃ e,e+1=j:=⟨j - 1,by omega⟩
     have re:IntKind.i64.wrap ((j:Int) - 1)=(e:Int):=by rw [IntWalk.i64_in _ (by omega)];omega
     have hea:a<=e:=by omega
     have heb:e+1<=b:=by omega
     have FIN:Hid (∀ d',Rot d d' a (a+1) (e+1)->Merged key d d' a b):=by
      show ∀ d',_->_
      intro d' hr
      rw [he]at hr
      exact J.fin HH1.out (by omega) hr
     clear he J
     go_wp2
     go_loopw [13] (fun kv wr=>∃ (k:Nat) (dk:Array Nat),kv=.int .i64 k/\a<=k/\k<=e/\Hid (Rot d dk a (a+1) (k+1))/\Hid (Go.Proofs.SW h.enc w0 blk off dk wr)) (fun kv _=>e - (intOf kv).toNat)
     case atStart=>exact⟨a,d,rfl,Nat.le_refl _,hea,Rot.none d a (a+1) (a+1) (.inr rfl) ⟨Nat.le_succ _,Nat.le_refl _⟩,S⟩
     case round =>
      clear S
      obtain⟨k,dk,rfl,hak,hke,T,S⟩:=hrel
      by_cases hlt:k<e
      ·have hltz:(k:Int)<e:=by omega
       obtain⟨k1,hk1⟩:∃ k1,k1=k+1:=⟨_,rfl⟩
       have rk:IntKind.i64.wrap ((k:Int)+1)=(k1:Int):=by rw [IntWalk.i64_in _ (by omega)];omega
       have hkN:k<N:=by omega
       have hk1N:k1<N:=by omega
       have hsk:dk.size=N:=T.out.size.trans hsz
       have T2:Hid (Rot d (swp dk k k1) a (a+1) (k1+1)):=by show Rot _ _ _ _ _;rw [hk1];exact T.out.up hak (by omega)
       have hkk:a<=k1:=by omega
       have hkk2:k1<=e:=by omega
       have HK:=Lib.hid hk1;clear hk1
       obtain⟨⟨ca,fa⟩,⟨cb,fb⟩,⟨u,cc⟩,S4⟩:=C.all S.out hsk hkN hk1N rfl rfl
       generalize dk[k]! = x at ca cc S4
       generalize dk[k1]! = y at cb cc S4
       clear S T
       go_wp2_with fail
       go_region
       generalize ((wr.setCell ⟨blk,off+k,none⟩ (.slice (h.A y) (h.n y) (h.c y))).setCell ⟨blk,off+k1,none⟩ (.slice (h.A x) (h.n x) (h.c x))).drew=w4 at S4 ⊢
       clear ca fa cb fb cc
       go_wp2
       go_roundw
       case rel=>exact⟨k1,_,by first|rfl|go_num,hkk,hkk2,T2,S4⟩
       case measure=>have:=HK.out;simp [intOf];omega
      ·have hltz:¬ (k:Int)<e:=by omega
       obtain rfl:k=e:=by omega
       go_wp2
       refine bodyPost_ret (v:=.tuple #[]) (by simp [results,Tryz.results132,go_sem]) rfl ?_
       exact⟨rfl,dk,FIN.out dk T.out,S.out⟩
  have r1:((m:Int) - (a:Int)==1)=false:=by simp;omega
  have r1w:IntKind.i64.wrap ((m:Int) - (a:Int))=(m:Int) - (a:Int):=IntWalk.i64_in _ (by omega)
  by_cases h2:b - m=1
  ·have hm:b=m+1:=by omega
   have HM:=Lib.hid hm;clear hm
   have r2:IntKind.i64.wrap ((b:Int) - (m:Int))=1:=by rw [IntWalk.i64_in _ (by omega)];omega
   have J0:Sc2 key d a m a m:=Sc2.start key d (by omega)
   have HH1:Hid (Halves key d a m (m+1)):=HM.out▸HH.out
   go_enter Tryz.func132,Tryz.ntmps132
   go_wp2
   go_loopw [14,15] (fun iv jv wr=>∃ (i j:Nat),iv=.int .i64 i/\jv=.int .i64 j/\Sc2 key d a m i j/\Hid (Go.Proofs.SW h.enc w0 blk off d wr)) (fun iv jv _=>(intOf jv).toNat - (intOf iv).toNat)
   case atStart=>exact⟨a,m,rfl,rfl,J0,HS⟩
   case round =>
    clear J0
    obtain⟨i,j,rfl,rfl,J,S⟩:=hrel
    have j1:=J.h1
    have j2:=J.h2
    have j3:=J.h3
    by_cases hij:i<j
    ·obtain⟨c,hc⟩:∃ c,c=(i+j) / 2:=⟨_,rfl⟩
     have hh:((i:Int)+(j:Int)) / 2=(c:Int):=by omega
     have c1:i<=c:=by omega
     have c2:c<j:=by omega
     have hcN:c<N:=by omega
     have hmN:m<N:=by omega
     clear hc
     have UP:=Lib.hid (fun hl=>J.up HH1.out c1 c2 hl)
     have DN:=Lib.hid (fun hl=>J.dn HH1.out c1 c2 hl)
     have hx:=HD.out.2 m hmN
     have hy:=HD.out.2 c hcN
     have K:=Lib.hid (C.cmp d)
     obtain⟨x,hx0⟩:∃ x,d[m]! = x:=⟨_,rfl⟩
     obtain⟨y,hy0⟩:∃ y,d[c]! = y:=⟨_,rfl⟩
     rw [hx0]at hx
     rw [hy0]at hy
     have UP:Hid (¬ key x<key y->_):=(hx0▸hy0▸UP)
     have DN:Hid (key x<key y->_):=(hx0▸hy0▸DN)
     obtain⟨⟨ca,fa⟩,⟨cb,fb⟩,_,_⟩:=C.all S.out hsz hmN hcN hx0 hy0
     have Kx:=Lib.hid (fun q=>K.out (wr.drewN q) x y hsz hx hy (S.out.drewN q))
     clear K hx0 hy0 J
     by_cases hl:key x - key y<0
     ·have HL:=Lib.hid (DN.out (show key x<key y by omega))
      have hbb:(!decide (key x - key y<0))=false:=by simp [hl]
      go_wp2_with fail
      go_quiet ((go_at_call 63;exact Calls.quiet_of (Kx.out _)))
      go_wp2
      go_roundw
      case rel=>exact⟨i,c,rfl,rfl,HL.out,S.out.drewN _⟩
      case measure=>simp [intOf];omega
     ·have HL:=Lib.hid (UP.out (show ¬ key x<key y by omega))
      have hbb:(!decide (key x - key y<0))=true:=by simp [hl]
      go_wp2_with fail
      go_quiet ((go_at_call 63;exact Calls.quiet_of (Kx.out _)))
      go_wp2
      go_roundw
      case rel=>exact⟨c+1,j,by go_num,rfl,HL.out,S.out.drewN _⟩
      case measure=>simp [intOf];omega
    ·obtain rfl:j=i:=by omega
     have FIN:Hid (∀ d',Rot d d' j m (m+1)->Merged key d d' a b):=by
      show ∀ d',_->_
      intro d' hr
      rw [HM.out]
      exact J.fin HH1.out (by omega) hr
     clear J
     go_wp2
     go_loopw [17] (fun kv wr=>∃ (k:Nat) (dk:Array Nat),kv=.int .i64 k/\j<=k/\k<=m/\Hid (Rot d dk k m (m+1))/\Hid (Go.Proofs.SW h.enc w0 blk off dk wr)) (fun kv _=>(intOf kv).toNat)
     case atStart=>exact⟨m,d,rfl,j3,Nat.le_refl _,Rot.none d m m (m+1) (.inl rfl) ⟨Nat.le_refl _,Nat.le_succ _⟩,S⟩
     case round =>
      clear S
      obtain⟨k,dk,rfl,hjk,hkm,T,S⟩:=hrel
      by_cases hlt:j<k
      ·have hltz:(j:Int)<k:=by omega
       obtain⟨k1,hk1⟩:∃ k1,k=k1+1:=⟨k - 1,by omega⟩
       have rk:IntKind.i64.wrap ((k:Int) - 1)=(k1:Int):=by rw [IntWalk.i64_in _ (by omega)];omega
       have hkN:k<N:=by omega
       have hk1N:k1<N:=by omega
       have hsk:dk.size=N:=T.out.size.trans hsz
       have T2:Hid (Rot d (swp dk k k1) k1 m (m+1)):=by show Rot _ _ _ _ _;rw [hk1]at T ⊢;exact T.out.down (by omega) (by omega)
       have hkk:j<=k1:=by omega
       have hkk2:k1<=m:=by omega
       have hkk3:k1<k:=by omega
       clear hk1
       obtain⟨⟨ca,fa⟩,⟨cb,fb⟩,⟨u,cc⟩,S4⟩:=C.all S.out hsk hkN hk1N rfl rfl
       generalize dk[k]! = x at ca cc S4
       generalize dk[k1]! = y at cb cc S4
       clear S T
       go_wp2_with fail
       go_region
       generalize ((wr.setCell ⟨blk,off+k,none⟩ (.slice (h.A y) (h.n y) (h.c y))).setCell ⟨blk,off+k1,none⟩ (.slice (h.A x) (h.n x) (h.c x))).drew=w4 at S4 ⊢
       clear ca fa cb fb cc
       go_wp2
       go_roundw
       case rel=>exact⟨k1,_,by first|rfl|go_num,hkk,hkk2,T2,S4⟩
       case measure=>simp [intOf];omega
      ·have hltz:¬ (j:Int)<k:=by omega
       obtain rfl:k=j:=by omega
       go_wp2
       refine bodyPost_ret (v:=.tuple #[]) (by simp [results,Tryz.results132,go_sem]) rfl ?_
       exact⟨rfl,dk,FIN.out dk T.out,S.out⟩
  have r2:((b:Int) - (m:Int)==1)=false:=by simp;omega
  have r2w:IntKind.i64.wrap ((b:Int) - (m:Int))=(b:Int) - (m:Int):=IntWalk.i64_in _ (by omega)
  obtain⟨mid,hmid⟩:∃ q,q=(a+b) / 2:=⟨_,rfl⟩
  have hh:((a:Int)+(b:Int)) / 2=(mid:Int):=by omega
  have m1:a<mid:=by omega
  have m2:mid<b:=by omega
  obtain⟨n,hn⟩:∃ q,q=mid+m:=⟨_,rfl⟩
  have rn:IntKind.i64.wrap ((mid:Int)+(m:Int))=(n:Int):=by rw [IntWalk.i64_in _ (by omega)];omega
  obtain⟨p,hp⟩:∃ p,p=n - 1:=⟨_,rfl⟩
  have rp:IntKind.i64.wrap ((n:Int) - 1)=(p:Int):=by rw [IntWalk.i64_in _ (by omega)];omega
  have p1:p+1<=mid+m:=by omega
  have p2:mid+m<=p+1:=by omega
  have n1:n<=mid+m:=by omega
  have n2:mid+m<=n:=by omega
  have HMD:=Lib.hid hmid;clear hmid hn hp
  by_cases hmm:mid<m
  focus
   obtain⟨s0,hs0⟩:∃ q,q=mid+m - b:=⟨_,rfl⟩
   have rs:IntKind.i64.wrap ((n:Int) - (b:Int))=(s0:Int):=by have:=HMD.out;rw [IntWalk.i64_in _ (by omega)];omega
   have J0:Sc3 key d a m b mid s0 mid:=by rw [hs0];exact Sc3.startR key d (Nat.le_of_lt ham) (Nat.le_of_lt hmb) hmm HMD.out
   have hmz:(mid:Int)<m:=by omega
   clear hs0
   go_enter Tryz.func132,Tryz.ntmps132
   go_upto_region 32 with fail
  rotate_left
  focus
   have J0:Sc3 key d a m b mid a m:=Sc3.startL key d (Nat.le_of_lt ham) (Nat.le_of_lt hmb) (by omega) HMD.out
   have hmz:¬ (mid:Int)<m:=by omega
   go_enter Tryz.func132,Tryz.ntmps132
   go_upto_region 32 with fail
  all_goals
   go_wp2
   go_loopw [20,21] (fun iv jv wr=>∃ (i j:Nat),iv=.int .i64 i/\jv=.int .i64 j/\Sc3 key d a m b mid i j/\Hid (Go.Proofs.SW h.enc w0 blk off d wr)) (fun iv jv _=>(intOf jv).toNat - (intOf iv).toNat)
   case atStart=>exact⟨_,_,rfl,rfl,J0,HS⟩
   case round =>
    clear J0
    obtain⟨i,j,rfl,rfl,J,S⟩:=hrel
    have j1:=J.h1
    have j2:=J.h2
    have j3:=J.h3
    by_cases hij:i<j
    ·obtain⟨c,hc⟩:∃ c,c=(i+j) / 2:=⟨_,rfl⟩
     have hh2:((i:Int)+(j:Int)) / 2=(c:Int):=by omega
     have c1:i<=c:=by omega
     have c2:c<j:=by omega
     obtain⟨q,hq⟩:∃ q,q=mid+m - 1 - c:=⟨_,rfl⟩
     have rq:IntKind.i64.wrap ((p:Int) - (c:Int))=(q:Int):=by rw [IntWalk.i64_in _ (by omega)];omega
     have hcN:c<N:=by omega
     have hqN:q<N:=by omega
     have UP:=Lib.hid (fun hl=>J.up HH.out c1 c2 hl)
     have DN:=Lib.hid (fun hl=>J.dn HH.out c1 c2 hl)
     rw [<- hq]at UP DN
     clear hc hq
     have hx:=HD.out.2 q hqN
     have hy:=HD.out.2 c hcN
     have K:=Lib.hid (C.cmp d)
     obtain⟨x,hx0⟩:∃ x,d[q]! = x:=⟨_,rfl⟩
     obtain⟨y,hy0⟩:∃ y,d[c]! = y:=⟨_,rfl⟩
     rw [hx0]at hx
     rw [hy0]at hy
     have UP:Hid (¬ key x<key y->_):=(hx0▸hy0▸UP)
     have DN:Hid (key x<key y->_):=(hx0▸hy0▸DN)
     obtain⟨⟨ca,fa⟩,⟨cb,fb⟩,_,_⟩:=C.all S.out hsz hqN hcN hx0 hy0
     have Kx:=Lib.hid (fun q=>K.out (wr.drewN q) x y hsz hx hy (S.out.drewN q))
     clear K hx0 hy0 J
     by_cases hl:key x - key y<0
     ·have HL:=Lib.hid (DN.out (show key x<key y by omega))
      have hbb:(!decide (key x - key y<0))=false:=by simp [hl]
      go_wp2_with fail
      go_quiet ((go_at_call 63;exact Calls.quiet_of (Kx.out _)))
      go_wp2
      go_roundw
      case rel=>exact⟨i,c,rfl,rfl,HL.out,S.out.drewN _⟩
      case measure=>simp [intOf];omega
     ·have HL:=Lib.hid (UP.out (show ¬ key x<key y by omega))
      have hbb:(!decide (key x - key y<0))=true:=by simp [hl]
      go_wp2_with fail
      go_quiet ((go_at_call 63;exact Calls.quiet_of (Kx.out _)))
      go_wp2
      go_roundw
      case rel=>exact⟨c+1,j,by go_num,rfl,HL.out,S.out.drewN _⟩
      case measure=>simp [intOf];omega
    ·obtain rfl:j=i:=by omega
     obtain⟨e,he⟩:∃ e,e=mid+m - j:=⟨_,rfl⟩
     have re:IntKind.i64.wrap ((n:Int) - (j:Int))=(e:Int):=by rw [IntWalk.i64_in _ (by omega)];omega
     have CU:Hid (Cut key d a m b mid j e):=by show Cut _ _ _ _ _ _ _ _;rw [he];exact J.cut
     have e1:e+j<=mid+m:=by omega
     have e2:mid+m<=e+j:=by omega
     clear he J
     by_cases t1:j<m/\m<e
     focus
      obtain⟨t1,t2⟩:=t1
      have z1:(j:Int)<m:=by omega
      have z2:(m:Int)<e:=by omega
      go_wp2_with fail
      refine(rotate_c C S.out hsz t1 t2 (by omega)).mono ?_
      rintro e' w1 ⟨rfl,d1,hr,S1⟩
      have hr:=Lib.hid hr
      have S1:=Lib.hid S1
      go_upto_region 41 with fail
     rotate_left
     focus
      obtain⟨d1,hr,S1⟩:∃ d1,Hid (Rot d d1 j m e)/\Hid (Go.Proofs.SW h.enc w0 blk off d1 wr):=⟨d,Rot.none d j m e (by omega) ⟨by omega,by omega⟩,S⟩
      rename World=>w1
      by_cases z1:(j:Int)<m
      focus
       have z2:¬ (m:Int)<e:=by omega
       go_upto_region 41 with fail
      rotate_left
      focus go_upto_region 41 with fail
     all_goals
      have hok1:=HD.out.perm hr.out.perm (by omega:e<=N)
      have hs1:=hok1.1
      have HK1:=Lib.hid hok1;clear hok1
      have HH1:=Lib.hid (CU.out.halves1 HH.out (by omega) hr.out)
      have HH2:=Lib.hid (CU.out.halves2 HH.out (by omega) hr.out)
      by_cases t3:a<j/\j<mid
      focus
       have z3:(a:Int)<j:=by omega
       have z4:(j:Int)<mid:=by omega
       go_wp2_with fail
       refine(IH.out d1 w1 a j mid (by omega) S1.out HK1.out t3.1 t3.2 (by omega) HH1.out).mono ?_
       rintro e' w2 ⟨rfl,d2,hm2,S2⟩
       have HM2:=Lib.hid hm2
       have S2:=Lib.hid S2
       go_upto_region 43 with fail
      rotate_left
      focus
       obtain⟨d2,HM2,S2⟩:∃ d2,Hid (Merged key d1 d2 a mid)/\Hid (Go.Proofs.SW h.enc w0 blk off d2 w1):=⟨d1,halves_trivial HH1.out (by omega),S1⟩
       rename World=>w2
       by_cases z3:(a:Int)<j
       focus
        have z4:¬ (j:Int)<mid:=by omega
        go_upto_region 43 with fail
       rotate_left
       focus go_upto_region 43 with fail
      all_goals
       have HK2:=Lib.hid (HK1.out.perm HM2.out.perm (by omega:mid<=N))
       have HH3:Hid (Halves key d2 mid e b):=HH2.out.congr (fun x h1 h2=>HM2.out.perm.2.1 x (by omega)) ⟨by omega,by omega⟩
       have FIN:Hid (∀ d3,Merged key d2 d3 mid b->Merged key d d3 a b):=by
        show ∀ d3,_->_
        intro d3 h3
        exact CU.out.fin HH.out (by omega) hr.out HM2.out h3
       by_cases t5:mid<e/\e<b
       ·have z5:(mid:Int)<e:=by omega
        have z6:(e:Int)<b:=by omega
        go_wp2_with fail
        refine(IH.out d2 w2 mid e b (by omega) S2.out HK2.out t5.1 t5.2 hb HH3.out).mono ?_
        rintro e' w3 ⟨rfl,d3,hm3,S3⟩
        go_wp2
        go_end0
        exact⟨rfl,d3,FIN.out d3 hm3,S3⟩
       ·have HT:=Lib.hid (FIN.out d2 (halves_trivial HH3.out (by omega)))
        by_cases z5:(mid:Int)<e
        ·have z6:¬ (e:Int)<b:=by omega
         go_wp2
         go_end0
         exact⟨rfl,d2,HT.out,S2.out⟩
        ·go_wp2
         go_end0
         exact⟨rfl,d2,HT.out,S2.out⟩
end
end Go.Proofs.YtiafklphblkpbaaGreat
