/-
  Stb, Stc
-/
import Derived.Sort.Lot0
import Derived.Sort.LotA
import Derived.Test.YtiafklphblkpbaaGreatStrP
namespace Go.Proofs.YtiafklphblkpbaaGreat
open Go.RowKit Go.Sort
set_option linter.unusedVariables false
set_option linter.unusedSimpArgs false

/-- by key, then by place -/
def leK (key:Nat->Int) (x y:Nat):Prop:=key x<key y\/key x=key y/\x<=y
theorem leK_refl (key:Nat->Int) (x:Nat):leK key x x:=.inr ⟨rfl,Nat.le_refl _⟩
theorem leK_trans {key:Nat->Int}{x y z:Nat}(h1:leK key x y) (h2:leK key y z):leK key x z:=by unfold leK at *;omega
theorem leK_not {key:Nat->Int}{x y:Nat}(h:¬ leK key x y):leK key y x:=by unfold leK at *;omega
theorem leK_anti {key:Nat->Int}{x y:Nat}(h1:leK key x y) (h2:leK key y x):x=y:=by unfold leK at *;omega
/-- x lies ahead of y: the key alone decides -/
theorem leK_key {key:Nat->Int}{x y:Nat}(h:x<y):key y<key x↔¬ leK key x y:=by unfold leK;omega
def SortedK (key:Nat->Int) (a b:Nat) (d:Array Nat):Prop:=∀ i j,a<=i->i<j->j<b->leK key d[i]! d[j]!
theorem SortedK.le {key:Nat->Int}{a b:Nat}{d:Array Nat}(h:SortedK key a b d) {i j:Nat}(h1:a<=i) (h2:i<=j) (h3:j<b):leK key d[i]! d[j]!:=by
 rcases Nat.lt_or_eq_of_le h2 with h2|rfl
 ·exact h i j h1 h2 h3
 ·exact leK_refl _ _
theorem SortedK.sub {key:Nat->Int}{a b a' b':Nat}{d:Array Nat}(h:SortedK key a b d) (h1:a<=a') (h2:b'<=b):SortedK key a' b' d:=fun i j hi hij hj=>h i j (by omega) hij (by omega)
theorem SortedK.congr {key:Nat->Int}{a b:Nat}{d d':Array Nat}(h:SortedK key a b d) (he:∀ i,a<=i->i<b->d'[i]! = d[i]!):SortedK key a b d':=fun i j hi hij hj=>by rw [he i hi (by omega),he j (by omega) hj];exact h i j hi hij hj

/-! ### rotations -/
def rotI (s m e x:Nat):Nat:=if s<=x/\x<e then (if x<s+(e - m) then x+(m - s) else x - (e - m)) else x
structure Rot (d d':Array Nat) (s m e:Nat):Prop where
 size:d'.size=d.size
 get:∀ x,x<d.size->d'[x]! = d[rotI s m e x]!
 perm:PermIn s e d d'
def swpI (a b k x:Nat):Nat:=if a<=x/\x<a+k then x+(b - a) else if b<=x/\x<b+k then x - (b - a) else x
/-- the first k of [a, ..) and of [b, ..) exchanged, within [lo, hi) -/
structure SwapTo (d d':Array Nat) (lo hi a b k:Nat):Prop where
 size:d'.size=d.size
 get:∀ x,x<d.size->d'[x]! = d[swpI a b k x]!
 perm:PermIn lo hi d d'
theorem SwapTo.zero (d:Array Nat) (lo hi a b:Nat):SwapTo d d lo hi a b 0:=⟨rfl,fun x _=>by unfold swpI;rw [if_neg (by omega),if_neg (by omega)],permIn_refl _ _ _⟩
theorem SwapTo.step {d d':Array Nat}{lo hi a b k n:Nat}(h:SwapTo d d' lo hi a b k) (hk:k<n) (hab:a+n<=b) (hlo:lo<=a) (hbn:b+n<=hi) (hhi:hi<=d.size):SwapTo d (swp d' (a+k) (b+k)) lo hi a b (k+1):=by
 have hs:=h.size
 refine⟨by rw [size_swp,hs],fun x hx=>?_,permIn_trans _ _ _ _ _ h.perm (swp_permIn d' lo hi (a+k) (b+k) (by omega) (by omega) (by omega) (by omega) (by omega))⟩
 rw [swp_get d' (by omega) (by omega)]
 by_cases h1:x=b+k
 ·rw [if_pos h1,h.get _ (by omega)]
  congr 1;unfold swpI;repeat' split
  all_goals omega
 ·rw [if_neg h1]
  by_cases h2:x=a+k
  ·rw [if_pos h2,h.get _ (by omega)]
   congr 1;unfold swpI;repeat' split
   all_goals omega
  ·rw [if_neg h2,h.get _ hx]
   congr 1;unfold swpI;repeat' split
   all_goals omega
/-- a rotation under way: what is left of it is a rotation of [m - i, m + j) about m -/
structure RotSt (d cur:Array Nat) (a m b i j:Nat):Prop where
 size:cur.size=d.size
 i0:0<i
 j0:0<j
 ia:i+a<=m
 jb:m+j<=b
 get:∀ x,x<d.size->d[rotI a m b x]! = cur[rotI (m - i) m (m+j) x]!
 perm:PermIn a b d cur
theorem RotSt.start (d:Array Nat) {a m b:Nat}(h1:a<m) (h2:m<b):RotSt d d a m b (m - a) (b - m) :=
 ⟨rfl,by omega,by omega,by omega,by omega,fun x _=>by rw [show m - (m - a)=a by omega,show m+(b - m)=b by omega],permIn_refl _ _ _⟩
theorem rotI_lt {s m e x n:Nat}(h1:s<=m) (h2:m<=e) (he:e<=n) (hx:x<n):rotI s m e x<n:=by unfold rotI;split<;>(try split)<;>omega
theorem RotSt.left {d cur cur':Array Nat}{a m b i j:Nat}(h:RotSt d cur a m b i j) (hij:j<i) (hb:b<=d.size) (hs:SwapTo cur cur' a b (m - i) m j):RotSt d cur' a m b (i - j) j:=by
 have h1:=h.ia;have h2:=h.jb;have h3:=h.size
 refine⟨hs.size.trans h3,by omega,h.j0,by omega,h2,fun x hx=>?_,permIn_trans _ _ _ _ _ h.perm hs.perm⟩
 rw [h.get x hx,hs.get _ (by have:=rotI_lt (s:=m - (i - j)) (m:=m) (e:=m+j) (n:=d.size) (x:=x) (by omega) (by omega) (by omega) hx;omega)]
 congr 1
 unfold rotI swpI
 repeat' split
 all_goals omega
theorem RotSt.right {d cur cur':Array Nat}{a m b i j:Nat}(h:RotSt d cur a m b i j) (hij:i<j) (hb:b<=d.size) (hs:SwapTo cur cur' a b (m - i) (m+j - i) i):RotSt d cur' a m b i (j - i):=by
 have h1:=h.ia;have h2:=h.jb;have h3:=h.size
 refine⟨hs.size.trans h3,h.i0,by omega,by omega,by omega,fun x hx=>?_,permIn_trans _ _ _ _ _ h.perm hs.perm⟩
 rw [h.get x hx,hs.get _ (by have:=rotI_lt (s:=m - i) (m:=m) (e:=m+(j - i)) (n:=d.size) (x:=x) (by omega) (by omega) (by omega) hx;omega)]
 congr 1
 unfold rotI swpI
 repeat' split
 all_goals omega
theorem RotSt.fin {d cur cur':Array Nat}{a m b i:Nat}(h:RotSt d cur a m b i i) (hb:b<=d.size) (hs:SwapTo cur cur' a b (m - i) m i):Rot d cur' a m b:=by
 have h1:=h.ia;have h2:=h.jb;have h3:=h.size
 refine⟨hs.size.trans h3,fun x hx=>?_,permIn_trans _ _ _ _ _ h.perm hs.perm⟩
 rw [hs.get x (by omega),h.get x hx]
 congr 1
 unfold rotI swpI
 repeat' split
 all_goals omega
theorem Rot.none (d:Array Nat) (a m b:Nat) (h:a=m\/m=b) (hm:a<=m/\m<=b):Rot d d a m b :=
 ⟨rfl,fun x _=>by
  congr 1
  unfold rotI
  repeat' split
  all_goals omega,permIn_refl _ _ _⟩
/-- the first of [a, i) goes up to the end, item by item -/
theorem Rot.up {d cur:Array Nat}{a k:Nat}(h:Rot d cur a (a+1) (k+1)) (hk:a<=k) (hn:k+1<d.size):Rot d (swp cur k (k+1)) a (a+1) (k+2):=by
 have h3:=h.size
 refine⟨by rw [size_swp,h3],fun x hx=>?_,permIn_trans _ _ _ _ _ (permIn_mono _ _ _ _ _ _ (Nat.le_refl _) (by omega) (by omega) h.perm) (swp_permIn cur a (k+2) k (k+1) (by omega) (by omega) (by omega) (by omega) (by omega))⟩
 rw [swp_get cur (by omega) (by omega)]
 by_cases h1:x=k+1
 ·rw [if_pos h1,h.get _ (by omega)]
  congr 1;unfold rotI;repeat' split
  all_goals omega
 ·rw [if_neg h1]
  by_cases h2:x=k
  ·rw [if_pos h2,h.get _ (by omega)]
   congr 1;unfold rotI;repeat' split
   all_goals omega
  ·rw [if_neg h2,h.get _ hx]
   congr 1;unfold rotI;repeat' split
   all_goals omega
/-- the last of [i, m] goes down to the beginning, item by item -/
theorem Rot.down {d cur:Array Nat}{k m:Nat}(h:Rot d cur (k+1) m (m+1)) (hk:k+1<=m) (hn:m<d.size):Rot d (swp cur (k+1) k) k m (m+1):=by
 have h3:=h.size
 refine⟨by rw [size_swp,h3],fun x hx=>?_,permIn_trans _ _ _ _ _ (permIn_mono _ _ _ _ _ _ (by omega) (Nat.le_refl _) (by omega) h.perm) (swp_permIn cur k (m+1) (k+1) k (by omega) (by omega) (by omega) (by omega) (by omega))⟩
 rw [swp_get cur (by omega) (by omega)]
 by_cases h1:x=k
 ·rw [if_pos h1,h.get _ (by omega)]
  congr 1;unfold rotI;repeat' split
  all_goals omega
 ·rw [if_neg h1]
  by_cases h2:x=k+1
  ·rw [if_pos h2,h.get _ (by omega)]
   congr 1;unfold rotI;repeat' split
   all_goals omega
  ·rw [if_neg h2,h.get _ hx]
   congr 1;unfold rotI;repeat' split
   all_goals omega

/-! ### merges in place -/
structure Halves (key:Nat->Int) (d:Array Nat) (a m b:Nat):Prop where
 l:SortedK key a m d
 r:SortedK key m b d
 x:∀ i j,a<=i->i<m->m<=j->j<b->d[i]!<d[j]!
structure Merged (key:Nat->Int) (d d':Array Nat) (a b:Nat):Prop where
 perm:PermIn a b d d'
 srt:SortedK key a b d'
theorem merge_one {key:Nat->Int}{d d':Array Nat}{a b i:Nat}(h:Halves key d a (a+1) b) (hb:b<=d.size) (h1:a+1<=i) (h2:i<=b) (hlo:i=a+1\/¬ leK key d[a]! d[i - 1]!) (hhi:i=b\/leK key d[a]! d[i]!) (hr:Rot d d' a (a+1) i):Merged key d d' a b:=by
 refine⟨permIn_mono _ _ _ _ _ _ (Nat.le_refl _) h2 hb hr.perm,fun p q hp hpq hq=>?_⟩
 rw [hr.get p (by omega),hr.get q (by omega)]
 have g:∀ x,a<=x->x<b->(x<i - 1/\rotI a (a+1) i x=x+1)\/(x=i - 1/\rotI a (a+1) i x=a)\/(i<=x/\rotI a (a+1) i x=x):=fun x _ _=>by
  unfold rotI;repeat' split
  all_goals omega
 rcases g p hp (by omega) with ⟨e1,e2⟩|⟨e1,e2⟩|⟨e1,e2⟩<;>rcases g q (by omega) hq with ⟨f1,f2⟩|⟨f1,f2⟩|⟨f1,f2⟩<;>rw [e2,f2]<;>try omega
 ·exact h.r (p+1) (q+1) (by omega) (by omega) (by omega)
 ·rcases hlo with hlo|hlo
  ·omega
  ·exact leK_trans (h.r.le (i:=p+1) (j:=i - 1) (by omega) (by omega) (by omega)) (leK_not hlo)
 ·exact h.r (p+1) q (by omega) (by omega) hq
 ·rcases hhi with hhi|hhi
  ·omega
  ·exact leK_trans hhi (h.r.le (by omega) f1 hq)
 ·exact h.r p q (by omega) hpq hq
theorem merge_last {key:Nat->Int}{d d':Array Nat}{a m i:Nat}(h:Halves key d a m (m+1)) (hb:m+1<=d.size) (h1:a<=i) (h2:i<=m) (hlo:i=a\/leK key d[i - 1]! d[m]!) (hhi:i=m\/¬ leK key d[i]! d[m]!) (hr:Rot d d' i m (m+1)):Merged key d d' a (m+1):=by
 refine⟨permIn_mono _ _ _ _ _ _ h1 (Nat.le_refl _) hb hr.perm,fun p q hp hpq hq=>?_⟩
 rw [hr.get p (by omega),hr.get q (by omega)]
 have g:∀ x,a<=x->x<m+1->(x<i/\rotI i m (m+1) x=x)\/(x=i/\rotI i m (m+1) x=m)\/(i<x/\rotI i m (m+1) x=x - 1):=fun x _ _=>by
  unfold rotI;repeat' split
  all_goals omega
 rcases g p hp (by omega) with ⟨e1,e2⟩|⟨e1,e2⟩|⟨e1,e2⟩<;>rcases g q (by omega) hq with ⟨f1,f2⟩|⟨f1,f2⟩|⟨f1,f2⟩<;>rw [e2,f2]<;>try omega
 ·exact h.l p q hp hpq (by omega)
 ·rcases hlo with hlo|hlo
  ·omega
  ·exact leK_trans (h.l.le hp (by omega) (by omega)) hlo
 ·rcases Nat.lt_or_ge p (q - 1) with h3|h3
  ·exact h.l p (q - 1) hp h3 (by omega)
  ·omega
 ·rcases hhi with hhi|hhi
  ·omega
  ·exact leK_trans (leK_not hhi) (h.l.le (by omega) (by omega) (by omega))
 ·exact h.l (p - 1) (q - 1) (by omega) (by omega) (by omega)
/-- what the binary search finds: how much of the halves changes its place -/
structure Cut (key:Nat->Int) (d:Array Nat) (a m b mid s e:Nat):Prop where
 s0:a<=s
 s1:s<=m
 e0:m<=e
 e1:e<=b
 sm:s<=mid
 me:mid<=e
 sum:s+e=mid+m
 lo:s=a\/e=b\/leK key d[s - 1]! d[e]!
 hi:s=m\/e=m\/¬ leK key d[s]! d[e - 1]!
theorem Cut.at1 {key:Nat->Int}{d d1:Array Nat}{a m b mid s e:Nat}(c:Cut key d a m b mid s e) (hb:b<=d.size) (hr:Rot d d1 s m e) (x:Nat) (hx:x<b) :
  (x<s/\d1[x]! = d[x]! \/ s<=x/\x<mid/\d1[x]! = d[x+(m - s)]! /\ x+(m - s)<e\/mid<=x/\x<e/\d1[x]! = d[x - (e - m)]! /\ s<=x - (e - m)/\x - (e - m)<m\/e<=x/\d1[x]! = d[x]!):=by
 have:=c.sum;have:=c.s1;have:=c.e0;have:=c.e1;have:=c.sm;have:=c.me
 rw [hr.get x (by omega)]
 unfold rotI
 rcases Nat.lt_or_ge x s with hxs|hxs<;>repeat' split
 all_goals (first|(refine .inl ⟨?_,rfl⟩;omega)|(refine .inr (.inl ⟨?_,?_,rfl,?_⟩)<;>omega)|(refine .inr (.inr (.inl ⟨?_,?_,rfl,?_,?_⟩))<;>omega)|(refine .inr (.inr (.inr ⟨?_,rfl⟩));omega))
theorem Cut.halves1 {key:Nat->Int}{d d1:Array Nat}{a m b mid s e:Nat}(c:Cut key d a m b mid s e) (h:Halves key d a m b) (hb:b<=d.size) (hr:Rot d d1 s m e):Halves key d1 a s mid:=by
 have:=c.sum;have:=c.s0;have:=c.s1;have:=c.e0;have:=c.e1;have:=c.sm;have:=c.me
 refine⟨fun p q hp hpq hq=>?_,fun p q hp hpq hq=>?_,fun p q hp hps hq hqm=>?_⟩
 ·rcases c.at1 hb hr p (by omega) with ⟨_,e1⟩|h1|h1|h1<;>try omega
  rcases c.at1 hb hr q (by omega) with ⟨_,e2⟩|h2|h2|h2<;>try omega
  rw [e1,e2];exact h.l p q hp hpq (by omega)
 ·rcases c.at1 hb hr p (by omega) with h1|⟨_,_,e1,_⟩|h1|h1<;>try omega
  rcases c.at1 hb hr q (by omega) with h2|⟨_,_,e2,_⟩|h2|h2<;>try omega
  rw [e1,e2];exact h.r _ _ (by omega) (by omega) (by omega)
 ·rcases c.at1 hb hr p (by omega) with ⟨_,e1⟩|h1|h1|h1<;>try omega
  rcases c.at1 hb hr q (by omega) with h2|⟨_,_,e2,_⟩|h2|h2<;>try omega
  rw [e1,e2];exact h.x _ _ hp (by omega) (by omega) (by omega)
theorem Cut.halves2 {key:Nat->Int}{d d1:Array Nat}{a m b mid s e:Nat}(c:Cut key d a m b mid s e) (h:Halves key d a m b) (hb:b<=d.size) (hr:Rot d d1 s m e):Halves key d1 mid e b:=by
 have:=c.sum;have:=c.s0;have:=c.s1;have:=c.e0;have:=c.e1;have:=c.sm;have:=c.me
 refine⟨fun p q hp hpq hq=>?_,fun p q hp hpq hq=>?_,fun p q hp hps hq hqm=>?_⟩
 ·rcases c.at1 hb hr p (by omega) with h1|h1|⟨_,_,e1,_,_⟩|h1<;>try omega
  rcases c.at1 hb hr q (by omega) with h2|h2|⟨_,_,e2,_,_⟩|h2<;>try omega
  rw [e1,e2];exact h.l _ _ (by omega) (by omega) (by omega)
 ·rcases c.at1 hb hr p (by omega) with h1|h1|h1|⟨_,e1⟩<;>try omega
  rcases c.at1 hb hr q (by omega) with h2|h2|h2|⟨_,e2⟩<;>try omega
  rw [e1,e2];exact h.r _ _ (by omega) (by omega) (by omega)
 ·rcases c.at1 hb hr p (by omega) with h1|h1|⟨_,_,e1,_,_⟩|h1<;>try omega
  rcases c.at1 hb hr q (by omega) with h2|h2|h2|⟨_,e2⟩<;>try omega
  rw [e1,e2];exact h.x _ _ (by omega) (by omega) (by omega) (by omega)
theorem Cut.cross {key:Nat->Int}{d d1:Array Nat}{a m b mid s e:Nat}(c:Cut key d a m b mid s e) (h:Halves key d a m b) (hb:b<=d.size) (hr:Rot d d1 s m e) {p q:Nat}(hp:a<=p) (hpm:p<mid) (hq:mid<=q) (hqb:q<b):leK key d1[p]! d1[q]!:=by
 have:=c.sum;have:=c.s0;have:=c.s1;have:=c.e0;have:=c.e1;have:=c.sm;have:=c.me
 rcases c.at1 hb hr p (by omega) with ⟨p1,e1⟩|⟨p1,p2,e1,p3⟩|h1|h1<;>try omega
 ·rcases c.at1 hb hr q hqb with h2|h2|⟨q1,q2,e2,q3,q4⟩|⟨q1,e2⟩<;>try omega
  ·rw [e1,e2];exact h.l _ _ hp (by omega) (by omega)
  ·rw [e1,e2]
   rcases c.lo with h3|h3|h3
   ·omega
   ·omega
   ·exact leK_trans (h.l.le hp (by omega) (by omega)) (leK_trans h3 (h.r.le (by omega) q1 hqb))
 ·rcases c.at1 hb hr q hqb with h2|h2|⟨q1,q2,e2,q3,q4⟩|⟨q1,e2⟩<;>try omega
  ·rw [e1,e2]
   rcases c.hi with h3|h3|h3
   ·omega
   ·omega
   ·exact leK_trans (h.r.le (by omega) (by omega) (by omega)) (leK_trans (leK_not h3) (h.l.le (by omega) q3 q4))
  ·rw [e1,e2];exact h.r _ _ (by omega) (by omega) hqb
theorem halves_trivial {key:Nat->Int}{d:Array Nat}{a m b:Nat}(h:Halves key d a m b) (ht:m<=a\/b<=m):Merged key d d a b :=
 ⟨permIn_refl _ _ _,by rcases ht with ht|ht;exact h.r.sub ht (Nat.le_refl _);exact h.l.sub (Nat.le_refl _) ht⟩
theorem Cut.fin {key:Nat->Int}{d d1 d2 d3:Array Nat}{a m b mid s e:Nat}(c:Cut key d a m b mid s e) (h:Halves key d a m b) (hb:b<=d.size) (hr:Rot d d1 s m e) (h2:Merged key d1 d2 a mid) (h3:Merged key d2 d3 mid b):Merged key d d3 a b:=by
 have:=c.sum;have:=c.s0;have:=c.s1;have:=c.e0;have:=c.e1;have:=c.sm;have:=c.me
 have z1:=hr.size
 have z2:=h2.perm.1
 have z3:=h3.perm.1
 refine⟨permIn_trans _ _ _ _ _ (permIn_mono _ _ _ _ _ _ c.s0 c.e1 hb hr.perm) (permIn_trans _ _ _ _ _ (permIn_mono _ _ _ _ _ _ (Nat.le_refl _) (by omega) (by omega) h2.perm) (permIn_mono _ _ _ _ _ _ (by omega) (Nat.le_refl _) (by omega) h3.perm)),fun p q hp hpq hq=>?_⟩
 rcases Nat.lt_or_ge q mid with hq1|hq1
 ·rw [h3.perm.2.1 p (by omega),h3.perm.2.1 q (by omega)];exact h2.srt p q hp hpq hq1
 ·rcases Nat.lt_or_ge p mid with hp1|hp1
  ·rw [h3.perm.2.1 p (by omega)]
   have k1:∀ i,mid<=i->i<b->leK key d2[p]! d2[i]!:=fun i hi hib=>by
    rw [h2.perm.2.1 i (by omega)]
    exact permIn_all d1 d2 a mid (fun v=>leK key v d1[i]!) (by omega) h2.perm (fun j hj hjm=>c.cross h hb hr hj hjm hi hib) p hp hp1
   exact permIn_all d2 d3 mid b (fun v=>leK key d2[p]! v) (by omega) h3.perm k1 q hq1 hq
  ·exact h3.srt p q hp1 hpq hq

/-! ### blocks -/
/-- [s, e) holds its own places, in order -/
structure Blk (key:Nat->Int) (d:Array Nat) (s e:Nat):Prop where
 srt:SortedK key s e d
 own:∀ x,s<=x->x<e->s<=d[x]! /\ d[x]!<e
theorem Blk.halves {key:Nat->Int}{d:Array Nat}{a m b:Nat}(h1:Blk key d a m) (h2:Blk key d m b):Halves key d a m b :=
 ⟨h1.srt,h2.srt,fun i j hi hm hj hb=>by have:=(h1.own i hi hm).2;have:=(h2.own j hj hb).1;omega⟩
theorem Merged.blk {key:Nat->Int}{d d':Array Nat}{a m b:Nat}(h:Merged key d d' a b) (h1:Blk key d a m) (h2:Blk key d m b) (hm:a<=m/\m<=b) (hb:b<=d.size):Blk key d' a b :=
 ⟨h.srt,permIn_all d d' a b (fun v=>a<=v/\v<b) hb h.perm fun i hi hib=>by
  rcases Nat.lt_or_ge i m with h3|h3
  ·have:=h1.own i hi h3;omega
  ·have:=h2.own i h3 hib;omega⟩
theorem Blk.congr {key:Nat->Int}{d d':Array Nat}{s e:Nat}(h:Blk key d s e) (he:∀ i,s<=i->i<e->d'[i]! = d[i]!):Blk key d' s e:=⟨h.srt.congr he,fun x h1 h2=>by rw [he x h1 h2];exact h.own x h1 h2⟩
theorem Blk.out {key:Nat->Int}{d d':Array Nat}{s e a b:Nat}(h:Blk key d s e) (hp:PermIn a b d d') (ho:e<=a\/b<=s):Blk key d' s e:=h.congr fun i h1 h2=>hp.2.1 i (by omega)
/-- from a on: blocks of bs, the last one shorter -/
def Blks (key:Nat->Int) (d:Array Nat) (bs a n:Nat):Prop:=∀ k,a+k*bs<n->Blk key d (a+k*bs) (min (a+k*bs+bs) n)
theorem Blks.out {key:Nat->Int}{d d':Array Nat}{bs a n s e:Nat}(h:Blks key d bs a n) (hp:PermIn s e d d') (ho:e<=a):Blks key d' bs a n:=fun k hk=>(h k hk).out hp (.inr (by have:0<=k*bs:=Nat.zero_le _;omega))
theorem Blks.drop {key:Nat->Int}{d:Array Nat}{bs a n:Nat}(h:Blks key d bs a n) (j:Nat):Blks key d bs (a+j*bs) n:=fun k hk=>by
 have:=h (j+k) (by rw [Nat.add_mul];omega)
 rw [Nat.add_mul,<- Nat.add_assoc]at this;exact this
theorem Blks.first {key:Nat->Int}{d:Array Nat}{bs a n:Nat}(h:Blks key d bs a n) (hn:a<n):Blk key d a (min (a+bs) n):=by have:=h 0 (by omega);simpa using this
theorem Blks.second {key:Nat->Int}{d:Array Nat}{bs a n:Nat}(h:Blks key d bs a n) (hn:a+bs<n):Blk key d (a+bs) (min (a+bs+bs) n):=by have:=h 1 (by omega);simpa using this
/-- the blocks so far -/
def BlksTo (key:Nat->Int) (d:Array Nat) (bs q:Nat):Prop:=∀ k,k<q->Blk key d (k*bs) (k*bs+bs)
theorem BlksTo.snoc {key:Nat->Int}{d d':Array Nat}{bs q e:Nat}(h:BlksTo key d bs q) (hp:PermIn (q*bs) e d d') (hb:Blk key d' (q*bs) (q*bs+bs)):BlksTo key d' bs (q+1):=fun k hk=>by
 rcases Nat.lt_or_ge k q with h1|h1
 ·refine(h k h1).out hp (.inl ?_)
  have:(k+1)*bs<=q*bs:=Nat.mul_le_mul_right _ h1
  rw [Nat.add_mul]at this;omega
 ·obtain rfl:k=q:=by omega
  exact hb
theorem BlksTo.all {key:Nat->Int}{d d':Array Nat}{bs q n:Nat}(h:BlksTo key d bs q) (hp:PermIn (q*bs) n d d') (hb:q*bs<n->Blk key d' (q*bs) n) (hn:n<=q*bs+bs) (hq:q*bs<=n):Blks key d' bs 0 n:=fun k hk=>by
 rw [Nat.zero_add]at hk ⊢
 rcases Nat.lt_or_ge k q with h1|h1
 ·have h2:(k+1)*bs<=q*bs:=Nat.mul_le_mul_right _ h1
  rw [Nat.add_mul,Nat.one_mul]at h2
  rw [Nat.min_eq_left (by omega)];exact(h k h1).out hp (.inl h2)
 ·have h2:q*bs<=k*bs:=Nat.mul_le_mul_right _ h1
  rcases Nat.lt_or_ge q k with h4|h4
  ·have h5:(q+1)*bs<=k*bs:=Nat.mul_le_mul_right _ h4
   rw [Nat.add_mul]at h5;omega
  ·obtain rfl:k=q:=by omega
   rw [Nat.min_eq_right hn];exact hb hk
end Go.Proofs.YtiafklphblkpbaaGreat
namespace Go.Proofs.YtiafklphblkpbaaGreat
open Go.RowKit Go.Sort
set_option linter.unusedVariables false
set_option linter.unusedSimpArgs false

theorem Blk.one {key:Nat->Int}{d:Array Nat}{x:Nat}(h:d[x]! = x):Blk key d x (x+1) :=
 ⟨fun i j hi hij hj=>by omega,fun y h1 h2=>(Nat.le_antisymm h1 (by omega):x=y)▸(by omega:x<=d[x]! /\ d[x]!<x+1)⟩
theorem Blk.none {key:Nat->Int}{d:Array Nat}{a b:Nat}(h:b<=a):Blk key d a b:=⟨fun i j hi hij hj=>by omega,fun y h1 h2=>by omega⟩
/-- the item of place i on its way down through the block [a, i): it stands at j -/
structure Ins (key:Nat->Int) (d cur:Array Nat) (a i j:Nat):Prop where
 rot:Rot d cur j i (i+1)
 ja:a<=j
 ji:j<=i
 lt:j<i->¬ leK key d[j]! d[i]!
section
variable {key:Nat->Int} {d cur:Array Nat} {a i j:Nat}
theorem Ins.start (key:Nat->Int) (d:Array Nat) (h:a<=i):Ins key d d a i i:=⟨Rot.none d i i (i+1) (.inl rfl) ⟨Nat.le_refl _,Nat.le_succ _⟩,h,Nat.le_refl _,fun h=>by omega⟩
theorem Ins.here (h:Ins key d cur a i j) (hi:i<d.size):cur[j]! = d[i]! /\ ∀ x,x<j->cur[x]! = d[x]!:=by
 have g:=h.rot.get
 have:=h.ji
 refine⟨?_,fun x hx=>?_⟩
 ·rw [g j (by omega)];congr 1;unfold rotI;repeat' split
  all_goals omega
 ·rw [g x (by omega)];congr 1;unfold rotI;repeat' split
  all_goals omega
theorem Ins.down (h:Ins key d cur a i (j+1)) (hj:a<=j) (hi:i<d.size) (hB:Blk key d a i) (hd:d[i]! = i) (hlt:key cur[j+1]!<key cur[j]!):Ins key d (swp cur (j+1) j) a i j:=by
 obtain⟨e1,e2⟩:=h.here hi
 have hji:=h.ji
 refine⟨h.rot.down hji hi,hj,by omega,fun _=>?_⟩
 rw [e1,e2 j (by omega)]at hlt
 exact(leK_key (by rw [hd];exact(hB.own j hj (by omega)).2)).1 hlt
theorem Ins.blk (h:Ins key d cur a i j) (hi:i<d.size) (hB:Blk key d a i) (hd:d[i]! = i) (hs:j<=a\/¬ key cur[j]!<key cur[j - 1]!):Blk key cur a (i+1)/\PermIn a (i+1) d cur:=by
 have ho:=Blk.one (key:=key) hd
 have ha:=h.ja
 have hji:=h.ji
 obtain⟨e1,e2⟩:=h.here hi
 have hm:Merged key d cur a (i+1):=by
  refine merge_last (hB.halves ho) (by omega) ha hji ?_ ?_ h.rot
  ·rcases hs with hs|hs
   ·exact .inl (by omega)
   ·rcases Nat.eq_or_lt_of_le ha with hja|hja
    ·exact .inl hja.symm
    ·rw [e1,e2 (j - 1) (by omega)]at hs
     refine .inr (Classical.not_not.1 fun hn=>hs ((leK_key ?_).2 hn))
     rw [hd];exact(hB.own (j - 1) (by omega) (by omega)).2
  ·rcases Nat.eq_or_lt_of_le hji with h1|h1
   ·exact .inl h1
   ·exact .inr (h.lt h1)
 exact⟨hm.blk hB ho ⟨by omega,by omega⟩ (by omega),hm.perm⟩
theorem Ins.rest (h:Ins key d cur a i j) (hi:i<d.size) {x:Nat}(hx:i<x):cur[x]! = d[x]!:=by
 rcases Nat.lt_or_ge x d.size with h1|h1
 ·rw [h.rot.get x h1];congr 1;unfold rotI;repeat' split
  all_goals omega
 ·have:=h.rot.size
  rw [getElem!_neg cur x (by omega),getElem!_neg d x (by omega)]
end

/-! ### the three searches -/
/-- where the item of place a goes -/
structure Sc1 (key:Nat->Int) (d:Array Nat) (a b i j:Nat):Prop where
 h1:a+1<=i
 h2:i<=j
 h3:j<=b
 lo:i=a+1\/¬ leK key d[a]! d[i - 1]!
 hi:j=b\/leK key d[a]! d[j]!
/-- where the item of place m goes -/
structure Sc2 (key:Nat->Int) (d:Array Nat) (a m i j:Nat):Prop where
 h1:a<=i
 h2:i<=j
 h3:j<=m
 lo:i=a\/leK key d[i - 1]! d[m]!
 hi:j=m\/¬ leK key d[j]! d[m]!
/-- where the halves are cut; n = mid + m -/
structure Sc3 (key:Nat->Int) (d:Array Nat) (a m b mid i j:Nat):Prop where
 h1:a<=i/\mid+m<=b+i
 h2:i<=j
 h3:j<=m/\j<=mid
 lo:i=a\/mid+m=b+i\/leK key d[i - 1]! d[mid+m - i]!
 hi:j=m\/j=mid\/¬ leK key d[j]! d[mid+m - 1 - j]!
section
variable {key:Nat->Int} {d d':Array Nat} {a m b mid i j c:Nat}
theorem Sc1.start (key:Nat->Int) (d:Array Nat) (h:a+1<=b):Sc1 key d a b (a+1) b:=⟨Nat.le_refl _,h,Nat.le_refl _,.inl rfl,.inl rfl⟩
theorem Sc1.up (h:Sc1 key d a b i j) (H:Halves key d a (a+1) b) (h1:i<=c) (h2:c<j) (hl:key d[c]!<key d[a]!):Sc1 key d a b (c+1) j:=by
 have:=h.h1;have:=h.h3
 exact⟨by omega,by omega,h.h3,.inr ((leK_key (H.x a c (Nat.le_refl _) (Nat.lt_succ_self _) (by omega) (by omega))).1 hl),h.hi⟩
theorem Sc1.dn (h:Sc1 key d a b i j) (H:Halves key d a (a+1) b) (h1:i<=c) (h2:c<j) (hl:¬ key d[c]!<key d[a]!):Sc1 key d a b i c:=by
 have:=h.h1;have:=h.h3
 exact⟨h.h1,h1,by omega,h.lo,.inr (Classical.not_not.1 fun hn=>hl ((leK_key (H.x a c (Nat.le_refl _) (Nat.lt_succ_self _) (by omega) (by omega))).2 hn))⟩
theorem Sc1.fin (h:Sc1 key d a b i i) (H:Halves key d a (a+1) b) (hb:b<=d.size) (hr:Rot d d' a (a+1) i):Merged key d d' a b:=merge_one H hb h.h1 h.h3 h.lo h.hi hr
theorem Sc2.start (key:Nat->Int) (d:Array Nat) (h:a<=m):Sc2 key d a m a m:=⟨Nat.le_refl _,h,Nat.le_refl _,.inl rfl,.inl rfl⟩
theorem Sc2.up (h:Sc2 key d a m i j) (H:Halves key d a m (m+1)) (h1:i<=c) (h2:c<j) (hl:¬ key d[m]!<key d[c]!):Sc2 key d a m (c+1) j:=by
 have:=h.h1;have:=h.h3
 exact⟨by omega,by omega,h.h3,.inr (Classical.not_not.1 fun hn=>hl ((leK_key (H.x c m (by omega) (by omega) (Nat.le_refl _) (Nat.lt_succ_self _))).2 hn)),h.hi⟩
theorem Sc2.dn (h:Sc2 key d a m i j) (H:Halves key d a m (m+1)) (h1:i<=c) (h2:c<j) (hl:key d[m]!<key d[c]!):Sc2 key d a m i c:=by
 have:=h.h1;have:=h.h3
 exact⟨h.h1,h1,by omega,h.lo,.inr ((leK_key (H.x c m (by omega) (by omega) (Nat.le_refl _) (Nat.lt_succ_self _))).1 hl)⟩
theorem Sc2.fin (h:Sc2 key d a m i i) (H:Halves key d a m (m+1)) (hb:m+1<=d.size) (hr:Rot d d' i m (m+1)):Merged key d d' a (m+1):=merge_last H hb h.h1 h.h3 h.lo h.hi hr
theorem Sc3.startL (key:Nat->Int) (d:Array Nat) (h1:a<=m) (h2:m<=b) (hm:m<=mid) (hmid:mid=(a+b) / 2):Sc3 key d a m b mid a m:=⟨by omega,h1,by omega,.inl rfl,.inl rfl⟩
theorem Sc3.startR (key:Nat->Int) (d:Array Nat) (h1:a<=m) (h2:m<=b) (hm:mid<m) (hmid:mid=(a+b) / 2):Sc3 key d a m b mid (mid+m - b) mid:=⟨by omega,by omega,by omega,.inr (.inl (by omega)),.inr (.inl rfl)⟩
theorem Sc3.up (h:Sc3 key d a m b mid i j) (H:Halves key d a m b) (h1:i<=c) (h2:c<j) (hl:¬ key d[mid+m - 1 - c]!<key d[c]!):Sc3 key d a m b mid (c+1) j:=by
 have:=h.h1;have:=h.h3
 refine⟨by omega,by omega,h.h3,.inr (.inr ?_),h.hi⟩
 have e:mid+m - (c+1)=mid+m - 1 - c:=by omega
 rw [Nat.add_sub_cancel,e]
 exact Classical.not_not.1 fun hn=>hl ((leK_key (H.x c _ (by omega) (by omega) (by omega) (by omega))).2 hn)
theorem Sc3.dn (h:Sc3 key d a m b mid i j) (H:Halves key d a m b) (h1:i<=c) (h2:c<j) (hl:key d[mid+m - 1 - c]!<key d[c]!):Sc3 key d a m b mid i c:=by
 have:=h.h1;have:=h.h3
 exact⟨h.h1,h1,by omega,h.lo,.inr (.inr ((leK_key (H.x c _ (by omega) (by omega) (by omega) (by omega))).1 hl))⟩
theorem Sc3.cut (h:Sc3 key d a m b mid i i):Cut key d a m b mid i (mid+m - i):=by
 have h1:=h.h1;have h3:=h.h3
 refine⟨h1.1,h3.1,by omega,by omega,h3.2,by omega,by omega,?_,?_⟩
 ·rcases h.lo with h4|h4|h4
  ·exact .inl h4
  ·exact .inr (.inl (by omega))
  ·exact .inr (.inr h4)
 ·rcases h.hi with h4|h4|h4
  ·exact .inl h4
  ·exact .inr (.inl (by omega))
  ·exact .inr (.inr (by rw [show mid+m - i - 1=mid+m - 1 - i by omega];exact h4))
end

/-! ### one list alone -/
/-- by key, then by place -/
def byKey (key:Nat->Int) (K n:Nat):List Nat:=(List.range K).flatMap fun v:Nat=>(List.range n).filter fun i=>decide (key i=(v:Int))
theorem byKey_sorted (key:Nat->Int) (K n:Nat):(byKey key K n).Pairwise fun x y=>leK key x y/\x≠y:=by
 unfold byKey
 rw [List.pairwise_flatMap]
 refine⟨fun v _=>?_,?_⟩
 ·refine List.Pairwise.imp_of_mem ?_ ((List.pairwise_lt_range (n:=n)).filter _)
  intro x y hx hy hxy
  have h1:=(List.mem_filter.1 hx).2
  have h2:=(List.mem_filter.1 hy).2
  simp at h1 h2
  exact⟨.inr ⟨by omega,by omega⟩,by omega⟩
 ·refine List.Pairwise.imp ?_ (List.pairwise_lt_range (n:=K))
  intro u v huv x hx y hy
  have h1:=(List.mem_filter.1 hx).2
  have h2:=(List.mem_filter.1 hy).2
  simp at h1 h2
  exact⟨.inl (by omega),fun e=>by subst e;omega⟩
theorem mem_byKey {key:Nat->Int}{K n:Nat}(hk:∀ i,i<n->0<=key i/\key i<K) (x:Nat):x∈byKey key K n↔x<n:=by
 unfold byKey
 simp only [List.mem_flatMap,List.mem_filter,List.mem_range,decide_eq_true_eq]
 constructor
 ·rintro⟨v,_,h,_⟩;exact h
 ·intro h
  have:=hk x h
  exact⟨(key x).toNat,by omega,h,by omega⟩
theorem sorted_alone {key:Nat->Int}{K n:Nat}{d:Array Nat}(hk:∀ i,i<n->0<=key i/\key i<K) (hp:d.toList.Perm (List.range n)) (hs:SortedK key 0 n d):d.toList=byKey key K n:=by
 have hl:d.size=n:=by have:=hp.length_eq;simpa using this
 have h1:d.toList.Pairwise (leK key):=by
  rw [List.pairwise_iff_getElem]
  intro i j hi hj hij
  have hi':i<d.size:=by simpa using hi
  have hj':j<d.size:=by simpa using hj
  have:=hs i j (Nat.zero_le _) hij (by omega)
  rw [getElem!_pos d i hi',getElem!_pos d j hj']at this
  simpa using this
 have h2:=(byKey_sorted key K n).imp (fun h=>h.1)
 have hn:(byKey key K n).Nodup:=(byKey_sorted key K n).imp (fun h=>h.2)
 refine List.Perm.eq_of_pairwise (le:=leK key) (fun a b _ _ h1 h2=>leK_anti h1 h2) h1 h2 ?_
 refine hp.trans ?_
 refine(List.perm_ext_iff_of_nodup List.nodup_range hn).2 fun x=>?_
 rw [mem_byKey hk,List.mem_range]
end Go.Proofs.YtiafklphblkpbaaGreat
