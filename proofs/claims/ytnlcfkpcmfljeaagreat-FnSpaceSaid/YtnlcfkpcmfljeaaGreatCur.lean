/-
  Cur
-/
import Derived.Test.YtnlcfkpcmfljeaaGreatMarkB
import Derived.Laws.BitsAllLaws
import Derived.IntWalk
set_option linter.unusedSimpArgs false
set_option linter.unusedVariables false
set_option maxHeartbeats 1600000
set_option maxRecDepth 100000
namespace Go.Proofs.YtnlcfkpcmfljeaaGreat
open Go.RowKit
theorem and_mask (a:Int) (m:Nat) (hm:m<4611686018427387904):0<=bits .and .i64 a (m:Int)/\bits .and .i64 a (m:Int)<=m:=by
 have h1:(BitVec.ofInt 64 (m:Int)).toNat=m:=by
  rw [BitVec.ofInt_natCast,BitVec.toNat_ofNat];exact Nat.mod_eq_of_lt (by omega)
 have h2:(BitVec.ofInt 64 a &&& BitVec.ofInt 64 (m:Int)).toNat<=m:=by
  rw [BitVec.toNat_and,h1];exact Nat.and_le_right
 have h3:bits .and .i64 a (m:Int)=((BitVec.ofInt 64 a &&& BitVec.ofInt 64 (m:Int)).toNat:Int):=by
  show IntKind.i64.wrap ((BitVec.ofInt 64 a &&& BitVec.ofInt 64 (m:Int)).toNat:Int)=_;exact IntWalk.i64_in _ (by omega)
 rw [h3];omega
theorem and_maskI (a m:Int) (h0:0<=m) (hm:m<4611686018427387904):0<=bits .and .i64 a m/\bits .and .i64 a m<=m:=by
 obtain⟨k,rfl⟩:=Int.eq_ofNat_of_zero_le h0;exact and_mask a k (by omega)
def rByte:Rp Int:=⟨1,fun _ cs x=>cs=[.int .u8 x]/\0<=x/\x<=255,fun _ fp cs x=>fp=[]/\cs=[.int .u8 x]/\0<=x/\x<=255⟩
theorem rByte_ok:rByte.Ok where
 pos:=by decide
 len h:=by obtain⟨rfl,_⟩:=h;rfl
 one h u hu:=by obtain⟨rfl,_⟩:=h;simp at hu;subst hu;rfl
 keep h _:=h
 toRep h:=h.2
 okeep h _:=h
 lt h k hk:=by rw [h.1]at hk;cases hk
theorem RS.atb {M:Nat}{w:World}{A:Option Addr}{n cap:Nat}{l:List Int}(h:RS M rByte w A n cap l) {k:Nat}(hk:k<n) :
  ∃ b off x,A=some ⟨b,off,none⟩/\w.cell? ⟨b,off+k,none⟩=some (.int .u8 x)/\0<=x/\x<=255:=by
 obtain⟨b,off,x,cs,e,⟨rfl,hI⟩,hc,hx⟩:=h.at_ hk;exact⟨b,off,x,e,by simpa [rByte]using hc 0 _ rfl,hI.1,hI.2⟩
theorem smallB {M:Nat}{w:World}{A:Option Addr}{n cap:Nat}{l:List Int}(h:RS M rByte w A n cap l) (hn:n<=1048576):RS NB rByte w A n cap l:=h.more (by unfold NB;omega)
theorem RS.belowB {M B:Nat}{w w':World}{A:Option Addr}{n cap:Nat}{l:List Int}(h:RS M rByte w A n cap l) (hb:Below B w w') (hA:∀ k∈blk A,0<n->k<B):RS M rByte w' A n cap l :=
 ⟨h.len,h.nb,h.nc,fun hn=>by
  obtain⟨b,off,e,hc⟩:=h.cell hn;subst e;refine⟨b,off,rfl,fun j x hj=>?_⟩;obtain⟨cs,h1,h2⟩:=hc j x hj;refine⟨cs,h1,fun i v hi=>?_⟩;rw [hb.cell (p:=⟨b,off+j*rByte.size+i,none⟩) (hA b (by simp [blk]) hn)];exact h2 i v hi⟩
theorem RS.blkLt {M:Nat}{w:World}{A:Option Addr}{n cap:Nat}{l:List Int}(h:RS M rByte w A n cap l):∀ k∈blk A,0<n->k<w.heap.size:=by
 intro k hk hn;obtain⟨b,off,x,rfl,hc,_⟩:=h.atb hn;simp [blk]at hk;subst hk;exact World.block_lt_of_cell? w _ hc
def Cur (w:World) (g:Nat):Prop:=∃ (A:Option Addr) (n c:Nat) (l:List Int) (i:Nat) (h:Int),
 Bk w g 180 [.slice A n c,.int .i64 i,.int .i64 h]/\RS NB rByte w A n c l/\i<=n/\I64 h/\∀ k∈blk A,0<n->k<g
theorem Cur.lt {w:World}{g:Nat}(h:Cur w g):g<w.heap.size:=by obtain⟨A,n,c,l,i,h,hb,_⟩:=h;exact hb.lt
theorem Cur.below {w w':World}{g:Nat}(h:Cur w g) (hb:Below w.heap.size w w'):Cur w' g:=by
 obtain⟨A,n,c,l,i,h,h1,h2,h3⟩:=h;exact⟨A,n,c,l,i,h,h1.below hb,h2.below rByte_ok hb,h3⟩
theorem Chg.cell {fp:List Nat}{w w':World}(h:Chg fp w w') {p:Addr}(hp:p.block<w.heap.size) (hf:p.block∉fp):w'.cell? p=w.cell? p:=by
 unfold World.cell?;rw [h.block p.block hp hf]
def Drawn (P:Int->Prop) (g:Nat) (w:World) (e:Ending) (w':World):Prop:=∃ x,e=.returned (.int .i64 x)/\P x/\Cur w' g/\Chg [g] w w'
theorem Chg.of1 {g:Nat}{w w':World}(h:Chg [g] w w') {B:Nat}(hB:B<=w.heap.size) (hg:B<=g):Below B w w':=h.toBelow hB (by simp;exact hg)
theorem Chg.al {fp:List Nat}{w w':World}{o:Obj}(h:Chg fp (w.alloc o) w'):Chg fp w w':=(Chg.ofBelow ((Below.refl _ _).alloc (Nat.le_refl _) o) fp).trans h
theorem l1New_c (A:Option Addr) (n cap:Nat) (l:List Int) (w:World) (hr:RS NB rByte w A n cap l) :
  Calls Tryz.prog 82 #[.slice A n cap] w fun e w'=>∃ g,e=.returned (.pointer (some ⟨g,0,none⟩))/\w.heap.size<=g/\Cur w' g/\Below w.heap.size w w':=by
 have hn:=hr.bound;have hlt:=Lib.hid hr.blkLt
 have hF:∀ x:Int,I64 x->Cur (w.alloc (.cells #[.slice A n cap,.int .i64 0,.int .i64 x] 180)) w.heap.size:=fun x hx =>
  ⟨A,n,cap,l,0,x,Bk.new w [.slice A n cap,.int .i64 0,.int .i64 x] _,hr.below rByte_ok (bal),Nat.zero_le _,hx,hlt.out⟩
 have HF:=Lib.hid hF;clear hF
 go_enter Tryz.func82,Tryz.ntmps82
 go_wp2
 go_loop [3,4] (fun h i=>∃ (k:Nat) (x:Int),k<=n/\h=.int .i64 x/\i=.int .i64 k/\0<=x/\x<=4294977397) (fun _ i=>n - (intOf i).toNat)
 case atStart=>exact⟨0,_,Nat.zero_le _,rfl,rfl,by omega,by omega⟩
 case round =>
  obtain⟨k,x,hk,rfl,rfl,hx0,hx1⟩:=hrel;by_cases h1:k<n
  ·obtain⟨b,off,y,rfl,hc,hy0,hy1⟩:=hr.atb h1
   have am:=and_maskI (x*131+y+7) 1073741823 (by omega) (by omega);by_cases h2:(k:Int)<4000
   ·go_wp2
    go_round
    case rel=>exact⟨k+1,_,by omega,rfl,by go_num,am.1,by omega⟩
    case measure=>simp [intOf];omega
   ·go_wp2
    go_ret;exact⟨_,rfl,Nat.le_refl _,HF.out x ⟨by omega,by omega⟩,bal⟩
  ·go_wp2
   go_ret;exact⟨_,rfl,Nat.le_refl _,HF.out x ⟨by omega,by omega⟩,bal⟩
theorem Cur.put {w:World}{g:Nat}{A:Option Addr}{n c:Nat}{l:List Int}{i:Nat}{h:Int}(hb:Bk w g 180 [.slice A n c,.int .i64 i,.int .i64 h]) (hr:RS NB rByte w A n c l) (hi:i<=n) (hh:I64 h) (hA:∀ k∈blk A,0<n->k<g):Cur w g:=⟨A,n,c,l,i,h,hb,hr,hi,hh,hA⟩
theorem l1Byte_c (g:Nat) (w:World) (hc:Cur w g) :
  Calls Tryz.prog 215 #[.pointer (some ⟨g,0,none⟩)] w (Drawn (fun x=>0<=x/\x<=255) g w):=by
 obtain⟨A,n,c,l,i,h,hb,hr,hi,hh,hA⟩:=hc;have hg:=hb.lt;have k0:=hb.bx 0 _ rfl;have k1:=hb.bx 1 _ rfl;have k2:=hb.bx 2 _ rfl;have f1:=hb.frozen 1;have f2:=hb.frozen 2;have hn:=hr.bound
 go_enter Tryz.func215,Tryz.ntmps215
 go_wp2;obtain⟨h',hh'⟩:∃ h',h'=wrap64 (wrap64 (h*6364136223846793005)+1442695040888963407):=⟨_,rfl⟩;have hI:I64 h':=by rw [hh'];unfold I64 wrap64;omega
 rw [<- hh'];clear hh';obtain⟨w1,hw1⟩:∃ w1,w1=w.setCell ⟨g,2,none⟩ (.int .i64 h'):=⟨_,rfl⟩;rw [<- hw1];have hb1:Bk w1 g 180 [.slice A n c,.int .i64 i,.int .i64 h']:=by rw [hw1];exact hb.set 2 (.int .i64 h')
 have hC1:Chg [g] w w1:=by rw [hw1];exact(Chg.refl _ _).setCell (by simp) _ _
 have hr1:=hr.belowB (hC1.of1 (Nat.le_of_lt hg) (Nat.le_refl _)) hA;clear hw1 k0 k1 k2 f1 f2 hr hb;have k0:=hb1.bx 0 _ rfl;have k1:=hb1.bx 1 _ rfl;have k2:=hb1.bx 2 _ rfl;have f1:=hb1.frozen 1;have hxx:=and_maskI (bits .xor .i64 (h' / 8589934592) (h' / 35184372088832)) 255 (by omega) (by omega)
 go_quiet (fail)
 generalize bits BinOp.and IntKind.i64 (bits BinOp.xor IntKind.i64 (h' / 8589934592) (h' / 35184372088832)) 255=x at hxx ⊢;obtain⟨x0,x9⟩:=hxx;clear k0 k1 k2 f1;obtain⟨w2,hw2⟩:∃ w2,w2=w1.drewN nq:=⟨_,rfl⟩;rw [<- hw2];have hbw2:Below w1.heap.size w1 w2:=by rw [hw2];exact below_drewN (Below.refl _ _) _
 clear hw2;replace hb1:=hb1.below hbw2;replace hr1:=hr1.below rByte_ok hbw2;replace hC1:=hC1.trans (Chg.ofBelow hbw2 _);have k0:=hb1.bx 0 _ rfl;have k1:=hb1.bx 1 _ rfl;have k2:=hb1.bx 2 _ rfl;have f1:=hb1.frozen 1;by_cases h1:i<n
 ·have d1:decide (i<n)=true:=by simp [h1]
  go_wp2
  go_quiet (fail)
  clear k0 k1 k2 f1;obtain⟨w3,hw3⟩:∃ w3,w3=w2.drewN nq:=⟨_,rfl⟩;rw [<- hw3];have hbw3:Below w2.heap.size w2 w3:=by rw [hw3];exact below_drewN (Below.refl _ _) _
  clear hw3;replace hb1:=hb1.below hbw3;replace hr1:=hr1.below rByte_ok hbw3;replace hC1:=hC1.trans (Chg.ofBelow hbw3 _);have k0:=hb1.bx 0 _ rfl;have k1:=hb1.bx 1 _ rfl;have k2:=hb1.bx 2 _ rfl;have f1:=hb1.frozen 1;obtain⟨b,off,y,rfl,hc,hy0,hy1⟩:=hr1.atb h1;have hzz:=and_maskI (x+y) 255 (by omega) (by omega);go_wp2
  go_quiet (fail)
  generalize bits BinOp.and IntKind.i64 (x+y) 255=z at hzz ⊢;obtain⟨z0,z9⟩:=hzz;clear k0 k1 k2 f1 hc;obtain⟨w4,hw4⟩:∃ w4,w4=w3.drewN nq:=⟨_,rfl⟩;rw [<- hw4];have hbw4:Below w3.heap.size w3 w4:=by rw [hw4];exact below_drewN (Below.refl _ _) _
  clear hw4;replace hb1:=hb1.below hbw4;replace hr1:=hr1.below rByte_ok hbw4;replace hC1:=hC1.trans (Chg.ofBelow hbw4 _);have k0:=hb1.bx 0 _ rfl;have k1:=hb1.bx 1 _ rfl;have k2:=hb1.bx 2 _ rfl;have f1:=hb1.frozen 1;go_wp2;go_ret;have hb2:=hb1.set 1 (.int .i64 ((i:Int)+1));have hC2:Chg [g] w4 (w4.setCell ⟨g,1,none⟩ (.int .i64 ((i:Int)+1))):=(Chg.refl _ _).setCell (by simp) _ _;exact⟨_,rfl,⟨z0,z9⟩,Cur.put (i:=i+1) hb2 (hr1.belowB (hC2.of1 (Nat.le_of_lt hb1.lt) (Nat.le_refl _)) hA) (by omega) hI hA,hC1.trans hC2⟩
 ·have d1:decide (i<n)=false:=by simpa using h1
  go_wp2
  go_quiet (fail)
  clear k0 k1 k2 f1;obtain⟨w3,hw3⟩:∃ w3,w3=w2.drewN nq:=⟨_,rfl⟩;rw [<- hw3];have hbw3:Below w2.heap.size w2 w3:=by rw [hw3];exact below_drewN (Below.refl _ _) _
  clear hw3;replace hb1:=hb1.below hbw3;replace hr1:=hr1.below rByte_ok hbw3;replace hC1:=hC1.trans (Chg.ofBelow hbw3 _);go_wp2;go_ret;exact⟨_,rfl,⟨x0,x9⟩,Cur.put hb1 hr1 hi hI hA,hC1⟩
theorem tmod_bd {a n:Int}(h0:0<=a) (hn:0<n):0<=a % n/\a % n<n:=⟨Int.emod_nonneg _ (by omega),Int.emod_lt_of_pos _ hn⟩
theorem l1Below_c (g:Nat) (n:Int) (w:World) (hn:n<=4611686018427387904) (hc:Cur w g) :
  Calls Tryz.prog 157 #[.pointer (some ⟨g,0,none⟩),.int .i64 n] w (Drawn (fun x=>0<=x/\x<=4611686018427387904/\(0<n->x<n)) g w):=by
 by_cases h1:n<=0
 ·go_enter Tryz.func157,Tryz.ntmps157
  go_wp2;go_ret;exact⟨0,rfl,⟨by omega,by omega,by omega⟩,hc,Chg.refl _ _⟩
 ·by_cases h2:n<=256
  ·have hn0:n≠0:=by omega
   go_enter Tryz.func157,Tryz.ntmps157
   go_wp2_with fail
   refine(l1Byte_c g w hc).mono ?_;rintro e w1 ⟨x,rfl,⟨hx0,hx1⟩,hc1,hC1⟩;have hm:=tmod_bd hx0 (by omega:0<n);go_wp2;go_ret;exact⟨_,rfl,⟨hm.1,by omega,fun _=>hm.2⟩,hc1,hC1⟩
  ·have hn0:n≠0:=by omega
   go_enter Tryz.func157,Tryz.ntmps157
   go_wp2_with fail
   refine(l1Byte_c g w hc).mono ?_;rintro e w1 ⟨x,rfl,⟨hx0,hx1⟩,hc1,hC1⟩
   go_wp2_with fail
   refine(l1Byte_c g w1 hc1).mono ?_;rintro e w2 ⟨y,rfl,⟨hy0,hy1⟩,hc2,hC2⟩
   go_wp2_with fail
   refine(l1Byte_c g w2 hc2).mono ?_;rintro e w3 ⟨z,rfl,⟨hz0,hz1⟩,hc3,hC3⟩
   go_wp2_with fail
   refine(l1Byte_c g w3 hc3).mono ?_;rintro e w4 ⟨u,rfl,⟨hu0,hu1⟩,hc4,hC4⟩;have hm:=tmod_bd (a:=x*16777216+y*65536+z*256+u) (by omega) (by omega:0<n);go_wp2;go_ret;exact⟨_,rfl,⟨hm.1,by omega,fun _=>hm.2⟩,hc4,((hC1.trans hC2).trans hC3).trans hC4⟩
theorem l1Once_c (g:Nat) (n:Int) (w:World) (hn:n<=4611686018427387904) (hc:Cur w g) :
  Calls Tryz.prog 85 #[.pointer (some ⟨g,0,none⟩),.int .i64 n] w fun e w'=>∃ b:Bool,e=.returned (.bool b)/\Cur w' g/\Chg [g] w w':=by
 go_enter Tryz.func85,Tryz.ntmps85
 go_wp2_with fail
 refine(l1Below_c g n w hn hc).mono ?_;rintro e w1 ⟨x,rfl,_,hc1,hC1⟩;go_wp2;go_ret;exact⟨_,rfl,hc1,hC1⟩
theorem l1PickInt_c (g:Nat) (A:Option Addr) (n cap:Nat) (l:List Int) (w:World) (hr:RS NB rInt w A n cap l) (hA:∀ k∈blk A,k≠g) (h0:0<n) (hc:Cur w g) :
  Calls Tryz.prog 159 #[.pointer (some ⟨g,0,none⟩),.slice A n cap] w (Drawn (fun x=>x∈l) g w):=by
 have hn:=hr.bound
 go_enter Tryz.func159,Tryz.ntmps159
 go_wp2_with fail
 refine(l1Below_c g n w (by omega) hc).mono ?_;rintro e w1 ⟨x,rfl,⟨hx0,hx1,hx2⟩,hc1,hC1⟩;obtain⟨k,rfl⟩:=Int.eq_ofNat_of_zero_le hx0;have hk:k<n:=by have:=hx2 (by omega);omega
 obtain⟨b,off,y,rfl,hcell,hI,hy⟩:=hr.ati hk
 have hcell1:w1.cell? ⟨b,off+k,none⟩=some (.int .i64 y):=by
  rw [<- hcell];exact hC1.cell (World.block_lt_of_cell? w _ hcell) (by simp;exact hA b (by simp [blk]))
 clear hcell;go_wp2;go_ret;exact⟨_,rfl,mem_of_at hy.out,hc1,hC1⟩
theorem RS.lit (w:World) (l:List Int) (t:TypeId) (hl:l.length<=1000) (hI:∀ x∈l,I64 x):RS NB rInt (w.alloc (.cells (l.map (Value.int .i64)).toArray t)) (some ⟨w.heap.size,0,none⟩) l.length l.length l :=
 ⟨rfl,by unfold NB;omega,Nat.le_refl _,fun _=>⟨w.heap.size,0,rfl,fun j x hj=>⟨[.int .i64 x],⟨rfl,hI x (mem_of_at hj)⟩,fun i v hi=>by
  match i,hi with
  | 0,hi =>
   simp at hi;subst hi;rw [cell_of_row _ w.heap.size (0+j*rInt.size+0) (l.map (Value.int .i64)).toArray t (0,0) (heap_alloc_new w _)];have e:rInt.size=1:=rfl;simp [e,hj]⟩⟩⟩
theorem Cur.alloc {w:World}{g:Nat}(h:Cur w g) (o:Obj):Cur (w.alloc o) g:=h.below ((Below.refl _ _).alloc (Nat.le_refl _) o)
theorem Cur.ne {w:World}{g:Nat}(h:Cur w g):∀ k∈blk (some ⟨w.heap.size,0,none⟩),k≠g:=fun k hk=>by
 have:=h.lt;simp [blk]at hk;omega
theorem Drawn.mono {P Q:Int->Prop}{g:Nat}{w w':World}{e:Ending}(h:Drawn P g w e w') (hPQ:∀ x,P x->Q x):Drawn Q g w e w':=by
 obtain⟨x,h1,h2,h3⟩:=h;exact⟨x,h1,hPQ x h2,h3⟩
theorem mem4 {a b c d x:Int}(h:x∈[a,b,c,d]):x=a\/x=b\/x=c\/x=d:=by simpa using h
theorem Cur.low {w w':World}{g B:Nat}(h:Cur w g) (hg:g<B) (hb:Below B w w'):Cur w' g:=by
 obtain⟨A,n,c,l,i,h,h1,h2,h3,h4,h5⟩:=h;exact⟨A,n,c,l,i,h,(hb.block g hg).trans h1,h2.belowB hb (fun k hk hn=>Nat.lt_trans (h5 k hk hn) hg),h3,h4,h5⟩
theorem osI_ne {M:Nat}{eI t:TypeId}{w:World}{A:Option Addr}{n cap:Nat}{l:List Int}{g:Nat}{cs:List Value}{fp:List Nat}(o:OS M eI rInt w fp A n cap l) (hk:Bk w g t cs) (h2:t≠eI):g∉blk A:=by
 obtain⟨e1,_,hown,_⟩:=osInt.1 o;subst e1;intro hm;rcases hown.2 with ⟨e1,_⟩|⟨g',c,cur,e1,_,q,_⟩
 ·injection e1 with e1;subst e1;simp [blk]at hm
 ·injection e1 with e1;subst e1
  simp [blk]at hm;subst hm;unfold Bk at hk;rw [hk]at q;injection q with q;injection q with q1 q2;exact h2 q2
theorem MS.bI {B M:Nat}{e:TypeId}{w:World}{A:Option Addr}{n cap:Nat}{l:List Int}(h:MS B M e rInt w A n cap l):OS M e rInt w (blk A) A n cap l/\(∀ k∈blk A,B<=k/\k<w.heap.size):=by
 obtain⟨fp,o,f⟩:=h;have e:=(osInt.1 o).1;subst e;exact⟨o,fun k hk=>⟨f.ge k hk,o.lt rInt_ok k hk⟩⟩
theorem MS.keepI {B M:Nat}{e:TypeId}{w w':World}{A:Option Addr}{n cap:Nat}{l:List Int}(h:MS B M e rInt w A n cap l) (hk:∀ k∈blk A,w'.heap[k]?=w.heap[k]?):MS B M e rInt w' A n cap l:=by
 obtain⟨fp,o,f⟩:=h;have e:=(osInt.1 o).1;subst e;exact⟨_,o.okeep rInt_ok hk,f⟩
theorem trunc (w:World) (n:Nat) (h:n<=w.heap.size):∃ v:World,v.heap.size=n/\Below n v w/\∀ k,k<n->v.heap[k]?=w.heap[k]?:=by
 have e:∀ k,k<n->(w.heap.take n)[k]?=w.heap[k]?:=fun k hk=>by rw [Array.take_eq_extract,Array.getElem?_extract];simp;omega
 exact⟨{ w with heap:=w.heap.take n },by simp;omega,⟨rfl,rfl,rfl,by simp;omega,fun k hk=>(e k hk).symm⟩,e⟩
theorem MS.upto {α:Type}{r:Rp α}{B M:Nat}{e:TypeId}{w w':World}{A:Option Addr}{n cap:Nat}{l:List α}{g:Nat}(h:MS B M e r w A n cap l) (hr:r.Ok) (hc:Chg [g] w w') (hg:g<B):∃ v:World,v.heap.size=w.heap.size/\Below v.heap.size v w'/\MS B M e r v A n cap l:=by
 obtain⟨v,h1,h2,h3⟩:=trunc w' w.heap.size hc.size;obtain⟨fp,o,f⟩:=h;refine⟨v,h1,h1.symm▸h2,fp,o.okeep hr (fun k hk=>?_),f⟩;have q:=o.lt hr k hk;have:=f.ge k hk;exact(h3 k q).trans (hc.block k q (by simp;omega))
end Go.Proofs.YtnlcfkpcmfljeaaGreat
