/-
  Budg
-/
import Derived.Test.YtcfmidbioecdcaaGreatStore
namespace Go.Proofs.YtcfmidbioecdcaaGreat
open Go.RowKit

/-- b, b * r, .. to the first that reaches h -/
def growTo (r h:Int):Nat->Int->List Int
 | 0,b=>[b]
 | f+1,b=>if b<h then b::growTo r h f (b*r) else [b]
def validC (lo hi r:Int):Bool:=inR lo 1 1000000000000&&(inR hi lo 1000000000000&&inR r 2 8)
def contours (lo hi r:Int):List Int:=if validC lo hi r then growTo r hi 64 lo else []

theorem growTo_end {r h b:Int}(f:Nat) (hb:¬ b<h):growTo r h f b=[b]:=by
 cases f with
 | zero=>rfl
 | succ f=>simp [growTo,hb]
theorem growTo_step {r h b:Int}{f:Nat}(hb:b<h):growTo r h (f+1) b=b::growTo r h f (b*r):=by simp [growTo,hb]

/-- the loop's state: what has been made, the last number, the fuel that is left -/
structure Grown' (lo hi r:Int) (l:List Int) (b:Int) (f:Nat):Prop where
 pre:∃ p,l=p++[b]/\p++growTo r hi f b=growTo r hi 64 lo
 len:l.length+f=65
 lo1:1<=b
 hi1:b<=8000000000000
 fuel:hi<=b*2 ^ f
theorem Grown'.start {lo hi r:Int}(h1:1<=lo) (h2:lo<=1000000000000) (h3:hi<=1000000000000):Grown' lo hi r [lo] lo 64 :=
 ⟨⟨[],rfl,rfl⟩,rfl,h1,by omega,by rw [show(2:Int) ^ 64=18446744073709551616 from by decide];omega⟩
theorem Grown'.step {lo hi r b:Int}{l:List Int}{f:Nat}(h:Grown' lo hi r l b f) (hlt:b<hi) (hh:hi<=1000000000000) (h2:2<=r) (h8:r<=8) :
  ∃ f',f=f'+1/\Grown' lo hi r (l++[b*r]) (b*r) f'/\1<=b*r/\b*r<=8000000000000:=by
 cases f with
 | zero=>have:=h.fuel;simp at this;omega
 | succ f =>
  have a1:b*2<=b*r:=Int.mul_le_mul_of_nonneg_left h2 (by have:=h.lo1;omega)
  have a2:b*r<=b*8:=Int.mul_le_mul_of_nonneg_left h8 (by have:=h.lo1;omega)
  have hl:=h.lo1
  refine⟨f,rfl,⟨?_,?_,by omega,by omega,?_⟩,by omega,by omega⟩
  ·obtain⟨p,rfl,hp⟩:=h.pre
   refine⟨p++[b],rfl,?_⟩
   rw [growTo_step hlt]at hp
   rw [List.append_assoc];exact hp
  ·have:=h.len;simp;omega
  ·have hf:=h.fuel
   rw [Int.pow_succ]at hf
   have p0:(0:Int)<=2 ^ f:=Int.pow_nonneg (by omega)
   have:b*(2 ^ f*2)=b*2*2 ^ f:=by rw [Int.mul_comm (2 ^ f) 2,Int.mul_assoc]
   rw [this]at hf
   exact Int.le_trans hf (Int.mul_le_mul_of_nonneg_right a1 p0)
theorem Grown'.fin {lo hi r b:Int}{l:List Int}{f:Nat}(h:Grown' lo hi r l b f) (hlt:¬ b<hi):l=growTo r hi 64 lo:=by
 obtain⟨p,rfl,hp⟩:=h.pre
 rw [growTo_end f hlt]at hp
 exact hp

set_option maxRecDepth 100000 in
set_option maxHeartbeats 1600000 in
theorem sContourBudgets_c (lo hi r:Int) (w:World):Calls Tryz.prog 27 #[.int .i64 lo,.int .i64 hi,.int .i64 r] w (RetS 3 rInt (contours lo hi r) w):=by
 have hB:=(Below.refl w.heap.size w).alloc (Nat.le_refl _) (.cells #[] 3)
 have hM:=MS.empty (B:=w.heap.size) (M:=NB) (e:=3) (r:=rInt) w (Nat.le_refl _)
 generalize hmk:contours lo hi r=R
 have HM:=Lib.hid hmk;clear hmk
 cases h1:inR lo 1 1000000000000
 ·obtain rfl:R=[]:=by rw [<- HM.out];simp [contours,validC,h1]
  clear HM
  go_enter Tryz.func27,Tryz.ntmps27
  go_wp2_with (go_at_call 30;refine(l1In_c _ _ _ _).mono ?_;rintro e w' ⟨rfl,rfl⟩)
  go_ret
  exact⟨_,_,_,rfl,hM,hB⟩
 cases h2:inR hi lo 1000000000000
 ·obtain rfl:R=[]:=by rw [<- HM.out];simp [contours,validC,h2]
  clear HM
  go_enter Tryz.func27,Tryz.ntmps27
  go_wp2_with (go_at_call 30;refine(l1In_c _ _ _ _).mono ?_;rintro e w' ⟨rfl,rfl⟩)
  go_ret
  exact⟨_,_,_,rfl,hM,hB⟩
 cases h3:inR r 2 8
 ·obtain rfl:R=[]:=by rw [<- HM.out];simp [contours,validC,h3]
  clear HM
  go_enter Tryz.func27,Tryz.ntmps27
  go_wp2_with (go_at_call 30;refine(l1In_c _ _ _ _).mono ?_;rintro e w' ⟨rfl,rfl⟩)
  go_ret
  exact⟨_,_,_,rfl,hM,hB⟩
 have h1':=inR_t.1 h1
 have h2':=inR_t.1 h2
 have h3':=inR_t.1 h3
 have HR:Hid (R=growTo r hi 64 lo):=by show R=_;rw [<- HM.out];simp [contours,validC,h1,h2,h3]
 clear HM
 go_enter Tryz.func27,Tryz.ntmps27
 go_wp2_with (first|(go_at_call 30;refine(l1In_c _ _ _ _).mono ?_;rintro e w' ⟨rfl,rfl⟩)|(at_builtin;refine wpList_app (r:=rInt) rfl _ _ 30 rfl _ 8 eiInt rInt_ok rfl hM ((Below.refl _ _).alloc (Nat.le_refl _) _) hB.size ⟨w.heap.size+1,0,none⟩ rfl [] [.int .i64 lo] lo ⟨rfl,rfl,⟨by omega,by omega⟩⟩ (Fr.nil _) ?c1 (by unfold NB;omega) (Nat.le_refl _) (by omega) ?_))
 case c1=>have:=cell_one_new (w.alloc (.cells #[] 3)) (.int .i64 lo) 3;simpa using this
 intro A1 k1 w1 hM1 hb1 _
 have hB1:Below w.heap.size w w1:=(hB.alloc hB.size _).trans hb1
 clear hb1 hM
 go_wp2_with fail
 go_loopw [7,8] (fun v b wr=>∃ (l:List Int) (x:Int) (A:Option Addr) (n c f:Nat),v=.slice A n c/\b=.int .i64 x/\MS w.heap.size NB 3 rInt wr A n c l/\Grown' lo hi r l x f/\n+f=65/\Below w.heap.size w wr) (fun v _ _=>70 - (match v with|.slice _ n _=>n|_=>0))
 case atStart=>exact⟨[lo],lo,A1,1,k1,64,rfl,rfl,hM1,Grown'.start h1'.1 h1'.2 h2'.2,rfl,hB1⟩
 case round =>
  clear hM1 hB1
  obtain⟨l,x,A,n,c,f,rfl,rfl,hMr,hG,hnf,hBr⟩:=hrel
  have x1:=hG.lo1
  have x2:=hG.hi1
  by_cases hlt:x<hi
  ·obtain⟨f',rfl,hG',y1,y2⟩:=hG.step hlt h2'.2 h3'.1 h3'.2
   go_wp2_with (at_builtin;refine wpList_app (r:=rInt) rfl _ _ 30 rfl _ 8 eiInt rInt_ok rfl hMr ((Below.refl _ _).alloc (Nat.le_refl _) _) hBr.size ⟨wr.heap.size,0,none⟩ rfl [] [.int .i64 (x*r)] (x*r) ⟨rfl,rfl,⟨by omega,by omega⟩⟩ (Fr.nil _) (cell_one_new _ _ _) (by unfold NB;omega) (Nat.le_refl _) (by omega) ?_;intro A2 k2 w2 hM2 hb2 hg2)
   go_roundw
   case rel=>exact⟨_,_,A2,n+1,k2,f',rfl,rfl,hM2,hG',by omega,(hBr.alloc hBr.size _).trans hb2⟩
   case measure=>simp;omega
  ·go_wp2
   go_ret
   exact⟨_,_,_,rfl,by rw [HR.out,<- hG.fin (by omega)];exact hMr,hBr⟩
theorem Grown'.last {lo hi r b:Int}{l:List Int}{f n:Nat}(h:Grown' lo hi r l b f) (hn:n+1=l.length):l[n]?=some b:=by
 obtain⟨p,rfl,_⟩:=h.pre
 simp at hn;subst hn;simp
set_option maxRecDepth 100000 in
set_option maxHeartbeats 1600000 in
theorem iContourBudgets_c (lo hi r:Int) (w:World):Calls Tryz.prog 43 #[.int .i64 lo,.int .i64 hi,.int .i64 r] w (RetS 3 rInt (contours lo hi r) w):=by
 have hN:=MS.nil (B:=w.heap.size) (M:=NB) (e:=3) (r:=rInt) w (Nat.zero_le _)
 generalize hmk:contours lo hi r=R
 have HM:=Lib.hid hmk;clear hmk
 cases h1:inR lo 1 1000000000000
 ·obtain rfl:R=[]:=by rw [<- HM.out];simp [contours,validC,h1]
  clear HM
  go_enter Tryz.func43,Tryz.ntmps43
  go_wp2_with (go_at_call 46;refine(within_c _ _ _ _).mono ?_;rintro e w' ⟨rfl,rfl⟩)
  go_ret
  exact⟨_,_,_,rfl,hN,Below.refl _ _⟩
 cases h2:inR hi lo 1000000000000
 ·obtain rfl:R=[]:=by rw [<- HM.out];simp [contours,validC,h2]
  clear HM
  go_enter Tryz.func43,Tryz.ntmps43
  go_wp2_with (go_at_call 46;refine(within_c _ _ _ _).mono ?_;rintro e w' ⟨rfl,rfl⟩)
  go_ret
  exact⟨_,_,_,rfl,hN,Below.refl _ _⟩
 cases h3:inR r 2 8
 ·obtain rfl:R=[]:=by rw [<- HM.out];simp [contours,validC,h3]
  clear HM
  go_enter Tryz.func43,Tryz.ntmps43
  go_wp2_with (go_at_call 46;refine(within_c _ _ _ _).mono ?_;rintro e w' ⟨rfl,rfl⟩)
  go_ret
  exact⟨_,_,_,rfl,hN,Below.refl _ _⟩
 have h1':=inR_t.1 h1
 have h2':=inR_t.1 h2
 have h3':=inR_t.1 h3
 have HR:Hid (R=growTo r hi 64 lo):=by show R=_;rw [<- HM.out];simp [contours,validC,h1,h2,h3]
 clear HM hN
 have hM1:=MS.one (B:=w.heap.size) (M:=NB) (e:=3) (x:=lo) w (Nat.le_refl _) (by unfold NB;omega) ⟨by omega,by omega⟩
 go_enter Tryz.func43,Tryz.ntmps43
 go_wp2_with (go_at_call 46;refine(within_c _ _ _ _).mono ?_;rintro e w' ⟨rfl,rfl⟩)
 go_loopw [7] (fun v wr=>∃ (l:List Int) (x:Int) (A:Option Addr) (n c f:Nat),v=.slice A (n+1) c/\MS w.heap.size NB 3 rInt wr A (n+1) c l/\Grown' lo hi r l x f/\n+f=64/\Below w.heap.size w wr) (fun v _=>70 - (match v with|.slice _ n _=>n|_=>0))
 case atStart=>exact⟨[lo],lo,_,0,1,64,rfl,hM1,Grown'.start h1'.1 h1'.2 h2'.2,rfl,(Below.refl _ _).alloc (Nat.le_refl _) _⟩
 case round =>
  clear hM1
  obtain⟨l,x,A,n,c,f,rfl,hMr,hG,hnf,hBr⟩:=hrel
  have x1:=hG.lo1
  have x2:=hG.hi1
  obtain⟨g,rfl,hgl,hgB⟩:=hMr.form (by omega)
  obtain⟨x',hc,_,hx'⟩:=hMr.celli (k:=n) (by omega)
  obtain rfl:x'=x:=by have:=hx'.out;rw [hG.last (by rw [hMr.len])]at this;injection this with this;exact this.symm
  clear hx'
  by_cases hlt:x'<hi
  ·obtain⟨f',rfl,hG',y1,y2⟩:=hG.step hlt h2'.2 h3'.1 h3'.2
   go_wp2_with (at_builtin;refine wpList_app (r:=rInt) rfl _ _ 30 rfl _ 8 eiInt rInt_ok rfl hMr ((Below.refl _ _).alloc (Nat.le_refl _) _) hBr.size ⟨wr.heap.size,0,none⟩ rfl [] [.int .i64 (x'*r)] (x'*r) ⟨rfl,rfl,⟨by omega,by omega⟩⟩ (Fr.nil _) (cell_one_new _ _ _) (by unfold NB;omega) (Nat.le_refl _) (by omega) ?_;intro A2 k2 w2 hM2 hb2 hg2)
   go_roundw
   case rel=>exact⟨_,_,A2,n+1,k2,f',rfl,hM2,hG',by omega,(hBr.alloc hBr.size _).trans hb2⟩
   case measure=>simp;omega
  ·go_wp2
   go_ret
   exact⟨_,_,_,rfl,by rw [HR.out,<- hG.fin (by omega)];exact hMr,hBr⟩
end Go.Proofs.YtcfmidbioecdcaaGreat
