/-
  Trip
-/
import Derived.Test.YtnlcfkpcmfljeaaGreatCopy
import Derived.Test.YtnlcfkpcmfljeaaGreatTo
import Derived.Test.YtnlcfkpcmfljeaaGreatMop
import Derived.Deep.MidRow
set_option linter.unusedSimpArgs false
set_option linter.unusedVariables false
set_option maxHeartbeats 12800000
set_option maxRecDepth 100000
namespace Go.Proofs.YtnlcfkpcmfljeaaGreat
open Go.RowKit
attribute [local go_sem ↓] Go.wp_at_zero Go.wp_at_succ
def costL (o:OperatorD):List Int->Int
 | [a,b,c]=>opCost o (clsSize a) (clsSize b) (clsSize c)
 | _=>0
def Trip (l:List Int):Prop:=∃ a b c,l=[a,b,c]/\(0<=a/\a<=7)/\(0<=b/\b<=7)/\0<=c/\c<=7
theorem Trip.bd {o:OperatorD}{l:List Int}(h:Trip l) (hv:validOp o=true):-2000000000<=costL o l/\costL o l<=2000000000:=by
 obtain⟨a,b,c,rfl,ha,hb,hc⟩:=h;exact opCost_bd hv (clsSize_bd ha.1 ha.2) (clsSize_bd hb.1 hb.2) (clsSize_bd hc.1 hc.2)
theorem Trip.len {l:List Int}(h:Trip l):l.length=3:=by obtain⟨a,b,c,rfl,_⟩:=h;rfl
theorem Trip.at_ {l:List Int}(h:Trip l) {k:Nat}{x:Int}(hk:l[k]?=some x):0<=x/\x<=7:=by
 obtain⟨a,b,c,rfl,ha,hb,hc⟩:=h;have:=lt_of_at hk;simp at this;have:k=0\/k=1\/k=2:=by omega
 rcases this with rfl|rfl|rfl<;>(simp at hk;subst hk;omega)
theorem Trip.set {l:List Int}(h:Trip l) {k:Nat}{x:Int}(hx:0<=x/\x<=7):Trip (l.set k x):=by
 obtain⟨a,b,c,rfl,ha,hb,hc⟩:=h
 match k with
 | 0=>exact⟨x,b,c,rfl,hx,hb,hc⟩
 | 1=>exact⟨a,x,c,rfl,ha,hx,hc⟩
 | 2=>exact⟨a,b,x,rfl,ha,hb,hx⟩
 | k+3=>exact⟨a,b,c,rfl,ha,hb,hc⟩
theorem iTripleCost_c (csx:List Value) (x:OperatorD) (At:Option Addr) (nt ct:Nat) (t:List Int) (w:World) (hx:(rOperator NB).rep w csx x) (ht:RS NB rInt w At nt ct t) (hv:validOp x=true) (hT:Trip t) :
  Calls Tryz.prog 192 #[.agg csx.toArray,.slice At nt ct] w fun e w'=>e=.returned (.int .i64 (costL x t))/\Below w.heap.size w w':=by
 obtain⟨a,b,c,rfl,ha,hb,hc⟩:=hT;have rx:=hx;obtain⟨Ax_d5,nx_d5,cx_d5,rfl,hx_g1,hx_t3,hx_w3,hx_u3,hx_v3,hx_d5⟩:=rOperator_rep.1 hx;clear hx;obtain⟨hB,bxx⟩:=op1 w [.int .i64 x.fFixed,.int .i64 x.fPerLeft,.int .i64 x.fPerRight,.int .i64 x.fPerOutput,.int .i64 x.fPerPair,.slice Ax_d5 nx_d5 cx_d5] 44;obtain rfl:nt=3:=by have:=ht.len;simpa using this.symm
 have sa:=clsSize_bd ha.1 ha.2;have sb:=clsSize_bd hb.1 hb.2;have sc:=clsSize_bd hc.1 hc.2;obtain⟨bt,ot,a',rfl,ka,_,ea⟩:=(ht.below rInt_ok hB).ati (k:=0) (by omega);obtain⟨bt2,ot2,b',e2,kb,_,eb⟩:=(ht.below rInt_ok hB).ati (k:=1) (by omega);injection e2 with e2;injection e2 with e2 e3;subst e2;subst e3;obtain⟨bt2,ot2,c',e2,kc,_,ec⟩:=(ht.below rInt_ok hB).ati (k:=2) (by omega);injection e2 with e2;injection e2 with e2 e3;subst e2;subst e3;obtain rfl:a'=a:=by have:=ea.out;simpa using this.symm
 obtain rfl:b'=b:=by have:=eb.out;simpa using this.symm
 obtain rfl:c'=c:=by have:=ec.out;simpa using this.symm
 clear ea eb ec ha hb hc;simp only [Nat.add_zero]at ka;have HV:=Lib.hid hv;clear hv;obtain⟨wa,hwa⟩:∃ wa,wa=w.alloc (.cells #[.int .i64 x.fFixed,.int .i64 x.fPerLeft,.int .i64 x.fPerRight,.int .i64 x.fPerOutput,.int .i64 x.fPerPair,.slice Ax_d5 nx_d5 cx_d5] 44):=⟨_,rfl⟩
 go_enter Tryz.func192,Tryz.ntmps192
 go_wp2;rw [<- hwa]at hB bxx ka kb kc ⊢;clear hwa;have kx_0:=bxx 0 _ rfl;have kx_1:=bxx 1 _ rfl;have kx_2:=bxx 2 _ rfl;have kx_3:=bxx 3 _ rfl;have kx_4:=bxx 4 _ rfl;have kx_5:=bxx 5 _ rfl;have SS:∀ w',Below wa.heap.size wa w'->(w'.cell? ⟨bt,ot,none⟩=some (.int .i64 a')/\w'.cell? ⟨bt,ot+1,none⟩=some (.int .i64 b')/\w'.cell? ⟨bt,ot+2,none⟩=some (.int .i64 c')/\w'.cell? ⟨w.heap.size,0,none⟩=some (.int .i64 x.fFixed)/\w'.cell? ⟨w.heap.size,1,none⟩=some (.int .i64 x.fPerLeft)/\w'.cell? ⟨w.heap.size,2,none⟩=some (.int .i64 x.fPerRight)/\w'.cell? ⟨w.heap.size,3,none⟩=some (.int .i64 x.fPerOutput)/\w'.cell? ⟨w.heap.size,4,none⟩=some (.int .i64 x.fPerPair)/\w'.cell? ⟨w.heap.size,5,none⟩=some (.slice Ax_d5 nx_d5 cx_d5)):=fun w' hb=>⟨cells_below hb _ _ ka,cells_below hb _ _ kb,cells_below hb _ _ kc,cells_below hb _ _ kx_0,cells_below hb _ _ kx_1,cells_below hb _ _ kx_2,cells_below hb _ _ kx_3,cells_below hb _ _ kx_4,cells_below hb _ _ kx_5⟩
 have HSS:=Lib.hid SS;clear SS ka kb kc kx_0 kx_1 kx_2 kx_3 kx_4 kx_5;have HB:=Lib.hid hB.drew
 go_region_held3 (fun w'=>w'.cell? ⟨bt,ot,none⟩=some (.int .i64 a')/\w'.cell? ⟨bt,ot+1,none⟩=some (.int .i64 b')/\w'.cell? ⟨bt,ot+2,none⟩=some (.int .i64 c')/\w'.cell? ⟨w.heap.size,0,none⟩=some (.int .i64 x.fFixed)/\w'.cell? ⟨w.heap.size,1,none⟩=some (.int .i64 x.fPerLeft)/\w'.cell? ⟨w.heap.size,2,none⟩=some (.int .i64 x.fPerRight)/\w'.cell? ⟨w.heap.size,3,none⟩=some (.int .i64 x.fPerOutput)/\w'.cell? ⟨w.heap.size,4,none⟩=some (.int .i64 x.fPerPair)/\w'.cell? ⟨w.heap.size,5,none⟩=some (.slice Ax_d5 nx_d5 cx_d5)) (first|exact HSS.out _ (Below.refl _ _).drew|exact HSS.out _ hC5) ((first|(go_at_call 143;refine(iClassSize_q _ _).mono ?_;rintro e w' ⟨rfl,rfl⟩)|(go_at_call 235;refine(iOpCost_c _ x _ _ _ _ ?_ HV.out sa sb sc).mono ?_;exact((rOperator_ok NB).keep rx (cells_below HB.out));rintro e w5 ⟨rfl,hb5⟩;have hC5:Below wa.heap.size wa w5:=Below.trans (Below.refl wa.heap.size wa).drew hb5)))
 all_goals
  go_wp2;go_ret;exact⟨rfl,hB.trans (hC5.mono hB.size)⟩
theorem sTripleCost_c (csx:List Value) (x:OperatorD) (At:Option Addr) (nt ct:Nat) (t:List Int) (w:World) (hx:(rOperator NB).rep w csx x) (ht:RS NB rInt w At nt ct t) (hv:validOp x=true) (hT:Trip t) :
  Calls Tryz.prog 229 #[.agg csx.toArray,.slice At nt ct] w fun e w'=>e=.returned (.int .i64 (costL x t))/\Below w.heap.size w w':=by
 obtain⟨a,b,c,rfl,ha,hb,hc⟩:=hT;have rx:=hx;obtain⟨Ax_d5,nx_d5,cx_d5,rfl,hx_g1,hx_t3,hx_w3,hx_u3,hx_v3,hx_d5⟩:=rOperator_rep.1 hx;clear hx;obtain⟨hB,bxx⟩:=op1 w [.int .i64 x.fFixed,.int .i64 x.fPerLeft,.int .i64 x.fPerRight,.int .i64 x.fPerOutput,.int .i64 x.fPerPair,.slice Ax_d5 nx_d5 cx_d5] 44;obtain rfl:nt=3:=by have:=ht.len;simpa using this.symm
 have sa:=clsSize_bd ha.1 ha.2;have sb:=clsSize_bd hb.1 hb.2;have sc:=clsSize_bd hc.1 hc.2;have HF:Hid (opCostV x (clsSize a) (clsSize b) (clsSize c)=opCost x (clsSize a) (clsSize b) (clsSize c)):=by show opCostV _ _ _ _=_;rw [opCostV,hv,inR_t.2 sa,inR_t.2 sb,inR_t.2 sc];rfl
 obtain⟨bt,ot,a',rfl,ka,_,ea⟩:=(ht.below rInt_ok hB).ati (k:=0) (by omega);obtain⟨bt2,ot2,b',e2,kb,_,eb⟩:=(ht.below rInt_ok hB).ati (k:=1) (by omega);injection e2 with e2;injection e2 with e2 e3;subst e2;subst e3;obtain⟨bt2,ot2,c',e2,kc,_,ec⟩:=(ht.below rInt_ok hB).ati (k:=2) (by omega);injection e2 with e2;injection e2 with e2 e3;subst e2;subst e3;obtain rfl:a'=a:=by have:=ea.out;simpa using this.symm
 obtain rfl:b'=b:=by have:=eb.out;simpa using this.symm
 obtain rfl:c'=c:=by have:=ec.out;simpa using this.symm
 clear ea eb ec ha hb hc;simp only [Nat.add_zero]at ka;clear hv;obtain⟨wa,hwa⟩:∃ wa,wa=w.alloc (.cells #[.int .i64 x.fFixed,.int .i64 x.fPerLeft,.int .i64 x.fPerRight,.int .i64 x.fPerOutput,.int .i64 x.fPerPair,.slice Ax_d5 nx_d5 cx_d5] 44):=⟨_,rfl⟩
 go_enter Tryz.func229,Tryz.ntmps229
 go_wp2;rw [<- hwa]at hB bxx ka kb kc ⊢;clear hwa;have kx_0:=bxx 0 _ rfl;have kx_1:=bxx 1 _ rfl;have kx_2:=bxx 2 _ rfl;have kx_3:=bxx 3 _ rfl;have kx_4:=bxx 4 _ rfl;have kx_5:=bxx 5 _ rfl;have SS:∀ w',Below wa.heap.size wa w'->(w'.cell? ⟨bt,ot,none⟩=some (.int .i64 a')/\w'.cell? ⟨bt,ot+1,none⟩=some (.int .i64 b')/\w'.cell? ⟨bt,ot+2,none⟩=some (.int .i64 c')/\w'.cell? ⟨w.heap.size,0,none⟩=some (.int .i64 x.fFixed)/\w'.cell? ⟨w.heap.size,1,none⟩=some (.int .i64 x.fPerLeft)/\w'.cell? ⟨w.heap.size,2,none⟩=some (.int .i64 x.fPerRight)/\w'.cell? ⟨w.heap.size,3,none⟩=some (.int .i64 x.fPerOutput)/\w'.cell? ⟨w.heap.size,4,none⟩=some (.int .i64 x.fPerPair)/\w'.cell? ⟨w.heap.size,5,none⟩=some (.slice Ax_d5 nx_d5 cx_d5)):=fun w' hb=>⟨cells_below hb _ _ ka,cells_below hb _ _ kb,cells_below hb _ _ kc,cells_below hb _ _ kx_0,cells_below hb _ _ kx_1,cells_below hb _ _ kx_2,cells_below hb _ _ kx_3,cells_below hb _ _ kx_4,cells_below hb _ _ kx_5⟩
 have HSS:=Lib.hid SS;clear SS ka kb kc kx_0 kx_1 kx_2 kx_3 kx_4 kx_5;have HB:=Lib.hid hB.drew
 go_region_held3 (fun w'=>w'.cell? ⟨bt,ot,none⟩=some (.int .i64 a')/\w'.cell? ⟨bt,ot+1,none⟩=some (.int .i64 b')/\w'.cell? ⟨bt,ot+2,none⟩=some (.int .i64 c')/\w'.cell? ⟨w.heap.size,0,none⟩=some (.int .i64 x.fFixed)/\w'.cell? ⟨w.heap.size,1,none⟩=some (.int .i64 x.fPerLeft)/\w'.cell? ⟨w.heap.size,2,none⟩=some (.int .i64 x.fPerRight)/\w'.cell? ⟨w.heap.size,3,none⟩=some (.int .i64 x.fPerOutput)/\w'.cell? ⟨w.heap.size,4,none⟩=some (.int .i64 x.fPerPair)/\w'.cell? ⟨w.heap.size,5,none⟩=some (.slice Ax_d5 nx_d5 cx_d5)) (first|exact HSS.out _ (Below.refl _ _).drew|exact HSS.out _ hC5) ((first|(go_at_call 131;refine(sClassSize_q _ _).mono ?_;rintro e w' ⟨rfl,rfl⟩)|(go_at_call 127;refine(sOpCost_c _ x _ _ _ _ ?_).mono ?_;exact((rOperator_ok NB).keep rx (cells_below HB.out));rintro e w5 ⟨rfl,hb5⟩;have hC5:Below wa.heap.size wa w5:=Below.trans (Below.refl wa.heap.size wa).drew hb5)))
 all_goals
  go_wp2;go_ret;exact⟨ret_int HF.out,hB.trans (hC5.mono hB.size)⟩
end Go.Proofs.YtnlcfkpcmfljeaaGreat
namespace Go.Proofs.YtnlcfkpcmfljeaaGreat
open Go.RowKit
attribute [local go_sem ↓] Go.wp_at_zero Go.wp_at_succ
def trip (i:Nat):List Int:=[((i / 64:Nat):Int),((i / 8 % 8:Nat):Int),((i % 8:Nat):Int)]
theorem trip_eq {a b c:Nat}(hb:b<8) (hc:c<8):trip (64*a+8*b+c)=[(a:Int),(b:Int),(c:Int)]:=by
 have h1:(64*a+8*b+c) / 64=a:=by omega
 have h2:(64*a+8*b+c) / 8 % 8=b:=by omega
 have h3:(64*a+8*b+c) % 8=c:=by omega
 simp only [trip,h1,h2,h3]
theorem trip_trip {i:Nat}(h:i<512):Trip (trip i):=⟨_,_,_,rfl,⟨by omega,by omega⟩,⟨by omega,by omega⟩,by omega,by omega⟩
def tripsTo (n:Nat):List (List Int):=(List.range n).map trip
theorem tripsTo_succ (n:Nat):tripsTo (n+1)=tripsTo n++[trip n]:=by simp [tripsTo,List.range_succ]
theorem tripsTo_len (n:Nat):(tripsTo n).length=n:=by simp [tripsTo]
theorem tripsTo_at {n i:Nat}{t:List Int}(h:(tripsTo n)[i]?=some t):t=trip i/\i<n:=by
 have hl:=lt_of_at h;rw [tripsTo_len]at hl;simp [tripsTo,hl]at h;exact⟨h.symm,hl⟩
def decAt (o:OperatorD) (t:List Int) (k:Nat):Bool:=match t[k]? with
 | some x=>decide (x<7)&&decide (costL o (t.set k (x+1))<costL o t)
 | none=>false
def decT (o:OperatorD) (t:List Int):Bool:=!(List.range 3).all (fun k=>!decAt o t k)
def hasDec (o:OperatorD):Bool:=!(List.range 512).all (fun i=>!decT o (trip i))
def cheapT (o:OperatorD) (t:List Int):Bool:=decide (costL o t<1)
def hasCheap (o:OperatorD):Bool:=!(List.range 512).all (fun i=>!cheapT o (trip i))
theorem decT_yes {o:OperatorD}{t:List Int}{k:Nat}(hk:k<3) (h:decAt o t k=true):decT o t=true:=by
 unfold decT;rw [rangeAll_no (p:=fun k=>!decAt o t k) (by simp [h]) hk];rfl
theorem decT_no {o:OperatorD}{t:List Int}(h:(List.range 3).all (fun k=>!decAt o t k)=true):decT o t=false:=by unfold decT;rw [h];rfl
theorem hasDec_yes {o:OperatorD}{i:Nat}(hi:i<512) (h:decT o (trip i)=true):hasDec o=true:=by
 unfold hasDec;rw [rangeAll_no (p:=fun i=>!decT o (trip i)) (by simp [h]) hi];rfl
theorem hasDec_no {o:OperatorD}(h:(List.range 512).all (fun i=>!decT o (trip i))=true):hasDec o=false:=by unfold hasDec;rw [h];rfl
theorem hasCheap_yes {o:OperatorD}{i:Nat}(hi:i<512) (h:cheapT o (trip i)=true):hasCheap o=true:=by
 unfold hasCheap;rw [rangeAll_no (p:=fun i=>!cheapT o (trip i)) (by simp [h]) hi];rfl
theorem hasCheap_no {o:OperatorD}(h:(List.range 512).all (fun i=>!cheapT o (trip i))=true):hasCheap o=false:=by unfold hasCheap;rw [h];rfl
theorem decAt_top {o:OperatorD}{t:List Int}{k:Nat}{x:Int}(h:t[k]?=some x) (hx:¬ x<7):decAt o t k=false:=by simp [decAt,h,hx]
theorem decAt_at {o:OperatorD}{t:List Int}{k:Nat}{x:Int}(h:t[k]?=some x) (hx:x<7):decAt o t k=decide (costL o (t.set k (x+1))<costL o t):=by simp [decAt,h,hx]
def Ret3 (b:Bool) (w:World) (e:Ending) (w':World):Prop:=∃ v1 v2,e=.returned (.tuple #[v1,v2,.bool b])/\Below w.heap.size w w'
theorem OS.three (w:World) {a b c:Int}(ha:I64 a) (hb:I64 b) (hc:I64 c):OS NB 3 rInt (w.alloc (.cells #[.int .i64 a,.int .i64 b,.int .i64 c] 3)) [w.heap.size] (some ⟨w.heap.size,0,none⟩) 3 3 [a,b,c] :=
 osInt.2 ⟨rfl,by unfold NB;omega,⟨by simp,.inr ⟨w.heap.size,3,#[.int .i64 a,.int .i64 b,.int .i64 c],rfl,Nat.zero_le _,heap_alloc_new w _,Nat.le_refl _,by unfold maxLen;omega,by simp,by simp⟩⟩,by simp [ha,hb,hc]⟩
theorem RS.rowT {M M':Nat}{e:TypeId}{w:World}{A:Option Addr}{n cap:Nat}{l:List (List Int)}(h:RS M (rSlice M' e rInt) w A n cap l) {k:Nat}(hk:k<n) :
  ∃ b off x A1 n1 c1,A=some ⟨b,off,none⟩/\w.cell? ⟨b,off+k,none⟩=some (.slice A1 n1 c1)/\RS M' rInt w A1 n1 c1 x/\Hid (l[k]?=some x):=by
 obtain⟨b,off,x,cs,e,⟨A1,n1,c1,rfl,h1⟩,hc,hx⟩:=h.at_ hk;exact⟨b,off,x,A1,n1,c1,e,by simpa [rSlice]using hc 0 _ rfl,h1,hx⟩
theorem I64_small {n:Nat}(h:n<=1000):I64 (n:Int):=⟨by omega,by omega⟩
theorem iTriples_c (w:World):Calls Tryz.prog 191 #[] w (RetS 30 (rSlice NB 3 rInt) (tripsTo 512) w):=by
 go_enter Tryz.func191,Tryz.ntmps191
 go_wp2
 go_loopw [1,2] (fun v i wr=>∃ (a c:Nat) (A:Option Addr),a<=8/\i=.int .i64 a/\v=.slice A (64*a) c/\MS w.heap.size NB 30 (rSlice NB 3 rInt) wr A (64*a) c (tripsTo (64*a))/\Below w.heap.size w wr) (fun _ i _=>8 - (intOf i).toNat)
 case atStart=>exact⟨0,0,_,Nat.zero_le _,rfl,rfl,MS.empty _ (Nat.le_refl _),bal⟩
 case round =>
  obtain⟨a,c,A,ha,rfl,rfl,hM,hB⟩:=hrel;by_cases hlt:a<8
  ·have hle:(a:Int)<=7:=by omega
   generalize hn:64*a=n at hM;have HN:=Lib.hid hn;clear hn;go_wp2
   go_loopw [1,3] (fun v i wr=>∃ (b n c:Nat) (A:Option Addr),b<=8/\n=64*a+8*b/\i=.int .i64 b/\v=.slice A n c/\MS w.heap.size NB 30 (rSlice NB 3 rInt) wr A n c (tripsTo n)/\Below w.heap.size w wr) (fun _ i _=>8 - (intOf i).toNat)
   case atStart=>exact⟨0,n,c,_,Nat.zero_le _,by rw [<- HN.out];omega,rfl,rfl,hM,hB⟩
   case round =>
    clear hM hB HN;obtain⟨b,n2,c2,A2,hb,hn2,rfl,rfl,hM,hB⟩:=hrel;have HN2:=Lib.hid hn2;clear hn2;by_cases hlb:b<8
    ·have hlbI:(b:Int)<=7:=by omega
     go_wp2
     go_loopw [1,4] (fun v i wr=>∃ (e n c:Nat) (A:Option Addr),e<=8/\n=64*a+8*b+e/\i=.int .i64 e/\v=.slice A n c/\MS w.heap.size NB 30 (rSlice NB 3 rInt) wr A n c (tripsTo n)/\Below w.heap.size w wr) (fun _ i _=>8 - (intOf i).toNat)
     case atStart=>exact⟨0,n2,c2,_,Nat.zero_le _,by rw [HN2.out];omega,rfl,rfl,hM,hB⟩
     case round =>
      clear hM hB HN2;obtain⟨e,n3,c3,A3,he,hn3,rfl,rfl,hM,hB⟩:=hrel;have hn3b:n3<=600:=by omega
      by_cases hle3:e<8
      ·have HT:Hid (tripsTo (n3+1)=tripsTo n3++[[(a:Int),(b:Int),(e:Int)]]):=by show tripsTo (n3+1)=_;rw [tripsTo_succ,hn3,trip_eq hlb hle3]
       have HN3:=Lib.hid hn3;clear hn3;have hleI:(e:Int)<=7:=by omega
       have o1:=OS.three wr (I64_small (n:=a) (by omega)) (I64_small (n:=b) (by omega)) (I64_small (n:=e) (by omega));have hB1:=(Below.refl wr.heap.size wr).alloc (Nat.le_refl _) (.cells #[.int .i64 a,.int .i64 b,.int .i64 e] 3);have o2:=o1.belowS rInt_ok ((Below.refl _ _).alloc (Nat.le_refl _) (.cells #[.slice (some ⟨wr.heap.size,0,none⟩) 3 3] 30));have hB2:=hB1.alloc hB1.size (.cells #[.slice (some ⟨wr.heap.size,0,none⟩) 3 3] 30);clear o1
       go_upto_region 11 with fail
       go_wp2_with (at_builtin;refine wpList_app (r:=rSlice NB 3 rInt) rfl _ _ 83 rfl _ 24 eiIntS (rSlice_ok _ _ rInt_ok) rfl hM hB2 hB.size ⟨wr.heap.size+1,0,none⟩ rfl [wr.heap.size] [.slice (some ⟨wr.heap.size,0,none⟩) 3 3] [(a:Int),(b:Int),(e:Int)] ⟨_,_,_,rfl,o2⟩ ⟨by simp,by simp⟩ (by have:=cell_one_new (wr.alloc (.cells #[.int .i64 a,.int .i64 b,.int .i64 e] 3)) (.slice (some ⟨wr.heap.size,0,none⟩) 3 3) 30;simpa using this) (by unfold NB;omega) (Nat.le_refl _) (by omega) ?_;intro A4 c4 w4 hM4 hb4 hg4)
       go_roundw
       case rel=>exact⟨e+1,n3+1,c4,_,by omega,by rw [HN3.out];omega,by go_num,rfl,HT.out▸hM4,(hB.trans (hB2.mono hB.size)).trans hb4⟩
       case measure=>simp [intOf];omega
      ·have HN3:=Lib.hid hn3;clear hn3
       have hleI:¬ (e:Int)<=7:=by omega
       go_wp2;go_roundw
       case rel=>exact⟨b+1,n3,c3,_,by omega,by have:=HN3.out;omega,by go_num,rfl,hM,hB⟩
       case measure=>simp [intOf];omega
    ·have hlbI:¬ (b:Int)<=7:=by omega
     have HE:Hid (n2=64*(a+1)):=Lib.hid (by have:=HN2.out;omega);go_wp2;go_roundw
     case rel=>exact⟨a+1,c2,_,by omega,by go_num,by rw [HE.out],HE.out▸hM,hB⟩
     case measure=>simp [intOf];omega
  ·have hle:¬ (a:Int)<=7:=by omega
   have HE:Hid (64*a=512):=Lib.hid (by omega);go_wp2;go_ret;exact⟨_,_,_,rfl,HE.out▸hM,hB⟩
theorem iFindDecrease_c (csx:List Value) (x:OperatorD) (w:World) (hx:(rOperator NB).rep w csx x) :
  Calls Tryz.prog 190 #[.agg csx.toArray] w (Ret3 (validOp x&&hasDec x) w):=by
 have rx:=hx;obtain⟨Ax_d5,nx_d5,cx_d5,rfl,hx_g1,hx_t3,hx_w3,hx_u3,hx_v3,hx_d5⟩:=rOperator_rep.1 hx;clear hx;obtain⟨hB,bxx⟩:=op1 w [.int .i64 x.fFixed,.int .i64 x.fPerLeft,.int .i64 x.fPerRight,.int .i64 x.fPerOutput,.int .i64 x.fPerPair,.slice Ax_d5 nx_d5 cx_d5] 44;have kx_0:=bxx 0 _ rfl;have kx_1:=bxx 1 _ rfl;have kx_2:=bxx 2 _ rfl;have kx_3:=bxx 3 _ rfl;have kx_4:=bxx 4 _ rfl;have kx_5:=bxx 5 _ rfl
 go_enter Tryz.func190,Tryz.ntmps190
 go_wp2_with fail
 refine(iIsValidOperator_c _ x _ ((rOperator_ok NB).keep rx (cells_below hB))).mono ?_;rintro e w1 ⟨rfl,hb1⟩;replace hB:=hB.trans (hb1.mono hB.size);replace bxx:=bxx.below hb1;clear hb1 kx_0 kx_1 kx_2 kx_3 kx_4 kx_5;cases hv:validOp x
 ·go_wp2
  go_ret3;exact⟨_,_,by rw [hv];rfl,hB⟩
 have HV:=Lib.hid hv;clear hv
 go_wp2_with fail
 refine(iTriples_c _).mono ?_;rintro e w2 ⟨A2,n2,c2,rfl,M2,hb2⟩;have hn2:=M2.len;rw [tripsTo_len]at hn2;subst hn2;replace hB:=hB.trans (hb2.mono hB.size);replace bxx:=bxx.below hb2;clear hb2;have hR:=M2.rs (rSlice_ok _ _ rInt_ok);clear M2;go_wp2
 go_loopw [14] (fun i wr=>∃ k:Nat,k<=512/\i=.int .i64 k/\(List.range k).all (fun i=>!decT x (trip i))=true/\RS NB (rSlice NB 3 rInt) wr A2 512 c2 (tripsTo 512)/\Below w.heap.size w wr/\Bx wr w.heap.size [.int .i64 x.fFixed,.int .i64 x.fPerLeft,.int .i64 x.fPerRight,.int .i64 x.fPerOutput,.int .i64 x.fPerPair,.slice Ax_d5 nx_d5 cx_d5]) (fun i _=>512 - (intOf i).toNat)
 case atStart=>exact⟨0,Nat.zero_le _,rfl,rfl,hR,hB,bxx⟩
 case round =>
  clear hR hB bxx;obtain⟨k,hk,rfl,hall,hR,hB,bxx⟩:=hrel;have HA:=Lib.hid hall;clear hall;by_cases hlt:k<512
  ·obtain⟨b,off,t,A3,n3,c3,rfl,hc,hRt,ht⟩:=hR.rowT hlt
   have htt:=(tripsTo_at ht.out).1;have hT:Trip t:=by rw [htt];exact trip_trip hlt
   have HTT:=Lib.hid htt;clear htt ht;have hn3:n3=3:=by rw [<- hRt.len];exact hT.len
   subst hn3;have HT:=Lib.hid hT;clear hT;go_wp2
   go_loopw [20] (fun i wr=>∃ q:Nat,q<=3/\i=.int .i64 q/\(List.range q).all (fun k=>!decAt x t k)=true/\RS NB rInt wr A3 3 c3 t/\RS NB (rSlice NB 3 rInt) wr (some ⟨b,off,none⟩) 512 c2 (tripsTo 512)/\Below w.heap.size w wr/\Bx wr w.heap.size [.int .i64 x.fFixed,.int .i64 x.fPerLeft,.int .i64 x.fPerRight,.int .i64 x.fPerOutput,.int .i64 x.fPerPair,.slice Ax_d5 nx_d5 cx_d5]) (fun i _=>3 - (intOf i).toNat)
   case atStart=>exact⟨0,Nat.zero_le _,rfl,rfl,hRt,hR,hB,bxx⟩
   case round =>
    clear hRt hR hB bxx hc;obtain⟨q,hq,rfl,hall,hRt,hR,hB,bxx⟩:=hrel;have HA2:=Lib.hid hall;clear hall;by_cases hlt2:q<3
    ·obtain⟨b3,off3,z,rfl,hz,hIz,hzq⟩:=hRt.ati hlt2
     have hz7:=HT.out.at_ hzq.out;by_cases h7:z<7
     ·have d7:(z==7)=false:=by simp;omega
      go_wp2_with fail
      refine(iCopyInts_c _ _ _ _ _ hRt).mono ?_;rintro e w5 ⟨A5,n5,c5,rfl,M5,hb5⟩;have hn5:n5=3:=by rw [<- M5.len];exact HT.out.len
      subst hn5;obtain⟨g,rfl,hgl,hgB⟩:=M5.form (by omega);obtain⟨u,hu,hIu,huk⟩:=M5.celli hlt2;obtain rfl:u=z:=by have:=huk.out;rw [hzq.out]at this;injection this with this;exact this.symm
      have hfz:=M5.frozen q;clear hz
      go_upto_region 12 with fail
      have hS:=M5.set q (x:=u+1) ⟨by omega,by omega⟩;have hE:Below wr.heap.size wr (w5.setCell ⟨g,q,none⟩ (.int .i64 (u+1))):=hb5.trans ((Below.refl _ _).setCell hgB _);obtain⟨ws,hws⟩:∃ ws,ws=w5.setCell ⟨g,q,none⟩ (.int .i64 (u+1)):=⟨_,rfl⟩;rw [<- hws]at hS hE ⊢;clear hws hu hfz M5 hb5;replace hRt:=hRt.below rInt_ok hE;replace hR:=hR.below (rSlice_ok _ _ rInt_ok) hE;replace hB:=hB.trans (hE.mono hB.size);replace bxx:=bxx.below hE;clear hE;have HD:=Lib.hid (decAt_at (o:=x) hzq.out h7);have HT2:=Lib.hid (HT.out.set (k:=q) (x:=u+1) ⟨by omega,by omega⟩);have hcb1:=HT2.out.bd HV.out;have hcb2:=HT.out.bd HV.out
      have SS:∀ w',Below ws.heap.size ws w'->(w'.cell? ⟨w.heap.size,0,none⟩=some (.int .i64 x.fFixed)/\w'.cell? ⟨w.heap.size,1,none⟩=some (.int .i64 x.fPerLeft)/\w'.cell? ⟨w.heap.size,2,none⟩=some (.int .i64 x.fPerRight)/\w'.cell? ⟨w.heap.size,3,none⟩=some (.int .i64 x.fPerOutput)/\w'.cell? ⟨w.heap.size,4,none⟩=some (.int .i64 x.fPerPair)/\w'.cell? ⟨w.heap.size,5,none⟩=some (.slice Ax_d5 nx_d5 cx_d5)):=fun w' hb=>⟨cells_below hb _ _ (bxx 0 _ rfl),cells_below hb _ _ (bxx 1 _ rfl),cells_below hb _ _ (bxx 2 _ rfl),cells_below hb _ _ (bxx 3 _ rfl),cells_below hb _ _ (bxx 4 _ rfl),cells_below hb _ _ (bxx 5 _ rfl)⟩
      have HSS:=Lib.hid SS;clear SS;have tok1:True:=trivial;have tok2:True:=trivial
      go_region_held3 (fun w'=>w'.cell? ⟨w.heap.size,0,none⟩=some (.int .i64 x.fFixed)/\w'.cell? ⟨w.heap.size,1,none⟩=some (.int .i64 x.fPerLeft)/\w'.cell? ⟨w.heap.size,2,none⟩=some (.int .i64 x.fPerRight)/\w'.cell? ⟨w.heap.size,3,none⟩=some (.int .i64 x.fPerOutput)/\w'.cell? ⟨w.heap.size,4,none⟩=some (.int .i64 x.fPerPair)/\w'.cell? ⟨w.heap.size,5,none⟩=some (.slice Ax_d5 nx_d5 cx_d5)) (first|exact HSS.out _ (Below.refl _ _).drew|exact HSS.out _ hC6|exact HSS.out _ hC7) ((first|(go_at_call 192;have _t:=tok1;refine(iTripleCost_c _ x _ _ _ (t.set q (u+1)) _ ?_ ?_ HV.out HT2.out).mono ?_;exact((rOperator_ok NB).keep rx (cells_below hB.drew));exact(hS.rs rInt_ok).keep rInt_ok (fun _ _ h=>h);rintro e w6 ⟨rfl,hb6⟩;have hC6:Below ws.heap.size ws w6:=Below.trans (Below.refl ws.heap.size ws).drew hb6;clear tok1)|(go_at_call 192;have _t:=tok2;refine(iTripleCost_c _ x _ _ _ t _ ?_ ?_ HV.out HT.out).mono ?_;exact((rOperator_ok NB).keep rx (cells_below (hB.trans (hC6.mono hB.size))));exact hRt.below rInt_ok hC6;rintro e w7 ⟨rfl,hb7⟩;have hC7:Below ws.heap.size ws w7:=Below.trans hC6 (hb7.mono hC6.size);clear tok2)))
      all_goals
       replace hRt:=hRt.below rInt_ok hC7;replace hR:=hR.below (rSlice_ok _ _ rInt_ok) hC7;replace hB:=hB.trans (hC7.mono hB.size);replace bxx:=bxx.below hC7;clear HSS hC6 hC7 hb6 hb7 hS;by_cases hcc:costL x (t.set q (u+1))<costL x t
       ·have HCC:=Lib.hid hcc
        go_wp2;go_ret3;exact⟨_,_,by rw [HV.out,hasDec_yes hlt (by rw [<- HTT.out];exact decT_yes hlt2 (HD.out.trans (decide_eq_true HCC.out)))];rfl,hB⟩
       ·have HCC:=Lib.hid hcc
        go_wp2;go_roundw
        case rel =>
         have hfin:=rangeAll_snoc (k:=q) HA2.out (by rw [HD.out,decide_eq_false (Int.not_lt.2 HCC.out)];rfl);rw [List.all_eq_true]at hfin;refine⟨_,_,_,_,_,_,⟨q+1,by omega,?_,fun j hj=>by have:=hfin j (List.mem_range.2 hj);simpa using this⟩,rfl,rfl,rfl,rfl,rfl,rfl⟩;go_num
        case measure=>simp [intOf];omega
     ·have d7:(z==7)=true:=by simp;omega
      have HD:=Lib.hid (decAt_top (o:=x) hzq.out h7);go_wp2;go_roundw
      case rel=>exact⟨q+1,by omega,by go_num,rangeAll_snoc HA2.out (by simp [HD.out]),hRt,hR,hB,bxx⟩
      case measure=>simp [intOf];omega
    ·have HD:=Lib.hid (decT_no (show(List.range 3).all (fun k=>!decAt x t k)=true by have:=HA2.out;rwa [show q=3 by omega]at this))
     go_wp2;go_roundw
     case rel=>exact⟨k+1,by omega,by go_num,rangeAll_snoc HA.out (by rw [<- HTT.out,HD.out];rfl),hR,hB,bxx⟩
     case measure=>simp [intOf];omega
  ·have HD:=Lib.hid (hasDec_no (show(List.range 512).all (fun i=>!decT x (trip i))=true by have:=HA.out;rwa [show k=512 by omega]at this))
   go_wp2;go_ret3;exact⟨_,_,by rw [HV.out,HD.out];rfl,hB⟩
theorem sFindDecrease_c (csx:List Value) (x:OperatorD) (w:World) (hx:(rOperator NB).rep w csx x) :
  Calls Tryz.prog 179 #[.agg csx.toArray] w (Ret3 (validOp x&&hasDec x) w):=by
 have rx:=hx;obtain⟨Ax_d5,nx_d5,cx_d5,rfl,hx_g1,hx_t3,hx_w3,hx_u3,hx_v3,hx_d5⟩:=rOperator_rep.1 hx;clear hx;obtain⟨hB,bxx⟩:=op1 w [.int .i64 x.fFixed,.int .i64 x.fPerLeft,.int .i64 x.fPerRight,.int .i64 x.fPerOutput,.int .i64 x.fPerPair,.slice Ax_d5 nx_d5 cx_d5] 44;have kx_0:=bxx 0 _ rfl;have kx_1:=bxx 1 _ rfl;have kx_2:=bxx 2 _ rfl;have kx_3:=bxx 3 _ rfl;have kx_4:=bxx 4 _ rfl;have kx_5:=bxx 5 _ rfl
 go_enter Tryz.func179,Tryz.ntmps179
 go_wp2_with fail
 refine(sIsValidOperator_c _ x _ ((rOperator_ok NB).keep rx (cells_below hB))).mono ?_;rintro e w1 ⟨rfl,hb1⟩;replace hB:=hB.trans (hb1.mono hB.size);replace bxx:=bxx.below hb1;clear hb1 kx_0 kx_1 kx_2 kx_3 kx_4 kx_5;cases hv:validOp x
 ·go_wp2
  go_ret3;exact⟨_,_,by rw [hv];rfl,(hB.alloc hB.size _).alloc (by simp;have:=hB.size;omega) _⟩
 have HV:=Lib.hid hv;clear hv;go_wp2
 go_loopw [5] (fun i wr=>∃ a:Nat,a<=8/\i=.int .i64 a/\(List.range (64*a)).all (fun i=>!decT x (trip i))=true/\Below w.heap.size w wr/\Bx wr w.heap.size [.int .i64 x.fFixed,.int .i64 x.fPerLeft,.int .i64 x.fPerRight,.int .i64 x.fPerOutput,.int .i64 x.fPerPair,.slice Ax_d5 nx_d5 cx_d5]) (fun i _=>8 - (intOf i).toNat)
 case atStart=>exact⟨0,Nat.zero_le _,rfl,rfl,hB,bxx⟩
 case round =>
  clear hB bxx;obtain⟨a,ha,rfl,hall,hB,bxx⟩:=hrel;have HA:=Lib.hid hall;clear hall;by_cases hlt:a<8
  ·have hle:(a:Int)<=7:=by omega
   go_wp2
   go_loopw [6] (fun i wr=>∃ b:Nat,b<=8/\i=.int .i64 b/\(List.range (64*a+8*b)).all (fun i=>!decT x (trip i))=true/\Below w.heap.size w wr/\Bx wr w.heap.size [.int .i64 x.fFixed,.int .i64 x.fPerLeft,.int .i64 x.fPerRight,.int .i64 x.fPerOutput,.int .i64 x.fPerPair,.slice Ax_d5 nx_d5 cx_d5]) (fun i _=>8 - (intOf i).toNat)
   case atStart=>exact⟨0,Nat.zero_le _,rfl,HA.out,hB,bxx⟩
   case round =>
    clear hB bxx HA;obtain⟨b,hb,rfl,hall,hB,bxx⟩:=hrel;have HA:=Lib.hid hall;clear hall;by_cases hlb:b<8
    ·have hlbI:(b:Int)<=7:=by omega
     go_wp2
     go_loopw [7] (fun i wr=>∃ e:Nat,e<=8/\i=.int .i64 e/\(List.range (64*a+8*b+e)).all (fun i=>!decT x (trip i))=true/\Below w.heap.size w wr/\Bx wr w.heap.size [.int .i64 x.fFixed,.int .i64 x.fPerLeft,.int .i64 x.fPerRight,.int .i64 x.fPerOutput,.int .i64 x.fPerPair,.slice Ax_d5 nx_d5 cx_d5]) (fun i _=>8 - (intOf i).toNat)
     case atStart=>exact⟨0,Nat.zero_le _,rfl,HA.out,hB,bxx⟩
     case round =>
      clear hB bxx HA;obtain⟨e,he,rfl,hall,hB,bxx⟩:=hrel;have HA:=Lib.hid hall;clear hall;by_cases hlc:e<8
      ·have hlcI:(e:Int)<=7:=by omega
       have HTE:Hid (trip (64*a+8*b+e)=[(a:Int),(b:Int),(e:Int)]):=Lib.hid (trip_eq hlb hlc);have hTT:Trip [(a:Int),(b:Int),(e:Int)]:=⟨_,_,_,rfl,⟨by omega,by omega⟩,⟨by omega,by omega⟩,by omega,by omega⟩;have HT:=Lib.hid hTT;clear hTT;have o1:=(OS.three wr (I64_small (n:=a) (by omega)) (I64_small (n:=b) (by omega)) (I64_small (n:=e) (by omega))).rs rInt_ok;have hB1:=(Below.refl wr.heap.size wr).alloc (Nat.le_refl _) (.cells #[.int .i64 a,.int .i64 b,.int .i64 e] 3);generalize htv:[(a:Int),(b:Int),(e:Int)]=tv at o1 HT HTE;clear htv;go_wp2
       go_loopw [9] (fun i wr'=>∃ q:Nat,q<=3/\i=.int .i64 q/\(List.range q).all (fun k=>!decAt x tv k)=true/\RS NB rInt wr' (some ⟨wr.heap.size,0,none⟩) 3 3 tv/\Below w.heap.size w wr'/\Bx wr' w.heap.size [.int .i64 x.fFixed,.int .i64 x.fPerLeft,.int .i64 x.fPerRight,.int .i64 x.fPerOutput,.int .i64 x.fPerPair,.slice Ax_d5 nx_d5 cx_d5]) (fun i _=>3 - (intOf i).toNat)
       case atStart=>exact⟨0,Nat.zero_le _,rfl,rfl,o1,hB.trans (hB1.mono hB.size),bxx.below hB1⟩
       case round =>
        clear o1 hB bxx hB1;obtain⟨q,hq,rfl,hall,hRt,hB,bxx⟩:=hrel;have HA2:=Lib.hid hall;clear hall;by_cases hlt2:q<3
        ·have qI:(q:Int)<3:=by omega
         have q0:(0:Int)<=(q:Int):=by omega
         obtain⟨b3,off3,z,e3,hz,hIz,hzq⟩:=hRt.ati hlt2;have hz7:=HT.out.at_ hzq.out;clear e3 hz;have hnew:=heap_alloc_new wr (.cells #[] 3);have hBn:=(Below.refl wr.heap.size wr).alloc (Nat.le_refl _) (.cells #[] 3)
         go_upto_region 17 with (at_builtin;refine wpList_appe (r:=rInt) (M:=NB) rfl _ _ 30 rfl _ 8 eiInt rInt_ok rInt_flat rfl hnew rfl (hRt.below rInt_ok hBn) hRt.nb (Nat.le_refl _) (by omega) ?_;intro A5 c5 w5 o5 g5 hb5)
         have M5:MS wr.heap.size NB 3 rInt w5 A5 3 c5 tv:=⟨_,o5,by cases A5<;>simp [blk],fun k hk=>by have:=g5 k hk;simp at this;omega⟩;have hE5:=hBn.trans (hb5.mono hBn.size);clear o5 g5 hnew hBn hb5;obtain⟨g,rfl,hgl,hgB⟩:=M5.form (by omega);obtain⟨u,hu,hIu,huk⟩:=M5.celli hlt2;obtain rfl:u=z:=by have:=huk.out;rw [hzq.out]at this;injection this with this;exact this.symm
         have hfz:=M5.frozen q
         go_upto_region 18 with fail
         have hS:=M5.set q (x:=u+1) ⟨by omega,by omega⟩;have hE:Below wr.heap.size wr (w5.setCell ⟨g,q,none⟩ (.int .i64 (u+1))):=hE5.trans ((Below.refl _ _).setCell hgB _);obtain⟨ws,hws⟩:∃ ws,ws=w5.setCell ⟨g,q,none⟩ (.int .i64 (u+1)):=⟨_,rfl⟩;rw [<- hws]at hS hE ⊢;clear hws hu hfz M5 hE5;obtain⟨u2,hu2,_,hk2⟩:=hS.celli hlt2;obtain rfl:u2=u+1:=by have:=hk2.out;rw [List.getElem?_set_self (lt_of_at huk.out)]at this;injection this with this;exact this.symm
         clear hk2;replace hRt:=hRt.below rInt_ok hE;replace hB:=hB.trans (hE.mono hB.size);replace bxx:=bxx.below hE;clear hE;by_cases h7:u<7
         ·have d7:decide (u+1<=7)=true:=by simp;omega
          have HD:=Lib.hid (decAt_at (o:=x) hzq.out h7);have HT2:=Lib.hid (HT.out.set (k:=q) (x:=u+1) ⟨by omega,by omega⟩);have hcb1:=HT2.out.bd HV.out;have hcb2:=HT.out.bd HV.out;have SS:∀ w',Below ws.heap.size ws w'->(w'.cell? ⟨w.heap.size,0,none⟩=some (.int .i64 x.fFixed)/\w'.cell? ⟨w.heap.size,1,none⟩=some (.int .i64 x.fPerLeft)/\w'.cell? ⟨w.heap.size,2,none⟩=some (.int .i64 x.fPerRight)/\w'.cell? ⟨w.heap.size,3,none⟩=some (.int .i64 x.fPerOutput)/\w'.cell? ⟨w.heap.size,4,none⟩=some (.int .i64 x.fPerPair)/\w'.cell? ⟨w.heap.size,5,none⟩=some (.slice Ax_d5 nx_d5 cx_d5)/\w'.cell? ⟨g,q,none⟩=some (.int .i64 (u+1))):=fun w' hb=>⟨cells_below hb _ _ (bxx 0 _ rfl),cells_below hb _ _ (bxx 1 _ rfl),cells_below hb _ _ (bxx 2 _ rfl),cells_below hb _ _ (bxx 3 _ rfl),cells_below hb _ _ (bxx 4 _ rfl),cells_below hb _ _ (bxx 5 _ rfl),cells_below hb _ _ hu2⟩
          have HSS:=Lib.hid SS;clear SS hu2;have tok1:True:=trivial;have tok2:True:=trivial
          go_region_held3 (fun w'=>w'.cell? ⟨w.heap.size,0,none⟩=some (.int .i64 x.fFixed)/\w'.cell? ⟨w.heap.size,1,none⟩=some (.int .i64 x.fPerLeft)/\w'.cell? ⟨w.heap.size,2,none⟩=some (.int .i64 x.fPerRight)/\w'.cell? ⟨w.heap.size,3,none⟩=some (.int .i64 x.fPerOutput)/\w'.cell? ⟨w.heap.size,4,none⟩=some (.int .i64 x.fPerPair)/\w'.cell? ⟨w.heap.size,5,none⟩=some (.slice Ax_d5 nx_d5 cx_d5)/\w'.cell? ⟨g,q,none⟩=some (.int .i64 (u+1))) (first|exact HSS.out _ (Below.refl _ _).drew|exact HSS.out _ hC6|exact HSS.out _ hC7) ((first|(go_at_call 229;have _t:=tok1;refine(sTripleCost_c _ x _ _ _ (tv.set q (u+1)) _ ?_ ?_ HV.out HT2.out).mono ?_;exact((rOperator_ok NB).keep rx (cells_below hB.drew));exact(hS.rs rInt_ok).keep rInt_ok (fun _ _ h=>h);rintro e w6 ⟨rfl,hb6⟩;have hC6:Below ws.heap.size ws w6:=Below.trans (Below.refl ws.heap.size ws).drew hb6;clear tok1)|(go_at_call 229;have _t:=tok2;refine(sTripleCost_c _ x _ _ _ tv _ ?_ ?_ HV.out HT.out).mono ?_;exact((rOperator_ok NB).keep rx (cells_below (hB.trans (hC6.mono hB.size))));exact hRt.below rInt_ok hC6;rintro e w7 ⟨rfl,hb7⟩;have hC7:Below ws.heap.size ws w7:=Below.trans hC6 (hb7.mono hC6.size);clear tok2)))
          all_goals
           replace hRt:=hRt.below rInt_ok hC7;replace hB:=hB.trans (hC7.mono hB.size);replace bxx:=bxx.below hC7;clear HSS hC6 hC7 hb6 hb7 hS;by_cases hcc:costL x (tv.set q (u+1))<costL x tv
           ·have HCC:=Lib.hid hcc
            go_wp2;go_ret3;exact⟨_,_,by rw [HV.out,hasDec_yes (i:=64*a+8*b+e) (by omega) (by rw [HTE.out];exact decT_yes hlt2 (HD.out.trans (decide_eq_true HCC.out)))];rfl,hB⟩
           ·have HCC:=Lib.hid hcc
            go_wp2;go_roundw
            case rel=>exact⟨q+1,by omega,by go_num,rangeAll_snoc HA2.out (by rw [HD.out,decide_eq_false HCC.out];rfl),hRt,hB,bxx⟩
            case measure=>simp [intOf];omega
         ·have d7:decide (u+1<=7)=false:=by simp;omega
          have HD:=Lib.hid (decAt_top (o:=x) hzq.out h7)
          go_quiet (fail)
          go_wp2;go_roundw
          case rel=>exact⟨q+1,by omega,by go_num,rangeAll_snoc HA2.out (by simp [HD.out]),hRt.below rInt_ok (below_drewN (Below.refl _ _) _),below_drewN hB _,bxx.below (below_drewN (Below.refl _ _) _)⟩
          case measure=>simp [intOf];omega
        ·have HD:=Lib.hid (decT_no (show(List.range 3).all (fun k=>!decAt x tv k)=true by have:=HA2.out;rwa [show q=3 by omega]at this))
         have qI:¬ (q:Int)<3:=by omega
         go_wp2;go_roundw
         case rel=>exact⟨e+1,by omega,by go_num,rangeAll_snoc HA.out (by show(!decT x (trip (64*a+8*b+e)))=true;rw [HTE.out,HD.out];rfl),hB,bxx⟩
         case measure=>simp [intOf];omega
      ·have hlcI:¬ (e:Int)<=7:=by omega
       go_wp2;go_roundw
       case rel=>exact⟨b+1,by omega,by go_num,by rw [show 64*a+8*(b+1)=64*a+8*b+e by omega];exact HA.out,hB,bxx⟩
       case measure=>simp [intOf];omega
    ·have hlbI:¬ (b:Int)<=7:=by omega
     go_wp2;go_roundw
     case rel=>exact⟨a+1,by omega,by go_num,by rw [show 64*(a+1)=64*a+8*b by omega];exact HA.out,hB,bxx⟩
     case measure=>simp [intOf];omega
  ·have hle:¬ (a:Int)<=7:=by omega
   have HD:=Lib.hid (hasDec_no (show(List.range 512).all (fun i=>!decT x (trip i))=true by have:=HA.out;rwa [show 64*a=512 by omega]at this));go_wp2;go_ret3;exact⟨_,_,by rw [HV.out,HD.out];rfl,(hB.alloc hB.size _).alloc (by simp;have:=hB.size;omega) _⟩
def RetE (b:Bool) (w:World) (e:Ending) (w':World):Prop:=∃ A n c,e=.returned (.slice A n c)/\decide (0<n)=b/\Below w.heap.size w w'
theorem sCheap_c (csx:List Value) (x:OperatorD) (w:World) (hx:(rOperator NB).rep w csx x) (hv:validOp x=true) :
  Calls Tryz.prog 180 #[.agg csx.toArray] w (RetE (hasCheap x) w):=by
 have rx:=hx;obtain⟨Ax_d5,nx_d5,cx_d5,rfl,hx_g1,hx_t3,hx_w3,hx_u3,hx_v3,hx_d5⟩:=rOperator_rep.1 hx;clear hx;obtain⟨hB,bxx⟩:=op1 w [.int .i64 x.fFixed,.int .i64 x.fPerLeft,.int .i64 x.fPerRight,.int .i64 x.fPerOutput,.int .i64 x.fPerPair,.slice Ax_d5 nx_d5 cx_d5] 44;have HV:=Lib.hid hv;clear hv
 go_enter Tryz.func180,Tryz.ntmps180
 go_wp2
 go_loopw [3] (fun i wr=>∃ a:Nat,a<=8/\i=.int .i64 a/\(List.range (64*a)).all (fun i=>!cheapT x (trip i))=true/\Below w.heap.size w wr/\Bx wr w.heap.size [.int .i64 x.fFixed,.int .i64 x.fPerLeft,.int .i64 x.fPerRight,.int .i64 x.fPerOutput,.int .i64 x.fPerPair,.slice Ax_d5 nx_d5 cx_d5]) (fun i _=>8 - (intOf i).toNat)
 case atStart=>exact⟨0,Nat.zero_le _,rfl,rfl,hB,bxx⟩
 case round =>
  clear hB bxx;obtain⟨a,ha,rfl,hall,hB,bxx⟩:=hrel;have HA:=Lib.hid hall;clear hall;by_cases hlt:a<8
  ·have hle:(a:Int)<=7:=by omega
   go_wp2
   go_loopw [4] (fun i wr=>∃ b:Nat,b<=8/\i=.int .i64 b/\(List.range (64*a+8*b)).all (fun i=>!cheapT x (trip i))=true/\Below w.heap.size w wr/\Bx wr w.heap.size [.int .i64 x.fFixed,.int .i64 x.fPerLeft,.int .i64 x.fPerRight,.int .i64 x.fPerOutput,.int .i64 x.fPerPair,.slice Ax_d5 nx_d5 cx_d5]) (fun i _=>8 - (intOf i).toNat)
   case atStart=>exact⟨0,Nat.zero_le _,rfl,HA.out,hB,bxx⟩
   case round =>
    clear hB bxx HA;obtain⟨b,hb,rfl,hall,hB,bxx⟩:=hrel;have HA:=Lib.hid hall;clear hall;by_cases hlb:b<8
    ·have hlbI:(b:Int)<=7:=by omega
     go_wp2
     go_loopw [5] (fun i wr=>∃ e:Nat,e<=8/\i=.int .i64 e/\(List.range (64*a+8*b+e)).all (fun i=>!cheapT x (trip i))=true/\Below w.heap.size w wr/\Bx wr w.heap.size [.int .i64 x.fFixed,.int .i64 x.fPerLeft,.int .i64 x.fPerRight,.int .i64 x.fPerOutput,.int .i64 x.fPerPair,.slice Ax_d5 nx_d5 cx_d5]) (fun i _=>8 - (intOf i).toNat)
     case atStart=>exact⟨0,Nat.zero_le _,rfl,HA.out,hB,bxx⟩
     case round =>
      clear hB bxx HA;obtain⟨e,he,rfl,hall,hB,bxx⟩:=hrel;have HA:=Lib.hid hall;clear hall;by_cases hlc:e<8
      ·have hlcI:(e:Int)<=7:=by omega
       have HTE:Hid (trip (64*a+8*b+e)=[(a:Int),(b:Int),(e:Int)]):=Lib.hid (trip_eq hlb hlc);have hTT:Trip [(a:Int),(b:Int),(e:Int)]:=⟨_,_,_,rfl,⟨by omega,by omega⟩,⟨by omega,by omega⟩,by omega,by omega⟩;have HT:=Lib.hid hTT;clear hTT;have o1:=(OS.three wr (I64_small (n:=a) (by omega)) (I64_small (n:=b) (by omega)) (I64_small (n:=e) (by omega))).rs rInt_ok;have hB1:=(Below.refl wr.heap.size wr).alloc (Nat.le_refl _) (.cells #[.int .i64 a,.int .i64 b,.int .i64 e] 3);generalize htv:[(a:Int),(b:Int),(e:Int)]=tv at o1 HT HTE;clear htv;have hcb:=HT.out.bd HV.out;have kx_0:=bxx 0 _ rfl;have kx_1:=bxx 1 _ rfl
       have kx_2:=bxx 2 _ rfl;have kx_3:=bxx 3 _ rfl;have kx_4:=bxx 4 _ rfl;have kx_5:=bxx 5 _ rfl
       go_wp2_with fail
       replace hB:=hB.trans (hB1.mono hB.size);replace bxx:=bxx.below hB1;clear hB1 kx_0 kx_1 kx_2 kx_3 kx_4 kx_5;refine(sTripleCost_c _ x _ _ _ tv _ ((rOperator_ok NB).keep rx (cells_below hB)) o1 HV.out HT.out).mono ?_;rintro ee w2 ⟨rfl,hb2⟩;replace hB:=hB.trans (hb2.mono hB.size);replace bxx:=bxx.below hb2;clear hb2 o1;have HCT:Hid (cheapT x tv=decide (costL x tv<1)):=Lib.hid rfl;by_cases hcc:costL x tv<1
       ·have HCC:=Lib.hid (HCT.out.trans (decide_eq_true hcc))
        go_wp2;go_ret;exact⟨_,_,_,rfl,by rw [hasCheap_yes (i:=64*a+8*b+e) (by omega) (by rw [HTE.out];exact HCC.out)];rfl,hB.alloc hB.size _⟩
       ·have HCC:=Lib.hid (HCT.out.trans (decide_eq_false hcc))
        go_wp2;go_roundw
        case rel=>exact⟨e+1,by omega,by go_num,rangeAll_snoc HA.out (by show(!cheapT x (trip (64*a+8*b+e)))=true;rw [HTE.out,HCC.out];rfl),hB,bxx⟩
        case measure=>simp [intOf];omega
      ·have hlcI:¬ (e:Int)<=7:=by omega
       go_wp2;go_roundw
       case rel=>exact⟨b+1,by omega,by go_num,by rw [show 64*a+8*(b+1)=64*a+8*b+e by omega];exact HA.out,hB,bxx⟩
       case measure=>simp [intOf];omega
    ·have hlbI:¬ (b:Int)<=7:=by omega
     go_wp2;go_roundw
     case rel=>exact⟨a+1,by omega,by go_num,by rw [show 64*(a+1)=64*a+8*b by omega];exact HA.out,hB,bxx⟩
     case measure=>simp [intOf];omega
  ·have hle:¬ (a:Int)<=7:=by omega
   have HD:=Lib.hid (hasCheap_no (show(List.range 512).all (fun i=>!cheapT x (trip i))=true by have:=HA.out;rwa [show 64*a=512 by omega]at this));go_wp2;go_ret;exact⟨_,_,_,rfl,by rw [HD.out];rfl,hB.alloc hB.size _⟩
end Go.Proofs.YtnlcfkpcmfljeaaGreat
namespace Go.Proofs.YtnlcfkpcmfljeaaGreat
open Go.RowKit
attribute [local go_sem ↓] Go.wp_at_zero Go.wp_at_succ
def opOk (o:OperatorD):Bool:=validOp o&&!hasDec o&&!hasCheap o
def admitted (x:ModelD):Bool:=(modelOps x).all opOk
theorem admitted_no {x:ModelD}{k:Nat}{o:OperatorD}(h:(modelOps x)[k]?=some o) (ho:opOk o=false):admitted x=false:=by
 unfold admitted;rw [List.all_eq_false];exact⟨o,mem_of_at h,by simp [ho]⟩
theorem opOk_invalid {o:OperatorD}(h:validOp o=false):opOk o=false:=by simp [opOk,h]
theorem opOk_dec {o:OperatorD}(h:hasDec o=true):opOk o=false:=by simp [opOk,h]
theorem opOk_cheap {o:OperatorD}(h:hasCheap o=true):opOk o=false:=by simp [opOk,h]
theorem opOk_yes {o:OperatorD}(h1:validOp o=true) (h2:hasDec o=false) (h3:hasCheap o=false):opOk o=true:=by simp [opOk,h1,h2,h3]
theorem admitted_valid {x:ModelD}(h:admitted x=true) {o:OperatorD}(ho:o∈modelOps x):validOp o=true:=by
 unfold admitted at h;rw [List.all_eq_true]at h;have:=h o ho;simp only [opOk,Bool.and_eq_true]at this;exact this.1.1
def RetK (b:Bool) (w:World) (e:Ending) (w':World):Prop:=∃ (k:Int) (v1 v2:Value),e=.returned (.tuple #[.int .i64 k,v1,v2])/\(k==0)=b/\Below w.heap.size w w'
def RefI (x:ModelD) (w:World) (g:Nat) (cs:List Value) (h:Nat) (ps:List Value) (k:Nat) (wr:World):Prop:=((modelOps x).take k).all opOk=true/\Below w.heap.size w wr/\Bx wr g cs/\Bx wr h ps
theorem iRefuteModel_c (csx:List Value) (x:ModelD) (w:World) (hx:(rModel NB).rep w csx x) :
  Calls Tryz.prog 136 #[.agg csx.toArray] w (RetK (admitted x) w):=by
 have rx:=hx;obtain⟨Ax_s4,nx_s4,cx_s4,Ax_b5,nx_b5,cx_b5,Ax_p1,nx_p1,cx_p1,Ax_d2,nx_d2,cx_d2,Ax_p3,nx_p3,cx_p3,rfl,hx_n4,hx_o4,hx_r4,hx_p4,hx_q4,hx_s4,hx_w4,hx_x4,hx_a5,hx_y4,hx_z4,hx_b5,hx_k1,hx_l1,hx_o1,hx_m1,hx_n1,hx_p1,hx_y1,hx_z1,hx_c2,hx_a2,hx_b2,hx_d2,hx_k3,hx_l3,hx_o3,hx_m3,hx_n3,hx_p3⟩:=rModel_rep.1 hx;clear hx;obtain⟨hB,bxx⟩:=op1 w [.int .i64 x.fScan.fFixed,.int .i64 x.fScan.fPerLeft,.int .i64 x.fScan.fPerRight,.int .i64 x.fScan.fPerOutput,.int .i64 x.fScan.fPerPair,.slice Ax_s4 nx_s4 cx_s4,.int .i64 x.fSort.fFixed,.int .i64 x.fSort.fPerLeft,.int .i64 x.fSort.fPerRight,.int .i64 x.fSort.fPerOutput,.int .i64 x.fSort.fPerPair,.slice Ax_b5 nx_b5 cx_b5,.int .i64 x.fHash.fFixed,.int .i64 x.fHash.fPerLeft,.int .i64 x.fHash.fPerRight,.int .i64 x.fHash.fPerOutput,.int .i64 x.fHash.fPerPair,.slice Ax_p1 nx_p1 cx_p1,.int .i64 x.fMerge.fFixed,.int .i64 x.fMerge.fPerLeft,.int .i64 x.fMerge.fPerRight,.int .i64 x.fMerge.fPerOutput,.int .i64 x.fMerge.fPerPair,.slice Ax_d2 nx_d2 cx_d2,.int .i64 x.fNested.fFixed,.int .i64 x.fNested.fPerLeft,.int .i64 x.fNested.fPerRight,.int .i64 x.fNested.fPerOutput,.int .i64 x.fNested.fPerPair,.slice Ax_p3 nx_p3 cx_p3] 46
 go_enter Tryz.func136,Tryz.ntmps136
 go_wp2_with fail
 refine(iOperators_c _ 0 _).mono ?_;rintro e w1 ⟨rfl,bxp,hb1⟩;replace hB:=hB.trans (hb1.mono hB.size);replace bxx:=bxx.below hb1;clear hb1;simp only [World.size_alloc]at bxp;go_wp2
 go_loopw [15] (fun i wr=>∃ k:Nat,k<=5/\i=.int .i64 k/\RefI x w w.heap.size [.int .i64 x.fScan.fFixed,.int .i64 x.fScan.fPerLeft,.int .i64 x.fScan.fPerRight,.int .i64 x.fScan.fPerOutput,.int .i64 x.fScan.fPerPair,.slice Ax_s4 nx_s4 cx_s4,.int .i64 x.fSort.fFixed,.int .i64 x.fSort.fPerLeft,.int .i64 x.fSort.fPerRight,.int .i64 x.fSort.fPerOutput,.int .i64 x.fSort.fPerPair,.slice Ax_b5 nx_b5 cx_b5,.int .i64 x.fHash.fFixed,.int .i64 x.fHash.fPerLeft,.int .i64 x.fHash.fPerRight,.int .i64 x.fHash.fPerOutput,.int .i64 x.fHash.fPerPair,.slice Ax_p1 nx_p1 cx_p1,.int .i64 x.fMerge.fFixed,.int .i64 x.fMerge.fPerLeft,.int .i64 x.fMerge.fPerRight,.int .i64 x.fMerge.fPerOutput,.int .i64 x.fMerge.fPerPair,.slice Ax_d2 nx_d2 cx_d2,.int .i64 x.fNested.fFixed,.int .i64 x.fNested.fPerLeft,.int .i64 x.fNested.fPerRight,.int .i64 x.fNested.fPerOutput,.int .i64 x.fNested.fPerPair,.slice Ax_p3 nx_p3 cx_p3] (w.heap.size+1) [.pointer (some ⟨w.heap.size,0,none⟩),.pointer (some ⟨w.heap.size,0+6,none⟩),.pointer (some ⟨w.heap.size,0+12,none⟩),.pointer (some ⟨w.heap.size,0+18,none⟩),.pointer (some ⟨w.heap.size,0+24,none⟩)] k wr) (fun i _=>5 - (intOf i).toNat)
 case atStart=>exact⟨0,Nat.zero_le _,rfl,rfl,hB,bxx,bxp⟩
 case round =>
  clear hB bxx bxp;obtain⟨k,hk,rfl,hall,hB,bxx,bxp⟩:=hrel;have HA:=Lib.hid hall;clear hall;by_cases hlt:k<5
  ·obtain⟨o,A,n,c,Ho,hO⟩:=modelAt rx hB bxx hlt
   have kp:=ptr_at6 bxp hlt;have o0:=hO.c0;have o1:=hO.c1;have o2:=hO.c2;have o3:=hO.c3;have o4:=hO.c4;have o5:=hO.c5
   go_wp2_with fail
   refine(iIsValidOperator_c _ o _ hO.rep).mono ?_;rintro e w2 ⟨rfl,hb2⟩;replace hB:=hB.trans (hb2.mono hB.size);replace bxx:=bxx.below hb2;replace bxp:=bxp.below hb2;replace hO:=hO.below hb2;clear hb2 kp o0 o1 o2 o3 o4 o5;have HNZ:Hid (((1:Int)+k==0)=false):=Lib.hid (by simp;omega);cases hv:validOp o
   ·go_wp2
    go_ret3;exact⟨_,_,_,rfl,by rw [admitted_no Ho.out (opOk_invalid hv)];exact HNZ.out,hB⟩
   have HV:=Lib.hid hv;clear hv;have o0:=hO.c0;have o1:=hO.c1;have o2:=hO.c2;have o3:=hO.c3;have o4:=hO.c4;have o5:=hO.c5
   go_wp2_with fail
   refine(iFindDecrease_c _ o _ hO.rep).mono ?_;rintro e w3 ⟨v1,v2,rfl,hb3⟩;replace hB:=hB.trans (hb3.mono hB.size);replace bxx:=bxx.below hb3;replace bxp:=bxp.below hb3;replace hO:=hO.below hb3;clear hb3 o0 o1 o2 o3 o4 o5;rw [HV.out,Bool.true_and];cases hd:hasDec o
   rotate_left
   ·go_wp2
    go_ret3;exact⟨_,_,_,rfl,by rw [admitted_no Ho.out (opOk_dec hd)];exact HNZ.out,hB⟩
   have HD:=Lib.hid hd;clear hd
   go_wp2_with fail
   refine(iTriples_c _).mono ?_;rintro e w9 ⟨A2,n2,c2,rfl,M2,hb9⟩;have hn2:=M2.len;rw [tripsTo_len]at hn2;subst hn2;replace hB:=hB.trans (hb9.mono hB.size);replace bxx:=bxx.below hb9;replace bxp:=bxp.below hb9;replace hO:=hO.below hb9;clear hb9;have hR:=M2.rs (rSlice_ok _ _ rInt_ok);clear M2;go_wp2
   go_loopw [42] (fun i wr=>∃ q:Nat,q<=512/\i=.int .i64 q/\(List.range q).all (fun i=>!cheapT o (trip i))=true/\RS NB (rSlice NB 3 rInt) wr A2 512 c2 (tripsTo 512)/\OpAt wr w.heap.size k o A n c/\Below w.heap.size w wr/\Bx wr w.heap.size [.int .i64 x.fScan.fFixed,.int .i64 x.fScan.fPerLeft,.int .i64 x.fScan.fPerRight,.int .i64 x.fScan.fPerOutput,.int .i64 x.fScan.fPerPair,.slice Ax_s4 nx_s4 cx_s4,.int .i64 x.fSort.fFixed,.int .i64 x.fSort.fPerLeft,.int .i64 x.fSort.fPerRight,.int .i64 x.fSort.fPerOutput,.int .i64 x.fSort.fPerPair,.slice Ax_b5 nx_b5 cx_b5,.int .i64 x.fHash.fFixed,.int .i64 x.fHash.fPerLeft,.int .i64 x.fHash.fPerRight,.int .i64 x.fHash.fPerOutput,.int .i64 x.fHash.fPerPair,.slice Ax_p1 nx_p1 cx_p1,.int .i64 x.fMerge.fFixed,.int .i64 x.fMerge.fPerLeft,.int .i64 x.fMerge.fPerRight,.int .i64 x.fMerge.fPerOutput,.int .i64 x.fMerge.fPerPair,.slice Ax_d2 nx_d2 cx_d2,.int .i64 x.fNested.fFixed,.int .i64 x.fNested.fPerLeft,.int .i64 x.fNested.fPerRight,.int .i64 x.fNested.fPerOutput,.int .i64 x.fNested.fPerPair,.slice Ax_p3 nx_p3 cx_p3]/\Bx wr (w.heap.size+1) [.pointer (some ⟨w.heap.size,0,none⟩),.pointer (some ⟨w.heap.size,0+6,none⟩),.pointer (some ⟨w.heap.size,0+12,none⟩),.pointer (some ⟨w.heap.size,0+18,none⟩),.pointer (some ⟨w.heap.size,0+24,none⟩)]) (fun i _=>512 - (intOf i).toNat)
   case atStart=>exact⟨0,Nat.zero_le _,rfl,rfl,hR,hO,hB,bxx,bxp⟩
   case round =>
    clear hR hO hB bxx bxp;obtain⟨q,hq,rfl,hall,hR,hO,hB,bxx,bxp⟩:=hrel;have HA2:=Lib.hid hall;clear hall;by_cases hlt2:q<512
    ·obtain⟨b,off,t,A3,n3,c3,rfl,hc,hRt,ht⟩:=hR.rowT hlt2
     have htt:=(tripsTo_at ht.out).1;have hT:Trip t:=by rw [htt];exact trip_trip hlt2
     have HTT:=Lib.hid htt;clear htt ht;have hcb:=hT.bd HV.out;have HT:=Lib.hid hT;clear hT;have o0:=hO.c0;have o1:=hO.c1;have o2:=hO.c2;have o3:=hO.c3;have o4:=hO.c4;have o5:=hO.c5
     go_wp2_with fail
     refine(iTripleCost_c _ o _ _ _ t _ hO.rep hRt HV.out HT.out).mono ?_;rintro e w4 ⟨rfl,hb4⟩;replace hB:=hB.trans (hb4.mono hB.size);replace bxx:=bxx.below hb4;replace bxp:=bxp.below hb4;replace hO:=hO.below hb4;replace hR:=hR.below (rSlice_ok NB 3 rInt_ok) hb4;clear hb4 hc o0 o1 o2 o3 o4 o5;have HCT:Hid (cheapT o t=decide (costL o t<1)):=Lib.hid rfl;by_cases hcc:costL o t<1
     ·have HCC:=Lib.hid (HCT.out.trans (decide_eq_true hcc))
      go_wp2;go_ret3;exact⟨_,_,_,rfl,by rw [admitted_no Ho.out (opOk_cheap (hasCheap_yes hlt2 (by rw [<- HTT.out];exact HCC.out)))];exact HNZ.out,hB⟩
     ·have HCC:=Lib.hid (HCT.out.trans (decide_eq_false hcc))
      go_wp2;go_roundw
      case rel=>exact⟨q+1,by omega,by go_num,rangeAll_snoc HA2.out (by rw [<- HTT.out,HCC.out];rfl),hR,hO,hB,bxx,bxp⟩
      case measure=>simp [intOf];omega
    ·have HC:=Lib.hid (hasCheap_no (show(List.range 512).all (fun i=>!cheapT o (trip i))=true by have:=HA2.out;rwa [show q=512 by omega]at this))
     go_wp2;go_roundw
     case rel=>exact⟨k+1,by omega,by go_num,all_snoc' HA.out Ho.out (opOk_yes HV.out HD.out HC.out),hB,bxx,bxp⟩
     case measure=>simp [intOf];omega
  ·have HF:Hid (admitted x=true):=by show(modelOps x).all opOk=true;have:=HA.out;rwa [List.take_of_length_le (by simp [modelOps];omega)]at this
   go_wp2;go_ret3;exact⟨_,_,_,rfl,by rw [HF.out];rfl,hB⟩
theorem iIsAdmitted_c (csx:List Value) (x:ModelD) (w:World) (hx:(rModel NB).rep w csx x) :
  Calls Tryz.prog 62 #[.agg csx.toArray] w fun e w'=>e=.returned (.bool (admitted x))/\Below w.heap.size w w':=by
 have rx:=hx;obtain⟨Ax_s4,nx_s4,cx_s4,Ax_b5,nx_b5,cx_b5,Ax_p1,nx_p1,cx_p1,Ax_d2,nx_d2,cx_d2,Ax_p3,nx_p3,cx_p3,rfl,hx_n4,hx_o4,hx_r4,hx_p4,hx_q4,hx_s4,hx_w4,hx_x4,hx_a5,hx_y4,hx_z4,hx_b5,hx_k1,hx_l1,hx_o1,hx_m1,hx_n1,hx_p1,hx_y1,hx_z1,hx_c2,hx_a2,hx_b2,hx_d2,hx_k3,hx_l3,hx_o3,hx_m3,hx_n3,hx_p3⟩:=rModel_rep.1 hx;clear hx;obtain⟨hB,bxx⟩:=op1 w [.int .i64 x.fScan.fFixed,.int .i64 x.fScan.fPerLeft,.int .i64 x.fScan.fPerRight,.int .i64 x.fScan.fPerOutput,.int .i64 x.fScan.fPerPair,.slice Ax_s4 nx_s4 cx_s4,.int .i64 x.fSort.fFixed,.int .i64 x.fSort.fPerLeft,.int .i64 x.fSort.fPerRight,.int .i64 x.fSort.fPerOutput,.int .i64 x.fSort.fPerPair,.slice Ax_b5 nx_b5 cx_b5,.int .i64 x.fHash.fFixed,.int .i64 x.fHash.fPerLeft,.int .i64 x.fHash.fPerRight,.int .i64 x.fHash.fPerOutput,.int .i64 x.fHash.fPerPair,.slice Ax_p1 nx_p1 cx_p1,.int .i64 x.fMerge.fFixed,.int .i64 x.fMerge.fPerLeft,.int .i64 x.fMerge.fPerRight,.int .i64 x.fMerge.fPerOutput,.int .i64 x.fMerge.fPerPair,.slice Ax_d2 nx_d2 cx_d2,.int .i64 x.fNested.fFixed,.int .i64 x.fNested.fPerLeft,.int .i64 x.fNested.fPerRight,.int .i64 x.fNested.fPerOutput,.int .i64 x.fNested.fPerPair,.slice Ax_p3 nx_p3 cx_p3] 46
 go_enter Tryz.func62,Tryz.ntmps62
 go_wp2_with (refine wpList_load_mid rfl 46 _ rfl w.heap.size 0 rfl [.int .i64 x.fScan.fFixed,.int .i64 x.fScan.fPerLeft,.int .i64 x.fScan.fPerRight,.int .i64 x.fScan.fPerOutput,.int .i64 x.fScan.fPerPair,.slice Ax_s4 nx_s4 cx_s4,.int .i64 x.fSort.fFixed,.int .i64 x.fSort.fPerLeft,.int .i64 x.fSort.fPerRight,.int .i64 x.fSort.fPerOutput,.int .i64 x.fSort.fPerPair,.slice Ax_b5 nx_b5 cx_b5,.int .i64 x.fHash.fFixed,.int .i64 x.fHash.fPerLeft,.int .i64 x.fHash.fPerRight,.int .i64 x.fHash.fPerOutput,.int .i64 x.fHash.fPerPair,.slice Ax_p1 nx_p1 cx_p1,.int .i64 x.fMerge.fFixed,.int .i64 x.fMerge.fPerLeft,.int .i64 x.fMerge.fPerRight,.int .i64 x.fMerge.fPerOutput,.int .i64 x.fMerge.fPerPair,.slice Ax_d2 nx_d2 cx_d2,.int .i64 x.fNested.fFixed,.int .i64 x.fNested.fPerLeft,.int .i64 x.fNested.fPerRight,.int .i64 x.fNested.fPerOutput,.int .i64 x.fNested.fPerPair,.slice Ax_p3 nx_p3 cx_p3] _ bxx.range Tryz.underlying46 rfl sizeModel ?_)
 refine(iRefuteModel_c _ x _ ((rModel_ok NB).keep rx (cells_below hB))).mono ?_;rintro e w1 ⟨k,v1,v2,rfl,hk,hb1⟩;replace hB:=hB.trans (hb1.mono hB.size);replace bxx:=bxx.below hb1;clear hb1;have HK:=Lib.hid hk;clear hk;go_wp2;go_ret;exact⟨ret_bool HK.out,hB⟩
end Go.Proofs.YtnlcfkpcmfljeaaGreat
