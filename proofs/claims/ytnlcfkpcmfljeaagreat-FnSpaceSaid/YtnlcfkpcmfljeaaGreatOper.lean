/-
  Cut, Oper, Ioc
-/
import Derived.Test.YtnlcfkpcmfljeaaGreatMarkB
import Derived.Deep.RegionHeld3
import Derived.Deep.DeepCutAuto
import Derived.Test.YtnlcfkpcmfljeaaGreatCls
import Derived.Test.YtnlcfkpcmfljeaaGreatEqLib
import Derived.Test.YtnlcfkpcmfljeaaGreatLoc
import Derived.IntWalk
import Derived.Deep.DrawnRows
set_option linter.unusedSimpArgs false
set_option linter.unusedVariables false
set_option maxHeartbeats 1600000
set_option maxRecDepth 100000
namespace Go.Proofs.YtnlcfkpcmfljeaaGreat
open Go.RowKit
theorem Below.link {a b c:World}(h:Below a.heap.size a b) (g:Below b.heap.size b c):Below a.heap.size a c:=h.trans (g.mono h.size)
theorem Below.sz {a b:World}(h:Below a.heap.size a b):a.heap.size<=b.heap.size:=h.size
theorem Bk.made {U w':World}{cs:Array Value}{t:TypeId}(h:Below (U.alloc (.cells cs t)).heap.size (U.alloc (.cells cs t)) w'):Bk w' U.heap.size t cs.toList:=by
 have:=Bk.new U cs.toList t;exact Bk.below (by simpa using this) h
theorem ownSet {α:Type}{r:Rp α}(hr:r.Ok) {w:World}{f:List Nat}{cs:List Value}{x:α}(h:r.own w f cs x) {g:Nat}(hg:g∉f) (i:Nat) (vs:List Value):r.own (setCells w g i vs) f cs x :=
 hr.okeep h fun k hk=>setCells_other w g i vs k (fun e=>hg (e▸hk))
def Left {α:Type} (r:Rp α) (t:TypeId) (x:α) (base:World) (g:Nat) (f:List Nat) (cs:List Value) (wx:World):Prop :=
 r.own wx f cs x/\Fr base.heap.size f/\g∉f/\base.heap.size<=g/\Bk wx g t cs/\Below base.heap.size base wx
theorem Left.first {α:Type}{r:Rp α}(hr:r.Ok) {t:TypeId}{x:α}{base wp wc:World}{f:List Nat}{cs zs:List Value}{g:Nat}(o:r.own wc f cs x) (fr:Fr wp.heap.size f) (h0:Below base.heap.size base wp) (h1:Below wp.heap.size wp wc)
  (hb:Bk wc g t zs) (hl:g<wp.heap.size) (hg:base.heap.size<=g) (hlen:cs.length=zs.length):Left r t x base g f cs (setCells wc g 0 cs):=by
 have hn:g∉f:=fun hk=>by have:=fr.ge _ hk;omega
 refine⟨ownSet hr o hn 0 cs,fr.mono h0.size,hn,hg,?_,Below.setCells (Below.link h0 h1) hg 0 cs⟩
 have key:∀ (i:Nat) (vs zs:List Value) (wc:World),Bk wc g t zs->i+vs.length<=zs.length->Bk (setCells wc g i vs) g t (over zs i vs):=by
  intro i vs
  induction vs generalizing i with
  | nil=>intro zs wc h _;exact h
  | cons v vs ih=>intro zs wc h hl;exact ih (i+1) _ _ (h.set i v) (by simp at hl ⊢;omega)
 have:=key 0 cs zs wc hb (by omega);have e:=over_head cs zs hlen [];simp only [List.append_nil]at e;rw [e]at this;exact this
theorem Left.drew {α:Type}{r:Rp α}{t:TypeId}{x:α}{base:World}{g:Nat}{f:List Nat}{cs:List Value}{wx:World}(hr:r.Ok) (h:Left r t x base g f cs wx):Left r t x base g f cs wx.drew :=
 ⟨hr.okeep h.1 fun _ _=>rfl,h.2.1,h.2.2.1,h.2.2.2.1,h.2.2.2.2.1,h.2.2.2.2.2.drew⟩
def coefs (o:OperatorD):List Int:=[o.fFixed,o.fPerLeft,o.fPerRight,o.fPerOutput,o.fPerPair]
def coef (n:Int):Bool:=inR n (-99) 99
def stepOk (l:List CostStepD) (i:Nat):Bool:=match l[i]? with
 | some s=>coef s.fAdd&&inR s.fFrom 1 8192&&(decide (i=0)||match l[i - 1]? with
  | some p=>decide (p.fFrom<s.fFrom)
  | none=>true)
 | none=>true
def validOp (o:OperatorD):Bool:=(coefs o).all coef&&decide (o.fSteps.length<=4)&&(List.range o.fSteps.length).all (stepOk o.fSteps)
theorem stepOk_add {l:List CostStepD}{i:Nat}{s:CostStepD}(h:l[i]?=some s) (hc:coef s.fAdd=false):stepOk l i=false:=by simp [stepOk,h,hc]
theorem stepOk_from {l:List CostStepD}{i:Nat}{s:CostStepD}(h:l[i]?=some s) (hc:inR s.fFrom 1 8192=false):stepOk l i=false:=by simp [stepOk,h,hc]
theorem stepOk_first {l:List CostStepD}{s:CostStepD}(h:l[0]?=some s) (h1:coef s.fAdd=true) (h2:inR s.fFrom 1 8192=true):stepOk l 0=true:=by simp [stepOk,h,h1,h2]
theorem stepOk_first' {l:List CostStepD}{i:Nat}{s:CostStepD}(h:l[i]?=some s) (hi:¬ 0<i) (h1:coef s.fAdd=true) (h2:inR s.fFrom 1 8192=true):stepOk l i=true:=by
 obtain rfl:i=0:=by omega
 exact stepOk_first h h1 h2
theorem stepOk_next {l:List CostStepD}{i:Nat}{s p:CostStepD}(h:l[i]?=some s) (hp:l[i - 1]?=some p) (hi:0<i) (h1:coef s.fAdd=true) (h2:inR s.fFrom 1 8192=true):stepOk l i=decide (p.fFrom<s.fFrom):=by
 have:i≠0:=by omega
 simp [stepOk,h,hp,h1,h2,this]
theorem rangeAll_snoc {p:Nat->Bool}{k:Nat}(h:(List.range k).all p=true) (hk:p k=true):(List.range (k+1)).all p=true:=by
 rw [List.range_succ,List.all_append,h];simp [hk]
theorem rangeAll_no {p:Nat->Bool}{k n:Nat}(hk:p k=false) (h:k<n):(List.range n).all p=false:=by
 rw [List.all_eq_false];exact⟨k,List.mem_range.2 h,by simp [hk]⟩
theorem validOp_parts {o:OperatorD}(h:validOp o=true):((-99<=o.fFixed/\o.fFixed<=99)/\(-99<=o.fPerLeft/\o.fPerLeft<=99)/\(-99<=o.fPerRight/\o.fPerRight<=99)/\(-99<=o.fPerOutput/\o.fPerOutput<=99)/\(-99<=o.fPerPair/\o.fPerPair<=99))/\o.fSteps.length<=4 /\
  ∀ s∈o.fSteps,-99<=s.fAdd/\s.fAdd<=99/\1<=s.fFrom/\s.fFrom<=8192:=by
 unfold validOp at h;simp only [Bool.and_eq_true,decide_eq_true_eq,List.all_eq_true,coefs,List.mem_cons,List.not_mem_nil,or_false,forall_eq_or_imp,forall_eq,coef]at h;obtain⟨⟨⟨a1,a2,a3,a4,a5⟩,hl⟩,hs⟩:=h;refine⟨⟨inR_t.1 a1,inR_t.1 a2,inR_t.1 a3,inR_t.1 a4,inR_t.1 a5⟩,hl,fun s hm=>?_⟩;obtain⟨i,hi⟩:=List.getElem?_of_mem hm;have:=hs i (List.mem_range.2 (lt_of_at hi));simp only [stepOk,hi,Bool.and_eq_true,coef]at this;have q1:=inR_t.1 this.1.1;have q2:=inR_t.1 this.1.2;exact⟨q1.1,q1.2,q2.1,q2.2⟩
def opBase (o:OperatorD) (l r t:Int):Int:=o.fFixed+o.fPerLeft*l+o.fPerRight*r+o.fPerOutput*t+o.fPerPair*l*r
def stepAdd (n:Int) (s:CostStepD):Int:=if s.fFrom<=n then s.fAdd else 0
def stepSum (n:Int) (l:List CostStepD):Int:=(l.map (stepAdd n)).sum
def opCost (o:OperatorD) (l r t:Int):Int:=opBase o l r t+stepSum (l+r) o.fSteps
def opCostV (o:OperatorD) (l r t:Int):Int:=if validOp o&&inR l 0 4096&&inR r 0 4096&&inR t 0 4096 then opCost o l r t else 0
theorem stepSum_snoc {n:Int}{l:List CostStepD}{k:Nat}{s:CostStepD}(h:l[k]?=some s):stepSum n (l.take (k+1))=stepSum n (l.take k)+stepAdd n s:=by
 rw [stepSum,take_snoc h,List.map_append,List.sum_append];simp [stepSum]
theorem stepSum_bd {n:Int}{l:List CostStepD}(h:∀ s∈l,-99<=s.fAdd/\s.fAdd<=99):-99*(l.length:Int)<=stepSum n l/\stepSum n l<=99*(l.length:Int):=by
 induction l with
 | nil=>simp [stepSum]
 | cons s l ih =>
  have h1:=h s List.mem_cons_self;have h2:=ih fun x hx=>h x (List.mem_cons_of_mem _ hx);simp only [stepSum,List.map_cons,List.sum_cons,List.length_cons]at h2 ⊢;have:-99<=stepAdd n s/\stepAdd n s<=99:=by unfold stepAdd;split<;>omega
  omega
theorem mul99 {a b:Int}(h1:-99<=a) (h2:a<=99) (h3:0<=b) (h4:b<=4096):-405504<=a*b/\a*b<=405504:=by
 have q1:=Int.mul_le_mul_of_nonneg_right h1 h3;have q2:=Int.mul_le_mul_of_nonneg_right h2 h3;omega
theorem mulC {p b:Int}(h1:-405504<=p) (h2:p<=405504) (h3:0<=b) (h4:b<=4096):-1660944384<=p*b/\p*b<=1660944384:=by
 have q1:=Int.mul_le_mul_of_nonneg_right h1 h3;have q2:=Int.mul_le_mul_of_nonneg_right h2 h3;omega
theorem opCost_bd {o:OperatorD}{l r t:Int}(h:validOp o=true) (hl:0<=l/\l<=4096) (hr:0<=r/\r<=4096) (ht:0<=t/\t<=4096):-2000000000<=opCost o l r t/\opCost o l r t<=2000000000:=by
 obtain⟨⟨a1,a2,a3,a4,a5⟩,hn,hs⟩:=validOp_parts h;have p1:=mul99 a2.1 a2.2 hl.1 hl.2;have p2:=mul99 a3.1 a3.2 hr.1 hr.2;have p3:=mul99 a4.1 a4.2 ht.1 ht.2;have p4:=mul99 a5.1 a5.2 hl.1 hl.2;have p5:=mulC p4.1 p4.2 hr.1 hr.2;have q:=stepSum_bd (n:=l+r) (l:=o.fSteps) fun s hs'=>⟨(hs s hs').1,(hs s hs').2.1⟩;unfold opCost opBase;omega
theorem opCostV_bd {o:OperatorD}{l r t:Int}:-2000000000<=opCostV o l r t/\opCostV o l r t<=2000000000:=by
 unfold opCostV;split
 ·rename_i h
  simp only [Bool.and_eq_true]at h;obtain⟨⟨⟨h1,h2⟩,h3⟩,h4⟩:=h;exact opCost_bd h1 (inR_t.1 h2) (inR_t.1 h3) (inR_t.1 h4)
 ·omega
theorem sCoef_q (n:Int) (w:World):Calls Tryz.prog 228 #[.int .i64 n] w fun e w'=>e=.returned (.bool (coef n))/\w'=w:=by
 go_enter Tryz.func228,Tryz.ntmps228
 go_wp2_with (go_at_call 51;refine(l1In_c _ _ _ _).mono ?_;rintro e w' ⟨rfl,rfl⟩)
 go_ret;exact⟨rfl,rfl⟩
theorem sCoef_v {n:Int}{v:Bool}(h:coef n=v) (w:World):Calls Tryz.prog 228 #[.int .i64 n] w fun e w'=>e=.returned (.bool v)/\w'=w:=h▸sCoef_q n w
theorem iCoefficients_c (g o:Nat) (w:World) :
  Calls Tryz.prog 234 #[.pointer (some ⟨g,o,none⟩)] w fun e w'=>e=.returned (.slice (some ⟨w.heap.size,0,none⟩) 5 5)/\Bx w' w.heap.size [.pointer (some ⟨g,o,none⟩),.pointer (some ⟨g,o+1,none⟩),.pointer (some ⟨g,o+2,none⟩),.pointer (some ⟨g,o+3,none⟩),.pointer (some ⟨g,o+4,none⟩)]/\Below w.heap.size w w':=by
 go_enter Tryz.func234,Tryz.ntmps234
 go_wp2
 go_region_held3 (fun _=>True) (exact trivial) (fail)
 all_goals
  go_wp2;go_ret;exact⟨rfl,fun j v hj=>Bx.new w [.pointer (some ⟨g,o,none⟩),.pointer (some ⟨g,o+1,none⟩),.pointer (some ⟨g,o+2,none⟩),.pointer (some ⟨g,o+3,none⟩),.pointer (some ⟨g,o+4,none⟩)] 248 j v hj,(bal).drew⟩
theorem coefs_at (o:OperatorD) {k:Nat}(hk:k<5):∃ c,(coefs o)[k]?=some c:=⟨_,List.getElem?_eq_getElem (by simpa [coefs]using hk)⟩
theorem ptr_at {w:World}{g h:Nat}(bx:Bx w h [.pointer (some ⟨g,0,none⟩),.pointer (some ⟨g,0+1,none⟩),.pointer (some ⟨g,0+2,none⟩),.pointer (some ⟨g,0+3,none⟩),.pointer (some ⟨g,0+4,none⟩)]) {k:Nat}(hk:k<5):w.cell? ⟨h,k,none⟩=some (.pointer (some ⟨g,k,none⟩)):=by
 have:k=0\/k=1\/k=2\/k=3\/k=4:=by omega
 rcases this with rfl|rfl|rfl|rfl|rfl
 ·exact bx 0 _ rfl
 ·exact bx 1 _ rfl
 ·exact bx 2 _ rfl
 ·exact bx 3 _ rfl
 ·exact bx 4 _ rfl
theorem coef_at {w:World}{g:Nat}{o:OperatorD}{v:Value}(bx:Bx w g [.int .i64 o.fFixed,.int .i64 o.fPerLeft,.int .i64 o.fPerRight,.int .i64 o.fPerOutput,.int .i64 o.fPerPair,v]) {k:Nat}(hk:k<5) {c:Int}(hc:(coefs o)[k]?=some c):w.cell? ⟨g,k,none⟩=some (.int .i64 c):=by
 have:k=0\/k=1\/k=2\/k=3\/k=4:=by omega
 rcases this with rfl|rfl|rfl|rfl|rfl
 all_goals
  simp [coefs]at hc;subst hc
 ·exact bx 0 _ rfl
 ·exact bx 1 _ rfl
 ·exact bx 2 _ rfl
 ·exact bx 3 _ rfl
 ·exact bx 4 _ rfl
theorem validOp_coef {o:OperatorD}{k:Nat}{c:Int}(h:(coefs o)[k]?=some c) (hc:coef c=false):validOp o=false:=by
 have:(coefs o).all coef=false:=by rw [List.all_eq_false];exact⟨c,mem_of_at h,by simp [hc]⟩
 simp [validOp,this]
theorem validOp_step {o:OperatorD}{k:Nat}(h:stepOk o.fSteps k=false) (hk:k<o.fSteps.length):validOp o=false:=by
 have:=rangeAll_no h hk;simp [validOp,this]
theorem validOp_yes {o:OperatorD}(h1:(coefs o).all coef=true) (h3:(List.range o.fSteps.length).all (stepOk o.fSteps)=true):validOp o=decide (o.fSteps.length<=4):=by
 simp only [validOp,h1,h3,Bool.true_and,Bool.and_true]
theorem iIsValidOperator_c (csx:List Value) (x:OperatorD) (w:World) (hx:(rOperator NB).rep w csx x) :
  Calls Tryz.prog 189 #[.agg csx.toArray] w fun e w'=>e=.returned (.bool (validOp x))/\Below w.heap.size w w':=by
 have rx:=hx;obtain⟨Ax_d5,nx_d5,cx_d5,rfl,hx_g1,hx_t3,hx_w3,hx_u3,hx_v3,hx_d5⟩:=rOperator_rep.1 hx;clear hx;obtain⟨hB,bxx⟩:=op1 w [.int .i64 x.fFixed,.int .i64 x.fPerLeft,.int .i64 x.fPerRight,.int .i64 x.fPerOutput,.int .i64 x.fPerPair,.slice Ax_d5 nx_d5 cx_d5] 44;have hnS:=hx_d5.bound;have HL:=Lib.hid hx_d5.len
 go_enter Tryz.func189,Tryz.ntmps189
 go_wp2_with fail
 refine(iCoefficients_c _ 0 _).mono ?_;rintro e w1 ⟨rfl,bxp,hb1⟩;replace hB:=hB.trans (hb1.mono hB.size);replace bxx:=bxx.below hb1;clear hb1;have bxp:=bxp;simp only [World.size_alloc]at bxp;have kx_5:=bxx 5 _ rfl;go_wp2
 go_loop [9] (fun i=>∃ k:Nat,k<=5/\i=.int .i64 k/\((coefs x).take k).all coef=true) (fun i=>5 - (intOf i).toNat)
 case atStart=>exact⟨0,Nat.zero_le _,rfl,rfl⟩
 case round =>
  obtain⟨k,hk,rfl,hall⟩:=hrel;have HA:=Lib.hid hall;clear hall;by_cases hlt:k<5
  ·obtain⟨c,hc⟩:=coefs_at x hlt
   have Hc:=Lib.hid hc;clear hc;have kp:=ptr_at bxp hlt;have kv:=coef_at bxx hlt Hc.out;cases hcv:coef c
   ·have K:=Lib.hid (fun W=>within_v (show inR c (-99) 99=false from hcv) W)
    have HC:=Lib.hid hcv;clear hcv
    go_wp2_with (go_at_call 89;refine(K.out _).mono ?_;rintro e w' ⟨rfl,rfl⟩)
    go_ret;exact⟨ret_bool (a:=false) (validOp_coef Hc.out HC.out).symm,hB⟩
   ·have K:=Lib.hid (fun W=>within_v (show inR c (-99) 99=true from hcv) W)
    have HC:=Lib.hid hcv;clear hcv
    go_wp2_with (go_at_call 89;refine(K.out _).mono ?_;rintro e w' ⟨rfl,rfl⟩)
    go_round
    case rel=>exact⟨k+1,by omega,by go_num,all_snoc' HA.out Hc.out HC.out⟩
    case measure=>simp [intOf];omega
  ·have HC:Hid ((coefs x).all coef=true):=by show(coefs x).all coef=true;have:=HA.out;rwa [List.take_of_length_le (by simp [coefs];omega)]at this
   clear HA bxp;go_wp2
   go_loopw [22] (fun i wr=>∃ q:Nat,q<=nx_d5/\i=.int .i64 q/\(List.range q).all (stepOk x.fSteps)=true/\Below w.heap.size w wr/\Bx wr w.heap.size [.int .i64 x.fFixed,.int .i64 x.fPerLeft,.int .i64 x.fPerRight,.int .i64 x.fPerOutput,.int .i64 x.fPerPair,.slice Ax_d5 nx_d5 cx_d5]) (fun i _=>nx_d5 - (intOf i).toNat)
   case atStart=>exact⟨0,Nat.zero_le _,rfl,rfl,hB,bxx⟩
   case round =>
    clear hB bxx kx_5;obtain⟨q,hq,rfl,hall,hB,bxx⟩:=hrel;have HA:=Lib.hid hall;clear hall;by_cases hlt2:q<nx_d5
    ·obtain⟨b,off,s,rfl,hc0,hc1,hI0,hI1,hs⟩:=(hx_d5.below (rCostStep_ok NB) hB).eCostStep hlt2
     have hqL:q<x.fSteps.length:=by rw [HL.out];exact hlt2
     have hBa:=(Below.refl wr.heap.size wr).alloc (Nat.le_refl _) (.cells #[.int .i64 s.fFrom,.int .i64 s.fAdd] 205);have bxs:=Bx.new wr [.int .i64 s.fFrom,.int .i64 s.fAdd] 205;have Hs:=Lib.hid hs.out;clear hs
     go_upto_region 10 with fail
     obtain⟨wn,hwn⟩:∃ wn,wn=wr.alloc (.cells #[.int .i64 s.fFrom,.int .i64 s.fAdd] 205):=⟨_,rfl⟩;rw [<- hwn]at hBa;replace bxs:Bx wn wr.heap.size [.int .i64 s.fFrom,.int .i64 s.fAdd]:=by rw [hwn];exact bxs
     rw [<- hwn];clear hwn hc0 hc1;replace hB:=hB.trans (hBa.mono hB.size);replace bxx:=bxx.below hBa;clear hBa;have s0:=bxs 0 _ rfl;have s1:=bxs 1 _ rfl;have kx_5:=bxx 5 _ rfl;cases g1:coef s.fAdd
     ·have K1:=Lib.hid (fun W=>within_v (show inR s.fAdd (-99) 99=false from g1) W)
      have G1:=Lib.hid g1;clear g1
      go_quiet ((go_at_call_of 89 (Value.int IntKind.i64 s.fAdd);exact Calls.quiet_of_same (K1.out _)))
      go_wp2;go_ret;exact⟨ret_bool (a:=false) (validOp_step (stepOk_add Hs.out G1.out) hqL).symm,below_drewN hB _⟩
     have K1:=Lib.hid (fun W=>within_v (show inR s.fAdd (-99) 99=true from g1) W);have G1:=Lib.hid g1;clear g1;cases g2:inR s.fFrom 1 8192
     ·have K2:=Lib.hid (fun W=>within_v g2 W)
      have G2:=Lib.hid g2;clear g2
      go_quiet ((first|(go_at_call_of 89 (Value.int IntKind.i64 s.fAdd);exact Calls.quiet_of_same (K1.out _))|(go_at_call_of 89 (Value.int IntKind.i64 s.fFrom);exact Calls.quiet_of_same (K2.out _))))
      go_wp2;go_ret;exact⟨ret_bool (a:=false) (validOp_step (stepOk_from Hs.out G2.out) hqL).symm,below_drewN hB _⟩
     have K2:=Lib.hid (fun W=>within_v g2 W);have G2:=Lib.hid g2;clear g2;by_cases hq0:0<q
     ·have dq:decide ((0:Int)<(q:Int))=true:=by simp;omega
      have dq':decide (0<q)=true:=by simp;omega
      have hq1:q - 1<nx_d5:=by omega
      obtain⟨b2,off2,p,e2,hp0,hp1,hJ0,hJ1,hp⟩:=(hx_d5.below (rCostStep_ok NB) hB).eCostStep hq1;injection e2 with e2;injection e2 with e2 e3;subst e2;subst e3;have HP:=Lib.hid (stepOk_next Hs.out hp.out hq0 G1.out G2.out);clear hp;have m1:IntKind.i64.wrap ((q:Int) - 1)=(q:Int) - 1:=IntWalk.i64_in _ (by omega);have m2:0<=(q:Int) - 1:=by omega
      have m3:(q:Int) - 1<(nx_d5:Int):=by omega
      have m4:((q:Int) - 1).toNat=q - 1:=by omega
      by_cases hpp:p.fFrom<s.fFrom
      ·have HS:=Lib.hid (HP.out.trans (decide_eq_true hpp))
       have dp:decide (s.fFrom<=p.fFrom)=false:=by simp;omega
       go_quiet ((first|(go_at_call_of 89 (Value.int IntKind.i64 s.fAdd);exact Calls.quiet_of_same (K1.out _))|(go_at_call_of 89 (Value.int IntKind.i64 s.fFrom);exact Calls.quiet_of_same (K2.out _))))
       clear m1 m4;go_wp2;go_roundw
       case rel=>exact⟨q+1,by omega,by go_num,rangeAll_snoc HA.out HS.out,below_drewN hB _,bxx.below (below_drewN (Below.refl _ _) _)⟩
       case measure=>simp [intOf];omega
      ·have HS:=Lib.hid (HP.out.trans (decide_eq_false hpp))
       have dp:decide (s.fFrom<=p.fFrom)=true:=by simp;omega
       go_quiet ((first|(go_at_call_of 89 (Value.int IntKind.i64 s.fAdd);exact Calls.quiet_of_same (K1.out _))|(go_at_call_of 89 (Value.int IntKind.i64 s.fFrom);exact Calls.quiet_of_same (K2.out _))))
       clear m1 m4;go_wp2;go_ret;exact⟨ret_bool (a:=false) (validOp_step HS.out hqL).symm,below_drewN hB _⟩
     ·have dq:decide ((0:Int)<(q:Int))=false:=by simp;omega
      have dq':decide (0<q)=false:=by simp;omega
      have HS:=Lib.hid (stepOk_first' Hs.out hq0 G1.out G2.out)
      go_quiet ((first|(go_at_call_of 89 (Value.int IntKind.i64 s.fAdd);exact Calls.quiet_of_same (K1.out _))|(go_at_call_of 89 (Value.int IntKind.i64 s.fFrom);exact Calls.quiet_of_same (K2.out _))))
      go_wp2;go_roundw
      case rel=>exact⟨q+1,by omega,by go_num,rangeAll_snoc HA.out HS.out,below_drewN hB _,bxx.below (below_drewN (Below.refl _ _) _)⟩
      case measure=>simp [intOf];omega
    ·have kx_5:=bxx 5 _ rfl
     go_wp2;go_ret;exact⟨ret_bool (by rw [validOp_yes HC.out (by rw [HL.out,show nx_d5=q by omega];exact HA.out),HL.out];simp;omega),hB⟩
theorem sIsValidOperator_c (csx:List Value) (x:OperatorD) (w:World) (hx:(rOperator NB).rep w csx x) :
  Calls Tryz.prog 178 #[.agg csx.toArray] w fun e w'=>e=.returned (.bool (validOp x))/\Below w.heap.size w w':=by
 have rx:=hx;obtain⟨Ax_d5,nx_d5,cx_d5,rfl,hx_g1,hx_t3,hx_w3,hx_u3,hx_v3,hx_d5⟩:=rOperator_rep.1 hx;clear hx;obtain⟨hB,bxx⟩:=op1 w [.int .i64 x.fFixed,.int .i64 x.fPerLeft,.int .i64 x.fPerRight,.int .i64 x.fPerOutput,.int .i64 x.fPerPair,.slice Ax_d5 nx_d5 cx_d5] 44;have hnS:=hx_d5.bound;have HL:=Lib.hid hx_d5.len;have kx_0:=bxx 0 _ rfl;have kx_1:=bxx 1 _ rfl;have kx_2:=bxx 2 _ rfl;have kx_3:=bxx 3 _ rfl;have kx_4:=bxx 4 _ rfl;have kx_5:=bxx 5 _ rfl
 go_enter Tryz.func178,Tryz.ntmps178
 cases c0:coef x.fFixed
 ·have C0:=Lib.hid (fun W=>sCoef_v c0 W)
  have D0:=Lib.hid c0;clear c0
  go_wp2_with (first|(go_at_call_of 228 (Value.int IntKind.i64 x.fFixed);refine(C0.out _).mono ?_;rintro e w' ⟨rfl,rfl⟩))
  go_ret;exact⟨ret_bool (a:=false) (validOp_coef (k:=0) (by rfl) D0.out).symm,hB⟩
 have C0:=Lib.hid (fun W=>sCoef_v c0 W);have D0:=Lib.hid c0;clear c0;cases c1:coef x.fPerLeft
 ·have C1:=Lib.hid (fun W=>sCoef_v c1 W)
  have D1:=Lib.hid c1;clear c1
  go_wp2_with (first|(go_at_call_of 228 (Value.int IntKind.i64 x.fFixed);refine(C0.out _).mono ?_;rintro e w' ⟨rfl,rfl⟩)|(go_at_call_of 228 (Value.int IntKind.i64 x.fPerLeft);refine(C1.out _).mono ?_;rintro e w' ⟨rfl,rfl⟩))
  go_ret;exact⟨ret_bool (a:=false) (validOp_coef (k:=1) (by rfl) D1.out).symm,hB⟩
 have C1:=Lib.hid (fun W=>sCoef_v c1 W);have D1:=Lib.hid c1;clear c1;cases c2:coef x.fPerRight
 ·have C2:=Lib.hid (fun W=>sCoef_v c2 W)
  have D2:=Lib.hid c2;clear c2
  go_wp2_with (first|(go_at_call_of 228 (Value.int IntKind.i64 x.fFixed);refine(C0.out _).mono ?_;rintro e w' ⟨rfl,rfl⟩)|(go_at_call_of 228 (Value.int IntKind.i64 x.fPerLeft);refine(C1.out _).mono ?_;rintro e w' ⟨rfl,rfl⟩)|(go_at_call_of 228 (Value.int IntKind.i64 x.fPerRight);refine(C2.out _).mono ?_;rintro e w' ⟨rfl,rfl⟩))
  go_ret;exact⟨ret_bool (a:=false) (validOp_coef (k:=2) (by rfl) D2.out).symm,hB⟩
 have C2:=Lib.hid (fun W=>sCoef_v c2 W);have D2:=Lib.hid c2;clear c2;cases c3:coef x.fPerOutput
 ·have C3:=Lib.hid (fun W=>sCoef_v c3 W)
  have D3:=Lib.hid c3;clear c3
  go_wp2_with (first|(go_at_call_of 228 (Value.int IntKind.i64 x.fFixed);refine(C0.out _).mono ?_;rintro e w' ⟨rfl,rfl⟩)|(go_at_call_of 228 (Value.int IntKind.i64 x.fPerLeft);refine(C1.out _).mono ?_;rintro e w' ⟨rfl,rfl⟩)|(go_at_call_of 228 (Value.int IntKind.i64 x.fPerRight);refine(C2.out _).mono ?_;rintro e w' ⟨rfl,rfl⟩)|(go_at_call_of 228 (Value.int IntKind.i64 x.fPerOutput);refine(C3.out _).mono ?_;rintro e w' ⟨rfl,rfl⟩))
  go_ret;exact⟨ret_bool (a:=false) (validOp_coef (k:=3) (by rfl) D3.out).symm,hB⟩
 have C3:=Lib.hid (fun W=>sCoef_v c3 W);have D3:=Lib.hid c3;clear c3;cases c4:coef x.fPerPair
 ·have C4:=Lib.hid (fun W=>sCoef_v c4 W)
  have D4:=Lib.hid c4;clear c4
  go_wp2_with (first|(go_at_call_of 228 (Value.int IntKind.i64 x.fFixed);refine(C0.out _).mono ?_;rintro e w' ⟨rfl,rfl⟩)|(go_at_call_of 228 (Value.int IntKind.i64 x.fPerLeft);refine(C1.out _).mono ?_;rintro e w' ⟨rfl,rfl⟩)|(go_at_call_of 228 (Value.int IntKind.i64 x.fPerRight);refine(C2.out _).mono ?_;rintro e w' ⟨rfl,rfl⟩)|(go_at_call_of 228 (Value.int IntKind.i64 x.fPerOutput);refine(C3.out _).mono ?_;rintro e w' ⟨rfl,rfl⟩)|(go_at_call_of 228 (Value.int IntKind.i64 x.fPerPair);refine(C4.out _).mono ?_;rintro e w' ⟨rfl,rfl⟩))
  go_ret;exact⟨ret_bool (a:=false) (validOp_coef (k:=4) (by rfl) D4.out).symm,hB⟩
 have C4:=Lib.hid (fun W=>sCoef_v c4 W);have D4:=Lib.hid c4;clear c4;have HC:Hid ((coefs x).all coef=true):=by show(coefs x).all coef=true;simp [coefs,D0.out,D1.out,D2.out,D3.out,D4.out]
 by_cases h4:4<nx_d5
 ·have h4':(4:Int)<(nx_d5:Int):=by omega
  go_wp2_with (first|(go_at_call_of 228 (Value.int IntKind.i64 x.fFixed);refine(C0.out _).mono ?_;rintro e w' ⟨rfl,rfl⟩)|(go_at_call_of 228 (Value.int IntKind.i64 x.fPerLeft);refine(C1.out _).mono ?_;rintro e w' ⟨rfl,rfl⟩)|(go_at_call_of 228 (Value.int IntKind.i64 x.fPerRight);refine(C2.out _).mono ?_;rintro e w' ⟨rfl,rfl⟩)|(go_at_call_of 228 (Value.int IntKind.i64 x.fPerOutput);refine(C3.out _).mono ?_;rintro e w' ⟨rfl,rfl⟩)|(go_at_call_of 228 (Value.int IntKind.i64 x.fPerPair);refine(C4.out _).mono ?_;rintro e w' ⟨rfl,rfl⟩))
  go_ret;exact⟨ret_bool (a:=false) (by symm;simp only [validOp,HL.out];rw [decide_eq_false (by omega)];simp),hB⟩
 have h4':¬ (4:Int)<(nx_d5:Int):=by omega
 go_wp2_with (first|(go_at_call_of 228 (Value.int IntKind.i64 x.fFixed);refine(C0.out _).mono ?_;rintro e w' ⟨rfl,rfl⟩)|(go_at_call_of 228 (Value.int IntKind.i64 x.fPerLeft);refine(C1.out _).mono ?_;rintro e w' ⟨rfl,rfl⟩)|(go_at_call_of 228 (Value.int IntKind.i64 x.fPerRight);refine(C2.out _).mono ?_;rintro e w' ⟨rfl,rfl⟩)|(go_at_call_of 228 (Value.int IntKind.i64 x.fPerOutput);refine(C3.out _).mono ?_;rintro e w' ⟨rfl,rfl⟩)|(go_at_call_of 228 (Value.int IntKind.i64 x.fPerPair);refine(C4.out _).mono ?_;rintro e w' ⟨rfl,rfl⟩))
 clear C0 C1 C2 C3 C4 D0 D1 D2 D3 D4
 go_loopw [3] (fun i wr=>∃ q:Nat,q<=nx_d5/\i=.int .i64 q/\(List.range q).all (stepOk x.fSteps)=true/\Below w.heap.size w wr/\Bx wr w.heap.size [.int .i64 x.fFixed,.int .i64 x.fPerLeft,.int .i64 x.fPerRight,.int .i64 x.fPerOutput,.int .i64 x.fPerPair,.slice Ax_d5 nx_d5 cx_d5]) (fun i _=>nx_d5 - (intOf i).toNat)
 case atStart=>exact⟨0,Nat.zero_le _,rfl,rfl,hB,bxx⟩
 case round =>
  clear hB bxx kx_0 kx_1 kx_2 kx_3 kx_4 kx_5;obtain⟨q,hq,rfl,hall,hB,bxx⟩:=hrel;have HA:=Lib.hid hall;clear hall;have kx_5:=bxx 5 _ rfl;by_cases hlt2:q<nx_d5
  ·obtain⟨b,off,s,rfl,hc0,hc1,hI0,hI1,hs⟩:=(hx_d5.below (rCostStep_ok NB) hB).eCostStep hlt2
   have hqL:q<x.fSteps.length:=by rw [HL.out];exact hlt2
   have Hs:=Lib.hid hs.out;clear hs;have qI:(q:Int)<(nx_d5:Int):=by omega
   have q0:(0:Int)<=(q:Int):=by omega
   cases g2:inR s.fFrom 1 8192
   ·have K2:=Lib.hid (fun W=>l1In_v g2 W)
    have G2:=Lib.hid g2;clear g2;go_wp2
    go_quiet ((go_at_call_of 51 (Value.int IntKind.i64 s.fFrom);exact Calls.quiet_of_same (K2.out _)))
    go_wp2;go_ret;exact⟨ret_bool (a:=false) (validOp_step (stepOk_from Hs.out G2.out) hqL).symm,below_drewN hB _⟩
   have K2:=Lib.hid (fun W=>l1In_v g2 W);have G2:=Lib.hid g2;clear g2;cases g1:coef s.fAdd
   ·have K1:=Lib.hid (fun W=>sCoef_v g1 W)
    have G1:=Lib.hid g1;clear g1;go_wp2
    go_quiet ((first|(go_at_call_of 228 (Value.int IntKind.i64 s.fAdd);exact Calls.quiet_of_same (K1.out _))|(go_at_call_of 51 (Value.int IntKind.i64 s.fFrom);exact Calls.quiet_of_same (K2.out _))))
    go_wp2;go_ret;exact⟨ret_bool (a:=false) (validOp_step (stepOk_add Hs.out G1.out) hqL).symm,below_drewN hB _⟩
   have K1:=Lib.hid (fun W=>sCoef_v g1 W);have G1:=Lib.hid g1;clear g1;by_cases hq0:0<q
   ·have dq:decide ((0:Int)<(q:Int))=true:=by simp;omega
    have dq':decide (0<q)=true:=by simp;omega
    have hq1:q - 1<nx_d5:=by omega
    obtain⟨b2,off2,p,e2,hp0,hp1,hJ0,hJ1,hp⟩:=(hx_d5.below (rCostStep_ok NB) hB).eCostStep hq1;injection e2 with e2;injection e2 with e2 e3;subst e2;subst e3;have HP:=Lib.hid (stepOk_next Hs.out hp.out hq0 G1.out G2.out);clear hp;by_cases hpp:p.fFrom<s.fFrom
    ·have HS:=Lib.hid (HP.out.trans (decide_eq_true hpp))
     have dp:decide (s.fFrom<=p.fFrom)=false:=by simp;omega
     go_wp2;have m1:IntKind.i64.wrap ((q:Int) - 1)=(q:Int) - 1:=IntWalk.i64_in _ (by omega);have m2:0<=(q:Int) - 1:=by omega
     have m3:(q:Int) - 1<(nx_d5:Int):=by omega
     have m4:((q:Int) - 1).toNat=q - 1:=by omega
     go_quiet ((first|(go_at_call_of 228 (Value.int IntKind.i64 s.fAdd);exact Calls.quiet_of_same (K1.out _))|(go_at_call_of 51 (Value.int IntKind.i64 s.fFrom);exact Calls.quiet_of_same (K2.out _))))
     clear m1 m4;go_wp2;go_roundw
     case rel=>exact⟨q+1,by omega,by go_num,rangeAll_snoc HA.out HS.out,below_drewN hB _,bxx.below (below_drewN (Below.refl _ _) _)⟩
     case measure=>simp [intOf];omega
    ·have HS:=Lib.hid (HP.out.trans (decide_eq_false hpp))
     have dp:decide (s.fFrom<=p.fFrom)=true:=by simp;omega
     go_wp2;have m1:IntKind.i64.wrap ((q:Int) - 1)=(q:Int) - 1:=IntWalk.i64_in _ (by omega);have m2:0<=(q:Int) - 1:=by omega
     have m3:(q:Int) - 1<(nx_d5:Int):=by omega
     have m4:((q:Int) - 1).toNat=q - 1:=by omega
     go_quiet ((first|(go_at_call_of 228 (Value.int IntKind.i64 s.fAdd);exact Calls.quiet_of_same (K1.out _))|(go_at_call_of 51 (Value.int IntKind.i64 s.fFrom);exact Calls.quiet_of_same (K2.out _))))
     clear m1 m4;go_wp2;go_ret;exact⟨ret_bool (a:=false) (validOp_step HS.out hqL).symm,below_drewN hB _⟩
   ·have dq:decide ((0:Int)<(q:Int))=false:=by simp;omega
    have dq':decide (0<q)=false:=by simp;omega
    have HS:=Lib.hid (stepOk_first' Hs.out hq0 G1.out G2.out);go_wp2
    go_quiet ((first|(go_at_call_of 228 (Value.int IntKind.i64 s.fAdd);exact Calls.quiet_of_same (K1.out _))|(go_at_call_of 51 (Value.int IntKind.i64 s.fFrom);exact Calls.quiet_of_same (K2.out _))))
    go_wp2;go_roundw
    case rel=>exact⟨q+1,by omega,by go_num,rangeAll_snoc HA.out HS.out,below_drewN hB _,bxx.below (below_drewN (Below.refl _ _) _)⟩
    case measure=>simp [intOf];omega
  ·go_wp2
   go_ret;exact⟨ret_bool (a:=true) (by rw [validOp_yes HC.out (by rw [HL.out,show nx_d5=q by omega];exact HA.out),HL.out];simp;omega),hB⟩
def CostB (x:OperatorD) (l r t:Int):Prop:=(-405504<=x.fPerLeft*l/\x.fPerLeft*l<=405504)/\(-405504<=x.fPerRight*r/\x.fPerRight*r<=405504)/\(-405504<=x.fPerOutput*t/\x.fPerOutput*t<=405504)/\(-405504<=x.fPerPair*l/\x.fPerPair*l<=405504)/\(-1660944384<=x.fPerPair*l*r/\x.fPerPair*l*r<=1660944384)/\(-99<=x.fFixed/\x.fFixed<=99)
theorem costB {x:OperatorD}{l r t:Int}(h:validOp x=true) (hl:0<=l/\l<=4096) (hr:0<=r/\r<=4096) (ht:0<=t/\t<=4096):CostB x l r t:=by
 obtain⟨⟨a1,a2,a3,a4,a5⟩,hn,hs⟩:=validOp_parts h;have p4:=mul99 a5.1 a5.2 hl.1 hl.2;exact⟨mul99 a2.1 a2.2 hl.1 hl.2,mul99 a3.1 a3.2 hr.1 hr.2,mul99 a4.1 a4.2 ht.1 ht.2,p4,mulC p4.1 p4.2 hr.1 hr.2,a1⟩
theorem stepSum_take {x:OperatorD}(h:validOp x=true) (n:Int) (k:Nat):-396<=stepSum n (x.fSteps.take k)/\stepSum n (x.fSteps.take k)<=396:=by
 obtain⟨_,hn,hs⟩:=validOp_parts h;have q:=stepSum_bd (n:=n) (l:=x.fSteps.take k) fun s hs'=>⟨(hs s (List.mem_of_mem_take hs')).1,(hs s (List.mem_of_mem_take hs')).2.1⟩;have:(x.fSteps.take k).length<=4:=by rw [List.length_take];omega
 omega
theorem iOpCost_c (csx:List Value) (x:OperatorD) (l:Int) (r:Int) (t:Int) (w:World) (hx:(rOperator NB).rep w csx x) (hv:validOp x=true) (hl:0<=l/\l<=4096) (hr:0<=r/\r<=4096) (ht:0<=t/\t<=4096) :
  Calls Tryz.prog 235 #[.agg csx.toArray,.int .i64 l,.int .i64 r,.int .i64 t] w fun e w'=>e=.returned (.int .i64 (opCost x l r t))/\Below w.heap.size w w':=by
 have rx:=hx;obtain⟨Ax_d5,nx_d5,cx_d5,rfl,hx_g1,hx_t3,hx_w3,hx_u3,hx_v3,hx_d5⟩:=rOperator_rep.1 hx;clear hx;obtain⟨hB,bxx⟩:=op1 w [.int .i64 x.fFixed,.int .i64 x.fPerLeft,.int .i64 x.fPerRight,.int .i64 x.fPerOutput,.int .i64 x.fPerPair,.slice Ax_d5 nx_d5 cx_d5] 44;have hnS:=hx_d5.bound;have HL:=Lib.hid hx_d5.len;obtain⟨⟨b1,b1'⟩,⟨b2,b2'⟩,⟨b3,b3'⟩,⟨b4,b4'⟩,⟨b5,b5'⟩,b6,b6'⟩:=costB hv hl hr ht;obtain⟨hl0,hl1⟩:=hl;obtain⟨hr0,hr1⟩:=hr;obtain⟨ht0,ht1⟩:=ht;have HV:=Lib.hid hv;clear hv;have kx_0:=bxx 0 _ rfl;have kx_1:=bxx 1 _ rfl;have kx_2:=bxx 2 _ rfl;have kx_3:=bxx 3 _ rfl;have kx_4:=bxx 4 _ rfl;have kx_5:=bxx 5 _ rfl
 go_enter Tryz.func235,Tryz.ntmps235
 go_wp2;have hbb:-2000000000<=opBase x l r t/\opBase x l r t<=2000000000:=by unfold opBase;omega
 have HBB:Hid (x.fFixed+x.fPerLeft*l+x.fPerRight*r+x.fPerOutput*t+x.fPerPair*l*r=opBase x l r t):=Lib.hid rfl
 go_loopw [9,39] (fun c i wr=>∃ (k:Nat) (m:Int),k<=nx_d5/\i=.int .i64 k/\c=.int .i64 m/\m=opBase x l r t+stepSum (l+r) (x.fSteps.take k)/\Below w.heap.size w wr) (fun _ i _=>nx_d5 - (intOf i).toNat)
 case atStart=>exact⟨0,_,Nat.zero_le _,rfl,rfl,by rw [<- HBB.out];simp [stepSum],hB⟩
 case round =>
  clear hB bxx kx_0 kx_1 kx_2 kx_3 kx_4 kx_5;obtain⟨k,m,hk,rfl,rfl,hm,hB⟩:=hrel;have hsb:=stepSum_take HV.out (l+r) k;have hmb:-2000000396<=m/\m<=2000000396:=by omega
  have HM:=Lib.hid hm;clear hm hsb;by_cases hlt:k<nx_d5
  ·obtain⟨b,off,s,rfl,hc0,hc1,hI0,hI1,hs⟩:=(hx_d5.below (rCostStep_ok NB) hB).eCostStep hlt
   have hsv:=(validOp_parts HV.out).2.2 s (mem_of_at hs.out);have HN:=Lib.hid (stepSum_snoc (n:=l+r) hs.out);clear hs;by_cases hcc:s.fFrom<=l+r
   ·go_wp2
    go_roundw
    case rel=>exact⟨k+1,m+s.fAdd,by omega,by go_num,rfl,by rw [HN.out,HM.out,stepAdd,if_pos hcc];omega,hB.alloc hB.size _⟩
    case measure=>simp [intOf];omega
   ·go_wp2
    go_roundw
    case rel=>exact⟨k+1,m,by omega,by go_num,rfl,by rw [HN.out,HM.out,stepAdd,if_neg hcc];omega,hB.alloc hB.size _⟩
    case measure=>simp [intOf];omega
  ·go_wp2
   go_ret;exact⟨ret_int (by rw [HM.out,take_all HL.out hlt];rfl),hB⟩
theorem sOpCost_c (csx:List Value) (x:OperatorD) (l:Int) (r:Int) (t:Int) (w:World) (hx:(rOperator NB).rep w csx x) :
  Calls Tryz.prog 127 #[.agg csx.toArray,.int .i64 l,.int .i64 r,.int .i64 t] w fun e w'=>e=.returned (.int .i64 (opCostV x l r t))/\Below w.heap.size w w':=by
 have rx:=hx;obtain⟨Ax_d5,nx_d5,cx_d5,rfl,hx_g1,hx_t3,hx_w3,hx_u3,hx_v3,hx_d5⟩:=rOperator_rep.1 hx;clear hx;obtain⟨hB,bxx⟩:=op1 w [.int .i64 x.fFixed,.int .i64 x.fPerLeft,.int .i64 x.fPerRight,.int .i64 x.fPerOutput,.int .i64 x.fPerPair,.slice Ax_d5 nx_d5 cx_d5] 44;have hnS:=hx_d5.bound;have HL:=Lib.hid hx_d5.len
 go_enter Tryz.func127,Tryz.ntmps127
 go_wp2_with fail
 refine(sIsValidOperator_c _ x _ ((rOperator_ok NB).keep rx (cells_below hB))).mono ?_;rintro e w1 ⟨rfl,hb1⟩;replace hB:=hB.trans (hb1.mono hB.size);replace bxx:=bxx.below hb1;clear hb1;cases hv:validOp x
 ·go_wp2
  go_ret;exact⟨ret_int (a:=0) (by simp [opCostV,hv]),hB⟩
 cases hl:inR l 0 4096
 ·go_wp2_with (go_at_call 51;refine(l1In_v hl _).mono ?_;rintro e w' ⟨rfl,rfl⟩)
  go_ret;exact⟨ret_int (a:=0) (by simp [opCostV,hl]),hB⟩
 have K1:=Lib.hid (fun W=>l1In_v hl W);cases hr:inR r 0 4096
 ·have K2:=Lib.hid (fun W=>l1In_v hr W)
  have HR:=Lib.hid hr;clear hr;have HLL:=Lib.hid hl;clear hl
  go_wp2_with (first|(go_at_call_of 51 (Value.int IntKind.i64 l);refine(K1.out _).mono ?_;rintro e w' ⟨rfl,rfl⟩)|(go_at_call_of 51 (Value.int IntKind.i64 r);refine(K2.out _).mono ?_;rintro e w' ⟨rfl,rfl⟩))
  go_ret;exact⟨ret_int (a:=0) (by simp [opCostV,HR.out]),hB⟩
 have K2:=Lib.hid (fun W=>l1In_v hr W);cases ht:inR t 0 4096
 ·have K3:=Lib.hid (fun W=>l1In_v ht W)
  have HR:=Lib.hid hr;clear hr;have HT:=Lib.hid ht;clear ht;have HLL:=Lib.hid hl;clear hl
  go_wp2_with (first|(go_at_call_of 51 (Value.int IntKind.i64 l);refine(K1.out _).mono ?_;rintro e w' ⟨rfl,rfl⟩)|(go_at_call_of 51 (Value.int IntKind.i64 r);refine(K2.out _).mono ?_;rintro e w' ⟨rfl,rfl⟩)|(go_at_call_of 51 (Value.int IntKind.i64 t);refine(K3.out _).mono ?_;rintro e w' ⟨rfl,rfl⟩))
  go_ret;exact⟨ret_int (a:=0) (by simp [opCostV,HT.out]),hB⟩
 have K3:=Lib.hid (fun W=>l1In_v ht W);have HF:Hid (opCostV x l r t=opCost x l r t):=by show opCostV x l r t=_;simp [opCostV,hv,hl,hr,ht]
 obtain⟨⟨b1,b1'⟩,⟨b2,b2'⟩,⟨b3,b3'⟩,⟨b4,b4'⟩,⟨b5,b5'⟩,b6,b6'⟩:=costB hv (inR_t.1 hl) (inR_t.1 hr) (inR_t.1 ht);have HV:=Lib.hid hv;clear hv;obtain⟨hl0,hl1⟩:=inR_t.1 hl;obtain⟨hr0,hr1⟩:=inR_t.1 hr;obtain⟨ht0,ht1⟩:=inR_t.1 ht;clear hl hr ht;have kx_0:=bxx 0 _ rfl;have kx_1:=bxx 1 _ rfl;have kx_2:=bxx 2 _ rfl;have kx_3:=bxx 3 _ rfl;have kx_4:=bxx 4 _ rfl;have kx_5:=bxx 5 _ rfl
 go_wp2_with (first|(go_at_call_of 51 (Value.int IntKind.i64 l);refine(K1.out _).mono ?_;rintro e w' ⟨rfl,rfl⟩)|(go_at_call_of 51 (Value.int IntKind.i64 r);refine(K2.out _).mono ?_;rintro e w' ⟨rfl,rfl⟩)|(go_at_call_of 51 (Value.int IntKind.i64 t);refine(K3.out _).mono ?_;rintro e w' ⟨rfl,rfl⟩))
 have hbb:-2000000000<=opBase x l r t/\opBase x l r t<=2000000000:=by unfold opBase;omega
 have HBB:Hid (x.fFixed+x.fPerLeft*l+x.fPerRight*r+x.fPerOutput*t+x.fPerPair*l*r=opBase x l r t):=Lib.hid rfl
 go_loop [9,10] (fun c i=>∃ (k:Nat) (m:Int),k<=nx_d5/\i=.int .i64 k/\c=.int .i64 m/\m=opBase x l r t+stepSum (l+r) (x.fSteps.take k)) (fun _ i=>nx_d5 - (intOf i).toNat)
 case atStart=>exact⟨0,_,Nat.zero_le _,rfl,rfl,by rw [<- HBB.out];simp [stepSum]⟩
 case round =>
  obtain⟨k,m,hk,rfl,rfl,hm⟩:=hrel;have hsb:=stepSum_take HV.out (l+r) k;have hmb:-2000000396<=m/\m<=2000000396:=by omega
  have HM:=Lib.hid hm;clear hm hsb;by_cases hlt:k<nx_d5
  ·obtain⟨b,off,s,rfl,hc0,hc1,hI0,hI1,hs⟩:=(hx_d5.below (rCostStep_ok NB) hB).eCostStep hlt
   have hsv:=(validOp_parts HV.out).2.2 s (mem_of_at hs.out);have HN:=Lib.hid (stepSum_snoc (n:=l+r) hs.out);clear hs;by_cases hcc:s.fFrom<=l+r
   ·go_wp2
    go_round
    case rel=>exact⟨k+1,m+s.fAdd,by omega,by go_num,rfl,by rw [HN.out,HM.out,stepAdd,if_pos hcc];omega⟩
    case measure=>simp [intOf];omega
   ·go_wp2
    go_round
    case rel=>exact⟨k+1,m,by omega,by go_num,rfl,by rw [HN.out,HM.out,stepAdd,if_neg hcc];omega⟩
    case measure=>simp [intOf];omega
  ·go_wp2
   go_ret;exact⟨ret_int (by rw [HF.out,HM.out,take_all HL.out hlt];rfl),hB⟩
theorem iOperatorCost_c (csx:List Value) (x:OperatorD) (l:Int) (r:Int) (t:Int) (w:World) (hx:(rOperator NB).rep w csx x) :
  Calls Tryz.prog 247 #[.agg csx.toArray,.int .i64 l,.int .i64 r,.int .i64 t] w fun e w'=>e=.returned (.int .i64 (opCostV x l r t))/\Below w.heap.size w w':=by
 have rx:=hx;obtain⟨Ax_d5,nx_d5,cx_d5,rfl,hx_g1,hx_t3,hx_w3,hx_u3,hx_v3,hx_d5⟩:=rOperator_rep.1 hx;clear hx;obtain⟨hB,bxx⟩:=op1 w [.int .i64 x.fFixed,.int .i64 x.fPerLeft,.int .i64 x.fPerRight,.int .i64 x.fPerOutput,.int .i64 x.fPerPair,.slice Ax_d5 nx_d5 cx_d5] 44
 go_enter Tryz.func247,Tryz.ntmps247
 go_wp2_with fail
 refine(iIsValidOperator_c _ x _ ((rOperator_ok NB).keep rx (cells_below hB))).mono ?_;rintro e w1 ⟨rfl,hb1⟩;replace hB:=hB.trans (hb1.mono hB.size);replace bxx:=bxx.below hb1;clear hb1;cases hv:validOp x
 ·go_wp2
  go_ret;exact⟨ret_int (a:=0) (by simp [opCostV,hv]),hB⟩
 have HV:=Lib.hid hv;clear hv;cases hl:inR l 0 4096
 ·go_wp2_with (go_at_call 89;refine(within_v hl _).mono ?_;rintro e w' ⟨rfl,rfl⟩)
  go_ret;exact⟨ret_int (a:=0) (by simp [opCostV,hl]),hB⟩
 have K1:=Lib.hid (fun W=>within_v hl W);have HLL:=Lib.hid hl;clear hl;cases hr:inR r 0 4096
 ·have K2:=Lib.hid (fun W=>within_v hr W)
  have HR:=Lib.hid hr;clear hr
  go_wp2_with (first|(go_at_call_of 89 (Value.int IntKind.i64 l);refine(K1.out _).mono ?_;rintro e w' ⟨rfl,rfl⟩)|(go_at_call_of 89 (Value.int IntKind.i64 r);refine(K2.out _).mono ?_;rintro e w' ⟨rfl,rfl⟩))
  go_ret;exact⟨ret_int (a:=0) (by simp [opCostV,HR.out]),hB⟩
 have K2:=Lib.hid (fun W=>within_v hr W);have HR:=Lib.hid hr;clear hr;cases ht:inR t 0 4096
 ·have K3:=Lib.hid (fun W=>within_v ht W)
  have HT:=Lib.hid ht;clear ht
  go_wp2_with (first|(go_at_call_of 89 (Value.int IntKind.i64 l);refine(K1.out _).mono ?_;rintro e w' ⟨rfl,rfl⟩)|(go_at_call_of 89 (Value.int IntKind.i64 r);refine(K2.out _).mono ?_;rintro e w' ⟨rfl,rfl⟩)|(go_at_call_of 89 (Value.int IntKind.i64 t);refine(K3.out _).mono ?_;rintro e w' ⟨rfl,rfl⟩))
  go_ret;exact⟨ret_int (a:=0) (by simp [opCostV,HT.out]),hB⟩
 have K3:=Lib.hid (fun W=>within_v ht W);have HT:=Lib.hid ht;clear ht;have kx_0:=bxx 0 _ rfl;have kx_1:=bxx 1 _ rfl;have kx_2:=bxx 2 _ rfl;have kx_3:=bxx 3 _ rfl;have kx_4:=bxx 4 _ rfl;have kx_5:=bxx 5 _ rfl
 go_wp2_with (first|(go_at_call_of 89 (Value.int IntKind.i64 l);refine(K1.out _).mono ?_;rintro e w' ⟨rfl,rfl⟩)|(go_at_call_of 89 (Value.int IntKind.i64 r);refine(K2.out _).mono ?_;rintro e w' ⟨rfl,rfl⟩)|(go_at_call_of 89 (Value.int IntKind.i64 t);refine(K3.out _).mono ?_;rintro e w' ⟨rfl,rfl⟩))
 refine(iOpCost_c _ x l r t _ ((rOperator_ok NB).keep rx (cells_below hB)) HV.out (inR_t.1 HLL.out) (inR_t.1 HR.out) (inR_t.1 HT.out)).mono ?_;rintro e w2 ⟨rfl,hb2⟩;replace hB:=hB.trans (hb2.mono hB.size);replace bxx:=bxx.below hb2;clear hb2 kx_0 kx_1 kx_2 kx_3 kx_4 kx_5;go_wp2;go_ret;exact⟨ret_int (by simp [opCostV,HV.out,HLL.out,HR.out,HT.out]),hB⟩
end Go.Proofs.YtnlcfkpcmfljeaaGreat
