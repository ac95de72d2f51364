/-
  JnS
-/
import Derived.Deep.RegionHeld3
import Derived.Test.YtnlcfkpcmfljeaaGreatQf
set_option linter.unusedSimpArgs false
set_option linter.unusedVariables false
set_option maxHeartbeats 1600000
set_option maxRecDepth 100000
namespace Go.Proofs.YtnlcfkpcmfljeaaGreat
open Go.RowKit
def listV (m:Int) (k:Nat):List Int:=((List.range k).filter (fun i=>mbit m i)).map Int.ofNat
theorem listV_yes {m:Int}{k:Nat}(h:mbit m k=true):listV m (k+1)=listV m k++[(k:Int)]:=by unfold listV;rw [List.range_succ,List.filter_append];simp [h]
theorem listV_no {m:Int}{k:Nat}(h:mbit m k=false):listV m (k+1)=listV m k:=by unfold listV;rw [List.range_succ,List.filter_append];simp [h]
theorem listV_len (m:Int) (k:Nat):(listV m k).length<=k:=by unfold listV;rw [List.length_map];exact Nat.le_trans (List.length_filter_le _ _) (by simp)
theorem listV_mem {m:Int}{k:Nat}{x:Int}:x∈listV m k↔0<=x/\x<k/\mbit m x.toNat=true:=by
 unfold listV;rw [List.mem_map];constructor
 ·rintro⟨i,hi,rfl⟩
  rw [List.mem_filter,List.mem_range]at hi;exact⟨by simp,by simpa using hi.1,by simpa using hi.2⟩
 ·rintro⟨h0,h1,h2⟩
  exact⟨x.toNat,by rw [List.mem_filter,List.mem_range];exact⟨by omega,h2⟩,by simp;omega⟩
theorem listV_pw (m:Int) (k:Nat):(listV m k).Pairwise (·<·):=by
 unfold listV;refine List.Pairwise.map Int.ofNat (fun a b h=>by simpa using h) (List.Pairwise.filter _ ?_);exact List.pairwise_lt_range
theorem sL7List_c (m:Int) (w:World) (h0:0<=m) (h1:m<65536):Calls Tryz.prog 231 #[.int .i64 m] w (RetS 3 rInt (listV m 4) w):=by
 have hM0:=MS.empty (B:=w.heap.size) (M:=NB) (e:=3) (r:=rInt) w (Nat.le_refl _);have hA0:=(Below.refl w.heap.size w).alloc (Nat.le_refl _) (.cells #[] 3)
 go_enter Tryz.func231,Tryz.ntmps231
 go_wp2
 go_loopw [3,4] (fun o i wr=>∃ (k n c:Nat) (A:Option Addr),k<=4/\n<=k/\i=.int .i64 k/\o=.slice A n c/\MS w.heap.size NB 3 rInt wr A n c (listV m k)/\Below w.heap.size w wr) (fun _ i _=>4 - (intOf i).toNat)
 case atStart=>exact⟨0,0,0,_,by omega,by omega,rfl,rfl,hM0,hA0⟩
 case round =>
  clear hM0 hA0;obtain⟨k,n,c,A,hk,hn,rfl,rfl,hM,hE⟩:=hrel;have hz:=hE.size;by_cases hlt:k<4
  ·have hk16:(k:Int)<=15:=by omega
   have hlt':(k:Int)<4:=by omega
   cases hb:mbit m k
   ·have hbt:=mbit_test h0 h1 hb
    have HB:=Lib.hid (listV_no hb);clear hb;go_wp2;go_roundw
    case rel=>exact⟨k+1,n,c,A,by omega,by omega,by go_num,rfl,by rw [HB.out];exact hM,hE⟩
    case measure=>simp [intOf];omega
   ·have hbt:=mbit_test h0 h1 hb
    have HB:=Lib.hid (listV_yes hb);clear hb
    go_wp2_with (at_builtin;refine wpList_app (r:=rInt) rfl _ _ 30 rfl _ 8 eiInt rInt_ok rfl hM (bal) hz ⟨_,0,none⟩ rfl [] [.int .i64 (k:Int)] (k:Int) ⟨rfl,rfl,by unfold I64;omega⟩ (Fr.nil _) (cell_one_new _ _ _) (by unfold NB;omega) (Nat.le_refl _) (by omega) ?_;intro A9 k9 w9 hM9 hb9 hg9)
    go_roundw
    case rel=>exact⟨k+1,n+1,k9,A9,by omega,by omega,by go_num,rfl,by rw [HB.out];exact hM9,(hE.alloc hE.size _).trans hb9⟩
    case measure=>simp [intOf];omega
  ·have hk4:k=4:=by omega
   subst hk4;go_wp2;go_ret;exact⟨_,_,_,rfl,hM,hE⟩
def maskOk (q:QueryD) (m:Int):Bool:=validQ q&&inR m 0 (pow2 (q.fAtoms.length:Int) - 1)
def maskVarsL (q:QueryD) (m:Int):List Int:=if maskOk q m then listV (bitsQ q.fAtoms m) 4 else []
theorem maskOk_bd {q:QueryD}{m:Int}(h:maskOk q m=true):validQ q=true/\0<=m/\m<16:=by
 unfold maskOk at h;simp only [Bool.and_eq_true]at h;have h2:=inR_t.1 h.2;have h3:=validQ_parts h.1
 have h4:pow2 (q.fAtoms.length:Int)<=16:=by
  have:(2:Nat) ^ q.fAtoms.length<=2 ^ 4:=Nat.pow_le_pow_right (by omega) (by omega);unfold pow2;rw [Int.toNat_natCast];omega
 exact⟨h.1,by omega,by omega⟩
theorem sL7Mask_c (csx:List Value) (x:QueryD) (m:Int) (w:World) (hx:(rQuery NB).rep w csx x) :
  Calls Tryz.prog 119 #[.agg csx.toArray,.int .i64 m] w fun e w'=>e=.returned (.bool (maskOk x m))/\Below w.heap.size w w':=by
 have rx:=hx;obtain⟨Ax_e,nx_e,cx_e,rfl,hx_p5,hx_e⟩:=rQuery_rep.1 hx;clear hx;obtain⟨hB,bxx⟩:=op1 w [.int .i64 x.fVariableCount,.slice Ax_e nx_e cx_e] 50;have hnA:=hx_e.bound;have HL:=Lib.hid hx_e.len
 go_enter Tryz.func119,Tryz.ntmps119
 go_wp2_with fail
 refine(sIsValidQuery_c _ x _ ((rQuery_ok NB).keep rx (cells_below hB))).mono ?_;rintro e w1 ⟨rfl,hb1⟩;replace hB:=hB.trans (hb1.mono hB.size);replace bxx:=bxx.below hb1;clear hb1;cases hv:validQ x
 ·have HM:Hid (maskOk x m=false):=by show _=_;simp [maskOk,hv]
  clear hv;go_wp2;go_ret;exact⟨ret_bool (a:=false) HM.out.symm,hB⟩
 ·have hp:=validQ_parts hv
  have hn4:nx_e<=4:=by have:=HL.out;omega
  have p1:=pow2_wrap (v:=(nx_e:Int)) (by omega) (by omega);have p2:=pow2_bd (v:=(nx_e:Int)) (by omega) (by omega);rw [Int.toNat_natCast]at p1;have HM:Hid (maskOk x m=inR m 0 (pow2 (nx_e:Int) - 1)):=by show _=_;simp [maskOk,hv,HL.out]
  clear hp hv;have kx_1:=bxx 1 _ rfl;have hn15:(nx_e:Int)<=15:=by omega
  have K:=Lib.hid (fun W=>l1In_q m 0 (pow2 (nx_e:Int) - 1) W)
  go_wp2_with (go_at_call 51;refine(K.out _).mono ?_;rintro e w' ⟨rfl,hww⟩;replace hww:=hww.symm;subst hww)
  go_ret;exact⟨ret_bool HM.out.symm,hB⟩
theorem sMaskVariables_c (csx:List Value) (x:QueryD) (m:Int) (w:World) (hx:(rQuery NB).rep w csx x) :
  Calls Tryz.prog 183 #[.agg csx.toArray,.int .i64 m] w (RetS 3 rInt (maskVarsL x m) w):=by
 have rx:=hx;obtain⟨Ax_e,nx_e,cx_e,rfl,hx_p5,hx_e⟩:=rQuery_rep.1 hx;clear hx;obtain⟨hB,bxx⟩:=op1 w [.int .i64 x.fVariableCount,.slice Ax_e nx_e cx_e] 50;have kx_0:=bxx 0 _ rfl;have kx_1:=bxx 1 _ rfl
 go_enter Tryz.func183,Tryz.ntmps183
 go_wp2_with fail
 refine(sL7Mask_c _ x m _ ((rQuery_ok NB).keep rx (cells_below hB))).mono ?_;rintro e w1 ⟨rfl,hb1⟩;replace hB:=hB.trans (hb1.mono hB.size);replace bxx:=bxx.below hb1;clear hb1 kx_0 kx_1;cases hv:maskOk x m
 ·have HM:Hid (maskVarsL x m=[]):=by show _=_;simp [maskVarsL,hv]
  clear hv;rename World=>wz;have hM0:=MS.empty (B:=wz.heap.size) (M:=NB) (e:=3) (r:=rInt) wz (Nat.le_refl _);go_wp2;go_ret;exact⟨_,_,_,rfl,by rw [HM.out];exact hM0.base hB.size,hB.alloc hB.size _⟩
 ·obtain⟨h1,h2,h3⟩:=maskOk_bd hv
  have HM:Hid (maskVarsL x m=listV (bitsQ x.fAtoms m) 4):=by show _=_;simp [maskVarsL,hv]
  clear hv;have hbd:=bitsQ_bd (m:=m) h1;have kx_0:=bxx 0 _ rfl;have kx_1:=bxx 1 _ rfl
  go_wp2_with fail
  refine(sL7Bits_c _ x m _ ((rQuery_ok NB).keep rx (cells_below hB)) h1 h2 (by omega)).mono ?_;rintro e w2 ⟨rfl,hb2⟩;replace hB:=hB.trans (hb2.mono hB.size);replace bxx:=bxx.below hb2;clear hb2 kx_0 kx_1
  go_wp2_with fail
  refine(sL7List_c _ _ hbd.1 (by omega)).mono ?_;rintro e w9 ⟨A,n,c,rfl,hM,hb⟩;go_wp2;go_ret;exact⟨_,_,_,rfl,by rw [HM.out];exact hM.base hB.size,hB.trans (hb.mono hB.size)⟩
def lowB (m:Int):Int:=andI m (16 - m)
def nearAt (l:List AtomD) (m:Int) (k:Nat):Bool:=!mbit m k&&decide (¬ andI (bitsQ l (pow2 (k:Int))) (bitsQ l m)=0)
def nearTo (l:List AtomD) (m:Int):Nat->Int
 | 0=>0
 | k+1=>if nearAt l m k then orI (nearTo l m k) (pow2 (k:Int)) else nearTo l m k
def nearQ (l:List AtomD) (m:Int):Int:=nearTo l m l.length
def bfs (l:List AtomD) (mask:Int):Nat->Int
 | 0=>lowB mask
 | n+1=>orI (bfs l mask n) (andI (nearQ l (bfs l mask n)) mask)
def joinedQ (l:List AtomD) (mask:Int):Bool:=decide (bfs l mask l.length=mask)
def isConn (q:QueryD) (m:Int):Bool:=maskOk q m&&(decide (0<m)&&joinedQ q.fAtoms m)
def splitOk (l:List AtomD) (mask m:Int):Bool:=decide (andI m mask=m)&&(joinedQ l m&&joinedQ l (mask - m))
def splitsTo (l:List AtomD) (mask:Int):Nat->List Int
 | 0=>[]
 | k+1=>if splitOk l mask ((k:Int)+1) then splitsTo l mask k++[(k:Int)+1] else splitsTo l mask k
def splits (q:QueryD) (mask:Int):List Int:=if isConn q mask then splitsTo q.fAtoms mask (mask.toNat - 1) else []
def sharedL (q:QueryD) (a b:Int):List Int:=(maskVarsL q a).filter (hasI (maskVarsL q b))
theorem splitsTo_mem {l:List AtomD}{mask x:Int}{k:Nat}:x∈splitsTo l mask k↔1<=x/\x<=k/\splitOk l mask x=true:=by
 induction k with
 | zero=>simp [splitsTo];omega
 | succ k ih =>
  unfold splitsTo;cases h:splitOk l mask ((k:Int)+1) with
  | true =>
   rw [if_pos rfl,List.mem_append,List.mem_singleton,ih];constructor
   ·rintro(⟨h1,h2,h3⟩|rfl)
    ·exact⟨h1,by omega,h3⟩
    ·exact⟨by omega,by omega,h⟩
   ·rintro⟨h1,h2,h3⟩
    by_cases e:x=(k:Int)+1
    ·exact .inr e
    ·exact .inl ⟨h1,by omega,h3⟩
  | false =>
   rw [if_neg (by decide),ih];constructor
   ·rintro⟨h1,h2,h3⟩;exact⟨h1,by omega,h3⟩
   ·rintro⟨h1,h2,h3⟩
    by_cases e:x=(k:Int)+1
    ·subst e;rw [h]at h3;cases h3
    ·exact⟨h1,by omega,h3⟩
theorem splitsTo_len (l:List AtomD) (mask:Int) (k:Nat):(splitsTo l mask k).length<=k:=by
 induction k with
 | zero=>simp [splitsTo]
 | succ k ih=>unfold splitsTo;split<;>(try simp)<;>omega
theorem mbit_nearTo (l:List AtomD) (m:Int) (n i:Nat):mbit (nearTo l m n) i=(decide (i<n)&&nearAt l m i):=by
 induction n with
 | zero=>simp [nearTo,mbit_zero]
 | succ n ih =>
  unfold nearTo;by_cases hi:i=n
  ·subst hi
   cases h:nearAt l m i with
   | true=>rw [if_pos rfl,mbit_or,mbit_pow];simp
   | false=>rw [if_neg (by decide),ih];simp
  ·have e:decide (i<n+1)=decide (i<n):=by rw [decide_eq_decide];omega
   cases h:nearAt l m n with
   | true=>rw [if_pos rfl,mbit_or,mbit_pow,ih,e];have:¬ n=i:=fun h=>hi h.symm;simp [this]
   | false=>rw [if_neg (by decide),ih,e]
theorem nearTo_bd {l:List AtomD}{m:Int}(h:l.length<=4) {n:Nat}(hn:n<=l.length):0<=nearTo l m n/\nearTo l m n<16:=by
 induction n with
 | zero=>simp [nearTo]
 | succ n ih =>
  have ih:=ih (by omega);unfold nearTo;split
  ·have h3:pow2 (n:Int)<16:=by
    have:(2:Nat) ^ n<=2 ^ 3:=Nat.pow_le_pow_right (by omega) (by omega);unfold pow2;rw [Int.toNat_natCast];omega
   exact orI_bd (n:=4) ih.1 ih.2 (by have:=pow2_pos (n:Int);omega) h3
  ·exact ih
theorem lowB_ok:∀ m:Fin 16,m.val≠0->∃ i:Fin 4,lowB (m.val:Int)=pow2 ((i.val:Nat):Int)/\mbit (m.val:Int) i.val=true:=by decide +kernel
theorem sub_bits:∀ m k:Fin 16,andI (k.val:Int) (m.val:Int)=(k.val:Int)->∀ i:Fin 4,mbit ((m.val:Int) - (k.val:Int)) i.val=(mbit (m.val:Int) i.val&&!mbit (k.val:Int) i.val):=by decide +kernel
theorem andI_bd {a b:Int}(h0:0<=a) (h1:a<16):0<=andI a b/\andI a b<16:=by
 unfold andI;have:=Nat.and_le_left (n:=a.toNat) (m:=b.toNat);omega
theorem bfs_bd {l:List AtomD}(h:l.length<=4) {mask:Int}(h0:0<=mask) (h1:mask<16) (n:Nat):0<=bfs l mask n/\bfs l mask n<16:=by
 induction n with
 | zero=>exact andI_bd h0 h1
 | succ n ih =>
  have hn:=nearTo_bd (l:=l) (m:=bfs l mask n) h (Nat.le_refl _);have ha:=andI_bd (b:=mask) hn.1 hn.2;exact orI_bd (n:=4) ih.1 ih.2 ha.1 ha.2
theorem mbit_hi {m:Int}(h0:0<=m) (h:m<16) {i:Nat}(hi:4<=i):mbit m i=false:=by
 unfold mbit;refine Nat.testBit_lt_two_pow ?_;have:(2:Nat) ^ 4<=2 ^ i:=Nat.pow_le_pow_right (by omega) hi;omega
theorem bfs_stay {q:QueryD}(hq:validQ q=true) {mask A:Int}(hA:∀ i,mbit A i=true->mbit mask i=true) (h0:0<=mask) (h1:mask<16)
  (hs:∀ (i j:Nat) a b (v:Int),q.fAtoms[i]?=some a->q.fAtoms[j]?=some b->mbit A i=true->mbit mask j=true->mbit A j=false->v∈a.fVars->v∈b.fVars->False)
  (hl:∀ i,mbit (lowB mask) i=true->mbit A i=true) (n:Nat):∀ i,mbit (bfs q.fAtoms mask n) i=true->mbit A i=true:=by
 induction n with
 | zero=>exact hl
 | succ n ih =>
  intro i hi;unfold bfs at hi;rw [mbit_or,Bool.or_eq_true]at hi;rcases hi with hi|hi
  ·exact ih i hi
  ·rw [mbit_and,Bool.and_eq_true]at hi
   obtain⟨hn,hm⟩:=hi;cases hAi:mbit A i with
   | true=>rfl
   | false =>
    exfalso;unfold nearQ at hn;rw [mbit_nearTo,Bool.and_eq_true,decide_eq_true_eq]at hn;obtain⟨hlt,hn⟩:=hn;unfold nearAt at hn;rw [Bool.and_eq_true,decide_eq_true_eq]at hn;have hne:=hn.2;apply hne;rw [andI_zero];rintro v ⟨g1,g2⟩;rw [mbit_bitsQ hq]at g1 g2;obtain⟨k1,a,e1,e2,e3⟩:=hasV_iff.1 g1;obtain⟨k2,b,f1,f2,f3⟩:=hasV_iff.1 g2;rw [mbit_pow,Int.toNat_natCast,decide_eq_true_eq]at e2;subst e2;exact hs k2 i b a v f1 e1 (ih k2 f2) hm hAi f3 e3
theorem split_shared {q:QueryD}(hq:validQ q=true) {mask m:Int}(h0:0<mask) (h1:mask<16) (hj:joinedQ q.fAtoms mask=true) (hm0:1<=m) (hm1:m<mask) (hsub:andI m mask=m) :
  ∃ v:Int,0<=v/\v<=3/\hasV q.fAtoms m v=true/\hasV q.fAtoms (mask - m) v=true:=by
 refine Classical.byContradiction fun hn=>?_
 have hn:∀ v:Int,hasV q.fAtoms m v=true->hasV q.fAtoms (mask - m) v=true->False:=fun v a b=>by
  have:=hasV_bd hq a;exact hn ⟨v,by omega,by omega,a,b⟩
 obtain⟨M,rfl⟩:∃ M:Nat,mask=M:=⟨mask.toNat,by omega⟩;obtain⟨K,rfl⟩:∃ K:Nat,m=K:=⟨m.toNat,by omega⟩
 have hb:∀ i,mbit ((M:Int) - (K:Int)) i=(mbit (M:Int) i&&!mbit (K:Int) i):=by
  intro i;by_cases hi:i<4
  ·exact sub_bits ⟨M,by omega⟩ ⟨K,by omega⟩ hsub ⟨i,hi⟩
  ·rw [mbit_hi (by omega) (by omega) (by omega),mbit_hi (m:=(M:Int)) (by omega) (by omega) (by omega)];rfl
 have hKM:∀ i,mbit (K:Int) i=true->mbit (M:Int) i=true:=by
  intro i hi;have:=mbit_and (K:Int) (M:Int) i;rw [hsub,hi]at this;simp at this;exact this
 obtain⟨i0,e0,e1⟩:=lowB_ok ⟨M,by omega⟩ (by simp;omega);simp only at e0 e1;unfold joinedQ at hj;have hj:=of_decide_eq_true hj
 -- the side of the lowest bit
 cases hside:mbit (K:Int) i0.val with
 | true =>
  have hst:=bfs_stay hq (mask:=(M:Int)) (A:=(K:Int)) hKM (by omega) (by omega) (fun i j a b v ha hb' hAi hMj hAj hva hvb=>hn v (hasV_iff.2 ⟨i,a,ha,hAi,hva⟩) (hasV_iff.2 ⟨j,b,hb',by rw [hb,hMj,hAj];rfl,hvb⟩))
   (fun i hi=>by rw [e0,mbit_pow,Int.toNat_natCast,decide_eq_true_eq]at hi;rw [<- hi];exact hside) q.fAtoms.length
  rw [hj]at hst
  have:(K:Int)=M:=mbit_ext (by omega) (by omega) fun i=>by
   cases h2:mbit (M:Int) i with
   | true=>exact hst i h2
   | false=>cases h3:mbit (K:Int) i with
    | true=>rw [hKM i h3]at h2;cases h2
    | false=>rfl
  omega
 | false =>
  have hst:=bfs_stay hq (mask:=(M:Int)) (A:=(M:Int) - K) (fun i hi=>by rw [hb,Bool.and_eq_true]at hi;exact hi.1) (by omega) (by omega) (fun i j a b v ha hb' hAi hMj hAj hva hvb=>by
   rw [hb,hMj,Bool.true_and]at hAj;simp only [Bool.not_eq_false']at hAj;exact hn v (hasV_iff.2 ⟨j,b,hb',hAj,hvb⟩) (hasV_iff.2 ⟨i,a,ha,hAi,hva⟩))
   (fun i hi=>by rw [e0,mbit_pow,Int.toNat_natCast,decide_eq_true_eq]at hi;rw [<- hi,hb,e1,hside];rfl) q.fAtoms.length
  rw [hj]at hst
  have:(M:Int) - K=M:=mbit_ext (by omega) (by omega) fun i=>by
   cases h2:mbit (M:Int) i with
   | true=>exact hst i h2
   | false=>rw [hb,h2];rfl
  omega
theorem maskVarsL_mem {q:QueryD}(hq:validQ q=true) {m v:Int}(hm:maskOk q m=true):v∈maskVarsL q m↔hasV q.fAtoms m v=true:=by
 unfold maskVarsL;rw [if_pos hm,listV_mem];constructor
 ·rintro⟨h1,_,h3⟩
  rw [mbit_bitsQ hq,show((v.toNat:Nat):Int)=v by omega]at h3;exact h3
 ·intro h
  have:=hasV_bd hq h;exact⟨by omega,by omega,by rw [mbit_bitsQ hq,show((v.toNat:Nat):Int)=v by omega];exact h⟩
theorem splits_ok {q:QueryD}{mask m:Int}(h:m∈splits q mask):validQ q=true/\0<mask/\mask<16/\1<=m/\m<mask/\sharedL q m (mask - m)≠[]:=by
 unfold splits at h;split at h
 ·rename_i hc
  unfold isConn at hc;simp only [Bool.and_eq_true,decide_eq_true_eq]at hc;obtain⟨hk,h0,hj⟩:=hc;obtain⟨hq,_,h1⟩:=maskOk_bd hk;obtain⟨g1,g2,g3⟩:=splitsTo_mem.1 h;unfold splitOk at g3;simp only [Bool.and_eq_true,decide_eq_true_eq]at g3;have hlt:m<mask:=by omega
  obtain⟨v,v0,v1,a1,a2⟩:=split_shared hq h0 h1 hj g1 hlt g3.1
  have hb:pow2 (q.fAtoms.length:Int) - 1≥mask:=by
   unfold maskOk at hk;simp only [Bool.and_eq_true]at hk;have:=inR_t.1 hk.2;omega
  have k1:maskOk q m=true:=by unfold maskOk;rw [hq,inR_t.2 (by omega)];rfl
  have k2:maskOk q (mask - m)=true:=by unfold maskOk;rw [hq,inR_t.2 (by omega)];rfl
  refine⟨hq,h0,h1,g1,hlt,fun e=>?_⟩
  have:v∈sharedL q m (mask - m):=by
   unfold sharedL;rw [List.mem_filter];exact⟨(maskVarsL_mem hq k1).2 a1,by unfold hasI;rw [decide_eq_true_eq];exact(maskVarsL_mem hq k2).2 a2⟩
  rw [e]at this;cases this
 ·cases h
theorem sharedL_bd {q:QueryD}{a b v:Int}(h:v∈sharedL q a b):0<=v/\v<=3:=by
 unfold sharedL at h;have h:=(List.mem_filter.1 h).1;unfold maskVarsL at h;split at h
 ·have:=listV_mem.1 h;omega
 ·cases h
end Go.Proofs.YtnlcfkpcmfljeaaGreat
