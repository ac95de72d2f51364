/-
  Tbs
-/
import Derived.Test.YtnlcfkpcmfljeaaGreatTbf
import Derived.Test.YtnlcfkpcmfljeaaGreatJss
import Derived.Test.YtnlcfkpcmfljeaaGreatRws
set_option linter.unusedSimpArgs false
set_option linter.unusedVariables false
set_option maxHeartbeats 6400000
set_option maxRecDepth 100000
namespace Go.Proofs.YtnlcfkpcmfljeaaGreat
open Go.RowKit
attribute [local go_sem ↓] Go.wp_at_zero Go.wp_at_succ
section
variable {α:Type} {r:Rp α} {e:TypeId} {B n c:Nat} {A:Option Addr} {l:List α} {W W':World}
theorem step_appK {P:Program}{ops:Array Oper}{o:Oper}{a:Act}{K:Act->World->Prop}{Q:Exit->Act->World->Prop}{E:Prop}(hgd:o.guard=none) (s x:Operand) (t:TypeId)
  (ho:o.op=.call { callee:=.builtin .append,args:=#[s,x],argTypes:=#[t,t] }) (z:Value) (bytes:Nat) (ei:Ei P t e z r.size bytes) (hr:r.Ok)
  (hs:a.eval s=.slice A n c) (h:PT r e B A n c l W) (hb:Below W.heap.size W W') (hB:B<=W.heap.size)
  (ad:Addr) (hx:a.eval x=.slice (some ad) 1 1) {cs:List Value} {y:α} (hy:StS r (fun k=>k∈blk A\/k<B) W' cs y) (hc:∀ j u,cs[j]?=some u->W'.cell? (ad.add j)=some u)
  (hn:n+1<=NB) (hby:(n+1)*bytes<=140737488355328)
  (hK:∀ A' cap' w',PT r e B A' (n+1) cap' (l++[y]) w'->Below B W' w'->W'.grownBy w' (A.map (·.block))->(∀ k∈blk A',k∈blk A\/W'.heap.size<=k)->K (a.put o.dst (.slice A' (n+1) cap')) w') :
  if Region.wanted o (yielded ops a.tmps)=true then Oper.wp P o a W' K Q else E:=by
 have h':=h.below hr hb;refine step_appR (r:=rK r (OutS (fun k=>k∈blk A\/k<B) W')) hgd s x t ho z bytes ei (rK_ok hr (OutS.refl (fun k=>k∈blk A\/k<B) W')) hs h' (Below.refl _ _) (Nat.le_trans hB hb.size) ad hx (f:=[]) ⟨rfl,fun V hV=>hy V hV⟩ (Fr.nil _) hc hn (by unfold NB;omega) hby ?_;intro A' cap' w' hm hbl hg hd
 have hA:∀ k∈blk A',k∈blk A\/W'.heap.size<=k:=fun k hk=>by
  rcases hd with hd|hd
  ·exact .inl (mem_blk.2 (hd▸mem_blk.1 hk))
  ·right;have:=mem_blk.1 hk;rw [hd]at this;injection this with this;omega
 exact hK A' cap' w' (PT.grown hm hg hA) hbl hg hA
theorem OutS.grew {A':Option Addr}{V:World}(hg:W.grownBy W' (A.map (·.block))) (hA:∀ k∈blk A',k∈blk A\/W.heap.size<=k) (hV:OutS (fun k=>k∈blk A') W' V):OutS (fun k=>k∈blk A) W V :=
 ⟨Nat.le_trans hg.size hV.1,fun k h1 h2=>(hV.2 k (fun e=>(hA k e).elim h1 (fun q=>by omega)) (Nat.lt_of_lt_of_le h2 hg.size)).trans (hg.block k h2 (fun e=>h1 (mem_blk.2 e.symm)))⟩
theorem OutS.ofBelow {S:Nat->Prop}(hb:Below W.heap.size W W'):OutS S W W':=⟨hb.size,fun k _ hk=>hb.block k hk⟩
theorem OutS.below {S:Nat->Prop}{T:Nat}{V:World}(hb:Below T W V) (hS:∀ k,¬ S k->k<W.heap.size->k<T):OutS S W V:=⟨hb.size,fun k h1 h2=>hb.block k (hS k h1 h2)⟩
end
theorem connMasks_len (q:QueryD):(connMasks q).length<=15:=by
 have:=fm15 q;have h:(connMasks q).length<=(upTo (fullMask q).toNat).length:=List.length_filter_le _ _;have h2:(upTo (fullMask q).toNat).length=(fullMask q).toNat:=by unfold upTo;simp
 omega
theorem upTo_succ (k:Nat):upTo (k+1)=upTo k++[(k:Int)+1]:=by unfold upTo;rw [List.range_succ,List.map_append];rfl
theorem fm0 (q:QueryD):0<=fullMask q:=by
 unfold fullMask;split
 ·have:1<=(2:Nat) ^ q.fAtoms.length:=Nat.one_le_two_pow
  omega
 ·omega
def connTo (q:QueryD) (k:Nat):List Int:=(upTo k).filter (joinedQ q.fAtoms)
theorem connTo_yes {q:QueryD}{k:Nat}(h:joinedQ q.fAtoms ((k:Int)+1)=true):connTo q (k+1)=connTo q k++[(k:Int)+1]:=by unfold connTo;rw [upTo_succ,List.filter_append];simp [h]
theorem connTo_no {q:QueryD}{k:Nat}(h:joinedQ q.fAtoms ((k:Int)+1)=false):connTo q (k+1)=connTo q k:=by unfold connTo;rw [upTo_succ,List.filter_append];simp [h]
theorem sConnectedMasks_c (csx:List Value) (x:QueryD) (w:World) (hx:(rQuery NB).rep w csx x) (hv:validQ x=true) :
  Calls Tryz.prog 122 #[.agg csx.toArray] w (RetS 3 rInt (connMasks x) w):=by
 have rx:=hx;obtain⟨Ax_e,nx_e,cx_e,rfl,hx_p5,hx_e⟩:=rQuery_rep.1 hx;clear hx;obtain⟨hB,bxx⟩:=op1 w [.int .i64 x.fVariableCount,.slice Ax_e nx_e cx_e] 50;have hM:=MS.empty (B:=w.heap.size+1) (M:=NB) (e:=3) (r:=rInt) (w.alloc (.cells #[.int .i64 x.fVariableCount,.slice Ax_e nx_e cx_e] 50)) (by simp);have hb0:=(Below.refl _ (w.alloc (.cells #[.int .i64 x.fVariableCount,.slice Ax_e nx_e cx_e] 50))).alloc (Nat.le_refl _) (.cells #[] 3);simp only [World.size_alloc]at hM;replace hB:=hB.trans (hb0.mono hB.size);replace bxx:=bxx.below hb0;clear hb0;have HV:=Lib.hid hv;clear hv;have hf1:=fm15 x;have hf0:=fm0 x
 go_enter Tryz.func122,Tryz.ntmps122
 have kx_0:=bxx 0 _ rfl;have kx_1:=bxx 1 _ rfl
 go_wp2_with fail
 refine(sFullMask_c _ x _ ((rQuery_ok NB).keep rx (cells_below hB))).mono ?_;rintro e w1 ⟨rfl,hb1⟩;replace hB:=hB.trans (hb1.mono hB.size);replace bxx:=bxx.below hb1;replace hM:=hM.below rInt_ok hb1;clear hb1 kx_0 kx_1;obtain⟨f,hf⟩:∃ f:Nat,(f:Int)=fullMask x:=⟨(fullMask x).toNat,by omega⟩;have HF:=Lib.hid hf;rw [<- hf]at hf1 ⊢;clear hf0 hf
 go_wp2_with fail
 go_loopw [3,5] (fun s i wr=>∃ (k n c:Nat) (A:Option Addr),k<=f/\n<=k/\i=.int .i64 ((k:Int)+1)/\s=.slice A n c/\MS (w.heap.size+1) NB 3 rInt wr A n c (connTo x k)/\Below w.heap.size w wr/\Bx wr w.heap.size [.int .i64 x.fVariableCount,.slice Ax_e nx_e cx_e]) (fun _ i _=>f+1 - (intOf i).toNat)
 case atStart=>exact⟨0,0,0,_,by omega,by omega,rfl,rfl,hM,hB,bxx⟩
 case round =>
  clear hB bxx hM;obtain⟨k,n,c,A,hk,hn,rfl,rfl,hM,hB,bxx⟩:=hrel;have kx_0:=bxx 0 _ rfl;have kx_1:=bxx 1 _ rfl;have hz:=Nat.succ_le_of_lt (World.block_lt_of_cell? _ _ (bxx 0 _ rfl));by_cases hlt:k<f
  ·have hl1:(k:Int)+1<=(f:Int):=by omega
   go_wp2_with fail
   refine(sL8Joined_c _ x ((k:Int)+1) _ ((rQuery_ok NB).keep rx (cells_below hB)) HV.out (by omega) (by omega)).mono ?_;rintro e w9 ⟨rfl,hb9⟩;replace hB:=hB.trans (hb9.mono hB.size);replace bxx:=bxx.below hb9;replace hM:=hM.below rInt_ok hb9;clear hb9 kx_0 kx_1;have kx_0:=bxx 0 _ rfl;have kx_1:=bxx 1 _ rfl;have hz:=Nat.succ_le_of_lt (World.block_lt_of_cell? _ _ (bxx 0 _ rfl));cases hj:joinedQ x.fAtoms ((k:Int)+1)
   ·have HS:Hid (connTo x (k+1)=connTo x k):=connTo_no hj
    clear hj;go_wp2;go_roundw
    case rel=>exact⟨k+1,n,c,A,by omega,by omega,by go_num,rfl,by rw [HS.out];exact hM,hB,bxx⟩
    case measure=>simp [intOf];omega
   ·have HS:Hid (connTo x (k+1)=connTo x k++[(k:Int)+1]):=connTo_yes hj
    clear hj
    go_wp2_with (at_builtin;refine wpList_app (r:=rInt) rfl _ _ 30 rfl _ 8 eiInt rInt_ok rfl hM (bal) hz ⟨_,0,none⟩ rfl [] [.int .i64 ((k:Int)+1)] ((k:Int)+1) ⟨rfl,rfl,by unfold I64;omega⟩ (Fr.nil _) (cell_one_new _ _ _) (by unfold NB;omega) (Nat.le_refl _) (by omega) ?_;intro A9 k9 w9' hM9 hb9' hg9)
    go_roundw
    case rel=>exact⟨k+1,n+1,k9,A9,by omega,by omega,by go_num,rfl,by rw [HS.out];exact hM9,(hB.alloc hB.size _).trans (hb9'.mono (Nat.le_succ _)),(bxx.below (bal)).lowJ (Nat.lt_succ_self _) hb9'⟩
    case measure=>simp [intOf];omega
  ·have hk4:k=f:=by omega
   subst hk4;have hl1:¬ (k:Int)+1<=(k:Int):=by omega
   go_wp2;go_ret;exact⟨_,_,_,rfl,by unfold connMasks;rw [show(fullMask x).toNat=k by have:=HF.out;omega];exact hM.base (Nat.le_succ _),hB⟩
def rShape:Rp (Int × List (Int × List Int)):=⟨3,fun w cs x=>∃ A1 n1 c1 A2 n2 c2,cs=[.int .i64 x.1,.slice A1 n1 c1,.slice A2 n2 c2]/\RS NB rInt w A1 n1 c1 (x.2.map (·.1))/\RS NB (rSlice NB 3 rInt) w A2 n2 c2 (x.2.map (·.2)),fun _ _ _ _=>False⟩
theorem rShape_ok:rShape.Ok where
 pos:=by decide
 len:=by rintro w cs x ⟨A1,n1,c1,A2,n2,c2,rfl,_⟩;rfl
 one:=by
  rintro w cs x ⟨A1,n1,c1,A2,n2,c2,rfl,_⟩ u hu;simp only [List.mem_cons,List.not_mem_nil,or_false]at hu;rcases hu with rfl|rfl|rfl<;>rfl
 keep:=by
  rintro w w' cs x ⟨A1,n1,c1,A2,n2,c2,rfl,h1,h2⟩ hk;exact⟨A1,n1,c1,A2,n2,c2,rfl,h1.keep rInt_ok hk,h2.keep (rSlice_ok NB _ rInt_ok) hk⟩
 toRep h:=h.elim
 okeep h _:=h.elim
 lt h:=h.elim
def shapesOf (q:QueryD):List (Int × List (Int × List Int)):=(connMasks q).map (fun m=>(m,shapeOf q m))
theorem eiShape:Ei Tryz.prog 104 158 (.agg #[.int .i64 0,.slice none 0 0,.slice none 0 0]) rShape.size 56:=⟨by kernel_rfl,by kernel_rfl,rfl⟩
theorem eiRows:Ei Tryz.prog 83 30 (.slice none 0 0) (rSlice NB 3 rInt).size 24:=⟨by kernel_rfl,by kernel_rfl,rfl⟩
structure Sh (w:World) (q:QueryD) (csq:List Value) (Am:Option Addr) (nm cm k:Nat) (A:Option Addr) (n c:Nat) (U:World):Prop where
 pt:PT rShape 158 (w.heap.size+1) A n c ((shapesOf q).take k) U
 be:Below w.heap.size w U
 kq:Bk U w.heap.size 50 csq
 ms:∀ V,OutS (fun z=>z∈blk A) U V->RS NB rInt V Am nm cm (connMasks q)
structure Sx (q:QueryD) (m:Int) (gx:Nat) (As:Option Addr) (ns cs:Nat) (U V1:World) (t:Nat) (A:Option Addr) (n c:Nat) (W:World):Prop where
 pt:MS V1.heap.size NB 30 (rSlice NB 3 rInt) W A n c (((splits q m).take t).map (fun y=>sharedL q y (m - y)))
 be:Below U.heap.size U W
 kx:Bk W gx 158 [.int .i64 m,.slice As ns cs,.slice A n c]
 out:OutS (fun z=>z=gx) V1 W
theorem shapeOf_fst (q:QueryD) (m:Int):(shapeOf q m).map (·.1)=splits q m:=by unfold shapeOf;rw [List.map_map];exact List.map_id _
theorem shapeOf_snd (q:QueryD) (m:Int):(shapeOf q m).map (·.2)=(splits q m).map (fun y=>sharedL q y (m - y)):=by unfold shapeOf;rw [List.map_map];rfl
theorem Bk.put3 {w:World}{g:Nat}{t:TypeId}{x0 x1 x2:Value}(h:Bk w g t [x0,x1,x2]) (a b c:Value):Bk (((w.setCell ⟨g,0,none⟩ a).setCell ⟨g,1,none⟩ b).setCell ⟨g,2,none⟩ c) g t [a,b,c]:=((h.set 0 a).set 1 b).set 2 c
theorem MS.outS {α:Type}{r:Rp α}(hr:r.Ok) {S:Nat->Prop}{B:Nat}{e:TypeId}{w V:World}{A:Option Addr}{n c:Nat}{l:List α}(h:MS B NB e r w A n c l) (hS:∀ k,B<=k->¬ S k) (hV:OutS S w V):MS B NB e r V A n c l:=by
 obtain⟨fp,hO,hf⟩:=h;have o1:(rSlice NB e r).own w fp [.slice A n c] l:=⟨A,n,c,rfl,hO⟩;have o:=(rSlice_ok NB e hr).okeep o1 (fun k hk=>hV.2 k (hS k (hf.ge k hk)) ((rSlice_ok NB e hr).lt o1 k hk));obtain⟨A',n',c',e',h'⟩:=o;injection e' with e' _;injection e' with e1 e2 e3;subst e1 e2 e3;exact⟨fp,h',hf⟩
theorem PT.blt {α:Type}{r:Rp α}{e:TypeId}{B n c:Nat}{A:Option Addr}{l:List α}{W:World}(h:PT r e B A n c l W):∀ k∈blk A,k<W.heap.size:=by
 obtain⟨fp,o,f⟩:=h;obtain⟨h1,h2,css,fps,h3,h4,h5⟩:=o;intro k hk;rcases (ownsRow_form h3).2 with ⟨rfl,_⟩|⟨g,rfl,hg,_⟩
 ·cases hk
 ·simp [blk]at hk;omega
theorem OutS.cell {S:Nat->Prop}{w V:World}(h:OutS S w V) {b o:Nat}{v:Value}(hc:w.cell? ⟨b,o,none⟩=some v) (hb:¬ S b):V.cell? ⟨b,o,none⟩=some v:=by
 have hlt:b<w.heap.size:=World.block_lt_of_cell? _ ⟨b,o,none⟩ hc;rw [World.cell?_of_block (w:=w) (h.2 b hb hlt)];exact hc
theorem MS.gek {α:Type}{r:Rp α}{B M:Nat}{e:TypeId}{w:World}{A:Option Addr}{n c:Nat}{l:List α}(h:MS B M e r w A n c l):∀ k∈blk A,B<=k:=fun k hk=>by
 obtain⟨fp,o,f⟩:=h;obtain⟨_,_,css,fps,h3,rfl,h5⟩:=o;exact f.ge k (List.mem_append_left _ hk)
theorem splits_len16 (q:QueryD) {m:Int}(h:m<16):(splits q m).length<=15:=by
 unfold splits;split
 ·have:=splitsTo_len q.fAtoms m (m.toNat - 1);omega
 ·simp
theorem OutS.mono {S S':Nat->Prop}{w V:World}(h:OutS S w V) (hs:∀ k,S k->S' k):OutS S' w V:=⟨h.1,fun k h1 h2=>h.2 k (fun e=>h1 (hs k e)) h2⟩
theorem sShapes_c (csx:List Value) (x:QueryD) (w:World) (hx:(rQuery NB).rep w csx x) (hv:validQ x=true) :
  Calls Tryz.prog 53 #[.agg csx.toArray] w (fun e w'=>∃ A n c,e=.returned (.slice A n c)/\PT rShape 158 (w.heap.size+1) A n c (shapesOf x) w'/\Below w.heap.size w w'):=by
 have rx:=hx;obtain⟨Ax_e,nx_e,cx_e,rfl,hx_p5,hx_e⟩:=rQuery_rep.1 hx;clear hx;obtain⟨hB,bxx⟩:=op1 w [.int .i64 x.fVariableCount,.slice Ax_e nx_e cx_e] 50;have hP:=PT.new (r:=rShape) (e:=158) (W:=w.alloc (.cells #[.int .i64 x.fVariableCount,.slice Ax_e nx_e cx_e] 50)) (B:=w.heap.size+1) (by simp);have hb0:=(Below.refl _ (w.alloc (.cells #[.int .i64 x.fVariableCount,.slice Ax_e nx_e cx_e] 50))).alloc (Nat.le_refl _) (.cells #[] 158);have hq:Bk (w.alloc (.cells #[.int .i64 x.fVariableCount,.slice Ax_e nx_e cx_e] 50)) w.heap.size 50 [.int .i64 x.fVariableCount,.slice Ax_e nx_e cx_e]:=Bk.new w _ _;replace hq:=hq.below hb0
 simp only [World.size_alloc]at hP;replace hB:=hB.trans (hb0.mono hB.size);replace bxx:=bxx.below hb0;clear hb0;have HV:=Lib.hid hv;clear hv;have f15:=fm15 x
 go_enter Tryz.func53,Tryz.ntmps53
 have kx_0:=bxx 0 _ rfl;have kx_1:=bxx 1 _ rfl
 go_wp2_with fail
 refine(sConnectedMasks_c _ x _ ((rQuery_ok NB).keep rx (cells_below hB)) HV.out).mono ?_;rintro e wm ⟨Am,nm,cm,rfl,hmm,hbm⟩;replace hP:=hP.below rShape_ok hbm;replace hq:=hq.below hbm;replace hB:=hB.trans (hbm.mono hB.size);replace bxx:=bxx.below hbm;clear hbm kx_0 kx_1;have hz2:∀ z,z∈blk (some ⟨w.heap.size+1,0,none⟩)->z=w.heap.size+1:=fun z hz=>by simpa [blk]using hz
 have hmS:∀ V,OutS (fun z=>z∈blk (some ⟨w.heap.size+1,0,none⟩)) wm V->RS NB rInt V Am nm cm (connMasks x):=fun V hV=>(hmm.outS rInt_ok (fun z hz hb=>by have:=hz2 z hb;simp at hz;omega) hV).rs rInt_ok;have hln:(connMasks x).length=nm:=hmm.len
 have hnmL:nm<=15:=by
  have:=connMasks_len x;omega
 clear hmm hz2
 go_wp2_with fail
 go_loopw [3,5] (fun s i wr=>∃ (k n c:Nat) (A:Option Addr),k<=nm/\i=.int .i64 (k:Int)/\s=.slice A n c/\Sh w x [.int .i64 x.fVariableCount,.slice Ax_e nx_e cx_e] Am nm cm k A n c wr) (fun _ i _=>nm - (intOf i).toNat)
 case atStart=>exact⟨0,0,0,_,by omega,rfl,rfl,hP,hB,hq,hmS⟩
 case round =>
  clear hB bxx hP hq hmS;obtain⟨k,n,c,A,hk,rfl,rfl,H⟩:=hrel;obtain⟨U,hU⟩:∃ U,U=wr:=⟨_,rfl⟩;rw [<- hU]at H ⊢;clear hU;have hB:=H.be;have bxx:=H.kq.bx;have hnk:n=k:=by have:=H.pt.len;rw [List.length_take]at this;unfold shapesOf at this;rw [List.length_map]at this;omega
  replace hnk:=hnk.symm;subst hnk;have hmr:=H.ms U (OutS.refl _ U);by_cases hlt:k<nm
  ·obtain⟨bm,om,m,rfl,cmk,mI,hmk⟩:=hmr.ati hlt
   have hmem:=connMasks_mem.1 (mem_of_at hmk.out);have hm1:=hmem.1.1;have hm2:m<=15:=by have:=hmem.1.2;omega
   have hkI:(k:Int)<nm:=by omega
   clear hmem hmr
   have HSS:Hid (∀ w':World,Below U.heap.size U w'->(w'.cell? ⟨bm,om+k,none⟩=some (.int .i64 m)/\w'.cell? ⟨w.heap.size,0,none⟩=some (.int .i64 x.fVariableCount)/\w'.cell? ⟨w.heap.size,1,none⟩=some (.slice Ax_e nx_e cx_e))):=by
    show ∀ w':World,_->_;intro w' h;exact⟨cells_below h _ _ cmk,(bxx.below h) 0 _ rfl,(bxx.below h) 1 _ rfl⟩
   have hd0:=(Below.refl U.heap.size U).drew;have hda:=hd0.alloc hd0.size (.cells #[.int .i64 0,.slice none 0 0,.slice none 0 0] 158)
   go_upto_region 6 with fail
   refine hgg 12 HSS.out hd0 (fun hH=>?_);refine tgk 0 17 hH ?_;simp only [putS];refine tgk 1 18 hH ?_;simp only [putS];refine tgk 2 19 hH ?_;simp only [putS];refine tgk 3 20 hH ?_;simp only [putS];refine tgk 4 21 hH ?_;simp only [putS];refine tgk 5 22 hH ?_;simp only [putS];refine tgk 6 23 hH ?_;simp only [putS];refine tgk 7 24 hH ?_;simp only [putS];refine tgk 8 25 hH ?_;simp only [putS];refine rg2 9 (some 26) 11 (some 6) (fun K hK=>?_) fun K hK=>?_
   all_goals clear hH
   focus
    go_simp;refine(sJoinSplits_c _ x m _ ((rQuery_ok NB).keep rx (cells_below (hB.trans (hd0.mono hB.size))))).mono ?_;rintro e U1 ⟨Asp,nsp,csp,rfl,hsp,hb1⟩;have hC1:Below U.heap.size U U1:=hd0.trans (hb1.mono hd0.size)
    go_wp2_with fail
    refine hK.out _ _ (fun _=>HSS.out _ hC1) fun hH=>?_;replace hH:=hH (by decide);clear hK K
    try simp only [putS]
    have hC2:=hC1.alloc hC1.size (.cells #[.int .i64 0,.slice none 0 0,.slice none 0 0] 158);refine tgk 10 27 hH ?_;simp only [putS];refine rg 11 (some 6) fun K hK=>?_;clear hH;go_simp;refine hK.out _ _ (fun _=>HSS.out _ hC2) fun hH=>?_;replace hH:=hH (by decide);clear hK K
    try simp only [putS]
    refine rg 12 none fun K hK=>?_;clear hH;go_simp;refine hK.out _ _ (fun h=>absurd rfl h) fun hH=>?_;clear hK K
    try simp only [putS]
    refine wpG_done (by kernel_rfl) ?_ _;clear hH;obtain⟨gx,hgx⟩:∃ g,g=U1.heap.size:=⟨_,rfl⟩;obtain⟨V1,hV1⟩:∃ V,V=U1.alloc (.cells #[.int .i64 m,.slice Asp nsp csp,.slice none 0 0] 158):=⟨_,rfl⟩;have hal:Below U1.heap.size U1 V1:=by rw [hV1];exact bal
    have kX:Bk V1 gx 158 [.int .i64 m,.slice Asp nsp csp,.slice none 0 0]:=by rw [hV1,hgx];exact Bk.new U1 _ _
    have gU:U.heap.size<=gx:=by rw [hgx];exact hC1.size
    have bV:Below U.heap.size U V1:=hC1.trans (hal.mono hC1.size)
    have sS:∀ W,OutS (fun z=>z=gx\/z<U.heap.size) V1 W->RS NB rInt W Asp nsp csp (splits x m):=fun W hW=>by
     have hsp':MS U.heap.size NB 3 rInt U1 Asp nsp csp (splits x m):=hsp;exact(hsp'.outS rInt_ok (S:=fun z=>z<U.heap.size) (fun k hk h=>by omega) ⟨Nat.le_trans hal.size hW.1,fun k h1 h2=>(hW.2 k (fun e=>e.elim (fun e=>by omega) h1) (Nat.lt_of_lt_of_le h2 hal.size)).trans (hal.block k h2)⟩).rs rInt_ok
    rw [<- hV1,<- hgx];clear hV1 hgx hal hC1 hC2 hb1 hsp hd0 hda HSS
   rotate_left
   focus
    have hqd:=hda;go_simp;refine hK.out _ _ (fun _=>HSS.out _ hda) fun hH=>?_;replace hH:=hH (by decide);clear hK K
    try simp only [putS]
    refine rg 9 (some 26) fun K hK=>?_;clear hH;go_simp;refine(sJoinSplits_c _ x m _ ((rQuery_ok NB).keep rx (cells_below (hB.trans (hda.mono hB.size))))).mono ?_;rintro e U1 ⟨Asp,nsp,csp,rfl,hsp,hb1⟩;have hC1:Below U.heap.size U U1:=hda.trans (hb1.mono hda.size)
    go_wp2_with fail
    refine hK.out _ _ (fun _=>HSS.out _ hC1) fun hH=>?_;replace hH:=hH (by decide);clear hK K
    try simp only [putS]
    have kx1:=(show Bk (U.drew.alloc (.cells #[.int .i64 0,.slice none 0 0,.slice none 0 0] 158)) U.heap.size 158 [.int .i64 0,.slice none 0 0,.slice none 0 0] from Bk.new U.drew _ _).below hb1;have ⟨r0,f0,r1,f1,r2,f2⟩:=kx1.r3;refine tgk 10 27 hH ?_;simp only [putS];refine rg 12 none fun K hK=>?_;clear hH;go_simp;refine hK.out _ _ (fun h=>absurd rfl h) fun hH=>?_;clear hK K
    try simp only [putS]
    refine wpG_done (by kernel_rfl) ?_ _;clear hH;obtain⟨gx,hgx⟩:∃ g,g=U.heap.size:=⟨_,rfl⟩;obtain⟨V1,hV1⟩:∃ V,V=((U1.setCell ⟨U.heap.size,0,none⟩ (.int .i64 m)).setCell ⟨U.heap.size,1,none⟩ (.slice Asp nsp csp)).setCell ⟨U.heap.size,2,none⟩ (.slice none 0 0):=⟨_,rfl⟩;have kX:Bk V1 gx 158 [.int .i64 m,.slice Asp nsp csp,.slice none 0 0]:=by rw [hV1,hgx];exact kx1.put3 _ _ _
    have gU:U.heap.size<=gx:=by rw [hgx];exact Nat.le_refl _
    have bV:Below U.heap.size U V1:=by rw [hV1];exact bls3 hC1 (Nat.le_refl _) _ _ _
    have sS:∀ W,OutS (fun z=>z=gx\/z<U.heap.size) V1 W->RS NB rInt W Asp nsp csp (splits x m):=fun W hW=>by
     have hsp':MS (U.heap.size+1) NB 3 rInt U1 Asp nsp csp (splits x m):=hsp.base (by simp);have hsz:V1.heap.size=U1.heap.size:=by rw [hV1];simp
     exact(hsp'.outS rInt_ok (S:=fun z=>z<U.heap.size+1) (fun k hk h=>by omega) ⟨by rw [<- hsz];exact hW.1,fun k h1 h2=>(hW.2 k (fun e=>h1 (e.elim (fun e=>by omega) (fun e=>by omega))) (by omega)).trans (by rw [hV1];exact set3_ne (fun e=>h1 (by omega)) _ _ _)⟩).rs rInt_ok
    rw [<- hV1,<- hgx];clear hV1 hgx hC1 hb1 hsp hd0 hda HSS hqd kx1 r0 f0 r1 f1 r2 f2
   all_goals
    have P0:MS V1.heap.size NB 30 (rSlice NB 3 rInt) V1 none 0 0 []:=MS.nil V1 (Nat.zero_le _);have hln2:(splits x m).length=nsp:=(sS V1 (OutS.refl _ _)).len;have hn16:nsp<=15:=by have:=splits_len16 x (m:=m) (by omega);omega
    go_wp2_with fail
    go_loopw [7] (fun o wv=>∃ (t n2 c2:Nat) (A2:Option Addr),t<=nsp/\o=.int .i64 (t:Int)/\Sx x m gx Asp nsp csp U V1 t A2 n2 c2 wv) (fun o _=>nsp - (intOf o).toNat)
    case atStart=>exact⟨0,0,0,none,Nat.zero_le _,rfl,P0,bV,kX,OutS.refl _ _⟩
    case round =>
     clear P0;obtain⟨t,n2,c2,A2,ht,rfl,H2⟩:=hrel;obtain⟨W,hW⟩:∃ W,W=wr:=⟨_,rfl⟩;rw [<- hW]at H2 ⊢;clear hW;have hs:=sS W (H2.out.mono fun _ h=>.inl h);have ⟨r0,f0,r1,f1,r2,f2⟩:=H2.kx.r3;have hn2:n2=t:=by have:=H2.pt.len;rw [List.length_map,List.length_take]at this;omega
     have hn2b:n2<=15:=by omega
     clear hn2;have hA2:=H2.pt.gek;have hgx:=kX.lt;have hVU:=bV.size;have hbm:bm<U.heap.size:=World.block_lt_of_cell? _ ⟨bm,om+k,none⟩ cmk;have hq0:w.heap.size<U.heap.size:=H.kq.lt;have cm2:=cells_below H2.be _ _ cmk;have x0:=(bxx.below H2.be) 0 _ rfl;have x1:=(bxx.below H2.be) 1 _ rfl;by_cases hlt2:t<nsp
     ·obtain⟨bs,os,y,rfl,cy,yI,hy⟩:=hs.ati hlt2
      have hyr:=splits_ok (mem_of_at hy.out);have hy0:=hyr.2.2.2.1;have hy1:=hyr.2.2.2.2.1;have htI:(t:Int)<nsp:=by omega
      have hbs:bs<V1.heap.size:=by
       obtain⟨_,_,_,eq,c',_,_⟩:=(sS V1 (OutS.refl _ _)).ati hlt2;injection eq with eq;injection eq with q1 q2;have:=World.block_lt_of_cell? _ _ c';rw [q1];exact this
      have HSS2:Hid (∀ w':World,OutS (fun z=>z∈blk A2) W w'->(w'.cell? ⟨gx,1,none⟩=some (.slice (some ⟨bs,os,none⟩) nsp csp)/\w'.cell? ⟨gx,2,none⟩=some (.slice A2 n2 c2)/\w'.cell? ⟨bs,os+t,none⟩=some (.int .i64 y)/\w'.cell? ⟨bm,om+k,none⟩=some (.int .i64 m)/\w'.cell? ⟨w.heap.size,0,none⟩=some (.int .i64 x.fVariableCount)/\w'.cell? ⟨w.heap.size,1,none⟩=some (.slice Ax_e nx_e cx_e))):=by
       show ∀ w':World,_->_;intro w' h;exact⟨h.cell r1 (fun e=>by have:=hA2 _ e;omega),h.cell r2 (fun e=>by have:=hA2 _ e;omega),h.cell cy (fun e=>by have:=hA2 _ e;omega),h.cell cm2 (fun e=>by have:=hA2 _ e;omega),h.cell x0 (fun e=>by have:=hA2 _ e;omega),h.cell x1 (fun e=>by have:=hA2 _ e;omega)⟩
      have hd2:=(Below.refl W.heap.size W).drew;have hD2:OutS (fun z=>z∈blk A2) W W.drew:=OutS.ofBelow hd2;have HQ:Below w.heap.size w W.drew:=hB.trans ((H2.be.trans (hd2.mono H2.be.size)).mono hB.size);have HY:=Lib.hid hy.out;have hwr:IntKind.i64.wrap (m - y)=m - y:=IntWalk.i64_in _ (by omega);clear hyr hy hs cm2 x0 x1 r0 f0 f1 r2 f2 cy
      go_upto_region 10 with fail
      clear r1;refine hgg 22 HSS2.out hD2 (fun hH=>?_);refine tgk 0 35 hH ?_;simp only [putS];refine tgk 1 36 hH ?_;simp only [putS];refine tgk 2 37 hH ?_;simp only [putS];refine tgk 3 38 hH ?_;simp only [putS];refine tgk 4 39 hH ?_;simp only [putS];refine tgk 5 40 hH ?_;simp only [putS];refine tgk 6 41 hH ?_;simp only [putS];refine tgk 7 42 hH ?_;simp only [putS];refine tgk 8 43 hH ?_;simp only [putS];refine tgk 9 44 hH ?_;simp only [putS];refine tgk 10 45 hH ?_;simp only [putS];refine tgk 11 46 hH ?_;simp only [putS];refine tgk 12 47 hH ?_;simp only [putS];refine tgk 13 48 hH ?_;simp only [putS]
      refine tgk 14 49 hH ?_;simp only [putS];refine tgk 15 50 hH ?_;simp only [putS];refine tgk 16 51 hH ?_;simp only [putS];refine tgk 17 52 hH ?_;simp only [putS];refine rg 18 (some 53) fun K hK=>?_;clear hH;go_simp;refine(sSharedVariables_c _ x y (m - y) _ ((rQuery_ok NB).keep rx (cells_below HQ))).mono ?_;rintro e W1 ⟨Av,nv,cv,rfl,hv2,hb2⟩;have hC2:Below W.heap.size W W1:=hd2.trans (hb2.mono hd2.size);have hC3:OutS (fun z=>z∈blk A2) W W1:=OutS.ofBelow hC2
      go_wp2_with fail
      refine hK.out _ _ (fun _=>HSS2.out _ hC3) fun hH=>?_;replace hH:=hH (by decide);clear hK K
      try simp only [putS]
      have hAb:=hC2.alloc hC2.size (.cells #[.slice Av nv cv] 30);have hC4:OutS (fun z=>z∈blk A2) W (W1.alloc (.cells #[.slice Av nv cv] 30)):=OutS.ofBelow hAb;refine rg 19 (some 54) fun K hK=>?_;clear hH;go_simp;refine hK.out _ _ (fun _=>HSS2.out _ hC4) fun hH=>?_;replace hH:=hH (by decide);clear hK K
      try simp only [putS]
      obtain⟨fv,hOv,hFv⟩:=hv2;have hFv':Fr W.heap.size fv:=hFv;refine rg 20 (some 55) fun K hK=>?_;clear hH;refine step_appR (r:=rSlice NB 3 rInt) (by rfl) _ _ 83 (by rfl) _ 24 eiRows (rSlice_ok NB _ rInt_ok) (by rfl) H2.pt hAb (H2.out.1) ⟨W1.heap.size,0,none⟩ (by rfl) (f:=fv) (cs:=[.slice Av nv cv]) (y:=sharedL x y (m - y)) ⟨Av,nv,cv,rfl,hOv.belowS rInt_ok (bal)⟩ hFv' (cell_one_new _ _ _) (by unfold NB;omega) (Nat.le_refl _) (by omega) ?_;intro A5 c5 W5 M5 hb5 hg5 hd5;have hC5:OutS (fun z=>z∈blk A2) W W5:=hC4.trans ⟨hg5.size,fun z h1 h2=>hg5.block z h2 (fun e=>h1 (mem_blk.2 e.symm))⟩;refine hK.out _ _ (fun _=>HSS2.out _ hC5) fun hH=>?_
      replace hH:=hH (by decide);clear hK K
      try simp only [putS]
      have kx5:Bk W5 gx 158 [.int .i64 m,.slice (some ⟨bs,os,none⟩) nsp csp,.slice A2 n2 c2]:=(hC5.2 gx (fun e=>by have:=hA2 _ e;omega) H2.kx.lt).trans H2.kx;have e2:=kx5.bx 2 _ rfl;have g2:=kx5.frozen 2;refine tgk 21 56 hH ?_;simp only [putS];refine rg 22 none fun K hK=>?_;clear hH;go_simp;refine hK.out _ _ (fun h=>absurd rfl h) fun hH=>?_;clear hK K
      try simp only [putS]
      refine wpG_done (by kernel_rfl) ?_ _;clear hH;have k6:=kx5.set 2 (.slice A5 (n2+1) c5);have oW:OutS (fun z=>z=gx) W5 (W5.setCell ⟨gx,2,none⟩ (.slice A5 (n2+1) c5)):=⟨by simp,fun z h1 _=>heap_setCell_other _ ⟨gx,2,none⟩ z _ (fun e=>h1 e)⟩;have M6:=M5.outS (rSlice_ok NB _ rInt_ok) (S:=fun z=>z=gx) (fun z hz e=>by omega) oW;have b6:Below V1.heap.size W W5:=(hAb.mono H2.out.1).trans hb5
      have HT:Hid (((splits x m).take (t+1)).map (fun y=>sharedL x y (m - y))=((splits x m).take t).map (fun y=>sharedL x y (m - y))++[sharedL x y (m - y)]):=by
       show _=_;rw [take_snoc HY.out,List.map_append];rfl
      have HX:Sx x m gx (some ⟨bs,os,none⟩) nsp csp U V1 (t+1) A5 (n2+1) c5 (W5.setCell ⟨gx,2,none⟩ (.slice A5 (n2+1) c5)) :=
       ⟨by rw [HT.out];exact M6,H2.be.trans ((b6.mono (Nat.le_trans hVU (Nat.le_refl _))).setCell (p:=⟨gx,2,none⟩) gU _),k6,⟨Nat.le_trans H2.out.1 (Nat.le_trans b6.size oW.1),fun z h1 h2=>(oW.2 z h1 (Nat.lt_of_lt_of_le h2 (Nat.le_trans H2.out.1 b6.size))).trans ((b6.block z h2).trans (H2.out.2 z h1 h2))⟩⟩
      go_wp2;go_roundw
      case rel=>exact⟨t+1,n2+1,c5,A5,by omega,by go_num,HX⟩
      case measure=>simp [intOf];omega
     ·have htI:¬ (t:Int)<nsp:=by omega
      have hte:t=nsp:=by omega
      obtain⟨Z,hZ⟩:∃ Z,Z=W.alloc (.cells #[.int .i64 m,.slice Asp nsp csp,.slice A2 n2 c2] 158):=⟨_,rfl⟩;have bZ:Below W.heap.size W Z:=by rw [hZ];exact bal
      have hcn:∀ j u,[Value.int .i64 m,.slice Asp nsp csp,.slice A2 n2 c2][j]?=some u->Z.cell? (Addr.add ⟨W.heap.size,0,none⟩ j)=some u:=by rw [hZ];exact cells_new W 158 _
      have bUZ:=H2.be.trans (bZ.mono H2.be.size);have hAlt:=H.pt.blt;have oZ:OutS (fun z=>z∈blk A) U Z:=OutS.ofBelow bUZ
      have hS:StS rShape (fun z=>z∈blk A\/z<w.heap.size+1) Z [.int .i64 m,.slice Asp nsp csp,.slice A2 n2 c2] (m,shapeOf x m):=fun V hV=>by
       have q1:=sS V ⟨Nat.le_trans H2.out.1 (Nat.le_trans bZ.size hV.1),fun z h1 h2=>(hV.2 z (fun e=>h1 (.inr (e.elim (fun e=>hAlt z e) (fun e=>by omega)))) (Nat.lt_of_lt_of_le h2 (Nat.le_trans H2.out.1 bZ.size))).trans ((bZ.block z (Nat.lt_of_lt_of_le h2 H2.out.1)).trans (H2.out.2 z (fun e=>h1 (.inl e)) h2))⟩;have q2:=(H2.pt.outS (V:=V) (rSlice_ok NB _ rInt_ok) (S:=fun z=>z∈blk A\/z<w.heap.size+1) (fun z hz e=>e.elim (fun e=>by have:=hAlt z e;omega) (fun e=>by omega)) ((OutS.ofBelow bZ).trans hV)).rs (rSlice_ok NB _ rInt_ok);rw [hte,<- hln2,List.take_length]at q2;refine⟨Asp,nsp,csp,A2,n2,c2,rfl,?_,?_⟩
       ·show RS NB rInt V Asp nsp csp ((shapeOf x m).map (·.1))
        rw [shapeOf_fst];exact q1
       ·show RS NB (rSlice NB 3 rInt) V A2 n2 c2 ((shapeOf x m).map (·.2))
        rw [shapeOf_snd];exact q2
      have HT:Hid ((shapesOf x).take (k+1)=(shapesOf x).take k++[(m,shapeOf x m)]):=by
       show _=_;refine take_snoc ?_;unfold shapesOf;rw [List.getElem?_map,hmk.out];rfl
      have hbz:k+1<=NB:=by unfold NB;omega
      have hbb:(k+1)*56<=140737488355328:=by omega
      subst hZ;clear hte cm2 x0 x1 cmk
      go_wp2_with (at_builtin;go_loud (refine wpList_appK2 rfl _ _ 104 rfl _ 56 eiShape rShape_ok rfl H.pt bUZ hq0 ⟨W.heap.size,0,none⟩ rfl [.int .i64 m,.slice Asp nsp csp,.slice A2 n2 c2] (m,shapeOf x m) hS hcn hbz hbb ?_;intro A' c' w' P' b' g' hA'))
      have bV2:Below w.heap.size U w':=(bUZ.mono H.be.size).trans (b'.mono (Nat.le_succ _))
      have HS:Sh w x [.int .i64 x.fVariableCount,.slice Ax_e nx_e cx_e] (some ⟨bm,om,none⟩) nm cm (k+1) A' (k+1) c' w' :=
       ⟨by rw [HT.out];exact P',H.be.trans bV2,(b'.block _ (Nat.lt_succ_self _)).trans (H.kq.below bUZ),fun V hV=>H.ms V (oZ.trans (OutS.grew g' hA' hV))⟩
      go_wp2;go_roundw
      case rel=>exact⟨k+1,k+1,c',A',by omega,by go_num,rfl,HS⟩
      case measure=>simp [intOf];omega
  ·have hkI:¬ (k:Int)<nm:=by omega
   have hkn:k=nm:=by omega
   have hR:=H.pt
   have HT:Hid ((shapesOf x).take k=shapesOf x):=by
    show _=_;refine List.take_of_length_le ?_;unfold shapesOf;rw [List.length_map];omega
   clear hmr bxx hkn;go_wp2;go_ret;exact⟨_,_,_,rfl,by rw [<- HT.out];exact hR,hB⟩
end Go.Proofs.YtnlcfkpcmfljeaaGreat
namespace Go.Proofs.YtnlcfkpcmfljeaaGreat
open Go.RowKit
section
variable {α:Type} {r:Rp α} {B M:Nat} {e:TypeId} {w:World} {A:Option Addr} {n cap:Nat} {l:List α}
theorem run_appsR {P:Program}(ty t:TypeId) (z:Value) (bytes:Nat) (ei:Ei P t e z r.size bytes) (hr:r.Ok) {wr:World}
  (h:MS B M e r wr A n cap l) (hb:Below wr.heap.size wr w) (hB:B<=wr.heap.size)
  {A2:Option Addr} {n2 cap2:Nat} {l2:List α} {fs2:List (List Nat)} {css2:List (List Value)} (h2:All3 (r.own w) fs2 css2 l2) (hn2:l2.length=n2) (hfr:Fr wr.heap.size fs2.flatten)
  (hc2:0<n2->∃ b off,A2=some ⟨b,off,none⟩/\∀ (j:Nat) c,css2[j]?=some c->∀ (i:Nat) v,c[i]?=some v->w.cell? ⟨b,off+j*r.size+i,none⟩=some v)
  (hn:n+n2<=M) (hM:M<=4294967296) (hby:(n+n2)*bytes<=140737488355328) :
  ∃ A' cap' w',(Builtin.append_ #[t,t] ty #[.slice A n cap,.slice A2 n2 cap2]).run P w=.ok (.slice A' (n+n2) cap') w'/\MS B M e r w' A' (n+n2) cap' (l++l2)/\Below B w w'/\w.grownBy w' (A.map (·.block))/\(A'.map (·.block)=A.map (·.block)\/A'.map (·.block)=some w.heap.size):=by
 obtain⟨i,hi,h1,h3,h4⟩:=info_parts ei.hi;obtain⟨fp,hO,hfp⟩:=h;have hlt0:=hO.lt hr;have hO':=hO.belowS hr hb;obtain⟨css,fps,hown,rfl,h6⟩:=hO'.ex;have hcl2:=h2.clen hr;have hl2:=h2.lens;rcases A2 with _|ad
 ·have h0:n2=0:=by
   rcases Nat.eq_zero_or_pos n2 with h0|h0
   ·exact h0
   ·obtain⟨_,_,e,_⟩:=hc2 h0;cases e
  subst h0;have hl:l2=[]:=List.eq_nil_of_length_eq_zero hn2;subst hl
  have hrun:(Builtin.append_ #[t,t] ty #[.slice A n cap,.slice none 0 cap2]).run P w=.ok (.slice A n cap) w:=by
   rcases hown.2 with ⟨hv,rfl⟩|⟨g,cp,cur,hv,_,_,hnc,_⟩
   ·injection hv with a b c;subst a;subst c
    simp [Builtin.append_,run_underlying ei.ht,sizeOf,typeInfo,hi,Builtin.lenOf,Builtin.firstCells]
   ·injection hv with a b c;subst a;subst c
    simp [Builtin.append_,run_underlying ei.ht,sizeOf,typeInfo,hi,Builtin.lenOf,Builtin.firstCells,hnc,storeCells]
  exact⟨A,cap,w,hrun,by rw [List.append_nil];exact⟨_,hO',hfp⟩,Below.refl _ _,World.grownBy.refl _ _,.inl rfl⟩
 ·have hnews:∀ j u,css2.flatten[j]?=some u->w.cell? (ad.add j)=some u:=by
   intro j u hj;obtain⟨c,hc,hu⟩:=flat_idx hr.pos hcl2 hj
   have h0:0<n2:=by
    have g1:=lt_of_at hc;rw [hl2.2,hn2]at g1;exact Nat.lt_of_le_of_lt (Nat.zero_le _) g1
   obtain⟨b,off,e,hcell⟩:=hc2 h0;injection e with e;subst e;have:=hcell _ c hc _ u hu
   have e2:(⟨b,off,none⟩:Addr).add j=⟨b,off+j / r.size*r.size+j % r.size,none⟩:=by
    have:j / r.size*r.size+j % r.size=j:=by rw [Nat.mul_comm];exact Nat.div_add_mod j r.size
    have e3:(⟨b,off,none⟩:Addr).add j=⟨b,off+j,none⟩:=by unfold Addr.add;split<;>simp_all
    rw [e3,Nat.add_assoc,this]
   rw [e2];exact this
  have hone:∀ u∈css2.flatten,u.oneCell'=true:=by
   intro u hu;obtain⟨c,hc,hu⟩:=List.mem_flatten.1 hu;obtain⟨j,hj,rfl⟩:=List.getElem_of_mem hc;have hx:l2[j]?=some (l2[j]'(by omega)):=List.getElem?_eq_getElem (by omega);obtain⟨f,c',_,g2,g3⟩:=h2.get hx;rw [List.getElem?_eq_getElem hj]at g2;injection g2 with g2;rw [<- g2]at g3;exact hr.one (hr.toRep g3) u hu
  obtain⟨v',w',hrun,r1,r2,_,r4⟩:=run_append_own_at (P:=P) w 0 t ty e i z r.size bytes ei.ht hi h1 h3 h4 ei.hz hr.pos (.slice A n cap) n css.flatten hown ad n2 cap2 css2.flatten (by rw [flat_length hcl2,hl2.2,hn2]) hnews hone (by unfold maxLen;omega) hby (Nat.zero_le _);obtain⟨A',cap',rfl⟩:=ownsRow_slice r1;rw [blk_own]at r2 r4;rw [blk_own]at r4;have hbl:Below B w w':=MS.grown ⟨_,hO,hfp⟩ hb hB r2;refine⟨A',cap',w',hrun,?_,hbl,r2,r4⟩;have hkeep:∀ k,k<w.heap.size->k∉blk A->w'.heap[k]?=w.heap[k]?:=fun k hk hne=>r2.block k hk (fun e=>hne (mem_blk.2 e.symm));have hdj:=hfp.disj
  have hlt2:∀ k∈fs2.flatten,k<w.heap.size:=by
   intro k hk;obtain⟨f,hf,hk⟩:=List.mem_flatten.1 hk;obtain⟨j,hj,rfl⟩:=List.getElem_of_mem hf;obtain⟨f',c,g1,_,g3⟩:=h2.get (List.getElem?_eq_getElem (l:=l2) (i:=j) (by rw [<- hl2.1];exact hj));rw [List.getElem?_eq_getElem hj]at g1;injection g1 with g1;exact hr.lt g3 k (g1▸hk)
  refine⟨blk A'++(fps++fs2).flatten,⟨by simp [hO.len,hn2],hn,css++css2,fps++fs2,?_,rfl,?_⟩,?_⟩
  ·rw [List.flatten_append];exact r1
  ·refine All3.app (h6.mono fun f c x hf ho=>hr.okeep ho fun k hk=>?_) (h2.mono fun f c x hf ho=>hr.okeep ho fun k hk=>?_)
   ·have hm:k∈fps.flatten:=List.mem_flatten.2 ⟨f,hf,hk⟩
    exact hkeep k (Nat.lt_of_lt_of_le (hlt0 k (List.mem_append_right _ hm)) hb.size) (fun hk'=>hdj k hk' hm)
   ·have hm:k∈fs2.flatten:=List.mem_flatten.2 ⟨f,hf,hk⟩
    refine hkeep k (hlt2 k hm) (fun hk'=>?_);have:=hlt0 k (List.mem_append_left _ hk');have:=hfr.ge k hm;omega
  ·rw [List.flatten_append]
   have hmid:Fr B (fps.flatten++fs2.flatten):=hfp.right.append hfr (fun k hk=>hlt0 k (List.mem_append_right _ hk)) hB;refine⟨List.nodup_append.2 ⟨by cases A'<;>simp [blk],hmid.nd,fun a ha b hb' e=>?_⟩,fun k hk=>?_⟩
   ·subst e
    rcases r4 with hA|hA
    ·have ha':a∈blk A:=mem_blk.2 (hA▸mem_blk.1 ha)
     rcases List.mem_append.1 hb' with hb'|hb'
     ·exact hdj a ha' hb'
     ·have:=hlt0 a (List.mem_append_left _ ha');have:=hfr.ge a hb';omega
    ·have ha':a=w.heap.size:=by have:=mem_blk.1 ha;rw [hA]at this;injection this with this;exact this.symm
     rcases List.mem_append.1 hb' with hb'|hb'
     ·have:=hlt0 a (List.mem_append_right _ hb');have:=hb.size;omega
     ·have:=hlt2 a hb';omega
   ·rcases List.mem_append.1 hk with hk|hk
    ·rcases r4 with hA|hA
     ·exact hfp.left.ge k (mem_blk.2 (hA▸mem_blk.1 hk))
     ·have:=mem_blk.1 hk;rw [hA]at this;injection this with this;have:=hb.size;omega
    ·exact hmid.ge k hk
theorem run_appfR {P:Program}(ty t:TypeId) (z:Value) (bytes:Nat) (ei:Ei P t e z r.size bytes) (hr:r.Ok) (hfl:r.Flat) {wr:World}
  (h:MS B M e r wr A n cap l) (hb:Below wr.heap.size wr w) (hB:B<=wr.heap.size)
  {A2:Option Addr} {n2 cap2:Nat} {l2:List α} {M2:Nat} (h2:RS M2 r w A2 n2 cap2 l2)
  (hn:n+n2<=M) (hM:M<=4294967296) (hby:(n+n2)*bytes<=140737488355328) :
  ∃ A' cap' w',(Builtin.append_ #[t,t] ty #[.slice A n cap,.slice A2 n2 cap2]).run P w=.ok (.slice A' (n+n2) cap') w'/\MS B M e r w' A' (n+n2) cap' (l++l2)/\Below B w w'/\w.grownBy w' (A.map (·.block))/\(A'.map (·.block)=A.map (·.block)\/A'.map (·.block)=some w.heap.size):=by
 obtain⟨css,hl,h3,h4⟩:=h2.all;have hln:=h2.len
 have hall:All3 (r.own w) (List.replicate n2 []) css l2:=by
  clear h4 hn hby h h2
  induction l2 generalizing css n2 with
  | nil=>simp at hln;subst hln;have:=List.eq_nil_of_length_eq_zero hl;subst this;simp [All3]
  | cons x xs ih =>
   simp at hln;subst hln;cases css with
   | nil=>simp at hl
   | cons c cs =>
    obtain⟨c',g1,g2⟩:=h3 0 x rfl;simp at g1;subst g1;refine⟨hfl g2,ih cs (by simpa using hl) ?_ rfl⟩;intro j y hj;exact h3 (j+1) y (by simpa using hj)
 refine run_appsR ty t z bytes ei hr h hb hB hall hln ?_ (fun h0=>?_) hn hM hby
 ·rw [flatten_nils];exact Fr.nil _
 ·obtain⟨b,off,e,_⟩:=h2.cell h0
  exact⟨b,off,e,h4 b off e⟩
end
section
variable {α:Type} {r:Rp α} {e:TypeId} {B n c:Nat} {A:Option Addr} {l:List α} {W W':World}
theorem step_appsK {P:Program}{ops:Array Oper}{o:Oper}{a:Act}{K:Act->World->Prop}{Q:Exit->Act->World->Prop}{E:Prop}(hgd:o.guard=none) (s x:Operand) (t:TypeId)
  (ho:o.op=.call { callee:=.builtin .append,args:=#[s,x],argTypes:=#[t,t] }) (z:Value) (bytes:Nat) (ei:Ei P t e z r.size bytes) (hr:r.Ok)
  (hs:a.eval s=.slice A n c) (h:PT r e B A n c l W) (hb:Below W.heap.size W W') (hB:B<=W.heap.size)
  {A2:Option Addr} {n2 c2 B2:Nat} {e2:TypeId} {l2:List α} (hx:a.eval x=.slice A2 n2 c2) (h2:PT r e2 B2 A2 n2 c2 l2 W') (hB2:W.heap.size<=B2)
  (hn:n+n2<=NB) (hby:(n+n2)*bytes<=140737488355328)
  (hK:∀ A' cap' w',PT r e B A' (n+n2) cap' (l++l2) w'->Below B W' w'->W'.grownBy w' (A.map (·.block))->(∀ k∈blk A',k∈blk A\/W'.heap.size<=k)->K (a.put o.dst (.slice A' (n+n2) cap')) w') :
  if Region.wanted o (yielded ops a.tmps)=true then Oper.wp P o a W' K Q else E:=by
 have hw:Region.wanted o (yielded ops a.tmps)=true:=by simp [Region.wanted,hgd]
 rw [if_pos hw];have hAlt:=h.blt;have h':=h.below hr hb;have ok:=rK_ok hr (OutS.refl (fun k=>k∈blk A\/k<B) W');have m2:=MS.rk (K':=OutS (fun k=>k∈blk A\/k<B) W') h2 (fun V hV=>hV.mono fun k hk=>.inr (hk.elim (fun e=>Nat.lt_of_lt_of_le (hAlt k e) hB2) (fun e=>Nat.lt_of_lt_of_le e (Nat.le_trans hB hB2))));have q2:=MS.rs m2 ok;obtain⟨A',cap',w',hrun,g1,g2,g3,g4⟩:=run_appfR (P:=P) (r:=rK r (OutS (fun k=>k∈blk A\/k<B) W')) o.type t z bytes ei ok (fun h=>⟨rfl,h⟩) h' (Below.refl _ _) (Nat.le_trans hB hb.size) q2 hn (by unfold NB;omega) hby;unfold Oper.wp execOp;simp only [ho,resolve,invoke,builtin,Sem.run_bind,Sem.run_pure,Result.andThen_ok,List.map_toArray,List.map_cons,List.map_nil,hs,hx,hrun]
 have hA:∀ k∈blk A',k∈blk A\/W'.heap.size<=k:=fun k hk=>by
  rcases g4 with hd|hd
  ·exact .inl (mem_blk.2 (hd▸mem_blk.1 hk))
  ·right;have:=mem_blk.1 hk;rw [hd]at this;injection this with this;omega
 exact hK _ _ _ (PT.grown g1 g3 hA) g2 g3 hA
end
attribute [local go_sem ↓] Go.wp_at_zero Go.wp_at_succ
theorem joinE_len {md:ModelD}{s:List Int}{l:List PlanEntryD}{mk:Int}{sp:List (Int × List Int)}(ht:∀ x∈l,EntOk x) (hx:SplsOk l mk sp):(joinE md s l mk sp).length<=5:=by
 have h:=(mineE_ok (md:=md) (s:=s) ht hx).1.len;unfold joinE;exact Nat.le_trans (List.length_filter_le _ _) (Nat.le_of_eq h)
theorem tab_len {q:QueryD}(hq:validQ q=true) (md:ModelD) (s:List Int) {k:Nat}(hk:k<=(connMasks q).length):(tabOf md q s ((connMasks q).take k)).length<=5*k:=by
 induction k with
 | zero=>simp [tabOf]
 | succ k ih =>
  have ih:=ih (by omega);have hm:(connMasks q)[k]?=some ((connMasks q)[k]'(by omega)):=List.getElem?_eq_getElem _;generalize (connMasks q)[k]'(by omega)=m at hm;rw [tabOf_snoc hm];unfold tabStep;split
  ·simp;omega
  ·have hT:=tab_ok hq md s (k:=k) (by omega)
   have:=joinE_len (md:=md) (s:=s) hT.ok (shape_ok hq hm hT);rw [List.length_append];omega
theorem RS.shape {M:Nat}{w:World}{A:Option Addr}{n c:Nat}{l:List (Int × List (Int × List Int))}(h:RS M rShape w A n c l) {k:Nat}(hk:k<n):∃ b off x A1 n1 c1 A2 n2 c2,A=some ⟨b,off,none⟩/\w.cell? ⟨b,off+k*3,none⟩=some (.int .i64 x.1)/\w.cell? ⟨b,off+k*3+1,none⟩=some (.slice A1 n1 c1)/\w.cell? ⟨b,off+k*3+2,none⟩=some (.slice A2 n2 c2)/\RS NB rInt w A1 n1 c1 (x.2.map (·.1))/\RS NB (rSlice NB 3 rInt) w A2 n2 c2 (x.2.map (·.2))/\Hid (l[k]?=some x):=by
 obtain⟨b,off,x,cs,e,⟨A1,n1,c1,A2,n2,c2,rfl,h1,h2⟩,hc,hx⟩:=h.at_ hk;exact⟨b,off,x,A1,n1,c1,A2,n2,c2,e,hc 0 _ rfl,hc 1 _ rfl,hc 2 _ rfl,h1,h2,hx⟩
theorem shapesOf_at {q:QueryD}{k:Nat}{x:Int × List (Int × List Int)}(h:(shapesOf q)[k]?=some x):(connMasks q)[k]?=some x.1/\x.2=shapeOf q x.1:=by
 unfold shapesOf at h;rw [List.getElem?_map]at h;cases hm:(connMasks q)[k]? with
 | none=>rw [hm]at h;cases h
 | some m=>rw [hm]at h;injection h with h;subst h;exact⟨rfl,rfl⟩
structure Tb (w:World) (csm csx:List Value) (md:ModelD) (x:QueryD) (s:List Int) (k:Nat) (A:Option Addr) (n c:Nat) (U:World):Prop where
 pt:PT (rPlanEntry NB) 107 (w.heap.size+2) A n c (tabOf md x s ((connMasks x).take k)) U
 be:Below w.heap.size w U
 km:Bk U w.heap.size 46 csm
 kx:Bk U (w.heap.size+1) 50 csx
theorem PT.base {α:Type}{r:Rp α}{e:TypeId}{B B' n c:Nat}{A:Option Addr}{l:List α}{W:World}(h:PT r e B A n c l W) (hB:B'<=B):PT r e B' A n c l W:=MS.rk (MS.base h hB) (fun V hV=>hV.mono (fun k hk=>hk.elim .inl (fun e=>.inr (Nat.lt_of_lt_of_le e hB))))
theorem sTable_c (csm:List Value) (md:ModelD) (x:QueryD) (Ax_e:Option Addr) (nx_e cx_e:Nat) (Ah:Option Addr) (nh ch:Nat) (As:Option Addr) (ns cc:Nat) (s:List Int) (w:World)
  (hm:(rModel NB).rep w csm md) (hxA:RS NB (rAtom NB) w Ax_e nx_e cx_e x.fAtoms) (hp:RS NB rShape w Ah nh ch (shapesOf x)) (hs:RS NB rInt w As ns cc s) (hv:validQ x=true) (hl:fullMask x<s.length) (hl16:s.length<=16) :
  Calls Tryz.prog 55 #[.agg csm.toArray,.agg #[.int .i64 x.fVariableCount,.slice Ax_e nx_e cx_e],.slice Ah nh ch,.slice As ns cc] w
   fun e w'=>∃ A n c,e=.returned (.slice A n c)/\PT (rPlanEntry NB) 107 w.heap.size A n c (tableE md x s) w'/\Below w.heap.size w w':=by
 have lenm:=(rModel_ok NB).len hm;have hnh:(connMasks x).length=nh:=by have:=hp.len;unfold shapesOf at this;rw [List.length_map]at this;exact this
 have hnb:nh<=15:=by have:=connMasks_len x;omega
 have HV:=Lib.hid hv;obtain⟨w1,hw1⟩:∃ W,W=w.alloc (.cells csm.toArray 46):=⟨_,rfl⟩;obtain⟨w2,hw2⟩:∃ W,W=w1.alloc (.cells #[.int .i64 x.fVariableCount,.slice Ax_e nx_e cx_e] 50):=⟨_,rfl⟩;have hs1:w1.heap.size=w.heap.size+1:=by rw [hw1];simp
 have hs2:w2.heap.size=w.heap.size+2:=by rw [hw2];simp [hs1]
 have b1:Below w.heap.size w w1:=by rw [hw1];exact bal
 have b2:Below w1.heap.size w1 w2:=by rw [hw2];exact bal
 have kM2:Bk w2 w.heap.size 46 csm:=Bk.below (w:=w1) (by rw [hw1];exact Bk.new w _ _) b2;have kX2:Bk w2 (w.heap.size+1) 50 [.int .i64 x.fVariableCount,.slice Ax_e nx_e cx_e]:=by rw [hw2,<- hs1];exact Bk.new w1 _ _
 have bb:Below w.heap.size w w2:=b1.trans (b2.mono b1.size);have b3:=(Below.refl w2.heap.size w2).alloc (Nat.le_refl _) (.cells #[] 107);have P0:=PT.new (r:=rPlanEntry NB) (e:=107) (W:=w2) (B:=w.heap.size+2) (by omega);have T0:Tb w csm [.int .i64 x.fVariableCount,.slice Ax_e nx_e cx_e] md x s 0 (some ⟨w2.heap.size,0,none⟩) 0 0 (w2.alloc (.cells #[] 107)):=⟨P0,bb.trans (b3.mono bb.size),kM2.below b3,kX2.below b3⟩;clear hs1 hs2 b1 b2 b3 kM2 kX2 P0 bb hv
 go_enter Tryz.func55,Tryz.ntmps55
 go_upto_region 1 with fail
 rw [<- hw1,<- hw2];clear hw1 hw2
 go_wp2_with fail
 go_loopw [9,10] (fun ov iv wv=>∃ (k n c:Nat) (A:Option Addr),k<=nh/\iv=.int .i64 (k:Int)/\ov=.slice A n c/\Tb w csm [.int .i64 x.fVariableCount,.slice Ax_e nx_e cx_e] md x s k A n c wv) (fun _ i _=>nh - (intOf i).toNat)
 case atStart=>exact⟨0,0,0,_,Nat.zero_le _,rfl,rfl,T0⟩
 case round =>
  clear T0;obtain⟨k,n,c,A,hk,rfl,rfl,H⟩:=hrel;obtain⟨U,hU⟩:∃ U,U=wr:=⟨_,rfl⟩;rw [<- hU]at H ⊢;clear hU;by_cases hlt:k<nh
  ·obtain⟨bh,oh,z,A1,n1,c1,A2,n2,c2,rfl,z0,z1,z2,hx1,hx2,hz⟩:=hp.shape hlt
   obtain⟨z',sh⟩:=z;obtain⟨hmk,hze⟩:=shapesOf_at hz.out;simp only at hmk hze z0 hx1 hx2;subst hze;have hmem:=connMasks_mem.1 (mem_of_at hmk);have f15:=fm15 x;obtain⟨m,rfl⟩:∃ m:Nat,z'=(m:Int):=⟨z'.toNat,by have:=hmem.1.1;omega⟩;have hm1:1<=m:=by have:=hmem.1.1;omega
   have hmf:(m:Int)<=fullMask x:=hmem.1.2;have hm15:m<=15:=by omega
   have hms:m<s.length:=by omega
   have HMK:=Lib.hid hmk;have HTS:Hid (tabOf md x s ((connMasks x).take (k+1))=tabStep md x s (tabOf md x s ((connMasks x).take k)) (m:Int)):=tabOf_snoc hmk;have pA:=andI_bits (a:=(m:Int)) (b:=(m:Int) - 1) (by omega) (by omega) (by omega) (by omega);have hwm:IntKind.i64.wrap ((m:Int) - 1)=(m:Int) - 1:=IntWalk.i64_in _ (by omega);have hkI:(k:Int)<nh:=by omega
   have hwU:w.heap.size+2<=U.heap.size:=H.kx.lt;have hn12:n2=n1:=by have e1:=hx1.len;have e2:=hx2.len;rw [List.length_map]at e1 e2;omega
   have hx2':=hx2;rw [hn12]at hx2';have hT:=tab_ok HV.out md s (k:=k) (by omega);have hnl:=H.pt.len;have htl:=tab_len HV.out md s (k:=k) (by omega);have hn75:n<=75:=by omega
   replace z0:=cells_below H.be _ _ z0;clear hmk hz hmem hnl htl;cases hsg:single (m:Int)
   ·have hz1:(andI (m:Int) ((m:Int) - 1)==0)=false:=by unfold single at hsg;simpa using hsg
    have hAg:=H.pt.ge;have hAl:=H.pt.blt;have hbh:bh<w.heap.size:=World.block_lt_of_cell? _ ⟨bh,oh+k*3+1,none⟩ z1;have z1':=cells_below H.be _ _ z1;have z2':=cells_below H.be _ _ z2
    have HSS:Hid (∀ w':World,OutS (fun z=>z∈blk A) U w'->(w'.rangeAt w.heap.size 0 csm/\w'.cell? ⟨bh,oh+k*3,none⟩=some (.int .i64 (m:Int))/\w'.cell? ⟨bh,oh+k*3+1,none⟩=some (.slice A1 n1 c1)/\w'.cell? ⟨bh,oh+k*3+2,none⟩=some (.slice A2 n2 c2))):=by
     show ∀ w':World,_->_;intro w' h;have e1:Bk w' w.heap.size 46 csm:=(h.2 _ (fun e=>by have:=hAg _ e;omega) H.km.lt).trans H.km;exact⟨e1.rangeAt,h.cell z0 (fun e=>by have:=hAg _ e;omega),h.cell z1' (fun e=>by have:=hAg _ e;omega),h.cell z2' (fun e=>by have:=hAg _ e;omega)⟩
    have hd0:=(Below.refl U.heap.size U).drew;have hD0:OutS (fun z=>z∈blk A) U U.drew:=OutS.ofBelow hd0;have BD:=H.be.trans (hd0.mono H.be.size)
    go_upto_region 9 with fail
    refine hbg HSS.out hD0 (fun hH=>?_);refine tq1 0 hH ?_;refine ldm 1 61 (fun w h=>h.1) Tryz.underlying46 (by rw [lenm];exact sizeModelT) hH ?_;simp only [putS];refine tq4 2 hH ?_;simp only [putS];refine tq2 6 hH ?_;simp only [putS];refine rd 8 (some 68) fun K hK=>?_;clear hH;go_simp;refine(sJoin_c csm md As ns cc s A n c _ m (shapeOf x (m:Int)) A1 c1 A2 c2 n1 _ ((rModel_ok NB).keep hm (cells_below BD)) (hs.below rInt_ok BD) ((H.pt.below (rPlanEntry_ok NB) hd0).rs (rPlanEntry_ok NB)) (hx1.below rInt_ok BD) (hx2'.below (rSlice_ok NB _ rInt_ok) BD) hT.ok (shape_ok HV.out HMK.out hT) hms hl16).mono ?_
    rintro e U2 ⟨A5,n5,c5,rfl,P5,hb5⟩;have hB2:=hd0.trans (hb5.mono hd0.size);have hC1:OutS (fun z=>z∈blk A) U U2:=OutS.ofBelow hB2
    go_wp2_with fail
    refine hK.out _ _ (HSS.out _ hC1) (fun hH=>?_);clear hK K
    try simp only [putS]
    have hj5:=joinE_len (md:=md) (s:=s) hT.ok (shape_ok HV.out HMK.out hT);have hn5:n5<=5:=by have:=P5.len;omega
    refine rd 9 (some 69) fun K hK=>?_;clear hH;refine step_appsK (by rfl) _ _ 110 (by rfl) _ 48 eiPlanEntry (rPlanEntry_ok NB) (by rfl) H.pt hB2 hwU (by rfl) P5 (Nat.le_refl _) (by unfold NB;omega) (by omega) ?_;intro A' c' w' P' b' g' q';have hC2:OutS (fun z=>z∈blk A) U w':=hC1.trans ⟨g'.size,fun z h1 h2=>g'.block z h2 (fun e=>h1 (mem_blk.2 e.symm))⟩;refine hK.out _ _ (HSS.out _ hC2) (fun hH=>?_);clear hK K
    try simp only [putS]
    refine tq1 10 hH ?_;simp only [putS];refine wpAnyH_done (by kernel_rfl) ?_ _;clear hH
    have HT':Tb w csm [.int .i64 x.fVariableCount,.slice Ax_e nx_e cx_e] md x s (k+1) A' (n+n5) c' w':=by
     refine⟨?_,?_,?_,?_⟩
     ·rw [HTS.out];unfold tabStep;rw [if_neg (by rw [hsg];decide)];exact P'
     ·exact(H.be.trans (hB2.mono H.be.size)).trans (b'.mono (by omega))
     ·exact(hC2.2 _ (fun e=>by have:=hAg _ e;omega) H.km.lt).trans H.km
     ·exact(hC2.2 _ (fun e=>by have:=hAg _ e;omega) H.kx.lt).trans H.kx
    go_wp2;go_roundw
    case rel=>exact⟨k+1,n+n5,c',A',by omega,by go_num,rfl,HT'⟩
    case measure=>simp [intOf];omega
   ·have hz1:(andI (m:Int) ((m:Int) - 1)==0)=true:=by unfold single at hsg;simpa using hsg
    obtain⟨i,hi1,hi2,hi3,hi4⟩:=atom0_ok HV.out (m:=(m:Int)) (by omega) hmf hsg;have HI1:=Lib.hid hi1;have HI2:=Lib.hid hi2;have HI4:=Lib.hid hi4;have HSG:=Lib.hid hsg;clear hsg hi1 hi2 hi4
    go_upto_region 7 with fail
    go_wp2_with fail
    refine(sMaskAtoms_c (m:Int) _ (by omega) (by omega)).mono ?_;rintro e U1 ⟨Aa,na,ca,rfl,ha,hb1⟩;rw [HI1.out]at ha;have ra:=ha.rs rInt_ok;have hna:na=1:=ra.len.symm;subst hna;obtain⟨ba,oa,i',rfl,ca0,iI,hia⟩:=ra.ati (k:=0) (by omega);obtain rfl:i'=(i:Int):=by have:=hia.out;simpa using this.symm
    rw [Nat.add_zero]at ca0;have B1:=H.be.trans (hb1.mono H.be.size);have km1:=H.km.below hb1;have kx1:=H.kx.below hb1;have pt1:=H.pt.below (rPlanEntry_ok NB) hb1;have hAg:=pt1.ge;obtain⟨Ao,no,co,oL,rO⟩:=modelAtL hm (j:=0) (by omega);have eo:opOf md (((0:Nat):Int)+1)=md.fScan:=rfl;rw [eo]at oL rO;have hnx:=hxA.len;have hiA:i<nx_e:=by omega
    have hmn:m<ns:=by have:=hs.len;omega
    obtain⟨bA,oA,at',csA,rfl,hrepA,hcA,hxa⟩:=hxA.at_ (k:=i) (by omega);obtain⟨AV,nV,cV,rfl,hNm,hV⟩:=rAtom_rep.1 hrepA;have hap:=atomOk_parts ((validQ_parts HV.out).2.2.2.2.1 _ (mem_of_at hxa.out));have hV1:0<nV:=by have:=hV.len;have:=hap.2.1;omega
    obtain⟨bV,oV,v,rfl,cv,vI,hv0⟩:=hV.ati (k:=0) hV1;have HFV:Hid (firstVar x (atom0 (m:Int))=v):=by show _=_;rw [HI2.out];unfold firstVar;rw [Int.toNat_natCast,hxa.out];simp [hv0.out]
    obtain⟨bs,os,z9,rfl,cz,zI,hzz⟩:=hs.ati (k:=m) (by have:=hs.len;omega);have HZ:Hid (sizeAt s (m:Int)=z9):=by show _=_;unfold sizeAt;rw [Int.toNat_natCast,hzz.out];rfl
    rw [Nat.add_zero]at cv;have cA:=hcA 1 _ rfl;clear hap hNm hrepA hcA hzz hxa hv0 eo;have zA:=cells_below B1 _ _ cA;have zV:=cells_below B1 _ _ cv;have zZ:=cells_below B1 _ _ cz;have hbA:bA<w.heap.size:=World.block_lt_of_cell? _ _ cA;have hbV:bV<w.heap.size:=World.block_lt_of_cell? _ _ cv;have hbZ:bs<w.heap.size:=World.block_lt_of_cell? _ _ cz
    have HSS:Hid (∀ w':World,OutS (fun z=>z∈blk A) U1 w'->(w'.rangeAt w.heap.size 0 [.int .i64 md.fScan.fFixed,.int .i64 md.fScan.fPerLeft,.int .i64 md.fScan.fPerRight,.int .i64 md.fScan.fPerOutput,.int .i64 md.fScan.fPerPair,.slice Ao no co]/\w'.cell? ⟨w.heap.size+1,1,none⟩=some (.slice (some ⟨bA,oA,none⟩) nx_e cx_e)/\w'.cell? ⟨bA,oA+i*2+1,none⟩=some (.slice (some ⟨bV,oV,none⟩) nV cV)/\w'.cell? ⟨bV,oV,none⟩=some (.int .i64 v)/\w'.cell? ⟨bs,os+m,none⟩=some (.int .i64 z9))):=by
     show ∀ w':World,_->_;intro w' h;have e1:Bk w' w.heap.size 46 csm:=(h.2 _ (fun e=>by have:=hAg _ e;omega) km1.lt).trans km1;refine⟨e1.rng 0 (fun j u hj=>?_),h.cell (kx1.bx 1 _ rfl) (fun e=>by have:=hAg _ e;omega),h.cell zA (fun e=>by have:=hAg _ e;omega),h.cell zV (fun e=>by have:=hAg _ e;omega),h.cell zZ (fun e=>by have:=hAg _ e;omega)⟩
     match j,hj with
     | 0,hj=>injection hj with hj;subst hj;exact oL.c0
     | 1,hj=>injection hj with hj;subst hj;exact oL.c1
     | 2,hj=>injection hj with hj;subst hj;exact oL.c2
     | 3,hj=>injection hj with hj;subst hj;exact oL.c3
     | 4,hj=>injection hj with hj;subst hj;exact oL.c4
     | 5,hj=>injection hj with hj;subst hj;exact oL.c5
    have hd0:=(Below.refl U1.heap.size U1).drew;have hD0:OutS (fun z=>z∈blk A) U1 U1.drew:=OutS.ofBelow hd0;have rO1:=(rOperator_ok NB).keep rO (cells_below (B1.trans (hd0.mono B1.size)))
    go_upto_region 8 with fail
    refine hbg HSS.out hD0 (fun hH=>?_);refine tq4 0 hH ?_;simp only [putS];refine tq4 4 hH ?_;simp only [putS];refine tq2 8 hH ?_;refine tq1 10 hH ?_;refine ldm 11 45 (fun w h=>h.1) Tryz.underlying44 sizeOpV hH ?_;simp only [putS];refine tq4 12 hH ?_;simp only [putS];refine tq4 16 hH ?_;simp only [putS];refine tq1 21 hH ?_;simp only [putS];refine rd 20 (some 54) fun K hK=>?_;clear hH;go_simp;refine(sOpCost_c _ md.fScan z9 0 z9 _ rO1).mono ?_;rintro e U2 ⟨rfl,hb2⟩;have hB2:=hd0.trans (hb2.mono hd0.size);have hC1:OutS (fun z=>z∈blk A) U1 U2:=OutS.ofBelow hB2
    go_wp2_with fail
    refine hK.out _ _ (HSS.out _ hC1) (fun hH=>?_);clear hK K
    try simp only [putS]
    have hOb:=opCostV_bd (o:=md.fScan) (l:=z9) (r:=0) (t:=z9);refine rd 22 (some 56) fun K hK=>?_;clear hH;go_simp;refine(sScanPlan_c (i:Int) _ iI).mono ?_;rintro e U3 ⟨csP,fP,rfl,oP0,fF,hb3⟩;obtain⟨AP,nP,cP,_,rfl,rfl,oP⟩:=rPlan_own.1 oP0;have hB3:=hB2.trans (hb3.mono hB2.size);have hC2:OutS (fun z=>z∈blk A) U1 U3:=OutS.ofBelow hB3
    go_wp2_with fail
    refine hK.out _ _ (HSS.out _ hC2) (fun hH=>?_);clear hK K
    try simp only [putS]
    refine tq1 23 hH ?_;simp only [putS];have mI:I64 (m:Int):=by unfold I64;omega
    have cI:I64 (opCostV md.fScan z9 0 z9):=by unfold I64;omega
    have hA3:=hB3.alloc hB3.size (.cells #[.int .i64 (m:Int),.int .i64 v,.int .i64 (opCostV md.fScan z9 0 z9),.slice AP nP cP] 107);have hC3:OutS (fun z=>z∈blk A) U1 (U3.alloc (.cells #[.int .i64 (m:Int),.int .i64 v,.int .i64 (opCostV md.fScan z9 0 z9),.slice AP nP cP] 107)):=OutS.ofBelow hA3;refine rd 24 (some 58) fun K hK=>?_;clear hH;go_simp;refine hK.out _ _ (HSS.out _ hC3) (fun hH=>?_);clear hK K
    try simp only [putS]
    have oE:(rPlanEntry NB).own U3 fP [.int .i64 (m:Int),.int .i64 v,.int .i64 (opCostV md.fScan z9 0 z9),.slice AP nP cP] ⟨(m:Int),v,opCostV md.fScan z9 0 z9,⟨[⟨1,(i:Int),0⟩]⟩⟩:=rPlanEntry_own.2 ⟨AP,nP,cP,fP,rfl,rfl,mI,vI,cI,oP⟩;have hAg2:=pt1.blt;have hBw:w.heap.size+2<=U2.heap.size:=Nat.le_trans (Nat.le_trans hwU hb1.size) hB2.size
    have sE:StS (rPlanEntry NB) (fun k=>k∈blk A\/k<w.heap.size+2) (U3.alloc (.cells #[.int .i64 (m:Int),.int .i64 v,.int .i64 (opCostV md.fScan z9 0 z9),.slice AP nP cP] 107)) [.int .i64 (m:Int),.int .i64 v,.int .i64 (opCostV md.fScan z9 0 z9),.slice AP nP cP] ⟨(m:Int),v,opCostV md.fScan z9 0 z9,⟨[⟨1,(i:Int),0⟩]⟩⟩ :=
     StS.ofOwn (rPlanEntry_ok NB) ((rPlanEntry_ok NB).ownB oE (bal)) (fun k hk=>by
      have h1:=fF.ge k hk;have h2:=hB2.size;rintro(h|h)
      ·have:=hAg2 k h;omega
      ·omega)
    refine rd 25 (some 59) fun K hK=>?_;clear hH;refine step_appK (by rfl) _ _ 110 (by rfl) _ 48 eiPlanEntry (rPlanEntry_ok NB) (by rfl) pt1 hA3 (Nat.le_trans hwU hb1.size) ⟨U3.heap.size,0,none⟩ (by rfl) sE (cells_new _ _ _) (by unfold NB;omega) (by omega) ?_;intro A' c' w' P' b' g' q';have hC4:OutS (fun z=>z∈blk A) U1 w':=hC3.trans ⟨g'.size,fun z h1 h2=>g'.block z h2 (fun e=>h1 (mem_blk.2 e.symm))⟩;refine hK.out _ _ (HSS.out _ hC4) (fun hH=>?_);clear hK K
    try simp only [putS]
    refine tq1 26 hH ?_;simp only [putS];refine wpAnyH_done (by kernel_rfl) ?_ _;clear hH;have hSC:scanE md x s (m:Int)=⟨(m:Int),v,opCostV md.fScan z9 0 z9,⟨[⟨1,(i:Int),0⟩]⟩⟩:=by unfold scanE;rw [HFV.out,HZ.out,HI2.out]
    have HT':Tb w csm [.int .i64 x.fVariableCount,.slice (some ⟨bA,oA,none⟩) nx_e cx_e] md x s (k+1) A' (n+1) c' w':=by
     refine⟨?_,?_,?_,?_⟩
     ·rw [HTS.out];unfold tabStep;rw [if_pos HSG.out,hSC];exact P'
     ·exact(B1.trans (hA3.mono B1.size)).trans (b'.mono (by omega))
     ·exact(hC4.2 _ (fun e=>by have:=hAg _ e;omega) km1.lt).trans km1
     ·exact(hC4.2 _ (fun e=>by have:=hAg _ e;omega) kx1.lt).trans kx1
    go_wp2;go_roundw
    case rel=>exact⟨k+1,n+1,c',A',by omega,by go_num,rfl,HT'⟩
    case measure=>simp [intOf];omega
  ·have hkI:¬ (k:Int)<nh:=by omega
   have HT:Hid (tabOf md x s ((connMasks x).take k)=tableE md x s):=by
    show _=_;rw [List.take_of_length_le (by omega)];rfl
   have hP:=H.pt.base (B':=w.heap.size) (by omega);have hB:=H.be;go_wp2;go_ret;exact⟨_,_,_,rfl,by rw [<- HT.out];exact hP,hB⟩
end Go.Proofs.YtnlcfkpcmfljeaaGreat
