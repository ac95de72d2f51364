/-
  Sz
-/
import Derived.Test.YtnlcfkpcmfljeaaGreatTypes
set_option linter.unusedSimpArgs false
set_option linter.unusedVariables false
set_option maxHeartbeats 800000
set_option maxRecDepth 100000
namespace Go.Proofs.YtnlcfkpcmfljeaaGreat
open Go.RowKit
def bulkS {α:Type} (f:α->Nat) (l:List α):Nat:=l.length+(l.map f).sum
theorem sum_ge {α:Type}(f:α->Nat) {l:List α}{k:Nat}{x:α}(h:l[k]?=some x):((l.take k).map f).sum+f x<=(l.map f).sum:=by
 have e:l.map f=(l.take (k+1)).map f++(l.drop (k+1)).map f:=by rw [<- List.map_append,List.take_append_drop]
 rw [e,List.sum_append,take_snoc h,List.map_append,List.sum_append];simp only [List.map_cons,List.map_nil,List.sum_cons,List.sum_nil];omega
theorem szIntSS_c (A:Option Addr) (n cap:Nat) (l:List (List Int)) (left:Int) (w:World) (hr:RS maxLen (rSlice maxLen 3 rInt) w A n cap l) (h0:0<=left) (h1:left<=1048576):Calls Tryz.prog 99 #[.slice A n cap,.int .i64 left] w fun e w'=>e=.returned (.int .i64 (lessBy left (bulkS (fun x=>x.length) l)))/\Below w.heap.size w w':=by
 have hn:n<=9223372036854775807:=hr.nb;by_cases h:(n:Int)<=left
 ·obtain⟨L1,hL1⟩:∃ L,L=left - (n:Int):=⟨_,rfl⟩
  have HL1:=Lib.hid hL1;clear hL1
  go_enter Tryz.func99,Tryz.ntmps99
  go_wp2
  go_loopw [1,5] (fun lv i wr=>∃ (k:Nat) (L:Int),k<=n/\i=.int .i64 k/\lv=.int .i64 L/\0<=L/\L<=1048576/\L=left - n - (((l.take k).map (fun x=>x.length)).sum:Nat)/\Below w.heap.size w wr) (fun _ i _=>n - (intOf i).toNat)
  case atStart=>exact⟨0,_,Nat.zero_le _,rfl,rfl,by omega,by omega,by simp,Below.refl _ _⟩
  case round =>
   obtain⟨k,L,hk,rfl,rfl,hL0,hLu,hLe,hb⟩:=hrel;have HLe:=Lib.hid hLe;clear hLe;by_cases hlt:k<n
   ·obtain⟨b,off,x,cs,rfl,hrep,hcell,hxk⟩:=(hr.below (rSlice_ok maxLen _ rInt_ok) hb).at_ hlt
    have hrep0:=hrep;obtain⟨Ae,ne,ce,rfl,hre⟩:=hrep;have q0:wr.cell? ⟨b,off+k,none⟩=some (.slice Ae ne ce):=by simpa [rSlice]using hcell 0 _ rfl
    clear hcell
    go_wp2_with fail
    refine(szIntS_c _ _ _ _ L _ hre hL0 hLu).mono ?_;rintro e w1 ⟨rfl,hb1⟩;have hB1:Below w.heap.size w w1:=hb.trans (hb1.mono hb.size);obtain⟨am,ham⟩:∃ am:Nat,am=x.length:=⟨_,rfl⟩;rw [<- ham];have HA:=Lib.hid ham;clear ham;by_cases hx:(am:Int)<=L
    ·rw [lessBy_yes hx]
     obtain⟨L2,hL2⟩:∃ L2,L2=L - (am:Int):=⟨_,rfl⟩;rw [<- hL2];have HL2:=Lib.hid hL2;have p2:0<=L2:=by omega
     have u2:L2<=1048576:=by omega
     clear hL2 hx;go_wp2;go_roundw
     case rel=>exact⟨k+1,L2,by omega,by go_num,rfl,p2,u2,by rw [take_snoc hxk.out,List.map_append,List.sum_append];have:=HL2.out;have:=HLe.out;have:=HA.out;simp only [List.map_cons,List.map_nil,List.sum_cons,List.sum_nil];omega,hB1⟩
     case measure=>simp [intOf];omega
    ·rw [lessBy_no hx]
     go_wp2;go_ret;refine⟨ret_int (a:=-1) (lessBy_no ?_).symm,hB1⟩;have e1:=sum_ge (fun x=>x.length) hxk.out;have:=HLe.out;have:=HA.out;have:=hr.len;unfold bulkS;omega
   ·go_wp2
    go_ret;refine⟨ret_int ?_,hb⟩;have e1:=HLe.out;rw [take_all hr.len hlt]at e1;rw [lessBy_yes (by have:=hr.len;unfold bulkS;omega)];have:=hr.len;unfold bulkS;omega
 ·go_enter Tryz.func99,Tryz.ntmps99
  go_wp2;go_ret;exact⟨ret_int (a:=-1) (lessBy_no (by have:=hr.len;unfold bulkS;omega)).symm,Below.refl _ _⟩
def bulkAtom (x:AtomD):Nat:=(x.fName.size)+(x.fVars.length)
theorem szAtom_c (cs:List Value) (x:AtomD) (left:Int) (w:World) (h:(rAtom maxLen).rep w cs x) (h0:0<=left) (h1:left<=1048576):Calls Tryz.prog 117 #[.agg cs.toArray,.int .i64 left] w fun e w'=>e=.returned (.int .i64 (lessBy left (bulkAtom x)))/\Below w.heap.size w w':=by
 obtain⟨AVars,nVars,cVars,rfl,hName,hVars⟩:=rAtom_rep.1 h;clear h;have hB0:Below w.heap.size w w:=Below.refl _ _;have HB:Hid (bulkAtom x=(x.fName.size)+(x.fVars.length)):=rfl
 go_enter Tryz.func117,Tryz.ntmps117
 have hszName:x.fName.size<=9223372036854775807:=hName;by_cases h_Name:(((x.fName.size):Nat):Int)<=left
 rotate_left
 ·go_wp2
  go_ret;exact⟨ret_int (a:=-1) (lessBy_no (by rw [HB.out];omega)).symm,(bel hB0)⟩
 obtain⟨LName,hLName⟩:∃ L,L=left - (((x.fName.size):Nat):Int):=⟨_,rfl⟩;have HLName:=Lib.hid hLName;have pName:0<=LName:=by omega
 have uName:LName<=1048576:=by omega
 clear hLName
 go_wp2_with fail
 refine(szIntS_c _ _ _ _ _ _ (hVars.below rInt_ok (bel hB0)) (by omega) (by omega)).mono ?_;rintro e w1 ⟨rfl,hb1⟩;have hB1:Below w.heap.size w w1:=Below.trans (bel hB0) (hb1.mono byo);have hz1:=hb1.size;obtain⟨hc1,hf1⟩:=bcell hb1
 try simp at hz1 hc1 hf1
 have hy1_0:w.heap.size<w1.heap.size:=by omega
 clear hb1 hf1;by_cases h_Vars:(((x.fVars.length):Nat):Int)<=(left - (((x.fName.size):Nat):Int))
 rotate_left
 ·rw [lessBy_no h_Vars]
  go_wp2;go_ret;exact⟨ret_int (a:=-1) (lessBy_no (by rw [HB.out];have:=HLName.out;omega)).symm,(bel hB1)⟩
 rw [lessBy_yes h_Vars];obtain⟨LVars,hLVars⟩:∃ L,L=(left - (((x.fName.size):Nat):Int)) - (((x.fVars.length):Nat):Int):=⟨_,rfl⟩;rw [<- hLVars];have HLVars:=Lib.hid hLVars;have pVars:0<=LVars:=by omega
 have uVars:LVars<=1048576:=by omega
 clear hLVars h_Vars;go_wp2;go_ret;exact⟨ret_int (by rw [lessBy_yes (by rw [HB.out];have:=HLName.out;have:=HLVars.out;omega)];rw [HB.out];have:=HLName.out;have:=HLVars.out;omega),(bel hB1)⟩
theorem szAtomS_c (A:Option Addr) (n cap:Nat) (l:List AtomD) (left:Int) (w:World) (hr:RS maxLen (rAtom maxLen) w A n cap l) (h0:0<=left) (h1:left<=1048576):Calls Tryz.prog 46 #[.slice A n cap,.int .i64 left] w fun e w'=>e=.returned (.int .i64 (lessBy left (bulkS (fun x=>bulkAtom x) l)))/\Below w.heap.size w w':=by
 have hn:n<=9223372036854775807:=hr.nb;by_cases h:(n:Int)<=left
 ·obtain⟨L1,hL1⟩:∃ L,L=left - (n:Int):=⟨_,rfl⟩
  have HL1:=Lib.hid hL1;clear hL1
  go_enter Tryz.func46,Tryz.ntmps46
  go_wp2
  go_loopw [1,5] (fun lv i wr=>∃ (k:Nat) (L:Int),k<=n/\i=.int .i64 k/\lv=.int .i64 L/\0<=L/\L<=1048576/\L=left - n - (((l.take k).map (fun x=>bulkAtom x)).sum:Nat)/\Below w.heap.size w wr) (fun _ i _=>n - (intOf i).toNat)
  case atStart=>exact⟨0,_,Nat.zero_le _,rfl,rfl,by omega,by omega,by simp,Below.refl _ _⟩
  case round =>
   obtain⟨k,L,hk,rfl,rfl,hL0,hLu,hLe,hb⟩:=hrel;have HLe:=Lib.hid hLe;clear hLe;by_cases hlt:k<n
   ·obtain⟨b,off,x,cs,rfl,hrep,hcell,hxk⟩:=(hr.below (rAtom_ok maxLen) hb).at_ hlt
    have hrep0:=hrep;obtain⟨AVars,nVars,cVars,rfl,hName,hVars⟩:=rAtom_rep.1 hrep;have q0:wr.cell? ⟨b,off+k*2,none⟩=some (.string x.fName):=by simpa [rAtom_size]using hcell 0 _ rfl
    have q1:wr.cell? ⟨b,off+k*2+1,none⟩=some (.slice AVars nVars cVars):=by simpa [rAtom_size]using hcell 1 _ rfl
    clear hcell
    go_wp2_with fail
    refine(szAtom_c _ x L _ hrep0 hL0 hLu).mono ?_;rintro e w1 ⟨rfl,hb1⟩;have hB1:Below w.heap.size w w1:=hb.trans (hb1.mono hb.size);obtain⟨am,ham⟩:∃ am:Nat,am=bulkAtom x:=⟨_,rfl⟩;rw [<- ham];have HA:=Lib.hid ham;clear ham;by_cases hx:(am:Int)<=L
    ·rw [lessBy_yes hx]
     obtain⟨L2,hL2⟩:∃ L2,L2=L - (am:Int):=⟨_,rfl⟩;rw [<- hL2];have HL2:=Lib.hid hL2;have p2:0<=L2:=by omega
     have u2:L2<=1048576:=by omega
     clear hL2 hx;go_wp2;go_roundw
     case rel=>exact⟨k+1,L2,by omega,by go_num,rfl,p2,u2,by rw [take_snoc hxk.out,List.map_append,List.sum_append];have:=HL2.out;have:=HLe.out;have:=HA.out;simp only [List.map_cons,List.map_nil,List.sum_cons,List.sum_nil];omega,hB1⟩
     case measure=>simp [intOf];omega
    ·rw [lessBy_no hx]
     go_wp2;go_ret;refine⟨ret_int (a:=-1) (lessBy_no ?_).symm,hB1⟩;have e1:=sum_ge (fun x=>bulkAtom x) hxk.out;have:=HLe.out;have:=HA.out;have:=hr.len;unfold bulkS;omega
   ·go_wp2
    go_ret;refine⟨ret_int ?_,hb⟩;have e1:=HLe.out;rw [take_all hr.len hlt]at e1;rw [lessBy_yes (by have:=hr.len;unfold bulkS;omega)];have:=hr.len;unfold bulkS;omega
 ·go_enter Tryz.func46,Tryz.ntmps46
  go_wp2;go_ret;exact⟨ret_int (a:=-1) (lessBy_no (by have:=hr.len;unfold bulkS;omega)).symm,Below.refl _ _⟩
def bulkQuery (x:QueryD):Nat:=(bulkS (fun x=>bulkAtom x) x.fAtoms)
theorem szQuery_c (cs:List Value) (x:QueryD) (left:Int) (w:World) (h:(rQuery maxLen).rep w cs x) (h0:0<=left) (h1:left<=1048576):Calls Tryz.prog 8 #[.agg cs.toArray,.int .i64 left] w fun e w'=>e=.returned (.int .i64 (lessBy left (bulkQuery x)))/\Below w.heap.size w w':=by
 obtain⟨A_e,n_e,c_e,rfl,h_p5,h_e⟩:=rQuery_rep.1 h;clear h;have hB0:Below w.heap.size w w:=Below.refl _ _;have HB:Hid (bulkQuery x=(bulkS (fun x=>bulkAtom x) x.fAtoms)):=rfl
 go_enter Tryz.func8,Tryz.ntmps8
 go_wp2_with fail
 refine(szAtomS_c _ _ _ _ _ _ (h_e.below (rAtom_ok maxLen) (bel hB0)) (by omega) (by omega)).mono ?_;rintro e w1 ⟨rfl,hb1⟩;have hB1:Below w.heap.size w w1:=Below.trans (bel hB0) (hb1.mono byo);have hz1:=hb1.size;obtain⟨hc1,hf1⟩:=bcell hb1
 try simp at hz1 hc1 hf1
 have hy1_0:w.heap.size<w1.heap.size:=by omega
 clear hb1 hf1;by_cases h_Atoms:(((bulkS (fun x=>bulkAtom x) x.fAtoms):Nat):Int)<=left
 rotate_left
 ·rw [lessBy_no h_Atoms]
  go_wp2;go_ret;exact⟨ret_int (a:=-1) (lessBy_no (by rw [HB.out];omega)).symm,(bel hB1)⟩
 rw [lessBy_yes h_Atoms];obtain⟨LAtoms,hL_e⟩:∃ L,L=left - (((bulkS (fun x=>bulkAtom x) x.fAtoms):Nat):Int):=⟨_,rfl⟩;rw [<- hL_e];have HLAtoms:=Lib.hid hL_e;have pAtoms:0<=LAtoms:=by omega
 have uAtoms:LAtoms<=1048576:=by omega
 clear hL_e h_Atoms;go_wp2;go_ret;exact⟨ret_int (by rw [lessBy_yes (by rw [HB.out];have:=HLAtoms.out;omega)];rw [HB.out];have:=HLAtoms.out;omega),(bel hB1)⟩
def bulkBox (x:BoxD):Nat:=(x.fLow.length)+(x.fHigh.length)
theorem szBox_c (cs:List Value) (x:BoxD) (left:Int) (w:World) (h:(rBox maxLen).rep w cs x) (h0:0<=left) (h1:left<=1048576):Calls Tryz.prog 9 #[.agg cs.toArray,.int .i64 left] w fun e w'=>e=.returned (.int .i64 (lessBy left (bulkBox x)))/\Below w.heap.size w w':=by
 obtain⟨ALow,nLow,cLow,AHigh,nHigh,cHigh,rfl,hLow,hHigh⟩:=rBox_rep.1 h;clear h;have hB0:Below w.heap.size w w:=Below.refl _ _;have HB:Hid (bulkBox x=(x.fLow.length)+(x.fHigh.length)):=rfl
 go_enter Tryz.func9,Tryz.ntmps9
 go_wp2_with fail
 refine(szIntS_c _ _ _ _ _ _ (hLow.below rInt_ok (bel hB0)) (by omega) (by omega)).mono ?_;rintro e w1 ⟨rfl,hb1⟩;have hB1:Below w.heap.size w w1:=Below.trans (bel hB0) (hb1.mono byo);have hz1:=hb1.size;obtain⟨hc1,hf1⟩:=bcell hb1
 try simp at hz1 hc1 hf1
 have hy1_0:w.heap.size<w1.heap.size:=by omega
 clear hb1 hf1;by_cases h_Low:(((x.fLow.length):Nat):Int)<=left
 rotate_left
 ·rw [lessBy_no h_Low]
  go_wp2;go_ret;exact⟨ret_int (a:=-1) (lessBy_no (by rw [HB.out];omega)).symm,(bel hB1)⟩
 rw [lessBy_yes h_Low];obtain⟨LLow,hLLow⟩:∃ L,L=left - (((x.fLow.length):Nat):Int):=⟨_,rfl⟩;rw [<- hLLow];have HLLow:=Lib.hid hLLow;have pLow:0<=LLow:=by omega
 have uLow:LLow<=1048576:=by omega
 clear hLLow h_Low
 go_wp2_with fail
 refine(szIntS_c _ _ _ _ _ _ (hHigh.below rInt_ok (bel hB1)) (by omega) (by omega)).mono ?_;rintro e w2 ⟨rfl,hb2⟩;have hB2:Below w.heap.size w w2:=Below.trans (bel hB1) (hb2.mono byo);have hz2:=hb2.size;obtain⟨hc2,hf2⟩:=bcell hb2
 try simp at hz2 hc2 hf2
 have hy2_0:w.heap.size<w2.heap.size:=by omega
 clear hb2 hf2;by_cases h_High:(((x.fHigh.length):Nat):Int)<=LLow
 rotate_left
 ·rw [lessBy_no h_High]
  go_wp2;go_ret;exact⟨ret_int (a:=-1) (lessBy_no (by rw [HB.out];have:=HLLow.out;omega)).symm,(bel hB2)⟩
 rw [lessBy_yes h_High];obtain⟨LHigh,hLHigh⟩:∃ L,L=LLow - (((x.fHigh.length):Nat):Int):=⟨_,rfl⟩;rw [<- hLHigh];have HLHigh:=Lib.hid hLHigh;have pHigh:0<=LHigh:=by omega
 have uHigh:LHigh<=1048576:=by omega
 clear hLHigh h_High;go_wp2;go_ret;exact⟨ret_int (by rw [lessBy_yes (by rw [HB.out];have:=HLLow.out;have:=HLHigh.out;omega)];rw [HB.out];have:=HLLow.out;have:=HLHigh.out;omega),(bel hB2)⟩
theorem szCostStepS_c (A:Option Addr) (n cap:Nat) (l:List CostStepD) (left:Int) (w:World) (hr:RS maxLen (rCostStep maxLen) w A n cap l) (h0:0<=left) (h1:left<=1048576):Calls Tryz.prog 116 #[.slice A n cap,.int .i64 left] w fun e w'=>e=.returned (.int .i64 (lessBy left (l.length)))/\Below w.heap.size w w':=by
 have hn:n<=9223372036854775807:=hr.nb;have HL:=Lib.hid hr.len;clear hr;by_cases h:(n:Int)<=left
 all_goals
  go_enter Tryz.func116,Tryz.ntmps116
  go_wp2;go_ret;exact⟨ret_int (by rw [HL.out];unfold lessBy;split<;>omega),Below.refl _ _⟩
def bulkOperator (x:OperatorD):Nat:=(x.fSteps.length)
theorem szOperator_c (cs:List Value) (x:OperatorD) (left:Int) (w:World) (h:(rOperator maxLen).rep w cs x) (h0:0<=left) (h1:left<=1048576):Calls Tryz.prog 45 #[.agg cs.toArray,.int .i64 left] w fun e w'=>e=.returned (.int .i64 (lessBy left (bulkOperator x)))/\Below w.heap.size w w':=by
 obtain⟨A_d5,n_d5,c_d5,rfl,h_g1,h_t3,h_w3,h_u3,h_v3,h_d5⟩:=rOperator_rep.1 h;clear h;have hB0:Below w.heap.size w w:=Below.refl _ _;have HB:Hid (bulkOperator x=(x.fSteps.length)):=rfl
 go_enter Tryz.func45,Tryz.ntmps45
 go_wp2_with fail
 refine(szCostStepS_c _ _ _ _ _ _ (h_d5.below (rCostStep_ok maxLen) (bel hB0)) (by omega) (by omega)).mono ?_;rintro e w1 ⟨rfl,hb1⟩;have hB1:Below w.heap.size w w1:=Below.trans (bel hB0) (hb1.mono byo);have hz1:=hb1.size;obtain⟨hc1,hf1⟩:=bcell hb1
 try simp at hz1 hc1 hf1
 have hy1_0:w.heap.size<w1.heap.size:=by omega
 clear hb1 hf1;by_cases h_Steps:(((x.fSteps.length):Nat):Int)<=left
 rotate_left
 ·rw [lessBy_no h_Steps]
  go_wp2;go_ret;exact⟨ret_int (a:=-1) (lessBy_no (by rw [HB.out];omega)).symm,(bel hB1)⟩
 rw [lessBy_yes h_Steps];obtain⟨LSteps,hL_d5⟩:∃ L,L=left - (((x.fSteps.length):Nat):Int):=⟨_,rfl⟩;rw [<- hL_d5];have HLSteps:=Lib.hid hL_d5;have pSteps:0<=LSteps:=by omega
 have uSteps:LSteps<=1048576:=by omega
 clear hL_d5 h_Steps;go_wp2;go_ret;exact⟨ret_int (by rw [lessBy_yes (by rw [HB.out];have:=HLSteps.out;omega)];rw [HB.out];have:=HLSteps.out;omega),(bel hB1)⟩
def bulkModel (x:ModelD):Nat:=(bulkOperator x.fScan)+(bulkOperator x.fSort)+(bulkOperator x.fHash)+(bulkOperator x.fMerge)+(bulkOperator x.fNested)
theorem szModel_c (cs:List Value) (x:ModelD) (left:Int) (w:World) (h:(rModel maxLen).rep w cs x) (h0:0<=left) (h1:left<=1048576):Calls Tryz.prog 7 #[.agg cs.toArray,.int .i64 left] w fun e w'=>e=.returned (.int .i64 (lessBy left (bulkModel x)))/\Below w.heap.size w w':=by
 obtain⟨A_s4,n_s4,c_s4,A_b5,n_b5,c_b5,A_p1,n_p1,c_p1,A_d2,n_d2,c_d2,A_p3,n_p3,c_p3,rfl,h_n4,h_o4,h_r4,h_p4,h_q4,h_s4,h_w4,h_x4,h_a5,h_y4,h_z4,h_b5,h_k1,h_l1,h_o1,h_m1,h_n1,h_p1,h_y1,h_z1,h_c2,h_a2,h_b2,h_d2,h_k3,h_l3,h_o3,h_m3,h_n3,h_p3⟩:=rModel_rep.1 h;clear h;have hB0:Below w.heap.size w w:=Below.refl _ _;have HB:Hid (bulkModel x=(bulkOperator x.fScan)+(bulkOperator x.fSort)+(bulkOperator x.fHash)+(bulkOperator x.fMerge)+(bulkOperator x.fNested)):=rfl
 go_enter Tryz.func7,Tryz.ntmps7
 go_wp2_with fail
 refine(szOperator_c _ x.fScan _ _ ((rOperator_ok maxLen).keep (rOperator_rep.2 ⟨A_s4,n_s4,c_s4,rfl,h_n4,h_o4,h_r4,h_p4,h_q4,h_s4⟩) (cells_below (bel hB0))) (by omega) (by omega)).mono ?_;rintro e w1 ⟨rfl,hb1⟩;have hB1:Below w.heap.size w w1:=Below.trans (bel hB0) (hb1.mono byo);have hz1:=hb1.size;obtain⟨hc1,hf1⟩:=bcell hb1
 try simp at hz1 hc1 hf1
 have hy1_0:w.heap.size<w1.heap.size:=by omega
 clear hb1 hf1;by_cases h_Scan:(((bulkOperator x.fScan):Nat):Int)<=left
 rotate_left
 ·rw [lessBy_no h_Scan]
  go_wp2;go_ret;exact⟨ret_int (a:=-1) (lessBy_no (by rw [HB.out];omega)).symm,(bel hB1)⟩
 rw [lessBy_yes h_Scan];obtain⟨LScan,hLScan⟩:∃ L,L=left - (((bulkOperator x.fScan):Nat):Int):=⟨_,rfl⟩;rw [<- hLScan];have HLScan:=Lib.hid hLScan;have pScan:0<=LScan:=by omega
 have uScan:LScan<=1048576:=by omega
 clear hLScan h_Scan
 go_wp2_with fail
 refine(szOperator_c _ x.fSort _ _ ((rOperator_ok maxLen).keep (rOperator_rep.2 ⟨A_b5,n_b5,c_b5,rfl,h_w4,h_x4,h_a5,h_y4,h_z4,h_b5⟩) (cells_below (bel hB1))) (by omega) (by omega)).mono ?_;rintro e w2 ⟨rfl,hb2⟩;have hB2:Below w.heap.size w w2:=Below.trans (bel hB1) (hb2.mono byo);have hz2:=hb2.size;obtain⟨hc2,hf2⟩:=bcell hb2
 try simp at hz2 hc2 hf2
 have hy2_0:w.heap.size<w2.heap.size:=by omega
 clear hb2 hf2;by_cases h_Sort:(((bulkOperator x.fSort):Nat):Int)<=LScan
 rotate_left
 ·rw [lessBy_no h_Sort]
  go_wp2;go_ret;exact⟨ret_int (a:=-1) (lessBy_no (by rw [HB.out];have:=HLScan.out;omega)).symm,(bel hB2)⟩
 rw [lessBy_yes h_Sort];obtain⟨LSort,hLSort⟩:∃ L,L=LScan - (((bulkOperator x.fSort):Nat):Int):=⟨_,rfl⟩;rw [<- hLSort];have HLSort:=Lib.hid hLSort;have pSort:0<=LSort:=by omega
 have uSort:LSort<=1048576:=by omega
 clear hLSort h_Sort
 go_wp2_with fail
 refine(szOperator_c _ x.fHash _ _ ((rOperator_ok maxLen).keep (rOperator_rep.2 ⟨A_p1,n_p1,c_p1,rfl,h_k1,h_l1,h_o1,h_m1,h_n1,h_p1⟩) (cells_below (bel hB2))) (by omega) (by omega)).mono ?_;rintro e w3 ⟨rfl,hb3⟩;have hB3:Below w.heap.size w w3:=Below.trans (bel hB2) (hb3.mono byo);have hz3:=hb3.size;obtain⟨hc3,hf3⟩:=bcell hb3
 try simp at hz3 hc3 hf3
 have hy3_0:w.heap.size<w3.heap.size:=by omega
 clear hb3 hf3;by_cases h_Hash:(((bulkOperator x.fHash):Nat):Int)<=LSort
 rotate_left
 ·rw [lessBy_no h_Hash]
  go_wp2;go_ret;exact⟨ret_int (a:=-1) (lessBy_no (by rw [HB.out];have:=HLScan.out;have:=HLSort.out;omega)).symm,(bel hB3)⟩
 rw [lessBy_yes h_Hash];obtain⟨LHash,hLHash⟩:∃ L,L=LSort - (((bulkOperator x.fHash):Nat):Int):=⟨_,rfl⟩;rw [<- hLHash];have HLHash:=Lib.hid hLHash;have pHash:0<=LHash:=by omega
 have uHash:LHash<=1048576:=by omega
 clear hLHash h_Hash
 go_wp2_with fail
 refine(szOperator_c _ x.fMerge _ _ ((rOperator_ok maxLen).keep (rOperator_rep.2 ⟨A_d2,n_d2,c_d2,rfl,h_y1,h_z1,h_c2,h_a2,h_b2,h_d2⟩) (cells_below (bel hB3))) (by omega) (by omega)).mono ?_;rintro e w4 ⟨rfl,hb4⟩;have hB4:Below w.heap.size w w4:=Below.trans (bel hB3) (hb4.mono byo);have hz4:=hb4.size;obtain⟨hc4,hf4⟩:=bcell hb4
 try simp at hz4 hc4 hf4
 have hy4_0:w.heap.size<w4.heap.size:=by omega
 clear hb4 hf4;by_cases h_Merge:(((bulkOperator x.fMerge):Nat):Int)<=LHash
 rotate_left
 ·rw [lessBy_no h_Merge]
  go_wp2;go_ret;exact⟨ret_int (a:=-1) (lessBy_no (by rw [HB.out];have:=HLScan.out;have:=HLSort.out;have:=HLHash.out;omega)).symm,(bel hB4)⟩
 rw [lessBy_yes h_Merge];obtain⟨LMerge,hLMerge⟩:∃ L,L=LHash - (((bulkOperator x.fMerge):Nat):Int):=⟨_,rfl⟩;rw [<- hLMerge];have HLMerge:=Lib.hid hLMerge;have pMerge:0<=LMerge:=by omega
 have uMerge:LMerge<=1048576:=by omega
 clear hLMerge h_Merge
 go_wp2_with fail
 refine(szOperator_c _ x.fNested _ _ ((rOperator_ok maxLen).keep (rOperator_rep.2 ⟨A_p3,n_p3,c_p3,rfl,h_k3,h_l3,h_o3,h_m3,h_n3,h_p3⟩) (cells_below (bel hB4))) (by omega) (by omega)).mono ?_;rintro e w5 ⟨rfl,hb5⟩;have hB5:Below w.heap.size w w5:=Below.trans (bel hB4) (hb5.mono byo);have hz5:=hb5.size;obtain⟨hc5,hf5⟩:=bcell hb5
 try simp at hz5 hc5 hf5
 have hy5_0:w.heap.size<w5.heap.size:=by omega
 clear hb5 hf5;by_cases h_Nested:(((bulkOperator x.fNested):Nat):Int)<=LMerge
 rotate_left
 ·rw [lessBy_no h_Nested]
  go_wp2;go_ret;exact⟨ret_int (a:=-1) (lessBy_no (by rw [HB.out];have:=HLScan.out;have:=HLSort.out;have:=HLHash.out;have:=HLMerge.out;omega)).symm,(bel hB5)⟩
 rw [lessBy_yes h_Nested];obtain⟨LNested,hLNested⟩:∃ L,L=LMerge - (((bulkOperator x.fNested):Nat):Int):=⟨_,rfl⟩;rw [<- hLNested];have HLNested:=Lib.hid hLNested;have pNested:0<=LNested:=by omega
 have uNested:LNested<=1048576:=by omega
 clear hLNested h_Nested;go_wp2;go_ret;exact⟨ret_int (by rw [lessBy_yes (by rw [HB.out];have:=HLScan.out;have:=HLSort.out;have:=HLHash.out;have:=HLMerge.out;have:=HLNested.out;omega)];rw [HB.out];have:=HLScan.out;have:=HLSort.out;have:=HLHash.out;have:=HLMerge.out;have:=HLNested.out;omega),(bel hB5)⟩
theorem szPlanStepS_c (A:Option Addr) (n cap:Nat) (l:List PlanStepD) (left:Int) (w:World) (hr:RS maxLen (rPlanStep maxLen) w A n cap l) (h0:0<=left) (h1:left<=1048576):Calls Tryz.prog 222 #[.slice A n cap,.int .i64 left] w fun e w'=>e=.returned (.int .i64 (lessBy left (l.length)))/\Below w.heap.size w w':=by
 have hn:n<=9223372036854775807:=hr.nb;have HL:=Lib.hid hr.len;clear hr;by_cases h:(n:Int)<=left
 all_goals
  go_enter Tryz.func222,Tryz.ntmps222
  go_wp2;go_ret;exact⟨ret_int (by rw [HL.out];unfold lessBy;split<;>omega),Below.refl _ _⟩
def bulkPlan (x:PlanD):Nat:=(x.fSteps.length)
theorem szPlan_c (cs:List Value) (x:PlanD) (left:Int) (w:World) (h:(rPlan maxLen).rep w cs x) (h0:0<=left) (h1:left<=1048576):Calls Tryz.prog 167 #[.agg cs.toArray,.int .i64 left] w fun e w'=>e=.returned (.int .i64 (lessBy left (bulkPlan x)))/\Below w.heap.size w w':=by
 obtain⟨A_d5,n_d5,c_d5,rfl,h_d5⟩:=rPlan_rep.1 h;clear h;have hB0:Below w.heap.size w w:=Below.refl _ _;have HB:Hid (bulkPlan x=(x.fSteps.length)):=rfl
 go_enter Tryz.func167,Tryz.ntmps167
 go_wp2_with fail
 refine(szPlanStepS_c _ _ _ _ _ _ (h_d5.below (rPlanStep_ok maxLen) (bel hB0)) (by omega) (by omega)).mono ?_;rintro e w1 ⟨rfl,hb1⟩;have hB1:Below w.heap.size w w1:=Below.trans (bel hB0) (hb1.mono byo);have hz1:=hb1.size;obtain⟨hc1,hf1⟩:=bcell hb1
 try simp at hz1 hc1 hf1
 have hy1_0:w.heap.size<w1.heap.size:=by omega
 clear hb1 hf1;by_cases h_Steps:(((x.fSteps.length):Nat):Int)<=left
 rotate_left
 ·rw [lessBy_no h_Steps]
  go_wp2;go_ret;exact⟨ret_int (a:=-1) (lessBy_no (by rw [HB.out];omega)).symm,(bel hB1)⟩
 rw [lessBy_yes h_Steps];obtain⟨LSteps,hL_d5⟩:∃ L,L=left - (((x.fSteps.length):Nat):Int):=⟨_,rfl⟩;rw [<- hL_d5];have HLSteps:=Lib.hid hL_d5;have pSteps:0<=LSteps:=by omega
 have uSteps:LSteps<=1048576:=by omega
 clear hL_d5 h_Steps;go_wp2;go_ret;exact⟨ret_int (by rw [lessBy_yes (by rw [HB.out];have:=HLSteps.out;omega)];rw [HB.out];have:=HLSteps.out;omega),(bel hB1)⟩
theorem szPlanS_c (A:Option Addr) (n cap:Nat) (l:List PlanD) (left:Int) (w:World) (hr:RS maxLen (rPlan maxLen) w A n cap l) (h0:0<=left) (h1:left<=1048576):Calls Tryz.prog 98 #[.slice A n cap,.int .i64 left] w fun e w'=>e=.returned (.int .i64 (lessBy left (bulkS (fun x=>bulkPlan x) l)))/\Below w.heap.size w w':=by
 have hn:n<=9223372036854775807:=hr.nb;by_cases h:(n:Int)<=left
 ·obtain⟨L1,hL1⟩:∃ L,L=left - (n:Int):=⟨_,rfl⟩
  have HL1:=Lib.hid hL1;clear hL1
  go_enter Tryz.func98,Tryz.ntmps98
  go_wp2
  go_loopw [1,5] (fun lv i wr=>∃ (k:Nat) (L:Int),k<=n/\i=.int .i64 k/\lv=.int .i64 L/\0<=L/\L<=1048576/\L=left - n - (((l.take k).map (fun x=>bulkPlan x)).sum:Nat)/\Below w.heap.size w wr) (fun _ i _=>n - (intOf i).toNat)
  case atStart=>exact⟨0,_,Nat.zero_le _,rfl,rfl,by omega,by omega,by simp,Below.refl _ _⟩
  case round =>
   obtain⟨k,L,hk,rfl,rfl,hL0,hLu,hLe,hb⟩:=hrel;have HLe:=Lib.hid hLe;clear hLe;by_cases hlt:k<n
   ·obtain⟨b,off,x,cs,rfl,hrep,hcell,hxk⟩:=(hr.below (rPlan_ok maxLen) hb).at_ hlt
    have hrep0:=hrep;obtain⟨A_d5,n_d5,c_d5,rfl,h_d5⟩:=rPlan_rep.1 hrep;have q0:wr.cell? ⟨b,off+k,none⟩=some (.slice A_d5 n_d5 c_d5):=by simpa [rPlan_size]using hcell 0 _ rfl
    clear hcell
    go_wp2_with fail
    refine(szPlan_c _ x L _ hrep0 hL0 hLu).mono ?_;rintro e w1 ⟨rfl,hb1⟩;have hB1:Below w.heap.size w w1:=hb.trans (hb1.mono hb.size);obtain⟨am,ham⟩:∃ am:Nat,am=bulkPlan x:=⟨_,rfl⟩;rw [<- ham];have HA:=Lib.hid ham;clear ham;by_cases hx:(am:Int)<=L
    ·rw [lessBy_yes hx]
     obtain⟨L2,hL2⟩:∃ L2,L2=L - (am:Int):=⟨_,rfl⟩;rw [<- hL2];have HL2:=Lib.hid hL2;have p2:0<=L2:=by omega
     have u2:L2<=1048576:=by omega
     clear hL2 hx;go_wp2;go_roundw
     case rel=>exact⟨k+1,L2,by omega,by go_num,rfl,p2,u2,by rw [take_snoc hxk.out,List.map_append,List.sum_append];have:=HL2.out;have:=HLe.out;have:=HA.out;simp only [List.map_cons,List.map_nil,List.sum_cons,List.sum_nil];omega,hB1⟩
     case measure=>simp [intOf];omega
    ·rw [lessBy_no hx]
     go_wp2;go_ret;refine⟨ret_int (a:=-1) (lessBy_no ?_).symm,hB1⟩;have e1:=sum_ge (fun x=>bulkPlan x) hxk.out;have:=HLe.out;have:=HA.out;have:=hr.len;unfold bulkS;omega
   ·go_wp2
    go_ret;refine⟨ret_int ?_,hb⟩;have e1:=HLe.out;rw [take_all hr.len hlt]at e1;rw [lessBy_yes (by have:=hr.len;unfold bulkS;omega)];have:=hr.len;unfold bulkS;omega
 ·go_enter Tryz.func98,Tryz.ntmps98
  go_wp2;go_ret;exact⟨ret_int (a:=-1) (lessBy_no (by have:=hr.len;unfold bulkS;omega)).symm,Below.refl _ _⟩
def bulkBouquet (x:BouquetD):Nat:=(bulkBox x.fBox)+(x.fBudgets.length)+(bulkS (fun x=>bulkPlan x) x.fPlans)+(bulkS (fun x=>x.length) x.fContours)
theorem szBouquet_c (cs:List Value) (x:BouquetD) (left:Int) (w:World) (h:(rBouquet maxLen).rep w cs x) (h0:0<=left) (h1:left<=1048576):Calls Tryz.prog 38 #[.agg cs.toArray,.int .i64 left] w fun e w'=>e=.returned (.int .i64 (lessBy left (bulkBouquet x)))/\Below w.heap.size w w':=by
 obtain⟨A_i,n_i,c_i,A_h,n_h,c_h,A_k,n_k,c_k,A_a4,n_a4,c_a4,A_w,n_w,c_w,rfl,h_r5,h_f4,h_v4,h_i,h_h,h_k,h_a4,h_w⟩:=rBouquet_rep.1 h;clear h;have hB0:Below w.heap.size w w:=Below.refl _ _;have HB:Hid (bulkBouquet x=(bulkBox x.fBox)+(x.fBudgets.length)+(bulkS (fun x=>bulkPlan x) x.fPlans)+(bulkS (fun x=>x.length) x.fContours)):=rfl
 go_enter Tryz.func38,Tryz.ntmps38
 go_wp2_with fail
 refine(szBox_c _ x.fBox _ _ ((rBox_ok maxLen).keep (rBox_rep.2 ⟨A_i,n_i,c_i,A_h,n_h,c_h,rfl,h_i,h_h⟩) (cells_below (bel hB0))) (by omega) (by omega)).mono ?_;rintro e w1 ⟨rfl,hb1⟩;have hB1:Below w.heap.size w w1:=Below.trans (bel hB0) (hb1.mono byo);have hz1:=hb1.size;obtain⟨hc1,hf1⟩:=bcell hb1
 try simp at hz1 hc1 hf1
 have hy1_0:w.heap.size<w1.heap.size:=by omega
 clear hb1 hf1;by_cases h_Box:(((bulkBox x.fBox):Nat):Int)<=left
 rotate_left
 ·rw [lessBy_no h_Box]
  go_wp2;go_ret;exact⟨ret_int (a:=-1) (lessBy_no (by rw [HB.out];omega)).symm,(bel hB1)⟩
 rw [lessBy_yes h_Box];obtain⟨LBox,hLBox⟩:∃ L,L=left - (((bulkBox x.fBox):Nat):Int):=⟨_,rfl⟩;rw [<- hLBox];have HLBox:=Lib.hid hLBox;have pBox:0<=LBox:=by omega
 have uBox:LBox<=1048576:=by omega
 clear hLBox h_Box
 go_wp2_with fail
 refine(szIntS_c _ _ _ _ _ _ (h_k.below rInt_ok (bel hB1)) (by omega) (by omega)).mono ?_;rintro e w2 ⟨rfl,hb2⟩;have hB2:Below w.heap.size w w2:=Below.trans (bel hB1) (hb2.mono byo);have hz2:=hb2.size;obtain⟨hc2,hf2⟩:=bcell hb2
 try simp at hz2 hc2 hf2
 have hy2_0:w.heap.size<w2.heap.size:=by omega
 clear hb2 hf2;by_cases h_Budgets:(((x.fBudgets.length):Nat):Int)<=LBox
 rotate_left
 ·rw [lessBy_no h_Budgets]
  go_wp2;go_ret;exact⟨ret_int (a:=-1) (lessBy_no (by rw [HB.out];have:=HLBox.out;omega)).symm,(bel hB2)⟩
 rw [lessBy_yes h_Budgets];obtain⟨LBudgets,hL_k⟩:∃ L,L=LBox - (((x.fBudgets.length):Nat):Int):=⟨_,rfl⟩;rw [<- hL_k];have HLBudgets:=Lib.hid hL_k;have pBudgets:0<=LBudgets:=by omega
 have uBudgets:LBudgets<=1048576:=by omega
 clear hL_k h_Budgets
 go_wp2_with fail
 refine(szPlanS_c _ _ _ _ _ _ (h_a4.below (rPlan_ok maxLen) (bel hB2)) (by omega) (by omega)).mono ?_;rintro e w3 ⟨rfl,hb3⟩;have hB3:Below w.heap.size w w3:=Below.trans (bel hB2) (hb3.mono byo);have hz3:=hb3.size;obtain⟨hc3,hf3⟩:=bcell hb3
 try simp at hz3 hc3 hf3
 have hy3_0:w.heap.size<w3.heap.size:=by omega
 clear hb3 hf3;by_cases h_Plans:(((bulkS (fun x=>bulkPlan x) x.fPlans):Nat):Int)<=LBudgets
 rotate_left
 ·rw [lessBy_no h_Plans]
  go_wp2;go_ret;exact⟨ret_int (a:=-1) (lessBy_no (by rw [HB.out];have:=HLBox.out;have:=HLBudgets.out;omega)).symm,(bel hB3)⟩
 rw [lessBy_yes h_Plans];obtain⟨LPlans,hL_a4⟩:∃ L,L=LBudgets - (((bulkS (fun x=>bulkPlan x) x.fPlans):Nat):Int):=⟨_,rfl⟩;rw [<- hL_a4];have HLPlans:=Lib.hid hL_a4;have pPlans:0<=LPlans:=by omega
 have uPlans:LPlans<=1048576:=by omega
 clear hL_a4 h_Plans
 go_wp2_with fail
 refine(szIntSS_c _ _ _ _ _ _ (h_w.below (rSlice_ok maxLen _ rInt_ok) (bel hB3)) (by omega) (by omega)).mono ?_;rintro e w4 ⟨rfl,hb4⟩;have hB4:Below w.heap.size w w4:=Below.trans (bel hB3) (hb4.mono byo);have hz4:=hb4.size;obtain⟨hc4,hf4⟩:=bcell hb4
 try simp at hz4 hc4 hf4
 have hy4_0:w.heap.size<w4.heap.size:=by omega
 clear hb4 hf4;by_cases h_Contours:(((bulkS (fun x=>x.length) x.fContours):Nat):Int)<=LPlans
 rotate_left
 ·rw [lessBy_no h_Contours]
  go_wp2;go_ret;exact⟨ret_int (a:=-1) (lessBy_no (by rw [HB.out];have:=HLBox.out;have:=HLBudgets.out;have:=HLPlans.out;omega)).symm,(bel hB4)⟩
 rw [lessBy_yes h_Contours];obtain⟨LContours,hL_w⟩:∃ L,L=LPlans - (((bulkS (fun x=>x.length) x.fContours):Nat):Int):=⟨_,rfl⟩;rw [<- hL_w];have HLContours:=Lib.hid hL_w;have pContours:0<=LContours:=by omega
 have uContours:LContours<=1048576:=by omega
 clear hL_w h_Contours;go_wp2;go_ret;exact⟨ret_int (by rw [lessBy_yes (by rw [HB.out];have:=HLBox.out;have:=HLBudgets.out;have:=HLPlans.out;have:=HLContours.out;omega)];rw [HB.out];have:=HLBox.out;have:=HLBudgets.out;have:=HLPlans.out;have:=HLContours.out;omega),(bel hB4)⟩
end Go.Proofs.YtnlcfkpcmfljeaaGreat
