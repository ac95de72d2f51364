/-
  Qc, Qi
-/
import Derived.Test.YtnlcfkpcmfljeaaGreatQp
import Derived.Deep.Cut
set_option linter.unusedSimpArgs false
set_option linter.unusedVariables false
set_option maxHeartbeats 1600000
set_option maxRecDepth 100000
namespace Go.Proofs.YtnlcfkpcmfljeaaGreat
open Go.RowKit
theorem hasI_contains (l:List Int) (x:Int):hasI l x=l.contains x:=by
 unfold hasI;rw [Bool.eq_iff_iff];simp
theorem sname_c (s:ByteArray) (w:World):Calls Tryz.prog 182 #[.string s] w fun e w'=>e=.returned (.bool (nameOk s))/\w'=w:=by
 by_cases h1:s.size=1
 ·have h0:0<s.size:=by omega
  have hb:((s.size:Int)==1)=true:=by simp;omega
  have hN:Hid (nameOk s=(decide (97<=s[0].toNat)&&decide (s[0].toNat<=122))):=by
   show nameOk s=_;have e:s.data[0]?=some s[0]:=by rw [Array.getElem?_eq_getElem];rfl
   simp only [nameOk,h1,e,decide_true,Bool.true_and]
  clear h1
  go_enter Tryz.func182,Tryz.ntmps182
  go_wp2
  all_goals
   go_ret;exact⟨ret_bool (by rw [hN.out,Bool.eq_iff_iff];simp;omega),rfl⟩
 ·have hb:((s.size:Int)==1)=false:=by simp;omega
  have hN:Hid (nameOk s=false):=by show nameOk s=_;simp [nameOk,h1]
  clear h1
  go_enter Tryz.func182,Tryz.ntmps182
  go_wp2;go_ret;exact⟨ret_bool (a:=false) hN.out.symm,rfl⟩
theorem sname_v {s:ByteArray}{v:Bool}(h:nameOk s=v) (w:World):Calls Tryz.prog 182 #[.string s] w fun e w'=>e=.returned (.bool v)/\w'=w:=h▸sname_c s w
theorem iname_c (s:ByteArray) (w:World):Calls Tryz.prog 194 #[.string s] w fun e w'=>e=.returned (.bool (nameOk s))/\w'=w:=by
 by_cases h1:s.size=1
 ·have h0:0<s.size:=by omega
  have hb:((s.size:Int)==1)=true:=by simp;omega
  have hN:Hid (nameOk s=(decide (97<=s[0].toNat)&&decide (s[0].toNat<=122))):=by
   show nameOk s=_;have e:s.data[0]?=some s[0]:=by rw [Array.getElem?_eq_getElem];rfl
   simp only [nameOk,h1,e,decide_true,Bool.true_and]
  clear h1
  go_enter Tryz.func194,Tryz.ntmps194
  go_wp2
  all_goals
   go_ret;exact⟨ret_bool (by rw [hN.out,Bool.eq_iff_iff];simp;omega),rfl⟩
 ·have hb:((s.size:Int)==1)=false:=by simp;omega
  have hN:Hid (nameOk s=false):=by show nameOk s=_;simp [nameOk,h1]
  clear h1
  go_enter Tryz.func194,Tryz.ntmps194
  go_wp2;go_ret;exact⟨ret_bool (a:=false) hN.out.symm,rfl⟩
theorem iname_v {s:ByteArray}{v:Bool}(h:nameOk s=v) (w:World):Calls Tryz.prog 194 #[.string s] w fun e w'=>e=.returned (.bool v)/\w'=w:=h▸iname_c s w
theorem validQ_vc {q:QueryD}(h:inR q.fVariableCount 1 4=false):validQ q=false:=by simp [validQ,h]
theorem validQ_len {q:QueryD}(h:inR (q.fAtoms.length:Int) 1 4=false):validQ q=false:=by simp [validQ,h]
theorem validQ_atom {q:QueryD}{k:Nat}{a:AtomD}(h:q.fAtoms[k]?=some a) (ha:atomOk q.fVariableCount a=false):validQ q=false:=by
 have:q.fAtoms.all (atomOk q.fVariableCount)=false:=by rw [List.all_eq_false];exact⟨a,mem_of_at h,by simp [ha]⟩
 simp [validQ,this]
theorem atomOk_name {vc:Int}{a:AtomD}(h:nameOk a.fName=false):atomOk vc a=false:=by simp [atomOk,h]
theorem atomOk_len {vc:Int}{a:AtomD}(h:inR (a.fVars.length:Int) 1 3=false):atomOk vc a=false:=by simp [atomOk,h]
theorem atomOk_var {vc:Int}{a:AtomD}{k:Nat}(hk:k<a.fVars.length) (h:varOk vc a.fVars k=false):atomOk vc a=false:=by
 have:(List.range a.fVars.length).all (varOk vc a.fVars)=false:=by rw [List.all_eq_false];exact⟨k,List.mem_range.2 hk,by simp [h]⟩
 simp [atomOk,this]
theorem atomOk_yes {vc:Int}{a:AtomD}(h1:nameOk a.fName=true) (h2:inR (a.fVars.length:Int) 1 3=true) (h3:(List.range a.fVars.length).all (varOk vc a.fVars)=true):atomOk vc a=true:=by simp [atomOk,h1,h2,h3]
theorem varOk_out {vc:Int}{l:List Int}{k:Nat}{v:Int}(h:l[k]?=some v) (hv:inR v 0 (vc - 1)=false):varOk vc l k=false:=by simp [varOk,h,hv]
theorem varOk_has {vc:Int}{l:List Int}{k:Nat}{v:Int}(h:l[k]?=some v) (hv:hasI (l.take k) v=true):varOk vc l k=false:=by simp only [hasI,decide_eq_true_eq]at hv;simp [varOk,h,hv]
theorem varOk_yes {vc:Int}{l:List Int}{k:Nat}{v:Int}(h:l[k]?=some v) (hv:inR v 0 (vc - 1)=true) (hh:hasI (l.take k) v=false):varOk vc l k=true:=by simp only [hasI,decide_eq_false_iff_not]at hh;simp [varOk,h,hv,hh]
theorem rngAll_snoc {p:Nat->Bool}{k:Nat}(h:(List.range k).all p=true) (hk:p k=true):(List.range (k+1)).all p=true:=by
 rw [List.range_succ,List.all_append,h];simp [hk]
theorem allVars_snoc {l:List AtomD}{k:Nat}{a:AtomD}(h:l[k]?=some a):allVars (l.take (k+1))=allVars (l.take k)++a.fVars:=by
 unfold allVars;rw [take_snoc h];simp
theorem allVars_ok {l:List AtomD}{vc:Int}(h:l.all (atomOk vc)=true):∀ v∈allVars l,0<=v/\v<=vc - 1:=by
 intro v hv;rw [List.all_eq_true]at h;unfold allVars at hv;obtain⟨_,hm,hv⟩:=List.mem_flatten.1 hv;obtain⟨a,ha,rfl⟩:=List.mem_map.1 hm;exact(atomOk_parts (h a ha)).2.2.2.1 v hv
theorem validQ_end {q:QueryD}{s:Int}(h1:1<=q.fVariableCount) (h2:q.fVariableCount<=4) (h3:inR (q.fAtoms.length:Int) 1 4=true) (h4:q.fAtoms.all (atomOk q.fVariableCount)=true) (hs:s=seenBits (allVars q.fAtoms)):(s==pow2 q.fVariableCount - 1)=validQ q:=by
 have e:=seen_full h1 h2 (allVars_ok h4);rw [hs];unfold validQ;rw [inR_t.2 ⟨h1,h2⟩,h3,h4];rw [Bool.eq_iff_iff];simpa using e
theorem seen_next {t v:Int}(h0:0<=t) (h1:t<16) (h2:0<=v) (h3:v<=3):0<=orI t (pow2 v)/\orI t (pow2 v)<16:=by
 have h4:pow2 v<16:=by
  have:(2:Nat) ^ v.toNat<=2 ^ 3:=Nat.pow_le_pow_right (by omega) (by omega);unfold pow2;generalize (2:Nat) ^ v.toNat=p at *;omega
 exact orI_bd (n:=4) h0 h1 (by have:=pow2_pos v;omega) h4
theorem seen_take {l m:List Int}{j:Nat}{v t:Int}(h:m[j]?=some v) (ht:t=seenBits (l++m.take j)):orI t (pow2 v)=seenBits (l++m.take (j+1)):=by
 rw [take_snoc h,<- List.append_assoc,seenBits_snoc,ht]
theorem sIsValidQuery_c (csx:List Value) (x:QueryD) (w:World) (hx:(rQuery NB).rep w csx x) :
  Calls Tryz.prog 121 #[.agg csx.toArray] w fun e w'=>e=.returned (.bool (validQ x))/\Below w.heap.size w w':=by
 have rx:=hx;obtain⟨Ax_e,nx_e,cx_e,rfl,hx_p5,hx_e⟩:=rQuery_rep.1 hx;clear hx;obtain⟨hB,bxx⟩:=op1 w [.int .i64 x.fVariableCount,.slice Ax_e nx_e cx_e] 50;have hnA:=hx_e.bound;have HL:=Lib.hid hx_e.len;have kx_0:=bxx 0 _ rfl;have kx_1:=bxx 1 _ rfl
 go_enter Tryz.func121,Tryz.ntmps121
 cases c1:inR x.fVariableCount 1 4
 ·have C1:=Lib.hid (fun W=>l1In_v c1 W)
  have D1:=Lib.hid c1;clear c1
  go_wp2_with (go_at_call 51;refine(C1.out _).mono ?_;rintro e w' ⟨rfl,rfl⟩)
  go_ret;exact⟨ret_bool (a:=false) (validQ_vc D1.out).symm,hB⟩
 have C1:=Lib.hid (fun W=>l1In_v c1 W);have hv1:=(inR_t.1 c1).1;have hv2:=(inR_t.1 c1).2;clear c1;cases c2:inR (nx_e:Int) 1 4
 ·have C2:=Lib.hid (fun W=>l1In_v c2 W)
  have D2:=Lib.hid (show inR (x.fAtoms.length:Int) 1 4=false by rw [HL.out];exact c2);clear c2
  go_wp2_with (first|(go_at_call_of 51 (Value.int IntKind.i64 x.fVariableCount);refine(C1.out _).mono ?_;rintro e w' ⟨rfl,rfl⟩)|(go_at_call_of 51 (Value.int IntKind.i64 (nx_e:Int));refine(C2.out _).mono ?_;rintro e w' ⟨rfl,rfl⟩))
  go_ret;exact⟨ret_bool (a:=false) (validQ_len D2.out).symm,hB⟩
 have C2:=Lib.hid (fun W=>l1In_v c2 W);have D2:=Lib.hid (show inR (x.fAtoms.length:Int) 1 4=true by rw [HL.out];exact c2);have hn4:=(inR_t.1 c2).2;clear c2
 go_wp2_with (first|(go_at_call_of 51 (Value.int IntKind.i64 x.fVariableCount);refine(C1.out _).mono ?_;rintro e w' ⟨rfl,rfl⟩)|(go_at_call_of 51 (Value.int IntKind.i64 (nx_e:Int));refine(C2.out _).mono ?_;rintro e w' ⟨rfl,rfl⟩))
 go_loopw [3,4] (fun s i wr=>∃ (k:Nat) (sv:Int),k<=nx_e/\i=.int .i64 k/\s=.int .i64 sv/\0<=sv/\sv<16/\sv=seenBits (allVars (x.fAtoms.take k))/\(x.fAtoms.take k).all (atomOk x.fVariableCount)=true/\Below w.heap.size w wr/\Bx wr w.heap.size [.int .i64 x.fVariableCount,.slice Ax_e nx_e cx_e]) (fun _ i _=>nx_e - (intOf i).toNat)
 case atStart=>exact⟨0,0,Nat.zero_le _,rfl,rfl,by omega,by omega,rfl,rfl,hB,bxx⟩
 case round =>
  clear hB bxx kx_0 kx_1;obtain⟨k,sv,hk,rfl,rfl,s0,s1,hsv,hall,hB,bxx⟩:=hrel;have HS:=Lib.hid hsv;clear hsv;have HA:=Lib.hid hall;clear hall;have kx_0:=bxx 0 _ rfl;have kx_1:=bxx 1 _ rfl;by_cases hlt:k<nx_e
  ·obtain⟨b,off,a,AV,nV,cV,rfl,hc0,hc1,hsz,hRV,ha⟩:=(hx_e.below (rAtom_ok NB) hB).eAtom hlt
   have Ha:=Lib.hid ha.out;clear ha;have hVn:=hRV.bound;have HVL:=Lib.hid hRV.len;have hBa:=(Below.refl wr.heap.size wr).alloc (Nat.le_refl _) (.cells #[.string a.fName,.slice AV nV cV] 162);have bxa:=Bx.new wr [.string a.fName,.slice AV nV cV] 162
   go_upto_region 8 with fail
   obtain⟨wn,hwn⟩:∃ wn,wn=wr.alloc (.cells #[.string a.fName,.slice AV nV cV] 162):=⟨_,rfl⟩;rw [<- hwn]at hBa;replace bxa:Bx wn wr.heap.size [.string a.fName,.slice AV nV cV]:=by rw [hwn];exact bxa
   rw [<- hwn];clear hwn hc0 hc1;replace hRV:=hRV.below rInt_ok hBa;replace hB:=hB.trans (hBa.mono hB.size);replace bxx:=bxx.below hBa;clear hBa kx_0 kx_1;have ka_0:=bxa 0 _ rfl;have ka_1:=bxa 1 _ rfl;cases c3:nameOk a.fName
   ·have C3:=Lib.hid (fun W=>sname_v c3 W)
    have D3:=Lib.hid c3;clear c3
    go_wp2_with (go_at_call 182;refine(C3.out _).mono ?_;rintro e w' ⟨rfl,hww⟩;replace hww:=hww.symm;subst hww)
    go_ret;exact⟨ret_bool (a:=false) (validQ_atom Ha.out (atomOk_name D3.out)).symm,hB⟩
   have C3:=Lib.hid (fun W=>sname_v c3 W);have D3:=Lib.hid c3;clear c3;cases c4:inR (nV:Int) 1 3
   ·have C4:=Lib.hid (fun W=>l1In_v c4 W)
    have D4:=Lib.hid (show inR (a.fVars.length:Int) 1 3=false by rw [HVL.out];exact c4);clear c4
    go_wp2_with (first|(go_at_call 182;refine(C3.out _).mono ?_;rintro e w' ⟨rfl,hww⟩;replace hww:=hww.symm;subst hww)|(go_at_call 51;refine(C4.out _).mono ?_;rintro e w' ⟨rfl,hww⟩;replace hww:=hww.symm;subst hww))
    go_ret;exact⟨ret_bool (a:=false) (validQ_atom Ha.out (atomOk_len D4.out)).symm,hB⟩
   have C4:=Lib.hid (fun W=>l1In_v c4 W);have D4:=Lib.hid (show inR (a.fVars.length:Int) 1 3=true by rw [HVL.out];exact c4);have hnV3:=(inR_t.1 c4).2;clear c4
   go_wp2_with (first|(go_at_call 182;refine(C3.out _).mono ?_;rintro e w' ⟨rfl,hww⟩;replace hww:=hww.symm;subst hww)|(go_at_call 51;refine(C4.out _).mono ?_;rintro e w' ⟨rfl,hww⟩;replace hww:=hww.symm;subst hww))
   have hlow:=hB.size
   go_loopw [3,6] (fun s i wr2=>∃ (j:Nat) (tv:Int),j<=nV/\i=.int .i64 j/\s=.int .i64 tv/\0<=tv/\tv<16/\tv=seenBits (allVars (x.fAtoms.take k)++a.fVars.take j)/\(List.range j).all (varOk x.fVariableCount a.fVars)=true/\Below wn.heap.size wn wr2) (fun _ i _=>nV - (intOf i).toNat)
   case atStart=>exact⟨0,sv,Nat.zero_le _,rfl,rfl,s0,s1,by rw [List.take_zero,List.append_nil];exact HS.out,rfl,Below.refl _ _⟩
   case round =>
    obtain⟨j,tv,hj,rfl,rfl,t0,t1,htv,hall2,hE⟩:=hrel;have HT:=Lib.hid htv;clear htv;have HA2:=Lib.hid hall2;clear hall2;replace hB:=hB.trans (hE.mono hB.size);replace hRV:=hRV.below rInt_ok hE;replace bxx:=bxx.below hE;replace bxa:=bxa.below hE;clear ka_0 ka_1;have kx_0:=bxx 0 _ rfl;have kx_1:=bxx 1 _ rfl;have ka_0:=bxa 0 _ rfl;have ka_1:=bxa 1 _ rfl;by_cases hlt2:j<nV
    ·obtain⟨b2,off2,v,rfl,hcv,hI,hv⟩:=hRV.ati hlt2
     have Hv:=Lib.hid hv.out;clear hv;have hjL:j<a.fVars.length:=by rw [HVL.out];exact hlt2
     have hjL2:j<=cV:=Nat.le_trans (Nat.le_of_lt hlt2) hRV.nc;have m1:IntKind.i64.wrap (x.fVariableCount - 1)=x.fVariableCount - 1:=IntWalk.i64_in _ (by omega);cases c5:inR v 0 (x.fVariableCount - 1)
     ·have K5:=Lib.hid (fun W=>l1In_v c5 W)
      have D5:=Lib.hid c5;clear c5;go_wp2
      go_quiet ((go_at_call 51;exact Calls.quiet_of_same (K5.out _)))
      go_wp2;go_ret;exact⟨ret_bool (a:=false) (validQ_atom Ha.out (atomOk_var hjL (varOk_out Hv.out D5.out))).symm,below_drewN hB _⟩
     have K5:=Lib.hid (fun W=>l1In_v c5 W);have hv0:=(inR_t.1 c5).1;have hv9:=(inR_t.1 c5).2;have D5:=Lib.hid c5;clear c5;have hTk:=hRV.take (Nat.le_of_lt hlt2);cases c6:hasI (a.fVars.take j) v
     rotate_left
     ·have D6:=Lib.hid c6;clear c6
      go_wp2
      go_quiet (first|(go_at_call 51;exact Calls.quiet_of_same (K5.out _))|(go_at_call 169;exact Calls.quiet_of_same (l7Has_v D6.out (hTk.drewN rInt_ok _))))
      go_wp2;go_ret;exact⟨ret_bool (a:=false) (validQ_atom Ha.out (atomOk_var hjL (varOk_has Hv.out D6.out))).symm,below_drewN hB _⟩
     have D6:=Lib.hid c6;clear c6;go_wp2
     go_quiet (first|(go_at_call 51;exact Calls.quiet_of_same (K5.out _))|(go_at_call 169;exact Calls.quiet_of_same (l7Has_v D6.out (hTk.drewN rInt_ok _))))
     clear m1;have p1:=pow2_wrap (v:=v) (by omega) (by omega);have p2:=pow2_bd (v:=v) (by omega) (by omega);have p3:=orI_bits (a:=tv) (b:=pow2 v) (by omega) (by omega) (by omega) (by omega);have p4:=seen_next (t:=tv) (v:=v) t0 t1 hv0 (by omega);go_wp2;go_roundw
     case rel=>exact⟨j+1,orI tv (pow2 v),by omega,by go_num,rfl,p4.1,p4.2,seen_take Hv.out HT.out,rngAll_snoc HA2.out (varOk_yes Hv.out D5.out D6.out),below_drewN hE _⟩
     case measure=>simp [intOf];omega
    ·have HF:=Lib.hid (atomOk_yes (vc:=x.fVariableCount) D3.out D4.out (by rw [HVL.out,show nV=j by omega];exact HA2.out))
     have HT2:Hid (tv=seenBits (allVars (x.fAtoms.take (k+1)))):=by show tv=_;rw [allVars_snoc Ha.out,HT.out,List.take_of_length_le (l:=a.fVars) (by rw [HVL.out];omega)]
     go_wp2;go_roundw
     case rel=>exact⟨k+1,tv,by omega,by go_num,rfl,t0,t1,HT2.out,all_snoc' HA.out Ha.out HF.out,hB,bxx⟩
     case measure=>simp [intOf];omega
  ·have hv3:=pow2_wrap (v:=x.fVariableCount) (by omega) (by omega)
   have hv4:=pow2_bd (v:=x.fVariableCount) (by omega) (by omega);have m1:IntKind.i64.wrap (pow2 x.fVariableCount - 1)=pow2 x.fVariableCount - 1:=IntWalk.i64_in _ (by omega);have HE:=Lib.hid (validQ_end (q:=x) (s:=sv) hv1 hv2 D2.out (by have:=HA.out;rwa [take_all hx_e.len hlt]at this) (by have:=HS.out;rwa [take_all hx_e.len hlt]at this));go_wp2;go_ret;exact⟨ret_bool HE.out,hB⟩
theorem maskVars_snoc {l:List AtomD}{k:Nat}{a:AtomD}{m:Int}(h:l[k]?=some a):maskVars (l.take (k+1)) m=maskVars (l.take k) m++if mbit m k then a.fVars else []:=by
 have hk:=lt_of_at h;have e1:(l.take (k+1)).length=k+1:=by simp;omega
 have e2:(l.take k).length=k:=by simp;omega
 unfold maskVars;rw [e1,e2,List.range_succ,List.map_append,List.flatten_append];congr 1
 ·congr 1
  refine List.map_congr_left fun i hi=>?_;have hi:=List.mem_range.1 hi;rw [List.getElem?_take_of_lt (by omega),List.getElem?_take_of_lt (by omega)]
 ·simp [List.getElem?_take,h]
theorem sFullMask_c (csx:List Value) (x:QueryD) (w:World) (hx:(rQuery NB).rep w csx x) :
  Calls Tryz.prog 50 #[.agg csx.toArray] w fun e w'=>e=.returned (.int .i64 (fullMask x))/\Below w.heap.size w w':=by
 have rx:=hx;obtain⟨Ax_e,nx_e,cx_e,rfl,hx_p5,hx_e⟩:=rQuery_rep.1 hx;clear hx;obtain⟨hB,bxx⟩:=op1 w [.int .i64 x.fVariableCount,.slice Ax_e nx_e cx_e] 50;have hnA:=hx_e.bound;have HL:=Lib.hid hx_e.len
 go_enter Tryz.func50,Tryz.ntmps50
 have kx_0:=bxx 0 _ rfl;have kx_1:=bxx 1 _ rfl
 go_wp2_with fail
 refine(sIsValidQuery_c _ x _ ((rQuery_ok NB).keep rx (cells_below hB))).mono ?_;rintro e w1 ⟨rfl,hb1⟩;replace hB:=hB.trans (hb1.mono hB.size);replace bxx:=bxx.below hb1;clear hb1 kx_0 kx_1;cases e1:validQ x
 ·go_wp2
  go_ret;exact⟨ret_int (a:=0) (by simp [fullMask,e1]),hB⟩
 have hp:=validQ_parts e1;have hn4:nx_e<=4:=by have:=HL.out;omega
 clear hp;have p1:=pow2_wrap (v:=(nx_e:Int)) (by omega) (by omega);rw [show((nx_e:Int)).toNat=nx_e from rfl]at p1;have p2:=pow2_bd (v:=(nx_e:Int)) (by omega) (by omega);have HF:Hid (fullMask x=pow2 (nx_e:Int) - 1):=by show fullMask x=_;simp only [fullMask,e1,if_true];rw [HL.out];rfl
 clear e1;have kx_0:=bxx 0 _ rfl;have kx_1:=bxx 1 _ rfl;go_wp2;go_ret;exact⟨ret_int HF.out.symm,hB⟩
theorem sL7Bits_c (csx:List Value) (x:QueryD) (m:Int) (w:World) (hx:(rQuery NB).rep w csx x) (hv:validQ x=true) (h0:0<=m) (h1:m<65536) :
  Calls Tryz.prog 230 #[.agg csx.toArray,.int .i64 m] w fun e w'=>e=.returned (.int .i64 (bitsQ x.fAtoms m))/\Below w.heap.size w w':=by
 have rx:=hx;obtain⟨Ax_e,nx_e,cx_e,rfl,hx_p5,hx_e⟩:=rQuery_rep.1 hx;clear hx;obtain⟨hB,bxx⟩:=op1 w [.int .i64 x.fVariableCount,.slice Ax_e nx_e cx_e] 50;have hnA:=hx_e.bound;have HL:=Lib.hid hx_e.len;have HV:=Lib.hid hv;clear hv;have hn4:nx_e<=4:=by have:=HL.out;have:=validQ_parts HV.out;omega
 go_enter Tryz.func230,Tryz.ntmps230
 have kx_0:=bxx 0 _ rfl;have kx_1:=bxx 1 _ rfl;go_wp2
 go_loopw [5,6] (fun s i wr=>∃ (k:Nat) (sv:Int),k<=nx_e/\i=.int .i64 k/\s=.int .i64 sv/\0<=sv/\sv<16/\sv=seenBits (maskVars (x.fAtoms.take k) m)/\Below w.heap.size w wr/\Bx wr w.heap.size [.int .i64 x.fVariableCount,.slice Ax_e nx_e cx_e]) (fun _ i _=>nx_e - (intOf i).toNat)
 case atStart=>exact⟨0,0,Nat.zero_le _,rfl,rfl,by omega,by omega,rfl,hB,bxx⟩
 case round =>
  clear hB bxx kx_0 kx_1;obtain⟨k,sv,hk,rfl,rfl,s0,s1,hsv,hB,bxx⟩:=hrel;have HS:=Lib.hid hsv;clear hsv;have kx_0:=bxx 0 _ rfl;have kx_1:=bxx 1 _ rfl;by_cases hlt:k<nx_e
  ·obtain⟨b,off,a,AV,nV,cV,rfl,hc0,hc1,hsz,hRV,ha⟩:=(hx_e.below (rAtom_ok NB) hB).eAtom hlt
   have Ha:=Lib.hid ha.out;clear ha;have hVn:=hRV.bound;have HVL:=Lib.hid hRV.len;have HM:=Lib.hid (maskVars_snoc (m:=m) Ha.out)
   have HVB:Hid (∀ v∈a.fVars,0<=v/\v<=3):=by
    show ∀ v∈a.fVars,_;intro v hv;have:=validQ_var HV.out (mem_of_at Ha.out) hv;omega
   have hk16:(k:Int)<=15:=by omega
   cases hb:mbit m k
   ·have hbt:=mbit_test h0 h1 hb
    have HM2:Hid (seenBits (maskVars (x.fAtoms.take (k+1)) m)=sv):=by show _=sv;rw [HM.out,hb,HS.out];simp
    clear hb;go_wp2
    go_loop [5,7] (fun s i=>i=.int .i64 0/\s=.int .i64 sv) (fun _ _=>0)
    case atStart=>exact⟨rfl,rfl⟩
    case round =>
     obtain⟨rfl,rfl⟩:=hrel;by_cases hz:0<nV
     all_goals
      go_wp2;go_roundw
      case rel=>exact⟨k+1,sv,by omega,by go_num,rfl,s0,s1,HM2.out.symm,hB,bxx⟩
      case measure=>simp [intOf];omega
   ·have hbt:=mbit_test h0 h1 hb
    have HM2:Hid (maskVars (x.fAtoms.take (k+1)) m=maskVars (x.fAtoms.take k) m++a.fVars):=by show _=_;rw [HM.out,hb];rfl
    clear hb;go_wp2
    go_loop [5,7] (fun s i=>∃ (j:Nat) (tv:Int),j<=nV/\i=.int .i64 j/\s=.int .i64 tv/\0<=tv/\tv<16/\tv=seenBits (maskVars (x.fAtoms.take k) m++a.fVars.take j)) (fun _ i=>nV - (intOf i).toNat)
    case atStart=>exact⟨0,sv,Nat.zero_le _,rfl,rfl,s0,s1,by rw [List.take_zero,List.append_nil];exact HS.out⟩
    case round =>
     obtain⟨j,tv,hj,rfl,rfl,t0,t1,htv⟩:=hrel;have HT:=Lib.hid htv;clear htv;by_cases hlt2:j<nV
     ·obtain⟨b2,off2,v,rfl,hcv,hI,hv⟩:=hRV.ati hlt2
      have Hv:=Lib.hid hv.out;clear hv;have hvb:=HVB.out v (mem_of_at Hv.out);have p1:=pow2_wrap (v:=v) hvb.1 (by omega);have p2:=pow2_bd (v:=v) hvb.1 (by omega);have p3:=orI_bits (a:=tv) (b:=pow2 v) (by omega) (by omega) (by omega) (by omega);have p4:=seen_next (t:=tv) (v:=v) t0 t1 hvb.1 hvb.2;have hv0:=hvb.1;have hv3:=hvb.2;clear hvb;go_wp2;go_round
      case rel=>exact⟨j+1,orI tv (pow2 v),by omega,by go_num,rfl,p4.1,p4.2,seen_take Hv.out HT.out⟩
      case measure=>simp [intOf];omega
     ·have HT2:Hid (tv=seenBits (maskVars (x.fAtoms.take (k+1)) m)):=by show tv=_;rw [HM2.out,HT.out,List.take_of_length_le (l:=a.fVars) (by rw [HVL.out];omega)]
      go_wp2;go_roundw
      case rel=>exact⟨k+1,tv,by omega,by go_num,rfl,t0,t1,HT2.out,hB,bxx⟩
      case measure=>simp [intOf];omega
  ·go_wp2
   go_ret;exact⟨ret_int (by rw [HS.out,take_all hx_e.len hlt];rfl),hB⟩
theorem Bx.eqBlock {w w':World}{g:Nat}{cs:List Value}(h:Bx w g cs) (e:w'.heap[g]?=w.heap[g]?):Bx w' g cs:=fun j v hj=>by
 have:=h j v hj;unfold World.cell? at this ⊢;rw [e];exact this
theorem Bx.setNe {w:World}{g k j:Nat}{cs:List Value}{v:Value}(h:Bx w g cs) (hne:g≠k):Bx (w.setCell ⟨k,j,none⟩ v) g cs:=h.eqBlock (heap_setCell_other w ⟨k,j,none⟩ g v hne)
theorem RS.atBool {M:Nat}{w:World}{A:Option Addr}{n cap:Nat}{l:List Bool}(h:RS M rBool w A n cap l) {k:Nat}(hk:k<n) :
  ∃ b off x,A=some ⟨b,off,none⟩/\w.cell? ⟨b,off+k,none⟩=some (.bool x)/\Hid (l[k]?=some x):=by
 obtain⟨b,off,x,cs,e,rfl,hc,hx⟩:=h.at_ hk;exact⟨b,off,x,e,by simpa [rBool]using hc 0 _ rfl,hx⟩
theorem MS.setB {B M:Nat}{e:TypeId}{w:World}{g n cap:Nat}{l:List Bool}(h:MS B M e rBool w (some ⟨g,0,none⟩) n cap l) (hB:B<=w.heap.size) {k:Nat}(hk:k<n) (b:Bool) :
  MS B M e rBool (w.setCell ⟨g,k,none⟩ (.bool b)) (some ⟨g,0,none⟩) n cap (l.set k b):=by
 have:=h.setE rBool_ok (Below.refl _ _) hB hk (f:=[]) (cs:=[.bool b]) (x:=b) ⟨rfl,rfl⟩ (Fr.nil _);simpa [setCells,rBool]using this
theorem eiBool:Ei Tryz.prog 217 4 (.bool false) rBool.size 1:=⟨by kernel_rfl,by kernel_rfl,rfl⟩
def FoundB (l:List Bool) (x:Bool) (w:World) (e:Ending) (w':World):Prop:=∃ k:Int,e=.returned (.int .i64 k)/\(decide (0<=k)=l.contains x)/\w'=w
theorem indexBool_c (A:Option Addr) (n cap:Nat) (l:List Bool) (x:Bool) (w:World) (hr:RS NB rBool w A n cap l) :
  Calls Tryz.prog 239 #[.slice A n cap,.bool x] w (FoundB l x w):=by
 have hn:=hr.bound
 go_enter Tryz.func239,Tryz.ntmps239
 go_wp2
 go_loop [8] (fun i=>∃ k:Nat,k<=n/\i=.int .i64 k/\(l.take k).contains x=false) (fun i=>n - (intOf i).toNat)
 case atStart=>exact⟨0,Nat.zero_le _,rfl,by simp⟩
 case round =>
  obtain⟨k,hk,rfl,hall⟩:=hrel;have HA:=Lib.hid hall;clear hall;by_cases hlt:k<n
  ·obtain⟨b,off,y,rfl,hc,hy⟩:=hr.atBool hlt
   by_cases hx:x=y
   ·have d1:(x==y)=true:=by simp [hx]
    have HX:=Lib.hid hx;clear hx;go_wp2;go_ret;exact⟨k,rfl,by rw [HX.out];have:=mem_of_at hy.out;simp [this],rfl⟩
   ·have d1:(x==y)=false:=by simp [hx]
    have HX:=Lib.hid hx;clear hx;go_wp2;go_round
    case rel=>exact⟨k+1,by omega,by go_num,by rw [take_snoc hy.out];have:=HA.out;simp at this ⊢;exact⟨this,HX.out⟩⟩
    case measure=>simp [intOf];omega
  ·go_wp2
   go_ret;exact⟨-1,rfl,by have:=HA.out;rw [take_all hr.len hlt]at this;rw [this];rfl,rfl⟩
theorem containsBool_c (A:Option Addr) (n cap:Nat) (l:List Bool) (x:Bool) (w:World) (hr:RS NB rBool w A n cap l) :
  Calls Tryz.prog 196 #[.slice A n cap,.bool x] w fun e w'=>e=.returned (.bool (l.contains x))/\w'=w:=by
 go_enter Tryz.func196,Tryz.ntmps196
 go_wp2_with fail
 refine(indexBool_c _ _ _ _ _ _ hr).mono ?_;rintro e w1 ⟨k,rfl,hk,rfl⟩;have HK:=Lib.hid hk;clear hk;go_wp2;go_ret;exact⟨ret_bool HK.out,rfl⟩
def seenL (l:List Int) (n:Nat):List Bool:=(List.range n).map (fun v:Nat=>l.contains (v:Int))
theorem seenL_set {l:List Int}{n:Nat}{v:Int}(h0:0<=v):(seenL l n).set v.toNat true=seenL (l++[v]) n:=by
 refine List.ext_getElem? fun i=>?_;unfold seenL;rw [List.getElem?_set];by_cases hi:v.toNat=i
 ·rw [if_pos hi]
  by_cases hn:i<n
  ·have e:v=(i:Int):=by omega
   simp [hn,hi,e]
  ·simp [hn,hi]
 ·rw [if_neg hi]
  by_cases hn:i<n
  ·have e:¬ (i:Int)=v:=by omega
   simp [hn,e]
  ·simp [hn]
theorem seenL_nil (n:Nat):seenL [] n=List.replicate n false:=by
 refine List.ext_getElem? fun i=>?_;unfold seenL;by_cases hn:i<n<;>simp [hn]
theorem validQ_endL {q:QueryD}{n:Nat}(hn:q.fVariableCount=n) (h1:inR q.fVariableCount 1 4=true) (h3:inR (q.fAtoms.length:Int) 1 4=true) (h4:q.fAtoms.all (atomOk q.fVariableCount)=true):(!(seenL (allVars q.fAtoms) n).contains false)=validQ q:=by
 unfold validQ;rw [h1,h3,h4,Bool.true_and,Bool.true_and,Bool.true_and,hn,Bool.eq_iff_iff];simp only [Bool.not_eq_true',Int.toNat_natCast,List.all_eq_true,List.mem_range];constructor
 ·intro h v hv
  rw [<- allVars_contains];rw [<- Bool.not_eq_true]at h;cases hc:(allVars q.fAtoms).contains (v:Int)
  ·exfalso;apply h
   rw [List.contains_iff_mem];exact List.mem_map.2 ⟨v,List.mem_range.2 hv,hc⟩
  ·rfl
 ·intro h
  rw [<- Bool.not_eq_true,List.contains_iff_mem];intro hm;obtain⟨v,hv,hc⟩:=List.mem_map.1 hm;have:=h v (List.mem_range.1 hv);rw [<- allVars_contains]at this;rw [hc]at this;cases this
theorem iIsValidQuery_c (csx:List Value) (x:QueryD) (w:World) (hx:(rQuery NB).rep w csx x) :
  Calls Tryz.prog 139 #[.agg csx.toArray] w fun e w'=>e=.returned (.bool (validQ x))/\Below w.heap.size w w':=by
 have rx:=hx;obtain⟨Ax_e,nx_e,cx_e,rfl,hx_p5,hx_e⟩:=rQuery_rep.1 hx;clear hx;obtain⟨hB,bxx⟩:=op1 w [.int .i64 x.fVariableCount,.slice Ax_e nx_e cx_e] 50;have hnA:=hx_e.bound;have HL:=Lib.hid hx_e.len;obtain⟨i0,hi,hz0,hz1,hz2⟩:=info_parts eiBool.hi
 go_enter Tryz.func139,Tryz.ntmps139
 go_upto_region 1 with fail
 obtain⟨wa,hwa⟩:∃ wa,wa=w.alloc (.cells #[.int .i64 x.fVariableCount,.slice Ax_e nx_e cx_e] 50):=⟨_,rfl⟩;have hsa:Hid (w.heap.size<wa.heap.size):=by show _<_;rw [hwa];simp
 rw [<- hwa]at hB bxx ⊢;clear hwa;have kx_0:=bxx 0 _ rfl;have kx_1:=bxx 1 _ rfl;cases c1:inR x.fVariableCount 1 4
 ·have C1:=Lib.hid (fun W=>within_v c1 W)
  have D1:=Lib.hid c1;clear c1
  go_wp2_with (go_at_call 89;refine(C1.out _).mono ?_;rintro e w' ⟨rfl,hww⟩;replace hww:=hww.symm;subst hww)
  go_ret;exact⟨ret_bool (a:=false) (validQ_vc D1.out).symm,hB⟩
 have C1:=Lib.hid (fun W=>within_v c1 W);have hv1:=(inR_t.1 c1).1;have hv2:=(inR_t.1 c1).2;have D1:=Lib.hid c1;clear c1;cases c2:inR (nx_e:Int) 1 4
 ·have C2:=Lib.hid (fun W=>within_v c2 W)
  have D2:=Lib.hid (show inR (x.fAtoms.length:Int) 1 4=false by rw [HL.out];exact c2);clear c2
  go_wp2_with (first|(go_at_call_of 89 (Value.int IntKind.i64 x.fVariableCount);refine(C1.out _).mono ?_;rintro e w' ⟨rfl,hww⟩;replace hww:=hww.symm;subst hww)|(go_at_call_of 89 (Value.int IntKind.i64 (nx_e:Int));refine(C2.out _).mono ?_;rintro e w' ⟨rfl,hww⟩;replace hww:=hww.symm;subst hww))
  go_ret;exact⟨ret_bool (a:=false) (validQ_len D2.out).symm,hB⟩
 have C2:=Lib.hid (fun W=>within_v c2 W);have D2:=Lib.hid (show inR (x.fAtoms.length:Int) 1 4=true by rw [HL.out];exact c2);have hn4:=(inR_t.1 c2).2;clear c2;obtain⟨vn,hvn⟩:∃ vn:Nat,x.fVariableCount=(vn:Int):=⟨x.fVariableCount.toNat,by omega⟩;have hvn4:vn<=4:=by omega
 have hvn1:1<=vn:=by omega
 have HVN:=Lib.hid hvn;clear hvn
 go_wp2_with (first|(go_at_call_of 89 (Value.int IntKind.i64 x.fVariableCount);refine(C1.out _).mono ?_;rintro e w' ⟨rfl,hww⟩;replace hww:=hww.symm;subst hww)|(go_at_call_of 89 (Value.int IntKind.i64 (nx_e:Int));refine(C2.out _).mono ?_;rintro e w' ⟨rfl,hww⟩;replace hww:=hww.symm;subst hww)|(at_make;refine wpList_make_full _ rfl _ _ 217 rfl wa.heap.size 4 i0 (.bool false) 1 Tryz.underlying217 hi hz0 hz1 .i64 .i64 _ _ vn (congrArg (Value.int .i64) HVN.out) (congrArg (Value.int .i64) HVN.out) rfl rfl (by rw [hz2];omega) (by unfold maxLen;omega) (Nat.le_refl _) ?_;intro w1 hown hg;have hE:Below wa.heap.size wa w1:=(Below.refl _ _).grown hg (Nat.le_refl _) (by simp);have kz:=(bxx.below hE) 1 _ rfl))
 have hM:MS wa.heap.size NB 4 rBool w1 (some ⟨wa.heap.size,0,none⟩) vn vn (seenL [] vn):=by
  have h:=MS.madeE (M:=NB) (l:=List.replicate vn false) rBool_ok (by simp) (by unfold NB;omega) (Nat.le_refl _) eiBool.hz (fun W=>⟨rfl,rfl⟩) hown;rw [part_zero,List.length_replicate]at h;rw [seenL_nil];exact h
 clear kz hown hg kx_0 kx_1 hi hz0 hz1 hz2
 go_loopw [25] (fun i wr=>∃ k:Nat,k<=nx_e/\i=.int .i64 k/\MS wa.heap.size NB 4 rBool wr (some ⟨wa.heap.size,0,none⟩) vn vn (seenL (allVars (x.fAtoms.take k)) vn)/\(x.fAtoms.take k).all (atomOk x.fVariableCount)=true/\Below wa.heap.size wa wr) (fun i _=>nx_e - (intOf i).toNat)
 case atStart=>exact⟨0,Nat.zero_le _,rfl,hM,rfl,hE⟩
 case round =>
  clear hM hE;obtain⟨k,hk,rfl,hM,hall,hE⟩:=hrel;have HA:=Lib.hid hall;clear hall;have hB2:=hB.trans (hE.mono hB.size);have kx_0:=bxx.below hE 0 _ rfl;have kx_1:=bxx.below hE 1 _ rfl;by_cases hlt:k<nx_e
  ·obtain⟨b,off,a,AV,nV,cV,rfl,hc0,hc1,hsz,hRV,ha⟩:=hx_e.eAtom hlt
   replace hc0:=cells_below hB2 _ _ hc0;replace hc1:=cells_below hB2 _ _ hc1;have Ha:=Lib.hid ha.out;clear ha;have hVn:=hRV.bound;have HVL:=Lib.hid hRV.len;have hBa:=(Below.refl wr.heap.size wr).alloc (Nat.le_refl _) (.cells #[.string a.fName,.slice AV nV cV] 162);have bxa:=Bx.new wr [.string a.fName,.slice AV nV cV] 162;have hlwr:Hid (wa.heap.size<wr.heap.size):=hM.lt;have hne:Hid (wr.heap.size≠wa.heap.size):=by show _≠_;have:=hlwr.out;omega
   go_upto_region 7 with fail
   obtain⟨wn,hwn⟩:∃ wn,wn=wr.alloc (.cells #[.string a.fName,.slice AV nV cV] 162):=⟨_,rfl⟩;rw [<- hwn]at hBa;replace bxa:Bx wn wr.heap.size [.string a.fName,.slice AV nV cV]:=by rw [hwn];exact bxa
   rw [<- hwn];clear hwn hc0 hc1;replace hE:=hE.trans (hBa.mono hE.size);replace hM:=hM.below rBool_ok hBa;replace hB2:=hB2.trans (hBa.mono hB2.size);clear hBa kx_0 kx_1;have kx_0:=(bxx.below hE) 0 _ rfl;have ka_0:=bxa 0 _ rfl;have ka_1:=bxa 1 _ rfl;cases c3:nameOk a.fName
   ·have C3:=Lib.hid (fun W=>iname_v c3 W)
    have D3:=Lib.hid c3;clear c3
    go_wp2_with (go_at_call 194;refine(C3.out _).mono ?_;rintro e w' ⟨rfl,hww⟩;replace hww:=hww.symm;subst hww)
    go_ret;exact⟨ret_bool (a:=false) (validQ_atom Ha.out (atomOk_name D3.out)).symm,hB2⟩
   have C3:=Lib.hid (fun W=>iname_v c3 W);have D3:=Lib.hid c3;clear c3;cases c4:inR (nV:Int) 1 3
   ·have C4:=Lib.hid (fun W=>within_v c4 W)
    have D4:=Lib.hid (show inR (a.fVars.length:Int) 1 3=false by rw [HVL.out];exact c4);clear c4
    go_wp2_with (first|(go_at_call 194;refine(C3.out _).mono ?_;rintro e w' ⟨rfl,hww⟩;replace hww:=hww.symm;subst hww)|(go_at_call 89;refine(C4.out _).mono ?_;rintro e w' ⟨rfl,hww⟩;replace hww:=hww.symm;subst hww))
    go_ret;exact⟨ret_bool (a:=false) (validQ_atom Ha.out (atomOk_len D4.out)).symm,hB2⟩
   have C4:=Lib.hid (fun W=>within_v c4 W);have D4:=Lib.hid (show inR (a.fVars.length:Int) 1 3=true by rw [HVL.out];exact c4);have hnV3:=(inR_t.1 c4).2;clear c4
   go_wp2_with (first|(go_at_call 194;refine(C3.out _).mono ?_;rintro e w' ⟨rfl,hww⟩;replace hww:=hww.symm;subst hww)|(go_at_call 89;refine(C4.out _).mono ?_;rintro e w' ⟨rfl,hww⟩;replace hww:=hww.symm;subst hww))
   clear kx_0 ka_0 ka_1
   go_loopw [43] (fun i wr2=>∃ j:Nat,j<=nV/\i=.int .i64 j/\MS wa.heap.size NB 4 rBool wr2 (some ⟨wa.heap.size,0,none⟩) vn vn (seenL (allVars (x.fAtoms.take k)++a.fVars.take j) vn)/\(List.range j).all (varOk x.fVariableCount a.fVars)=true/\Bx wr2 wr.heap.size [.string a.fName,.slice AV nV cV]/\Below wa.heap.size wa wr2) (fun i _=>nV - (intOf i).toNat)
   case atStart=>exact⟨0,Nat.zero_le _,rfl,by rw [List.take_zero,List.append_nil];exact hM,rfl,bxa,hE⟩
   case round =>
    clear hM bxa hE hB2;obtain⟨j,hj,rfl,hM,hall2,bxa,hE⟩:=hrel;have HA2:=Lib.hid hall2;clear hall2;have hB2:=hB.trans (hE.mono hB.size);have kx_0:=(bxx.below hE) 0 _ rfl;have ka_0:=bxa 0 _ rfl;have ka_1:=bxa 1 _ rfl;by_cases hlt2:j<nV
    ·obtain⟨b2,off2,v,rfl,hcv,hI,hv⟩:=(hRV.below rInt_ok hB2).ati hlt2
     have Hv:=Lib.hid hv.out;clear hv;have hjL:j<a.fVars.length:=by rw [HVL.out];exact hlt2
     have hjL2:j<=cV:=Nat.le_trans (Nat.le_of_lt hlt2) (hRV.below rInt_ok hB2).nc;have m1:IntKind.i64.wrap (x.fVariableCount - 1)=x.fVariableCount - 1:=IntWalk.i64_in _ (by omega);cases c5:inR v 0 (x.fVariableCount - 1)
     ·have K5:=Lib.hid (fun W=>within_v c5 W)
      have D5:=Lib.hid c5;clear c5
      go_wp2_with (go_at_call 89;refine(K5.out _).mono ?_;rintro e w' ⟨rfl,hww⟩;replace hww:=hww.symm;subst hww)
      go_ret;exact⟨ret_bool (a:=false) (validQ_atom Ha.out (atomOk_var hjL (varOk_out Hv.out D5.out))).symm,hB2⟩
     have K5:=Lib.hid (fun W=>within_v c5 W);have hv0:=(inR_t.1 c5).1;have hv9:=(inR_t.1 c5).2;have D5:=Lib.hid c5;clear c5;have hTk:=(hRV.below rInt_ok hB2).take (Nat.le_of_lt hlt2);cases c6:hasI (a.fVars.take j) v
     rotate_left
     ·have D6:=Lib.hid c6;clear c6
      go_wp2_with (first|(go_at_call 89;refine(K5.out _).mono ?_;rintro e w' ⟨rfl,hww⟩;replace hww:=hww.symm;subst hww)|(go_at_call 195;refine(slicesContains_v D6.out hTk).mono ?_;rintro e w' ⟨rfl,hww⟩;replace hww:=hww.symm;subst hww))
      go_ret;exact⟨ret_bool (a:=false) (validQ_atom Ha.out (atomOk_var hjL (varOk_has Hv.out D6.out))).symm,hB2⟩
     have D6:=Lib.hid c6;clear c6;clear m1;obtain⟨vv,hvv⟩:∃ vv:Nat,v=(vv:Int):=⟨v.toNat,by omega⟩;subst hvv;have hvl:vv<vn:=by have:=HVN.out;omega
     have hfz:=hM.frozenA vv;obtain⟨u,hu⟩:=hM.hasCell (j:=vv) (by simp [rBool];exact hvl);have HST:=Lib.hid (seenL_set (l:=allVars (x.fAtoms.take k)++a.fVars.take j) (n:=vn) (v:=(vv:Int)) (by omega))
     go_wp2_with (first|(go_at_call 89;refine(K5.out _).mono ?_;rintro e w' ⟨rfl,hww⟩;replace hww:=hww.symm;subst hww)|(go_at_call 195;refine(slicesContains_v D6.out hTk).mono ?_;rintro e w' ⟨rfl,hww⟩;replace hww:=hww.symm;subst hww))
     go_roundw
     case rel=>exact⟨j+1,by omega,by go_num,by rw [take_snoc Hv.out,<- List.append_assoc,<- HST.out];exact hM.setB (Nat.le_of_lt hM.lt) hvl true,rngAll_snoc HA2.out (varOk_yes Hv.out D5.out D6.out),bxa.setNe hne.out,hE.setCell (Nat.le_refl _) _⟩
     case measure=>simp [intOf];omega
    ·have HF:=Lib.hid (atomOk_yes (vc:=x.fVariableCount) D3.out D4.out (by rw [HVL.out,show nV=j by omega];exact HA2.out))
     have HT2:Hid (allVars (x.fAtoms.take k)++a.fVars.take j=allVars (x.fAtoms.take (k+1))):=by show _=_;rw [allVars_snoc Ha.out,List.take_of_length_le (l:=a.fVars) (by rw [HVL.out];omega)]
     go_wp2;go_roundw
     case rel=>exact⟨k+1,by omega,by go_num,HT2.out▸hM,all_snoc' HA.out Ha.out HF.out,hE⟩
     case measure=>simp [intOf];omega
  ·have hR:=hM.rs rBool_ok
   have HE:=Lib.hid (validQ_endL (q:=x) (n:=vn) HVN.out D1.out D2.out (by have:=HA.out;rwa [take_all hx_e.len hlt]at this));have HT:Hid (x.fAtoms.take k=x.fAtoms):=by show _=_;exact take_all hx_e.len hlt
   generalize hll:seenL (allVars (x.fAtoms.take k)) vn=ll at hR;have HLL:=Lib.hid hll;clear hll
   go_wp2_with (go_at_call 196;refine(containsBool_c _ _ _ ll _ _ hR).mono ?_;rintro e w' ⟨rfl,hww⟩;replace hww:=hww.symm;subst hww)
   go_ret;exact⟨ret_bool (by rw [<- HE.out,<- HT.out,HLL.out];simp),hB2⟩
theorem iFullMask_c (csx:List Value) (x:QueryD) (w:World) (hx:(rQuery NB).rep w csx x) :
  Calls Tryz.prog 64 #[.agg csx.toArray] w fun e w'=>e=.returned (.int .i64 (fullMask x))/\Below w.heap.size w w':=by
 have rx:=hx;obtain⟨Ax_e,nx_e,cx_e,rfl,hx_p5,hx_e⟩:=rQuery_rep.1 hx;clear hx;obtain⟨hB,bxx⟩:=op1 w [.int .i64 x.fVariableCount,.slice Ax_e nx_e cx_e] 50;have hnA:=hx_e.bound;have HL:=Lib.hid hx_e.len
 go_enter Tryz.func64,Tryz.ntmps64
 have kx_0:=bxx 0 _ rfl;have kx_1:=bxx 1 _ rfl
 go_wp2_with fail
 refine(iIsValidQuery_c _ x _ ((rQuery_ok NB).keep rx (cells_below hB))).mono ?_;rintro e w1 ⟨rfl,hb1⟩;replace hB:=hB.trans (hb1.mono hB.size);replace bxx:=bxx.below hb1;clear hb1 kx_0 kx_1;cases e1:validQ x
 ·go_wp2
  go_ret;exact⟨ret_int (a:=0) (by simp [fullMask,e1]),hB⟩
 have hp:=validQ_parts e1;have hn4:nx_e<=4:=by have:=HL.out;omega
 clear hp;have p1:=pow2_wrap (v:=(nx_e:Int)) (by omega) (by omega);rw [show((nx_e:Int)).toNat=nx_e from rfl]at p1;have p2:=pow2_bd (v:=(nx_e:Int)) (by omega) (by omega);have HF:Hid (fullMask x=pow2 (nx_e:Int) - 1):=by show fullMask x=_;simp only [fullMask,e1,if_true];rw [HL.out];rfl
 clear e1;have kx_0:=bxx 0 _ rfl;have kx_1:=bxx 1 _ rfl;go_wp2;go_ret;exact⟨ret_int HF.out.symm,hB⟩
theorem hasV_snoc {l:List AtomD}{j:Nat}{a:AtomD}{m v:Int}(h:l[j]?=some a):hasV (l.take (j+1)) m v=(hasV (l.take j) m v||(mbit m j&&a.fVars.contains v)):=by
 rw [Bool.eq_iff_iff];simp only [Bool.or_eq_true,Bool.and_eq_true];constructor
 ·intro hh
  obtain⟨i,b,h1,h2,h3⟩:=hasV_iff.1 hh;have hi:=lt_of_at h1;by_cases hij:i<j
  ·left
   rw [List.getElem?_take_of_lt (by omega)]at h1;exact hasV_iff.2 ⟨i,b,by rw [List.getElem?_take_of_lt hij];exact h1,h2,h3⟩
  ·right
   have e:i=j:=by simp at hi;omega
   subst e;rw [List.getElem?_take_of_lt (by omega),h]at h1;injection h1 with h1;subst h1;exact⟨h2,List.contains_iff_mem.2 h3⟩
 ·rintro(hh|⟨h2,h3⟩)
  ·obtain⟨i,b,h1,h2,h3⟩:=hasV_iff.1 hh
   have hi:=lt_of_at h1;have hij:i<j:=by simp at hi;omega
   rw [List.getElem?_take_of_lt hij]at h1;exact hasV_iff.2 ⟨i,b,by rw [List.getElem?_take_of_lt (by omega)];exact h1,h2,h3⟩
  ·exact hasV_iff.2 ⟨j,a,by rw [List.getElem?_take_of_lt (by omega)];exact h,h2,List.contains_iff_mem.1 h3⟩
theorem hasV_take {l:List AtomD}{j:Nat}{m v:Int}(h:hasV (l.take j) m v=true):hasV l m v=true:=by
 obtain⟨i,b,h1,h2,h3⟩:=hasV_iff.1 h;have hi:=lt_of_at h1;have hij:i<j:=by simp at hi;omega
 rw [List.getElem?_take_of_lt hij]at h1;exact hasV_iff.2 ⟨i,b,h1,h2,h3⟩
def varsTo (l:List AtomD) (m:Int) (k:Nat):List Int:=((List.range k).map (fun v:Nat=>(v:Int))).filter (hasV l m)
theorem varsTo_snoc (l:List AtomD) (m:Int) (k:Nat):varsTo l m (k+1)=if hasV l m (k:Int) then varsTo l m k++[(k:Int)] else varsTo l m k:=by
 unfold varsTo;rw [List.range_succ,List.map_append,List.filter_append];cases h:hasV l m (k:Int)<;>simp [h]
theorem varsOf_eq {q:QueryD}{n:Nat}(h:q.fVariableCount=n) (m:Int):varsOf q m=varsTo q.fAtoms m n:=by unfold varsOf varsTo;rw [h];rfl
theorem iVariables_c (csx:List Value) (x:QueryD) (m:Int) (w:World) (hx:(rQuery NB).rep w csx x) (hv:validQ x=true) (h0:0<=m) (h1:m<65536) :
  Calls Tryz.prog 236 #[.agg csx.toArray,.int .i64 m] w (RetS 3 rInt (varsOf x m) w):=by
 have rx:=hx;obtain⟨Ax_e,nx_e,cx_e,rfl,hx_p5,hx_e⟩:=rQuery_rep.1 hx;clear hx;obtain⟨hB,bxx⟩:=op1 w [.int .i64 x.fVariableCount,.slice Ax_e nx_e cx_e] 50;have hnA:=hx_e.bound;have HL:=Lib.hid hx_e.len;have HV:=Lib.hid hv;clear hv;have hn4:nx_e<=4:=by have:=HL.out;have:=validQ_parts HV.out;omega
 obtain⟨vn,hvn⟩:∃ vn:Nat,x.fVariableCount=(vn:Int):=⟨x.fVariableCount.toNat,by have:=validQ_parts HV.out;omega⟩;have hvn4:vn<=4:=by have:=validQ_parts HV.out;omega
 have hvl1:x.fVariableCount<=(vn:Int):=by omega
 have hvl2:(vn:Int)<=x.fVariableCount:=by omega
 have HVN:=Lib.hid hvn;clear hvn
 go_enter Tryz.func236,Tryz.ntmps236
 go_upto_region 1 with fail
 obtain⟨wa,hwa⟩:∃ wa,wa=w.alloc (.cells #[.int .i64 x.fVariableCount,.slice Ax_e nx_e cx_e] 50):=⟨_,rfl⟩;rw [<- hwa]at hB bxx ⊢;clear hwa;go_wp2
 go_loopw [5,6] (fun o i wr=>∃ (k n c:Nat) (A:Option Addr),k<=vn/\n<=k/\i=.int .i64 k/\o=.slice A n c/\MS wa.heap.size NB 3 rInt wr A n c (varsTo x.fAtoms m k)/\Below wa.heap.size wa wr) (fun _ i _=>vn - (intOf i).toNat)
 case atStart=>exact⟨0,0,0,_,Nat.zero_le _,Nat.le_refl _,rfl,rfl,MS.empty _ (Nat.le_refl _),bal⟩
 case round =>
  obtain⟨k,n,c,A,hk,hnk,rfl,rfl,hM,hE⟩:=hrel;have HS:=Lib.hid (varsTo_snoc x.fAtoms m k);have kx_0:=(bxx.below hE) 0 _ rfl;have kx_1:=(bxx.below hE) 1 _ rfl;by_cases hlt:k<vn
  ·have hWR:Hid (wa.heap.size<=wr.heap.size):=hE.size
   have d13:decide ((k:Int)<x.fVariableCount)=true:=decide_eq_true (by omega);go_wp2
   go_loopw [5,19] (fun o i wr2=>∃ j:Nat,j<=nx_e/\i=.int .i64 j/\o=.slice A n c/\hasV (x.fAtoms.take j) m (k:Int)=false/\MS wa.heap.size NB 3 rInt wr2 A n c (varsTo x.fAtoms m k)/\Below wa.heap.size wa wr2) (fun _ i _=>nx_e - (intOf i).toNat)
   case atStart=>exact⟨0,Nat.zero_le _,rfl,rfl,by simp [hasV],hM,hE⟩
   case round =>
    clear hM hE kx_0 kx_1;obtain⟨j,hj,rfl,rfl,hno,hM,hE⟩:=hrel;have HN:=Lib.hid hno;clear hno;have hB2:=hB.trans (hE.mono hB.size);by_cases hlt2:j<nx_e
    ·obtain⟨b,off,a,AV,nV,cV,rfl,hc0,hc1,hsz,hRV,ha⟩:=hx_e.eAtom hlt2
     replace hc0:=cells_below hB2 _ _ hc0;replace hc1:=cells_below hB2 _ _ hc1;have Ha:=Lib.hid ha.out;clear ha;have HH:=Lib.hid (hasV_snoc (m:=m) (v:=(k:Int)) Ha.out);have hVn:=hRV.bound;have hBa:=(Below.refl wr.heap.size wr).alloc (Nat.le_refl _) (.cells #[.string a.fName,.slice AV nV cV] 162);have bxa:=Bx.new wr [.string a.fName,.slice AV nV cV] 162
     go_upto_region 8 with fail
     obtain⟨wn,hwn⟩:∃ wn,wn=wr.alloc (.cells #[.string a.fName,.slice AV nV cV] 162):=⟨_,rfl⟩;rw [<- hwn]at hBa;replace bxa:Bx wn wr.heap.size [.string a.fName,.slice AV nV cV]:=by rw [hwn];exact bxa
     rw [<- hwn];clear hwn hc0 hc1;replace hE:=hE.trans (hBa.mono hE.size);replace hM:=hM.below rInt_ok hBa;replace hRV:=(hRV.below rInt_ok hB2).below rInt_ok hBa;clear hBa hB2;have ka_1:=bxa 1 _ rfl;have hj16:(j:Int)<=15:=by omega
     cases hb:mbit m j
     ·have hbt:=mbit_test h0 h1 hb
      have HH2:Hid (hasV (x.fAtoms.take (j+1)) m (k:Int)=false):=by show _=false;rw [HH.out,HN.out,hb];rfl
      clear hb;go_wp2;go_roundw
      case rel=>exact⟨j+1,by omega,by go_num,rfl,HH2.out,hM,hE⟩
      case measure=>simp [intOf];omega
     have hbt:=mbit_test h0 h1 hb;cases hh:hasI a.fVars (k:Int)
     ·have HH2:Hid (hasV (x.fAtoms.take (j+1)) m (k:Int)=false):=by show _=false;rw [HH.out,HN.out,hb,<- hasI_contains,hh];rfl
      have K:=Lib.hid hh;clear hb hh
      go_wp2_with (go_at_call 195;refine(slicesContains_v K.out hRV).mono ?_;rintro e w' ⟨rfl,hww⟩;replace hww:=hww.symm;subst hww)
      go_roundw
      case rel=>exact⟨j+1,by omega,by go_num,rfl,HH2.out,hM,hE⟩
      case measure=>simp [intOf];omega
     ·have HH2:Hid (hasV x.fAtoms m (k:Int)=true):=by show _=true;exact hasV_take (j:=j+1) (by rw [HH.out,hb,<- hasI_contains,hh];simp)
      have K:=Lib.hid hh;clear hb hh;have hsz2:=hE.size
      go_wp2_with (first|(go_at_call 195;refine(slicesContains_v K.out hRV).mono ?_;rintro e w' ⟨rfl,hww⟩;replace hww:=hww.symm;subst hww)|(at_builtin;refine wpList_app (r:=rInt) rfl _ _ 30 rfl _ 8 eiInt rInt_ok rfl hM (bal) hsz2 ⟨wn.heap.size,0,none⟩ rfl [] [.int .i64 (k:Int)] (k:Int) ⟨rfl,rfl,⟨by omega,by omega⟩⟩ (Fr.nil _) (cell_one_new _ _ _) (by unfold NB;omega) (Nat.le_refl _) (by omega) ?_;intro A2 c2 w2 hM2 hb2 hg2))
      go_roundw
      case rel=>exact⟨k+1,n+1,c2,A2,by omega,by omega,by go_num,rfl,by rw [HS.out,HH2.out];exact hM2,(hE.alloc hE.size _).trans hb2⟩
      case measure=>simp [intOf];omega
    ·have HH2:Hid (hasV x.fAtoms m (k:Int)=false):=by show _=false;have:=HN.out;rwa [take_all hx_e.len hlt2]at this
     go_wp2;go_roundw
     case rel=>exact⟨k+1,n,c,A,by omega,by omega,by go_num,rfl,by rw [HS.out,HH2.out];exact hM,hE⟩
     case measure=>simp [intOf];omega
  ·go_wp2
   go_ret;exact⟨_,_,_,rfl,by rw [varsOf_eq HVN.out,show vn=k by omega];exact hM.base hB.size,hB.trans (hE.mono hB.size)⟩
theorem bothL_snoc {a b:List Int}{k:Nat}{x:Int}(h:a[k]?=some x):bothL (a.take (k+1)) b=if hasI b x then bothL (a.take k) b++[x] else bothL (a.take k) b:=by
 unfold bothL;rw [take_snoc h,List.filter_append];unfold hasI;by_cases hc:x∈b<;>simp [hc]
theorem iBoth_c (Aa:Option Addr) (na ca:Nat) (a:List Int) (Ab:Option Addr) (nb cb:Nat) (b:List Int) (w:World) (ha:RS NB rInt w Aa na ca a) (hb:RS NB rInt w Ab nb cb b) :
  Calls Tryz.prog 237 #[.slice Aa na ca,.slice Ab nb cb] w (RetS 3 rInt (bothL a b) w):=by
 have hna:=ha.bound
 go_enter Tryz.func237,Tryz.ntmps237
 go_wp2
 go_loopw [5,11] (fun o i wr=>∃ (k n c:Nat) (A:Option Addr),k<=na/\n<=k/\i=.int .i64 k/\o=.slice A n c/\MS w.heap.size NB 3 rInt wr A n c (bothL (a.take k) b)/\Below w.heap.size w wr) (fun _ i _=>na - (intOf i).toNat)
 case atStart=>exact⟨0,0,0,_,Nat.zero_le _,Nat.le_refl _,rfl,rfl,MS.empty _ (Nat.le_refl _),bal⟩
 case round =>
  obtain⟨k,n,c,A,hk,hnk,rfl,rfl,hM,hE⟩:=hrel;by_cases hlt:k<na
  ·obtain⟨bb,off,y,rfl,hc,hI,hy⟩:=(ha.below rInt_ok hE).ati hlt
   have HS:=Lib.hid (bothL_snoc (b:=b) hy.out);have hR:=hb.below rInt_ok hE;have hsz2:=hE.size;cases hh:hasI b y
   ·have K:=Lib.hid hh;clear hh
    go_wp2_with (go_at_call 195;refine(slicesContains_v K.out hR).mono ?_;rintro e w' ⟨rfl,hww⟩;replace hww:=hww.symm;subst hww)
    go_roundw
    case rel=>exact⟨k+1,n,c,A,by omega,by omega,by go_num,rfl,by rw [HS.out,K.out];exact hM,hE⟩
    case measure=>simp [intOf];omega
   ·have K:=Lib.hid hh;clear hh
    go_wp2_with (first|(go_at_call 195;refine(slicesContains_v K.out hR).mono ?_;rintro e w' ⟨rfl,hww⟩;replace hww:=hww.symm;subst hww)|(at_builtin;refine wpList_app (r:=rInt) rfl _ _ 30 rfl _ 8 eiInt rInt_ok rfl hM (bal) hsz2 ⟨wr.heap.size,0,none⟩ rfl [] [.int .i64 y] y ⟨rfl,rfl,hI⟩ (Fr.nil _) (cell_one_new _ _ _) (by unfold NB;omega) (Nat.le_refl _) (by omega) ?_;intro A2 c2 w2 hM2 hb2 hg2))
    go_roundw
    case rel=>exact⟨k+1,n+1,c2,A2,by omega,by omega,by go_num,rfl,by rw [HS.out,K.out];exact hM2,(hE.alloc hE.size _).trans hb2⟩
    case measure=>simp [intOf];omega
  ·go_wp2
   go_ret;exact⟨_,_,_,rfl,by have:=take_all ha.len hlt;rw [this]at hM;exact hM,hE⟩
end Go.Proofs.YtnlcfkpcmfljeaaGreat
