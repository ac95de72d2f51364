/-
  Bloc
-/
import Derived.Test.YtnlcfkpcmfljeaaGreatBox
import Derived.Test.YtnlcfkpcmfljeaaGreatCopy
set_option linter.unusedSimpArgs false
set_option linter.unusedVariables false
set_option maxHeartbeats 1600000
set_option maxRecDepth 100000
namespace Go.Proofs.YtnlcfkpcmfljeaaGreat
open Go.RowKit
def digs:List Int->Int->List Int × Int
 | [],i=>([],i)
 | v::ws,i=>(((digs ws i).2 % v)::(digs ws i).1,(digs ws i).2 / v)
theorem foldl_mul (ws:List Int) (a:Int):ws.foldl (·*·) a=a*ws.foldl (·*·) 1:=by
 induction ws generalizing a with
 | nil=>simp
 | cons v ws ih=>simp only [List.foldl_cons];rw [ih (a*v),ih (1*v),Int.one_mul,Int.mul_assoc]
theorem digs_zero {ws:List Int}{i:Int}(h0:0<=i) (h:∀ x∈ws,1<=x):(digs ws i).2=i / prod ws:=by
 induction ws with
 | nil=>simp [digs,prod]
 | cons v ws ih =>
  have hv:=h v List.mem_cons_self;have hr:=ih fun x hx=>h x (List.mem_cons_of_mem _ hx)
  have hp:prod (v::ws)=prod ws*v:=by
   unfold prod;simp only [List.foldl_cons,Int.one_mul];rw [foldl_mul,Int.mul_comm]
  have hnn:0<=prod ws:=by
   clear ih hr hp
   have:∀ l:List Int,(∀ x∈l,1<=x)->0<=prod l:=by
    intro l hl;unfold prod
    induction l with
    | nil=>simp
    | cons a l ih=>simp only [List.foldl_cons,Int.one_mul];rw [foldl_mul];exact Int.mul_nonneg (by have:=hl a List.mem_cons_self;omega) (ih fun x hx=>hl x (List.mem_cons_of_mem _ hx))
   exact this ws fun x hx=>h x (List.mem_cons_of_mem _ hx)
  show(digs ws i).2 / v=_;rw [hr,hp,Int.ediv_ediv_of_nonneg hnn]
def locOf (x:BoxD) (i:Int):List Int:=List.zipWith (·+·) x.fLow (digs (widths x) i).1
def boxLoc (x:BoxD) (i:Int):List Int × Bool:=if validBox x&&(decide (0<=i)&&decide (i<volume x)) then (locOf x i,true) else ([],false)
def locK (x:BoxD) (i:Int) (k:Nat):List Int:=x.fLow.take k++List.zipWith (·+·) (x.fLow.drop k) (digs ((widths x).drop k) i).1
theorem locK_all (x:BoxD) (i:Int) {k:Nat}(h:x.fLow.length<=k):locK x i k=x.fLow:=by
 unfold locK;rw [List.take_of_length_le h,List.drop_of_length_le h];simp
theorem locK_zero (x:BoxD) (i:Int):locK x i 0=locOf x i:=by simp [locK,locOf]
theorem drop_cons' {l:List Int}{k:Nat}{x:Int}(h:l[k]?=some x):l.drop k=x::l.drop (k+1):=by
 obtain⟨hk,rfl⟩:=List.getElem?_eq_some_iff.1 h;exact List.drop_eq_getElem_cons hk
theorem locK_step {x:BoxD}{i:Int}{k:Nat}{y v:Int}(hy:x.fLow[k]?=some y) (hv:(widths x)[k]?=some v) :
  (locK x i (k+1)).set k (y+(digs ((widths x).drop (k+1)) i).2 % v)=locK x i k/\(digs ((widths x).drop k) i).2=(digs ((widths x).drop (k+1)) i).2 / v/\(locK x i (k+1))[k]?=some y:=by
 have hk:=lt_of_at hy;unfold locK;rw [take_snoc hy];refine⟨?_,by rw [drop_cons' hv];rfl,?_⟩
 ·rw [List.append_assoc,List.set_append_right _ _ (by simp;omega),drop_cons' hy,drop_cons' hv]
  have e1:k - (x.fLow.take k).length=0:=by simp;omega
  rw [e1];simp [digs]
 ·rw [List.append_assoc,List.getElem?_append_right (by simp;omega)]
  have e1:k - (x.fLow.take k).length=0:=by simp;omega
  rw [e1];simp
theorem iBoxLocation_c (csx:List Value) (x:BoxD) (i:Int) (w:World) (hx:(rBox NB).rep w csx x) (hI:I64 i) :
  Calls Tryz.prog 135 #[.agg csx.toArray,.int .i64 i] w (RetSB 3 rInt (boxLoc x i).1 (.bool (boxLoc x i).2) w):=by
 have rx:=hx;obtain⟨AxLow,nxLow,cxLow,AxHigh,nxHigh,cxHigh,rfl,hxLow,hxHigh⟩:=rBox_rep.1 hx;clear hx;obtain⟨hB,bxx⟩:=op1 w [.slice AxLow nxLow cxLow,.slice AxHigh nxHigh cxHigh] 36;have HL:=Lib.hid hxLow.len;have HH:=Lib.hid hxHigh.len;have hnL:=hxLow.bound
 go_enter Tryz.func135,Tryz.ntmps135
 go_wp2_with fail
 refine(iIsValidBox_c _ x _ ((rBox_ok NB).keep rx (cells_below hB))).mono ?_;rintro e w1 ⟨rfl,hb1⟩;replace hB:=hB.trans (hb1.mono hB.size);replace bxx:=bxx.below hb1;clear hb1;cases hv:validBox x
 ·go_wp2
  go_ret2;have he:boxLoc x i=([],false):=by simp [boxLoc,hv]
  rw [he];exact⟨_,_,_,rfl,MS.nil _ (Nat.zero_le _),hB⟩
 have HV:=Lib.hid hv;have kx_0:=bxx 0 _ rfl;have kx_1:=bxx 1 _ rfl
 go_wp2_with fail
 refine(iVolume_c _ x _ ((rBox_ok NB).keep rx (cells_below hB)) hv).mono ?_;rintro e w2 ⟨rfl,hb2⟩;replace hB:=hB.trans (hb2.mono hB.size);replace bxx:=bxx.below hb2;clear hb2 kx_0 kx_1;clear hv;have hlenH:nxLow=nxHigh:=by rw [<- HL.out,<- HH.out];exact(validBox_parts HV.out).2.2.2.1.symm
 subst hlenH;have HW:=Lib.hid ((widths_len HV.out).trans HL.out);have vb:=prod_take_bd HV.out nxLow;have HVV:Hid (prod ((widths x).take nxLow)=volume x):=by show _=_;rw [List.take_of_length_le (by rw [HW.out];exact Nat.le_refl _)];rfl
 rw [HVV.out]at vb;have m0:IntKind.i64.wrap (volume x - 1)=volume x - 1:=IntWalk.i64_in _ (by omega);have kx_0:=bxx 0 _ rfl;have kx_1:=bxx 1 _ rfl;cases g1:inR i 0 (volume x - 1)
 ·go_wp2_with (go_at_call 89;refine(within_c _ _ _ _).mono ?_;rintro e w' ⟨rfl,rfl⟩)
  go_ret2;have g1':=inR_f.1 g1
  have he:boxLoc x i=([],false):=by
   unfold boxLoc;rw [HV.out];have:(decide (0<=i)&&decide (i<volume x))=false:=by rw [Bool.and_eq_false_iff];rcases g1' with h|h;left;simpa using h;right;simp;omega
   rw [this];rfl
  rw [he];exact⟨_,_,_,rfl,MS.nil _ (Nat.zero_le _),hB⟩
 have g1':=inR_t.1 g1
 have he:boxLoc x i=(locOf x i,true):=by
  unfold boxLoc;rw [HV.out];have:(decide (0<=i)&&decide (i<volume x))=true:=by rw [Bool.and_eq_true];exact⟨by simpa using g1'.1,by simp;omega⟩
  rw [this];rfl
 have HE:=Lib.hid he;clear he;have h0:=g1'.1
 go_wp2_with (go_at_call 89;refine(within_c _ _ _ _).mono ?_;rintro e w' ⟨rfl,rfl⟩)
 obtain⟨wb,hwb⟩:∃ wb,wb=w2:=⟨_,rfl⟩;rw [<- hwb]at hB bxx;rw [<- hwb];clear hwb kx_0 kx_1 m0 g1;refine(iCopyInts_c _ _ _ _ _ (hxLow.below rInt_ok hB)).mono ?_;rintro e w3 ⟨A3,n3,c3,rfl,hM,hE⟩;obtain rfl:nxLow=n3:=by rw [<- HL.out,<- hM.len]
 go_wp2
 go_loopw [1,7] (fun iv kv wr=>∃ (k:Nat) (ix:Int),k<=nxLow/\kv=.int .i64 ((k:Int) - 1)/\iv=.int .i64 ix/\0<=ix/\ix<=9223372036854775807/\ix=(digs ((widths x).drop k) i).2/\MS wb.heap.size NB 3 rInt wr A3 nxLow c3 (locK x i k)/\Below wb.heap.size wb wr) (fun _ kv _=>(intOf kv+1).toNat)
 case atStart=>exact⟨nxLow,i,Nat.le_refl _,by go_num,rfl,h0,hI.hi,by rw [List.drop_of_length_le (by rw [HW.out];exact Nat.le_refl _)];rfl,by rw [locK_all x i (by rw [HL.out];exact Nat.le_refl _)];exact hM,hE⟩
 case round =>
  clear hM hE;obtain⟨k,ix,hk,rfl,rfl,p0,p1,hix,hM,hE⟩:=hrel;have HIX:=Lib.hid hix;clear hix;have hB2:=hB.trans (hE.mono hB.size);have kx_0:=bxx.below hE 0 _ rfl;have kx_1:=bxx.below hE 1 _ rfl;rcases Nat.eq_zero_or_pos k with hk0|hk0
  ·subst hk0
   go_wp2;go_ret2;rw [HE.out];exact⟨_,_,_,rfl,(locK_zero x i▸hM).base hB.size,hB2⟩
  ·obtain⟨j,rfl⟩:∃ j,k=j+1:=⟨k - 1,by omega⟩
   have hjj:((j+1:Nat):Int) - 1=(j:Int):=by omega
   rw [hjj];clear hjj;have hjn:j<nxLow:=by omega
   obtain⟨b,off,y,rfl,hc,hIy,hy⟩:=(hxLow.below rInt_ok hB2).ati hjn;obtain⟨b',off',z,rfl,hc',hIz,hz⟩:=(hxHigh.below rInt_ok hB2).ati hjn;have hw:=width_bd HV.out hz.out hy.out;have l1:=(isLoc_at (validBox_parts HV.out).1).2 j y hy.out;have l2:=(isLoc_at (validBox_parts HV.out).2.1).2 j z hz.out;have HST:=Lib.hid (locK_step (i:=i) hy.out (widths_at hz.out hy.out));obtain⟨g,rfl,hgl,hgB⟩:=hM.form (by omega);obtain⟨u,hu,hIu,huk⟩:=hM.celli hjn;obtain rfl:u=y:=by have:=huk.out;rw [HST.out.2.2]at this;injection this with this;exact this.symm
   have hfz:=hM.frozen j;have m1:IntKind.i64.wrap (z - u)=z - u:=IntWalk.i64_in _ (by omega);have m2:IntKind.i64.wrap (z - u+1)=z - u+1:=IntWalk.i64_in _ (by omega);have r0:0<=ix % (z - u+1):=Int.emod_nonneg _ (by omega);have r1:ix % (z - u+1)<z - u+1:=Int.emod_lt_of_pos _ (by omega);have q0:0<=ix / (z - u+1):=Int.ediv_nonneg p0 (by omega);have q1:ix / (z - u+1)<=ix:=Int.ediv_le_self _ p0;have t1:ix.tmod (z - u+1)=ix % (z - u+1):=Int.tmod_eq_emod_of_nonneg p0;have t2:ix.tdiv (z - u+1)=ix / (z - u+1):=Int.tdiv_eq_ediv_of_nonneg p0;have m3:IntKind.i64.wrap (u+ix % (z - u+1))=u+ix % (z - u+1):=IntWalk.i64_in _ (by omega)
   have m4:IntKind.i64.wrap (ix / (z - u+1))=ix / (z - u+1):=IntWalk.i64_in _ (by omega);go_wp2
   go_quiet (fail)
   clear m1 m2;go_wp2;obtain⟨wq,hwq⟩:∃ wq,wq=wr.drewN nq:=⟨_,rfl⟩;rw [<- hwq];have hbq:Below wr.heap.size wr wq:=by rw [hwq];exact below_drewN (Below.refl _ _) _
   replace hE:=hE.trans (hbq.mono hE.size);replace hM:=hM.below rInt_ok hbq;clear hwq hbq hu hfz hc hc' kx_0 kx_1;obtain⟨u',hu,_,hu2⟩:=hM.celli hjn;obtain rfl:u'=u:=by have:=hu2.out;rw [HST.out.2.2]at this;injection this with this;exact this.symm
   clear hu2;have hfz:=hM.frozen j;have dz1:z - u'+1≠0:=by omega
   have dz2:((z - u'+1)==0)=false:=by simp;omega
   go_still_tail 9,(by kernel_rfl)
   obtain⟨wd,hwd⟩:∃ W:World,W=World.drew wq:=⟨_,rfl⟩
   change wpList _ _ _ _ _ (World.drew wq)
   rw [<- hwd];have hbd:Below wq.heap.size wq wd:=by rw [hwd];exact(Below.refl _ _).drew
   replace hE:=hE.trans (hbd.mono hE.size);replace hM:=hM.below rInt_ok hbd;clear hwd hbd hu hfz;obtain⟨u2,hu,_,_⟩:=hM.celli hjn;have hfz:=hM.frozen j;have hgl2:=hM.lt;go_wp2;go_roundw
   case rel =>
    have e1:MS wb.heap.size NB 3 rInt (wd.setCell ⟨g,j,none⟩ (.int .i64 (u'+ix % (z - u'+1)))) (some ⟨g,0,none⟩) nxLow c3 (locK x i j):=by
     have:=hM.set j (x:=u'+ix % (z - u'+1)) ⟨by omega,by omega⟩;rw [<- HST.out.1,<- HIX.out];exact this
    exact⟨j,ix / (z - u'+1),by omega,by go_num,by go_num,q0,by omega,by rw [HST.out.2.1,<- HIX.out],e1,hE.setCell hgB _⟩
   case measure=>(simp [intOf]<;>omega)
theorem sBoxLocation_c (csx:List Value) (x:BoxD) (i:Int) (w:World) (hx:(rBox NB).rep w csx x) (hI:I64 i) :
  Calls Tryz.prog 31 #[.agg csx.toArray,.int .i64 i] w (RetSB 3 rInt (boxLoc x i).1 (.bool (boxLoc x i).2) w):=by
 have rx:=hx;obtain⟨AxLow,nxLow,cxLow,AxHigh,nxHigh,cxHigh,rfl,hxLow,hxHigh⟩:=rBox_rep.1 hx;clear hx;obtain⟨hB,bxx⟩:=op1 w [.slice AxLow nxLow cxLow,.slice AxHigh nxHigh cxHigh] 36;have HL:=Lib.hid hxLow.len;have HH:=Lib.hid hxHigh.len;have hnL:=hxLow.bound
 go_enter Tryz.func31,Tryz.ntmps31
 go_wp2_with fail
 refine(sIsValidBox_c _ x _ ((rBox_ok NB).keep rx (cells_below hB))).mono ?_;rintro e w1 ⟨rfl,hb1⟩;replace hB:=hB.trans (hb1.mono hB.size);replace bxx:=bxx.below hb1;clear hb1;cases hv:validBox x
 ·go_wp2
  go_ret2;have he:boxLoc x i=([],false):=by simp [boxLoc,hv]
  rw [he];exact⟨_,_,_,rfl,MS.empty _ hB.size,hB.alloc hB.size _⟩
 have HV:=Lib.hid hv;clear hv;have kx_0:=bxx 0 _ rfl;have kx_1:=bxx 1 _ rfl;by_cases h0:0<=i
 rotate_left
 ·have hneg:i<0:=by omega
  go_wp2;go_ret2
  have he:boxLoc x i=([],false):=by
   have hd:decide (0<=i)=false:=by simp;omega
   unfold boxLoc;rw [HV.out,hd];rfl
  rw [he];exact⟨_,_,_,rfl,MS.empty _ hB.size,hB.alloc hB.size _⟩
 have hlenH:nxLow=nxHigh:=by rw [<- HL.out,<- HH.out];exact(validBox_parts HV.out).2.2.2.1.symm
 subst hlenH;have HW:=Lib.hid ((widths_len HV.out).trans HL.out);obtain⟨wb,hwb⟩:∃ wb,wb=w1:=⟨_,rfl⟩;rw [<- hwb]at hB bxx kx_0 kx_1;rw [<- hwb];clear hwb;have ka_0:=bxx.below ((Below.refl wb.heap.size wb).alloc (Nat.le_refl _) (.cells #[] 3)) 0 _ rfl
 go_wp2_with (at_builtin;refine wpList_appe (r:=rInt) (M:=NB) rfl _ _ 30 rfl _ 8 eiInt rInt_ok rInt_flat rfl (heap_alloc_new _ _) rfl (hxLow.below rInt_ok (hB.alloc hB.size _)) hxLow.nb (Nat.le_refl _) (by omega) ?_;intro A3 c3 w3 o3 g3 hb3;have hE:Below wb.heap.size wb w3:=((Below.refl wb.heap.size wb).alloc (Nat.le_refl _) (.cells #[] 3)).trans (hb3.mono (by simp));have kb_0:=bxx.below hE 0 _ rfl)
 have hM:MS wb.heap.size NB 3 rInt w3 A3 nxLow c3 x.fLow:=⟨_,o3,by cases A3<;>simp [blk],fun k hk=>by have:=g3 k hk;simp at this;omega⟩;clear o3 g3 hb3 kx_0 kx_1 ka_0 kb_0
 go_loopw [1,7] (fun iv kv wr=>∃ (k:Nat) (ix:Int),k<=nxLow/\kv=.int .i64 ((k:Int) - 1)/\iv=.int .i64 ix/\0<=ix/\ix<=9223372036854775807/\ix=(digs ((widths x).drop k) i).2/\MS wb.heap.size NB 3 rInt wr A3 nxLow c3 (locK x i k)/\Below wb.heap.size wb wr) (fun _ kv _=>(intOf kv+1).toNat)
 case atStart=>exact⟨nxLow,i,Nat.le_refl _,by go_num,rfl,h0,hI.hi,by rw [List.drop_of_length_le (by rw [HW.out];exact Nat.le_refl _)];rfl,by rw [locK_all x i (by rw [HL.out];exact Nat.le_refl _)];exact hM,hE⟩
 case round =>
  clear hM hE;obtain⟨k,ix,hk,rfl,rfl,p0,p1,hix,hM,hE⟩:=hrel;have HIX:=Lib.hid hix;clear hix;have hB2:=hB.trans (hE.mono hB.size);have kx_0:=bxx.below hE 0 _ rfl;have kx_1:=bxx.below hE 1 _ rfl;rcases Nat.eq_zero_or_pos k with hk0|hk0
  ·subst hk0
   have e0:ix=i / volume x:=by rw [HIX.out,List.drop_zero,digs_zero h0 (fun x hx=>(widths_mem HV.out x hx).1)];rfl
   have vp:=(prod_take_bd HV.out nxLow).1;rw [List.take_of_length_le (by rw [HW.out];exact Nat.le_refl _)]at vp;have vp:1<=volume x:=vp;by_cases hpos:0<ix
   ·have he:boxLoc x i=([],false):=by
     have h1:¬ i<volume x:=fun hlt=>by rw [e0,Int.ediv_eq_zero_of_lt h0 hlt]at hpos;omega
     unfold boxLoc;rw [HV.out];simp [h1]
    have HE:=Lib.hid he;clear he e0;go_wp2;go_ret2;rw [HE.out];exact⟨_,_,_,rfl,(MS.empty _ hE.size).base hB.size,hB2.alloc hB2.size _⟩
   ·have he:boxLoc x i=(locOf x i,true):=by
     have h1:i<volume x:=by
      rcases Int.lt_or_le i (volume x) with h|h
      ·exact h
      ·have:1<=i / volume x:=by rw [Int.le_ediv_iff_mul_le (by omega)];omega
       omega
     unfold boxLoc;rw [HV.out];simp [h1,h0]
    have HE:=Lib.hid he;clear he e0;go_wp2;go_ret2;rw [HE.out];exact⟨_,_,_,rfl,(locK_zero x i▸hM).base hB.size,hB2⟩
  ·obtain⟨j,rfl⟩:∃ j,k=j+1:=⟨k - 1,by omega⟩
   have hjj:((j+1:Nat):Int) - 1=(j:Int):=by omega
   rw [hjj];clear hjj;have hjn:j<nxLow:=by omega
   obtain⟨b,off,y,rfl,hc,hIy,hy⟩:=(hxLow.below rInt_ok hB2).ati hjn;obtain⟨b',off',z,rfl,hc',hIz,hz⟩:=(hxHigh.below rInt_ok hB2).ati hjn;have hw:=width_bd HV.out hz.out hy.out;have l1:=(isLoc_at (validBox_parts HV.out).1).2 j y hy.out;have l2:=(isLoc_at (validBox_parts HV.out).2.1).2 j z hz.out;have HST:=Lib.hid (locK_step (i:=i) hy.out (widths_at hz.out hy.out));obtain⟨g,rfl,hgl,hgB⟩:=hM.form (by omega);obtain⟨u,hu,hIu,huk⟩:=hM.celli hjn;obtain rfl:u=y:=by have:=huk.out;rw [HST.out.2.2]at this;injection this with this;exact this.symm
   have hfz:=hM.frozen j;have m1:IntKind.i64.wrap (z - u)=z - u:=IntWalk.i64_in _ (by omega);have m2:IntKind.i64.wrap (z - u+1)=z - u+1:=IntWalk.i64_in _ (by omega);have r0:0<=ix % (z - u+1):=Int.emod_nonneg _ (by omega);have r1:ix % (z - u+1)<z - u+1:=Int.emod_lt_of_pos _ (by omega);have q0:0<=ix / (z - u+1):=Int.ediv_nonneg p0 (by omega);have q1:ix / (z - u+1)<=ix:=Int.ediv_le_self _ p0;have t1:ix.tmod (z - u+1)=ix % (z - u+1):=Int.tmod_eq_emod_of_nonneg p0;have t2:ix.tdiv (z - u+1)=ix / (z - u+1):=Int.tdiv_eq_ediv_of_nonneg p0;have m3:IntKind.i64.wrap (u+ix % (z - u+1))=u+ix % (z - u+1):=IntWalk.i64_in _ (by omega)
   have m4:IntKind.i64.wrap (ix / (z - u+1))=ix / (z - u+1):=IntWalk.i64_in _ (by omega);go_wp2
   go_quiet (fail)
   clear m1 m2;go_wp2;obtain⟨wq,hwq⟩:∃ wq,wq=wr.drewN nq:=⟨_,rfl⟩;rw [<- hwq];have hbq:Below wr.heap.size wr wq:=by rw [hwq];exact below_drewN (Below.refl _ _) _
   replace hE:=hE.trans (hbq.mono hE.size);replace hM:=hM.below rInt_ok hbq;replace hc:=cells_below hbq _ _ hc;replace kx_0:=cells_below hbq _ _ kx_0;clear hwq hbq hu hfz hc' kx_1;obtain⟨u',hu,_,hu2⟩:=hM.celli hjn;obtain rfl:u'=u:=by have:=hu2.out;rw [HST.out.2.2]at this;injection this with this;exact this.symm
   clear hu2;have hfz:=hM.frozen j;have dz1:z - u'+1≠0:=by omega
   have dz2:((z - u'+1)==0)=false:=by simp;omega
   go_still_tail 12,(by kernel_rfl)
   obtain⟨wd,hwd⟩:∃ W:World,W=World.drew wq:=⟨_,rfl⟩
   change wpList _ _ _ _ _ (World.drew wq)
   rw [<- hwd];have hbd:Below wq.heap.size wq wd:=by rw [hwd];exact(Below.refl _ _).drew
   replace hE:=hE.trans (hbd.mono hE.size);replace hM:=hM.below rInt_ok hbd;clear hwd hbd hu hfz hc kx_0;obtain⟨u2,hu,_,_⟩:=hM.celli hjn;have hfz:=hM.frozen j;have hgl2:=hM.lt;go_wp2;go_roundw
   case rel =>
    have e1:MS wb.heap.size NB 3 rInt (wd.setCell ⟨g,j,none⟩ (.int .i64 (u'+ix % (z - u'+1)))) (some ⟨g,0,none⟩) nxLow c3 (locK x i j):=by
     have:=hM.set j (x:=u'+ix % (z - u'+1)) ⟨by omega,by omega⟩;rw [<- HST.out.1,<- HIX.out];exact this
    exact⟨j,ix / (z - u'+1),by omega,by go_num,by go_num,q0,by omega,by rw [HST.out.2.1,<- HIX.out],e1,hE.setCell hgB _⟩
   case measure=>(simp [intOf]<;>omega)
end Go.Proofs.YtnlcfkpcmfljeaaGreat
