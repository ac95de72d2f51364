/-
  Lkp, Qf
-/
import Derived.Test.YtiafklphblkpbaaGreatKeep
import Derived.Test.YtiafklphblkpbaaGreatDb
import Derived.Test.YtiafklphblkpbaaGreatCpr
import Derived.Test.YtiafklphblkpbaaGreatQi
namespace Go.Proofs.YtiafklphblkpbaaGreat
open Go.RowKit
set_option linter.unusedVariables false
set_option linter.unusedSimpArgs false
def isNm (nm:ByteArray) (t:TableD):Bool:=t.fName.toList==nm.toList
/-- the table of a name, if the database is fine -/
def lookup (d:DatabaseD) (nm:ByteArray):TableD × Bool:=if validDb d then (match d.fTables.find? (isNm nm) with|some t=>(t,true)|none=>(⟨⟨#[]⟩,0,[]⟩,false)) else (⟨⟨#[]⟩,0,[]⟩,false)
theorem lookup_bad {d:DatabaseD}{nm:ByteArray}(h:validDb d=false):lookup d nm=(⟨⟨#[]⟩,0,[]⟩,false):=by simp [lookup,h]
theorem lookup_no {d:DatabaseD}{nm:ByteArray}(h:d.fTables.all (fun t=>!isNm nm t)=true):lookup d nm=(⟨⟨#[]⟩,0,[]⟩,false):=by
 unfold lookup
 have:d.fTables.find? (isNm nm)=none:=by rw [List.find?_eq_none];intro t ht;rw [List.all_eq_true]at h;have:=h t ht;simpa using this
 rw [this];split<;>rfl
theorem lookup_yes {d:DatabaseD}{nm:ByteArray}{k:Nat}{t:TableD}(hv:validDb d=true) (hall:(d.fTables.take k).all (fun t=>!isNm nm t)=true) (ht:d.fTables[k]?=some t) (h:isNm nm t=true):lookup d nm=(t,true):=by
 have:d.fTables.find? (isNm nm)=some t:=by
  obtain⟨hk,rfl⟩:=List.getElem?_eq_some_iff.1 ht
  rw [List.find?_eq_some_iff_getElem]
  refine⟨h,k,hk,rfl,fun j hj=>?_⟩
  rw [List.all_eq_true]at hall
  exact hall _ (List.mem_take_iff_getElem.2 ⟨j,by omega,rfl⟩)
 simp [lookup,hv,this]
theorem zTable_ret (w:World) (w0:World) (h:Below w0.heap.size w0 w):∃ cs fp,Ending.returned (.tuple #[.agg #[.string ⟨#[]⟩,.int .i64 0,.slice none 0 0],.bool false])=.returned (.tuple #[.agg cs.toArray,.bool false])/\(rTable NB).own w fp cs ⟨⟨#[]⟩,0,[]⟩/\Fr w0.heap.size fp/\Below w0.heap.size w0 w :=
 ⟨[.string ⟨#[]⟩,.int .i64 0,.slice none 0 0],[],rfl,rTable_own.2 ⟨none,0,0,[],rfl,rfl,Nat.zero_le _,I64_zero,⟨rfl,Nat.zero_le _,[],[],World.ownsRow_nil w 0 _ _,rfl,trivial⟩⟩,Fr.nil _,h⟩
set_option maxRecDepth 100000 in
set_option maxHeartbeats 1600000 in
theorem sLookupTable_c (csd:List Value) (d:DatabaseD) (nm:ByteArray) (w:World) (hd:(rDatabase NB).rep w csd d) :
  Calls Tryz.prog 52 #[.agg csd.toArray,.string nm] w (RetVB (rTable NB) (lookup d nm).1 (.bool (lookup d nm).2) w):=by
 have rd:=hd
 obtain⟨AdTables,ndTables,cdTables,rfl,hdTables⟩:=rDatabase_rep.1 hd
 clear hd
 have hB:Below w.heap.size w w:=Below.refl _ _
 have hn:=hdTables.bound
 have HL:=Lib.hid hdTables.len
 obtain⟨wa,hwa⟩:∃ W,W=(w.alloc (.cells #[.slice AdTables ndTables cdTables] 43)).alloc (.cells #[.string ⟨#[]⟩,.int .i64 0,.slice none 0 0] 82):=⟨_,rfl⟩
 have hba:Below w.heap.size w wa:=by rw [hwa];exact((Below.refl w.heap.size w).alloc (Nat.le_refl _) _).alloc (by simp) _
 have hsa:wa.heap.size=w.heap.size+1+1:=by rw [hwa];simp
 have kD:Bk wa w.heap.size 43 [.slice AdTables ndTables cdTables]:=by rw [hwa];exact(Bk.new w _ _).below ((Below.refl _ _).alloc (Nat.le_refl _) _)
 have kR:Bk wa (w.heap.size+1) 82 [.string ⟨#[]⟩,.int .i64 0,.slice none 0 0]:=by rw [hwa];have:=Bk.new (w.alloc (.cells #[.slice AdTables ndTables cdTables] 43)) [.string ⟨#[]⟩,.int .i64 0,.slice none 0 0] 82;simpa using this
 have HZ:=Lib.hid hsa;clear hsa
 replace hB:=hba
 clear hba
 go_enter Tryz.func52,Tryz.ntmps52
 go_upto_region 1 with fail
 rw [<- hwa]
 clear hwa
 go_wp2
 go_loopw [6] (fun i wr=>∃ k:Nat,k<=ndTables/\i=.int .i64 k/\(d.fTables.take k).all (fun t=>!isNm nm t)=true/\Below wa.heap.size wa wr) (fun i _=>ndTables - (intOf i).toNat)
 case atStart=>exact⟨0,Nat.zero_le _,rfl,rfl,Below.refl _ _⟩
 case round =>
  obtain⟨k,hk,rfl,hall,hE⟩:=hrel
  have Hall:=Lib.hid hall;clear hall
  have hB2:=hB.trans (hE.mono hB.size)
  have kD2:=kD.below hE
  have kR2:=kR.below hE
  have k0:=kD2.bx 0 _ rfl
  have r0:=kR2.bx 0 _ rfl
  have r1:=kR2.bx 1 _ rfl
  have r2:=kR2.bx 2 _ rfl
  have f0:=kR2.frozen 0
  have f1:=kR2.frozen 1
  have f2:=kR2.frozen 2
  by_cases hlt:k<ndTables
  ·have hd1:decide (k<ndTables)=true:=by simp [hlt]
   have hd2:decide ((k:Int)<(ndTables:Int))=true:=by simp [hlt]
   go_wp2_with fail
   refine(sIsValidDatabase_c _ d _ (rDatabase_rep.2 ⟨AdTables,ndTables,cdTables,rfl,(hdTables.below (rTable_ok NB) hB2)⟩)).mono ?_
   rintro e w3 ⟨rfl,hb3⟩
   have hE3:=hE.trans (hb3.mono hE.size)
   have hB3:=hB2.trans (hb3.mono hB2.size)
   replace kD2:=kD2.below hb3
   replace kR2:=kR2.below hb3
   clear k0 r0 r1 r2 f0 f1 f2 hb3
   have k0:=kD2.bx 0 _ rfl
   have r0:=kR2.bx 0 _ rfl
   have r1:=kR2.bx 1 _ rfl
   have r2:=kR2.bx 2 _ rfl
   have f0:=kR2.frozen 0
   have f1:=kR2.frozen 1
   have f2:=kR2.frozen 2
   cases hv:validDb d
   ·have HV:=Lib.hid (lookup_bad (nm:=nm) hv);clear hv
    go_wp2
    have q4:=((kR2.set 0 (.string ⟨#[]⟩)).set 1 (.int .i64 0)).set 2 (.slice none 0 0)
    have q0:=q4.bx 0 _ rfl
    have q1:=q4.bx 1 _ rfl
    have q2:=q4.bx 2 _ rfl
    refine bodyPost_ret (v:=.tuple #[.agg #[.string ⟨#[]⟩,.int .i64 0,.slice none 0 0],.bool false]) (by simp [results,Tryz.results52,go_sem,q0,q1,q2]) rfl ?_
    rw [HV.out]
    exact zTable_ret _ w (((hB3.setCell (p:=⟨w.heap.size+1,0,none⟩) (Nat.le_succ _) _).setCell (p:=⟨w.heap.size+1,1,none⟩) (Nat.le_succ _) _).setCell (p:=⟨w.heap.size+1,2,none⟩) (Nat.le_succ _) _)
   have HV:=Lib.hid hv;clear hv
   obtain⟨b,off,x,AR,nR,cR,rfl,hc0,hc1,hc2,hx,hxx⟩:=(hdTables.below (rTable_ok NB) hB3).eTable hlt
   cases hn2:isNm nm x
   ·have hbe:(x.fName.toList==nm.toList)=false:=hn2
    have HN:=Lib.hid hn2;clear hn2
    go_wp2
    go_roundw
    case rel=>exact⟨k+1,by omega,by go_num,all_snoc' Hall.out hxx.out (by simp [HN.out]),hE3⟩
    case measure=>simp [intOf];omega
   ·have hbe:(x.fName.toList==nm.toList)=true:=hn2
    have HY:=Lib.hid (lookup_yes HV.out Hall.out hxx.out hn2);clear hn2
    go_wp2_with fail
    refine(sl4Copy_c _ x _ hx).mono ?_
    rintro e w4 ⟨cs,fp,rfl,ot,ft,hb4⟩
    obtain⟨A2,n2,c2,fR,rfl,hfR,e1,e2,o2⟩:=rTable_own.1 ot
    subst hfR
    replace kR2:=kR2.below hb4
    have hB4:=hB3.trans (hb4.mono hB3.size)
    have HF:Hid (∀ z∈fp,w.heap.size+1<z):=by show ∀ z∈fp,_;exact fun z hz=>by have:=ft.ge z hz;have:=HZ.out;have:=hE3.size;omega
    clear k0 r0 r1 r2 f0 f1 f2 hb4 hc0 hc1 hc2
    have r0:=kR2.bx 0 _ rfl
    have r1:=kR2.bx 1 _ rfl
    have r2:=kR2.bx 2 _ rfl
    have f0:=kR2.frozen 0
    have f1:=kR2.frozen 1
    have f2:=kR2.frozen 2
    go_wp2
    have q4:=((kR2.set 0 (.string x.fName)).set 1 (.int .i64 x.fArity)).set 2 (.slice A2 n2 c2)
    have q0:=q4.bx 0 _ rfl
    have q1:=q4.bx 1 _ rfl
    have q2:=q4.bx 2 _ rfl
    refine bodyPost_ret (v:=.tuple #[.agg #[.string x.fName,.int .i64 x.fArity,.slice A2 n2 c2],.bool true]) (by simp [results,Tryz.results52,go_sem,q0,q1,q2]) rfl ?_
    rw [HY.out]
    refine⟨[.string x.fName,.int .i64 x.fArity,.slice A2 n2 c2],fp,rfl,rTable_own.2 ⟨A2,n2,c2,fp,rfl,rfl,e1,e2,o2.okeep (rSlice_ok NB _ rInt_ok) (fun z hz=>?_)⟩,ft.mono hB3.size,((hB4.setCell (p:=⟨w.heap.size+1,0,none⟩) (Nat.le_succ _) _).setCell (p:=⟨w.heap.size+1,1,none⟩) (Nat.le_succ _) _).setCell (p:=⟨w.heap.size+1,2,none⟩) (Nat.le_succ _) _⟩
    have hne:z≠w.heap.size+1:=by have:=HF.out z hz;omega
    exact((heap_setCell_other _ ⟨w.heap.size+1,2,none⟩ z _ (fun e=>hne e)).trans (heap_setCell_other _ ⟨w.heap.size+1,1,none⟩ z _ (fun e=>hne e))).trans (heap_setCell_other _ ⟨w.heap.size+1,0,none⟩ z _ (fun e=>hne e))
  ·have hd1:decide (k<ndTables)=false:=by simpa using hlt
   have HV:Hid (lookup d nm=(⟨⟨#[]⟩,0,[]⟩,false)):=by show _=_;exact lookup_no (by rw [<- take_all HL.out hlt];exact Hall.out)
   go_wp2
   have q4:=((kR2.set 0 (.string ⟨#[]⟩)).set 1 (.int .i64 0)).set 2 (.slice none 0 0)
   have q0:=q4.bx 0 _ rfl
   have q1:=q4.bx 1 _ rfl
   have q2:=q4.bx 2 _ rfl
   refine bodyPost_ret (v:=.tuple #[.agg #[.string ⟨#[]⟩,.int .i64 0,.slice none 0 0],.bool false]) (by simp [results,Tryz.results52,go_sem,q0,q1,q2]) rfl ?_
   rw [HV.out]
   exact zTable_ret _ w (((hB2.setCell (p:=⟨w.heap.size+1,0,none⟩) (Nat.le_succ _) _).setCell (p:=⟨w.heap.size+1,1,none⟩) (Nat.le_succ _) _).setCell (p:=⟨w.heap.size+1,2,none⟩) (Nat.le_succ _) _)
theorem iLkpFn_c (x:TableD) (g:Nat) (nm:ByteArray) (A:Option Addr) (n c:Nat) (w:World) (hc:w.cell? ⟨g,0,none⟩=some (.string nm)) :
  Calls Tryz.prog 86 #[.agg #[.string x.fName,.int .i64 x.fArity,.slice A n c],.pointer (some ⟨g,0,none⟩)] w fun e w'=>e=.returned (.bool (isNm nm x))/\Below w.heap.size w w':=by
 have hA:=(Below.refl w.heap.size w).alloc (Nat.le_refl _) (.cells #[.string x.fName,.int .i64 x.fArity,.slice A n c] 82)
 have bx:=Bx.new w [.string x.fName,.int .i64 x.fArity,.slice A n c] 82
 have k0:=bx 0 _ rfl
 have hc2:=cells_below hA _ _ hc
 cases h:isNm nm x
 ·have hbe:(x.fName.toList==nm.toList)=false:=h
  clear h
  go_enter Tryz.func86,Tryz.ntmps86
  go_wp2
  go_ret
  exact⟨rfl,hA⟩
 ·have hbe:(x.fName.toList==nm.toList)=true:=h
  clear h
  go_enter Tryz.func86,Tryz.ntmps86
  go_wp2
  go_ret
  exact⟨rfl,hA⟩
set_option maxRecDepth 100000 in
set_option maxHeartbeats 1600000 in
theorem iLkpIdx_c (A:Option Addr) (n cap:Nat) (l:List TableD) (g:Nat) (nm:ByteArray) (w:World) (hr:RS NB (rTable NB) w A n cap l) (hc:w.cell? ⟨g,0,none⟩=some (.string nm)) :
  Calls Tryz.prog 85 #[.slice A n cap,.func (.func 86) #[] #[.pointer (some ⟨g,0,none⟩)]] w fun e w'=>e=.returned (.int .i64 (idxOf (isNm nm) l))/\Below w.heap.size w w':=by
 have hn:=hr.bound
 go_enter Tryz.func85,Tryz.ntmps85
 go_wp2
 go_loopw [8] (fun i wr=>∃ k:Nat,k<=n/\i=.int .i64 k/\(l.take k).all (fun b=>!isNm nm b)=true/\Below w.heap.size w wr) (fun i _=>n - (intOf i).toNat)
 case atStart=>exact⟨0,Nat.zero_le _,rfl,rfl,Below.refl _ _⟩
 case round =>
  obtain⟨k,hk,rfl,hall,hb⟩:=hrel
  have Hall:=Lib.hid hall;clear hall
  by_cases hlt:k<n
  ·obtain⟨b,off,x,AR,nR,cR,rfl,hc0,hc1,hc2,hx,hxx⟩:=(hr.below (rTable_ok NB) hb).eTable hlt
   have hg:=cells_below hb _ _ hc
   cases hx2:isNm nm x
   ·go_wp2_with (go_at_call 86;refine(iLkpFn_c x g nm AR nR cR wr hg).mono ?_;rintro e w1 ⟨he,hb1⟩;rw [hx2]at he;subst he)
    go_roundw
    case rel=>exact⟨k+1,by omega,by go_num,all_snoc' Hall.out hxx.out (by simp [hx2]),hb.trans (hb1.mono hb.size)⟩
    case measure=>simp [intOf];omega
   ·go_wp2_with (go_at_call 86;refine(iLkpFn_c x g nm AR nR cR wr hg).mono ?_;rintro e w1 ⟨he,hb1⟩;rw [hx2]at he;subst he)
    go_ret
    exact⟨ret_int (idxOf_yes Hall.out hxx.out hx2).symm,hb.trans (hb1.mono hb.size)⟩
  ·go_wp2
   go_ret
   exact⟨ret_int (a:=-1) (idxOf_no (take_all hr.len hlt▸Hall.out)).symm,hb⟩
theorem idxOf_at {α:Type}{p:α->Bool}{l:List α}:(idxOf p l=-1/\l.all (fun b=>!p b)=true)\/∃ k x,idxOf p l=(k:Nat)/\l[k]?=some x/\p x=true/\(l.take k).all (fun b=>!p b)=true:=by
 cases h:l.findIdx? p with
 | none=>exact .inl ⟨by unfold idxOf;rw [h],by rw [List.findIdx?_eq_none_iff]at h;rw [List.all_eq_true];intro x hx;simp [h x hx]⟩
 | some k =>
  rw [List.findIdx?_eq_some_iff_getElem]at h
  obtain⟨hk,h1,h2⟩:=h
  refine .inr ⟨k,l[k],by unfold idxOf;rw [List.findIdx?_eq_some_iff_getElem.2 ⟨hk,h1,h2⟩],List.getElem?_eq_getElem hk,h1,?_⟩
  rw [List.all_eq_true];intro x hx
  obtain⟨j,hj,rfl⟩:=List.mem_take_iff_getElem.1 hx
  have:=h2 j (by omega)
  simpa using this
set_option maxRecDepth 100000 in
set_option maxHeartbeats 1600000 in
theorem iLookupTable_c (csd:List Value) (d:DatabaseD) (nm:ByteArray) (w:World) (hd:(rDatabase NB).rep w csd d) :
  Calls Tryz.prog 47 #[.agg csd.toArray,.string nm] w (RetVB (rTable NB) (lookup d nm).1 (.bool (lookup d nm).2) w):=by
 have rd:=hd
 obtain⟨AdTables,ndTables,cdTables,rfl,hdTables⟩:=rDatabase_rep.1 hd
 clear hd
 have hB:Below w.heap.size w w:=Below.refl _ _
 have hn:=hdTables.bound
 have HL:=Lib.hid hdTables.len
 obtain⟨wa,hwa⟩:∃ W,W=((w.alloc (.cells #[.slice AdTables ndTables cdTables] 43)).alloc (.cells #[.string nm] 9)).alloc (.cells #[.string ⟨#[]⟩,.int .i64 0,.slice none 0 0] 82):=⟨_,rfl⟩
 have hba:Below w.heap.size w wa:=by rw [hwa];exact(((Below.refl w.heap.size w).alloc (Nat.le_refl _) _).alloc (by simp) _).alloc (by simp;omega) _
 have hsa:wa.heap.size=w.heap.size+1+1+1:=by rw [hwa];simp
 have kD:Bk wa w.heap.size 43 [.slice AdTables ndTables cdTables]:=by rw [hwa];exact((Bk.new w _ _).below ((Below.refl _ _).alloc (Nat.le_refl _) _)).below ((Below.refl _ _).alloc (Nat.le_refl _) _)
 have kN:Bk wa (w.heap.size+1) 9 [.string nm]:=by rw [hwa];have:=(Bk.new (w.alloc (.cells #[.slice AdTables ndTables cdTables] 43)) [.string nm] 9).below ((Below.refl _ _).alloc (Nat.le_refl _) (.cells #[.string ⟨#[]⟩,.int .i64 0,.slice none 0 0] 82));simpa using this
 have kR:Bk wa (w.heap.size+1+1) 82 [.string ⟨#[]⟩,.int .i64 0,.slice none 0 0]:=by rw [hwa];have:=Bk.new ((w.alloc (.cells #[.slice AdTables ndTables cdTables] 43)).alloc (.cells #[.string nm] 9)) [.string ⟨#[]⟩,.int .i64 0,.slice none 0 0] 82;simpa using this
 have HZ:=Lib.hid hsa;clear hsa
 replace hB:=hba
 clear hba
 go_enter Tryz.func47,Tryz.ntmps47
 go_upto_region 1 with fail
 rw [<- hwa]
 clear hwa
 have k0:=kD.bx 0 _ rfl
 go_wp2_with fail
 refine(iLkpIdx_c _ _ _ d.fTables (w.heap.size+1) nm _ (hdTables.below (rTable_ok NB) hB) (kN.bx 0 _ rfl)).mono ?_
 rintro e w3 ⟨rfl,hb3⟩
 have hB3:=hB.trans (hb3.mono hB.size)
 have kD2:=kD.below hb3
 have kR2:=kR.below hb3
 clear k0 kN
 rcases idxOf_at (p:=isNm nm) (l:=d.fTables) with ⟨hi,hall⟩|⟨k,x,hi,hx,hxn,hall⟩
 ·have HV:Hid (lookup d nm=(⟨⟨#[]⟩,0,[]⟩,false)):=by show _=_;exact lookup_no hall
  rw [hi]
  clear hi
  have r0:=kR2.bx 0 _ rfl
  have r1:=kR2.bx 1 _ rfl
  have r2:=kR2.bx 2 _ rfl
  have f0:=kR2.frozen 0
  have f1:=kR2.frozen 1
  have f2:=kR2.frozen 2
  go_wp2
  have q4:=((kR2.set 0 (.string ⟨#[]⟩)).set 1 (.int .i64 0)).set 2 (.slice none 0 0)
  have q0:=q4.bx 0 _ rfl
  have q1:=q4.bx 1 _ rfl
  have q2:=q4.bx 2 _ rfl
  refine bodyPost_ret (v:=.tuple #[.agg #[.string ⟨#[]⟩,.int .i64 0,.slice none 0 0],.bool false]) (by simp [results,Tryz.results47,go_sem,q0,q1,q2]) rfl ?_
  rw [HV.out]
  exact zTable_ret _ w (((hB3.setCell (p:=⟨w.heap.size+1+1,0,none⟩) (Nat.le_trans (Nat.le_succ _) (Nat.le_succ _)) _).setCell (p:=⟨w.heap.size+1+1,1,none⟩) (Nat.le_trans (Nat.le_succ _) (Nat.le_succ _)) _).setCell (p:=⟨w.heap.size+1+1,2,none⟩) (Nat.le_trans (Nat.le_succ _) (Nat.le_succ _)) _)
 ·rw [hi]
  clear hi
  have hkn:k<ndTables:=by have:=lt_of_at hx;have:=HL.out;omega
  have HX:=Lib.hid hx;clear hx
  have HXN:=Lib.hid hxn;clear hxn
  have Hall:=Lib.hid hall;clear hall
  have k0:=kD2.bx 0 _ rfl
  have hd0:decide ((k:Int)<0)=false:=by simp
  go_wp2_with fail
  refine(iIsValidDatabase_c _ d _ (rDatabase_rep.2 ⟨AdTables,ndTables,cdTables,rfl,(hdTables.below (rTable_ok NB) hB3)⟩)).mono ?_
  rintro e w4 ⟨rfl,hb4⟩
  have hB4:=hB3.trans (hb4.mono hB3.size)
  replace kD2:=kD2.below hb4
  replace kR2:=kR2.below hb4
  have hz4:wa.heap.size<=w4.heap.size:=Nat.le_trans hb3.size hb4.size
  clear k0 hb4 hb3
  have k0:=kD2.bx 0 _ rfl
  have r0:=kR2.bx 0 _ rfl
  have r1:=kR2.bx 1 _ rfl
  have r2:=kR2.bx 2 _ rfl
  have f0:=kR2.frozen 0
  have f1:=kR2.frozen 1
  have f2:=kR2.frozen 2
  cases hv:validDb d
  ·have HV:=Lib.hid (lookup_bad (nm:=nm) hv);clear hv
   go_wp2
   have q4:=((kR2.set 0 (.string ⟨#[]⟩)).set 1 (.int .i64 0)).set 2 (.slice none 0 0)
   have q0:=q4.bx 0 _ rfl
   have q1:=q4.bx 1 _ rfl
   have q2:=q4.bx 2 _ rfl
   refine bodyPost_ret (v:=.tuple #[.agg #[.string ⟨#[]⟩,.int .i64 0,.slice none 0 0],.bool false]) (by simp [results,Tryz.results47,go_sem,q0,q1,q2]) rfl ?_
   rw [HV.out]
   exact zTable_ret _ w (((hB4.setCell (p:=⟨w.heap.size+1+1,0,none⟩) (Nat.le_trans (Nat.le_succ _) (Nat.le_succ _)) _).setCell (p:=⟨w.heap.size+1+1,1,none⟩) (Nat.le_trans (Nat.le_succ _) (Nat.le_succ _)) _).setCell (p:=⟨w.heap.size+1+1,2,none⟩) (Nat.le_trans (Nat.le_succ _) (Nat.le_succ _)) _)
  have HV:=Lib.hid hv;clear hv
  obtain⟨b,off,x',AR,nR,cR,rfl,hc0,hc1,hc2,hx,hxx⟩:=(hdTables.below (rTable_ok NB) hB4).eTable hkn
  obtain rfl:x=x':=by have:=hxx.out;rw [HX.out]at this;injection this
  have HY:=Lib.hid (lookup_yes HV.out Hall.out hxx.out HXN.out)
  go_wp2_with fail
  refine(iCopyTable_c _ x _ hx).mono ?_
  rintro e w5 ⟨cs,fp,rfl,ot,ft,hb5⟩
  obtain⟨A2,n2,c2,fR,rfl,hfR,e1,e2,o2⟩:=rTable_own.1 ot
  subst hfR
  replace kR2:=kR2.below hb5
  have hB5:=hB4.trans (hb5.mono hB4.size)
  have HF:Hid (∀ z∈fp,w.heap.size+1+1<z):=by show ∀ z∈fp,_;exact fun z hz=>by have:=ft.ge z hz;have:=HZ.out;omega
  clear k0 r0 r1 r2 f0 f1 f2 hb5 hc0 hc1 hc2
  have r0:=kR2.bx 0 _ rfl
  have r1:=kR2.bx 1 _ rfl
  have r2:=kR2.bx 2 _ rfl
  have f0:=kR2.frozen 0
  have f1:=kR2.frozen 1
  have f2:=kR2.frozen 2
  go_wp2
  have q4:=((kR2.set 0 (.string x.fName)).set 1 (.int .i64 x.fArity)).set 2 (.slice A2 n2 c2)
  have q0:=q4.bx 0 _ rfl
  have q1:=q4.bx 1 _ rfl
  have q2:=q4.bx 2 _ rfl
  refine bodyPost_ret (v:=.tuple #[.agg #[.string x.fName,.int .i64 x.fArity,.slice A2 n2 c2],.bool true]) (by simp [results,Tryz.results47,go_sem,q0,q1,q2]) rfl ?_
  rw [HY.out]
  refine⟨[.string x.fName,.int .i64 x.fArity,.slice A2 n2 c2],fp,rfl,rTable_own.2 ⟨A2,n2,c2,fp,rfl,rfl,e1,e2,o2.okeep (rSlice_ok NB _ rInt_ok) (fun z hz=>?_)⟩,ft.mono hB4.size,((hB5.setCell (p:=⟨w.heap.size+1+1,0,none⟩) (Nat.le_trans (Nat.le_succ _) (Nat.le_succ _)) _).setCell (p:=⟨w.heap.size+1+1,1,none⟩) (Nat.le_trans (Nat.le_succ _) (Nat.le_succ _)) _).setCell (p:=⟨w.heap.size+1+1,2,none⟩) (Nat.le_trans (Nat.le_succ _) (Nat.le_succ _)) _⟩
  have hne:z≠w.heap.size+1+1:=by have:=HF.out z hz;omega
  exact((heap_setCell_other _ ⟨w.heap.size+1+1,2,none⟩ z _ (fun e=>hne e)).trans (heap_setCell_other _ ⟨w.heap.size+1+1,1,none⟩ z _ (fun e=>hne e))).trans (heap_setCell_other _ ⟨w.heap.size+1+1,0,none⟩ z _ (fun e=>hne e))
end Go.Proofs.YtiafklphblkpbaaGreat
namespace Go.Proofs.YtiafklphblkpbaaGreat
open Go.RowKit
set_option linter.unusedVariables false
set_option linter.unusedSimpArgs false
def atomIn (d:DatabaseD) (a:AtomD):Bool:=(lookup d a.fName).2&&decide ((lookup d a.fName).1.fArity=(a.fVars.length:Int))
def queryFor (d:DatabaseD) (q:QueryD):Bool:=validQ q&&q.fAtoms.all (atomIn d)
theorem queryFor_v {d:DatabaseD}{q:QueryD}(h:validQ q=false):queryFor d q=false:=by simp [queryFor,h]
theorem queryFor_no {d:DatabaseD}{q:QueryD}{k:Nat}{a:AtomD}(hx:q.fAtoms[k]?=some a) (h:atomIn d a=false):queryFor d q=false:=by
 have:q.fAtoms.all (atomIn d)=false:=by rw [Bool.eq_false_iff];intro h2;rw [List.all_eq_true]at h2;rw [h2 a (mem_of_at hx)]at h;cases h
 simp [queryFor,this]
theorem cells_set3 {W:World}{g:Nat}{t:TypeId}{a b c x y z:Value}(h:Bk W g t [a,b,c]):Bk (((W.setCell ⟨g,0,none⟩ x).setCell ⟨g,1,none⟩ y).setCell ⟨g,2,none⟩ z) g t [x,y,z]:=((h.set 0 x).set 1 y).set 2 z
set_option maxRecDepth 100000 in
set_option maxHeartbeats 1600000 in
theorem iIsQueryFor_c (csd:List Value) (d:DatabaseD) (csq:List Value) (q:QueryD) (w:World) (hd:(rDatabase NB).rep w csd d) (hq:(rQuery NB).rep w csq q) :
  Calls Tryz.prog 46 #[.agg csd.toArray,.agg csq.toArray] w fun e w'=>e=.returned (.bool (queryFor d q))/\Below w.heap.size w w':=by
 have rd:=hd
 obtain⟨AdTables,ndTables,cdTables,rfl,hdTables⟩:=rDatabase_rep.1 hd
 clear hd
 have rq:=hq
 obtain⟨AqAtoms,nqAtoms,cqAtoms,rfl,hqVariableCount,hqAtoms⟩:=rQuery_rep.1 hq
 clear hq
 have hB:Below w.heap.size w w:=Below.refl _ _
 have hAd:=(Below.refl (World.heap (w)).size (w)).alloc (Nat.le_refl _) (.cells #[.slice AdTables ndTables cdTables] 43)
 replace hB:=hB.trans (hAd.mono hB.size)
 have bxd:=Bx.new (w) [.slice AdTables ndTables cdTables] 43
 clear hAd
 have hAq:=(Below.refl (World.heap ((w).alloc (.cells #[.slice AdTables ndTables cdTables] 43))).size ((w).alloc (.cells #[.slice AdTables ndTables cdTables] 43))).alloc (Nat.le_refl _) (.cells #[.int .i64 q.fVariableCount,.slice AqAtoms nqAtoms cqAtoms] 46)
 replace hB:=hB.trans (hAq.mono hB.size)
 replace bxd:=bxd.below hAq
 have bxq:=Bx.new ((w).alloc (.cells #[.slice AdTables ndTables cdTables] 43)) [.int .i64 q.fVariableCount,.slice AqAtoms nqAtoms cqAtoms] 46
 simp only [World.size_alloc]at bxq
 clear hAq
 have hnq:=hqAtoms.bound
 have HLQ:=Lib.hid hqAtoms.len
 obtain⟨wa,hwa⟩:∃ W,W=(w.alloc (.cells #[.slice AdTables ndTables cdTables] 43)).alloc (.cells #[.int .i64 q.fVariableCount,.slice AqAtoms nqAtoms cqAtoms] 46):=⟨_,rfl⟩
 rw [<- hwa]at hB bxd bxq
 go_enter Tryz.func46,Tryz.ntmps46
 go_upto_region 1 with fail
 rw [<- hwa]
 clear hwa
 have kq_0:=bxq 0 _ rfl
 have kq_1:=bxq 1 _ rfl
 go_wp2_with fail
 refine(iIsValidQuery_c _ q _ ((rQuery_ok NB).keep rq (cells_below hB))).mono ?_
 rintro e w1 ⟨rfl,hb1⟩
 replace hB:=hB.trans (hb1.mono hB.size)
 replace bxd:=bxd.below hb1
 replace bxq:=bxq.below hb1
 clear hb1 kq_0 kq_1
 cases hv:validQ q
 ·have HV:=Lib.hid (queryFor_v (d:=d) hv);clear hv
  go_wp2
  go_ret
  exact⟨ret_bool (a:=false) HV.out.symm,hB⟩
 have HV:=Lib.hid hv;clear hv
 rename World=>wb
 obtain⟨wc,hwc⟩:∃ W,W=wb:=⟨_,rfl⟩
 rw [<- hwc]at hB bxd bxq ⊢
 clear hwc
 have kq_0:=bxq 0 _ rfl
 have kq_1:=bxq 1 _ rfl
 go_wp2
 go_loopw [15] (fun i wr=>∃ k:Nat,k<=nqAtoms/\i=.int .i64 k/\(q.fAtoms.take k).all (atomIn d)=true/\Below wc.heap.size wc wr) (fun i _=>nqAtoms - (intOf i).toNat)
 case atStart=>exact⟨0,Nat.zero_le _,rfl,rfl,Below.refl _ _⟩
 case round =>
  clear kq_0 kq_1
  obtain⟨k,hk,rfl,hall,hE⟩:=hrel
  have Hall:=Lib.hid hall;clear hall
  have hB2:=hB.trans (hE.mono hB.size)
  have kq_1:=(bxq.below hE) 1 _ rfl
  have kd_0:=(bxd.below hE) 0 _ rfl
  by_cases hlt:k<nqAtoms
  ·obtain⟨b,off,a,AV,nV,cV,rfl,hc0,hc1,hsz,hRV,hxx⟩:=(hqAtoms.below (rAtom_ok NB) hB2).eAtom hlt
   have HLV:=Lib.hid hRV.len
   obtain⟨t,is,HL⟩:∃ t is,Hid (lookup d a.fName=(t,is)):=⟨_,_,rfl⟩
   obtain⟨wt,hwt⟩:∃ W,W=wr.alloc (.cells #[.string a.fName,.slice AV nV cV] 57):=⟨_,rfl⟩
   have hbt:Below wr.heap.size wr wt:=by rw [hwt];exact(Below.refl wr.heap.size wr).alloc (Nat.le_refl _) _
   have kA:Bk wt wr.heap.size 57 [.string a.fName,.slice AV nV cV]:=by rw [hwt];exact Bk.new wr _ _
   have hE3:=hE.trans (hbt.mono hE.size)
   have hB3:=hB.trans (hE3.mono hB.size)
   go_upto_region 6 with fail
   rw [<- hwt]
   clear hwt hc0 hc1 kq_1 kd_0
   have kd_0:=(bxd.below hE3) 0 _ rfl
   have ka_0:=kA.bx 0 _ rfl
   go_wp2_with fail
   have C:=iLookupTable_c _ d a.fName _ (rDatabase_rep.2 ⟨AdTables,ndTables,cdTables,rfl,(hdTables.below (rTable_ok NB) hB3)⟩)
   rw [HL.out]at C
   refine C.mono ?_
   clear C
   rintro e w4 ⟨cs,fp,rfl,ot,ft,hb4⟩
   obtain⟨A2,n2,c2,fR,rfl,hfR,e1,e2,o2⟩:=rTable_own.1 ot
   clear ot ft hfR o2
   obtain⟨w5,hw5⟩:∃ W,W=w4.alloc (.cells #[.string t.fName,.int .i64 t.fArity,.slice A2 n2 c2] 82):=⟨_,rfl⟩
   have hb5:Below w4.heap.size w4 w5:=by rw [hw5];exact(Below.refl w4.heap.size w4).alloc (Nat.le_refl _) _
   have kT:Bk w5 w4.heap.size 82 [.string t.fName,.int .i64 t.fArity,.slice A2 n2 c2]:=by rw [hw5];exact Bk.new w4 _ _
   replace kA:=kA.below (hb4.trans (hb5.mono hb4.size))
   have hE9:=hE3.trans ((hb4.trans (hb5.mono hb4.size)).mono hE3.size)
   have hB9:=hB.trans (hE9.mono hB.size)
   go_upto_region 7 with fail
   rw [<- hw5]
   clear hw5 hb4 hb5 kd_0 ka_0
   have ka_1:=kA.bx 1 _ rfl
   have kt_1:=kT.bx 1 _ rfl
   cases is
   ·have HN:Hid (queryFor d q=false):=by show _=_;exact queryFor_no hxx.out (by simp [atomIn,HL.out])
    go_wp2
    go_ret
    exact⟨ret_bool (a:=false) HN.out.symm,hB9⟩
   ·by_cases har:t.fArity=(nV:Int)
    ·have HA:Hid (atomIn d a=true):=by show _=_;simp [atomIn,HL.out,HLV.out,har]
     have hne:(t.fArity != (nV:Int))=false:=by simp [har]
     have HAR:=Lib.hid har;clear har
     go_wp2
     go_roundw
     case rel=>exact⟨k+1,by omega,by go_num,all_snoc' Hall.out hxx.out HA.out,hE9⟩
     case measure=>simp [intOf];omega
    ·have HN:Hid (queryFor d q=false):=by show _=_;exact queryFor_no hxx.out (by simp [atomIn,HL.out,HLV.out,har])
     have hne:(t.fArity != (nV:Int))=true:=by simp [har]
     go_wp2
     go_ret
     exact⟨ret_bool (a:=false) HN.out.symm,hB9⟩
  ·have HY:Hid (queryFor d q=true):=by
    show _=_
    have h1:=Hall.out
    rw [take_all HLQ.out hlt]at h1
    simp [queryFor,HV.out,h1]
   go_wp2
   go_ret
   exact⟨ret_bool (a:=true) HY.out.symm,hB2⟩
set_option maxRecDepth 100000 in
set_option maxHeartbeats 1600000 in
theorem sIsQueryFor_c (csd:List Value) (d:DatabaseD) (csq:List Value) (q:QueryD) (w:World) (hd:(rDatabase NB).rep w csd d) (hq:(rQuery NB).rep w csq q) :
  Calls Tryz.prog 51 #[.agg csd.toArray,.agg csq.toArray] w fun e w'=>e=.returned (.bool (queryFor d q))/\Below w.heap.size w w':=by
 have rd:=hd
 obtain⟨AdTables,ndTables,cdTables,rfl,hdTables⟩:=rDatabase_rep.1 hd
 clear hd
 have rq:=hq
 obtain⟨AqAtoms,nqAtoms,cqAtoms,rfl,hqVariableCount,hqAtoms⟩:=rQuery_rep.1 hq
 clear hq
 have hB:Below w.heap.size w w:=Below.refl _ _
 have hAd:=(Below.refl (World.heap (w)).size (w)).alloc (Nat.le_refl _) (.cells #[.slice AdTables ndTables cdTables] 43)
 replace hB:=hB.trans (hAd.mono hB.size)
 have bxd:=Bx.new (w) [.slice AdTables ndTables cdTables] 43
 clear hAd
 have hAq:=(Below.refl (World.heap ((w).alloc (.cells #[.slice AdTables ndTables cdTables] 43))).size ((w).alloc (.cells #[.slice AdTables ndTables cdTables] 43))).alloc (Nat.le_refl _) (.cells #[.int .i64 q.fVariableCount,.slice AqAtoms nqAtoms cqAtoms] 46)
 replace hB:=hB.trans (hAq.mono hB.size)
 replace bxd:=bxd.below hAq
 have bxq:=Bx.new ((w).alloc (.cells #[.slice AdTables ndTables cdTables] 43)) [.int .i64 q.fVariableCount,.slice AqAtoms nqAtoms cqAtoms] 46
 simp only [World.size_alloc]at bxq
 clear hAq
 have hnq:=hqAtoms.bound
 have HLQ:=Lib.hid hqAtoms.len
 obtain⟨wa,hwa⟩:∃ W,W=(w.alloc (.cells #[.slice AdTables ndTables cdTables] 43)).alloc (.cells #[.int .i64 q.fVariableCount,.slice AqAtoms nqAtoms cqAtoms] 46):=⟨_,rfl⟩
 rw [<- hwa]at hB bxd bxq
 go_enter Tryz.func51,Tryz.ntmps51
 go_upto_region 1 with fail
 rw [<- hwa]
 clear hwa
 have kq_0:=bxq 0 _ rfl
 have kq_1:=bxq 1 _ rfl
 go_wp2_with fail
 refine(sIsValidQuery_c _ q _ ((rQuery_ok NB).keep rq (cells_below hB))).mono ?_
 rintro e w1 ⟨rfl,hb1⟩
 replace hB:=hB.trans (hb1.mono hB.size)
 replace bxd:=bxd.below hb1
 replace bxq:=bxq.below hb1
 clear hb1 kq_0 kq_1
 cases hv:validQ q
 ·have HV:=Lib.hid (queryFor_v (d:=d) hv);clear hv
  go_wp2
  go_ret
  exact⟨ret_bool (a:=false) HV.out.symm,hB⟩
 have HV:=Lib.hid hv;clear hv
 rename World=>wb
 obtain⟨wc,hwc⟩:∃ W,W=wb:=⟨_,rfl⟩
 rw [<- hwc]at hB bxd bxq ⊢
 clear hwc
 have kq_0:=bxq 0 _ rfl
 have kq_1:=bxq 1 _ rfl
 go_wp2
 go_loopw [5] (fun i wr=>∃ k:Nat,k<=nqAtoms/\i=.int .i64 k/\(q.fAtoms.take k).all (atomIn d)=true/\Below wc.heap.size wc wr) (fun i _=>nqAtoms - (intOf i).toNat)
 case atStart=>exact⟨0,Nat.zero_le _,rfl,rfl,Below.refl _ _⟩
 case round =>
  clear kq_0 kq_1
  obtain⟨k,hk,rfl,hall,hE⟩:=hrel
  have Hall:=Lib.hid hall;clear hall
  have hB2:=hB.trans (hE.mono hB.size)
  have kq_1:=(bxq.below hE) 1 _ rfl
  have kd_0:=(bxd.below hE) 0 _ rfl
  by_cases hlt:k<nqAtoms
  ·obtain⟨b,off,a,AV,nV,cV,rfl,hc0,hc1,hsz,hRV,hxx⟩:=(hqAtoms.below (rAtom_ok NB) hB2).eAtom hlt
   have HLV:=Lib.hid hRV.len
   obtain⟨t,is,HL⟩:∃ t is,Hid (lookup d a.fName=(t,is)):=⟨_,_,rfl⟩
   have HSS:Hid (∀ w',Below wr.heap.size wr w'->(w'.cell? ⟨w.heap.size,0,none⟩=some (.slice AdTables ndTables cdTables)/\w'.cell? ⟨w.heap.size+1,1,none⟩=some (.slice (some ⟨b,off,none⟩) nqAtoms cqAtoms)/\w'.cell? ⟨b,off+k*2,none⟩=some (.string a.fName))):=by
    show ∀ w',_->_
    intro w' hb
    have hz:=hE.trans (hb.mono hE.size)
    exact⟨(bxd.below hz) 0 _ rfl,(bxq.below hz) 1 _ rfl,cells_below hb _ _ hc0⟩
   have hd0:=(Below.refl wr.heap.size wr).drew
   go_wp2
   refine hbg HSS.out hd0 (fun hHeld=>?_)
   refine tka 0 19 hHeld ?_;simp only [putS]
   refine tka 1 20 hHeld ?_;simp only [putS]
   refine tka 2 21 hHeld ?_;simp only [putS]
   refine tka 3 22 hHeld ?_;simp only [putS]
   refine tka 4 23 hHeld ?_;simp only [putS]
   refine tka 5 24 hHeld ?_;simp only [putS]
   refine tka 6 25 hHeld ?_;simp only [putS]
   refine rd2 7 (some 26) 11 (some 6) (fun K hK=>?_) fun K hK=>?_
   all_goals clear hHeld
   ·have RD:=(rDatabase_rep.2 ⟨AdTables,ndTables,cdTables,rfl,(hdTables.below (rTable_ok NB) (hB2.drew))⟩)
    go_simp
    have C:=sLookupTable_c _ d a.fName _ RD
    rw [HL.out]at C
    refine C.mono ?_
    clear C
    rintro e w4 ⟨cs,fp,rfl,ot,ft,hb4⟩
    obtain⟨A2,n2,c2,fR,rfl,hfR,e1,e2,o2⟩:=rTable_own.1 ot
    clear ot ft hfR o2
    have hC:=hd0.trans (hb4.mono hd0.size)
    go_wp2_with fail
    refine hK.out _ _ (HSS.out _ hC) (fun hHeld=>?_)
    clear hK K
    try simp only [putS]
    refine tka 8 18 hHeld ?_;simp only [putS]
    refine tka 9 27 hHeld ?_;simp only [putS]
    refine tka 10 28 hHeld ?_;simp only [putS]
    have hz0:=Below.alb hC (.cells #[.string ⟨#[]⟩,.int .i64 0,.slice none 0 0] 82)
    refine YtiafklphblkpbaaGreat.rd 11 (some 6) fun K hK=>?_
    clear hHeld
    go_simp
    refine hK.out _ _ (HSS.out _ hz0) (fun hHeld=>?_)
    clear hK K
    try simp only [putS]
    have kT:=Bk.new w4 [.string t.fName,.int .i64 t.fArity,.slice A2 n2 c2] 82
    have hS:=Below.alb hC (.cells #[.string t.fName,.int .i64 t.fArity,.slice A2 n2 c2] 82)
    refine YtiafklphblkpbaaGreat.rd 12 none fun K hK=>?_
    clear hHeld
    go_simp
    refine hK.out _ _ (HSS.out _ hS) (fun hHeld=>?_)
    clear hK K
    try simp only [putS]
    refine tka 13 7 hHeld ?_;simp only [putS]
    refine wpAnyH_done (by kernel_rfl) ?_ _
    clear hHeld
    clear HSS
    have hE9:=hE.trans (hS.mono hE.size)
    have hB9:=hB.trans (hE9.mono hB.size)
    have kt_1:=kT.bx 1 _ rfl
    clear kd_0 kq_1 hc0
    generalize (w4.alloc (.cells #[.string t.fName,.int .i64 t.fArity,.slice A2 n2 c2] 82))=wq at kT hS hE9 hB9 kt_1 ⊢
    have hcq1:=cells_below hS _ _ hc1
    have kq_1:=(bxq.below hE9) 1 _ rfl
    clear hc1
    cases is
    ·have HN:Hid (queryFor d q=false):=by show _=_;exact queryFor_no hxx.out (by simp [atomIn,HL.out])
     go_wp2
     go_quiet (fail)
     go_wp2
     go_ret
     exact⟨ret_bool (a:=false) HN.out.symm,hB9.trans (Qt.below ⟨nq,rfl⟩ _)⟩
    ·by_cases har:t.fArity=(nV:Int)
     ·have HA:Hid (atomIn d a=true):=by show _=_;simp [atomIn,HL.out,HLV.out,har]
      have hne:(t.fArity != (nV:Int))=false:=by simp [har]
      have HAR:=Lib.hid har;clear har
      go_wp2
      go_quiet (fail)
      go_wp2
      go_roundw
      case rel=>exact⟨k+1,by omega,by go_num,all_snoc' Hall.out hxx.out HA.out,hE9.trans (Qt.below ⟨nq,rfl⟩ _)⟩
      case measure=>simp [intOf];omega
     ·have HN:Hid (queryFor d q=false):=by show _=_;exact queryFor_no hxx.out (by simp [atomIn,HL.out,HLV.out,har])
      have hne:(t.fArity != (nV:Int))=true:=by simp [har]
      go_wp2
      go_quiet (fail)
      go_wp2
      go_ret
      exact⟨ret_bool (a:=false) HN.out.symm,hB9.trans (Qt.below ⟨nq,rfl⟩ _)⟩
   ·have hz0:=Below.alb hd0 (.cells #[.string ⟨#[]⟩,.int .i64 0,.slice none 0 0] 82)
    have hg0:=Lib.hid (Nat.le_refl wr.heap.size)
    have kz0:=Bk.new wr.drew [.string ⟨#[]⟩,.int .i64 0,.slice none 0 0] 82
    go_simp
    refine hK.out _ _ (HSS.out _ hz0) (fun hHeld=>?_)
    clear hK K
    try simp only [putS]
    have RD:=(rDatabase_rep.2 ⟨AdTables,ndTables,cdTables,rfl,(hdTables.below (rTable_ok NB) (hB.trans ((hE.trans (hz0.mono hE.size)).mono hB.size)))⟩)
    refine YtiafklphblkpbaaGreat.rd 7 (some 26) fun K hK=>?_
    clear hHeld
    go_simp
    have C:=sLookupTable_c _ d a.fName _ RD
    rw [HL.out]at C
    refine C.mono ?_
    clear C
    rintro e w4 ⟨cs,fp,rfl,ot,ft,hb4⟩
    obtain⟨A2,n2,c2,fR,rfl,hfR,e1,e2,o2⟩:=rTable_own.1 ot
    clear ot ft hfR o2
    have hC:=hz0.trans (hb4.mono hz0.size)
    go_wp2_with fail
    refine hK.out _ _ (HSS.out _ hC) (fun hHeld=>?_)
    clear hK K
    try simp only [putS]
    refine tka 8 18 hHeld ?_;simp only [putS]
    refine tka 9 27 hHeld ?_;simp only [putS]
    refine tka 10 28 hHeld ?_;simp only [putS]
    have kZ:Bk w4 wr.heap.size 82 [.string ⟨#[]⟩,.int .i64 0,.slice none 0 0]:=kz0.below hb4
    have z0:=kZ.bx 0 _ rfl
    have z1:=kZ.bx 1 _ rfl
    have z2:=kZ.bx 2 _ rfl
    have y0:=kZ.frozen 0
    have y1:=kZ.frozen 1
    have y2:=kZ.frozen 2
    have kT:=cells_set3 (x:=.string t.fName) (y:=.int .i64 t.fArity) (z:=.slice A2 n2 c2) kZ
    have hS:Below wr.heap.size wr (((w4.setCell ⟨wr.heap.size,0,none⟩ (.string t.fName)).setCell ⟨wr.heap.size,1,none⟩ (.int .i64 t.fArity)).setCell ⟨wr.heap.size,2,none⟩ (.slice A2 n2 c2)):=((hC.setCell (p:=⟨wr.heap.size,0,none⟩) (by show wr.heap.size<=wr.heap.size;exact Nat.le_refl _) _).setCell (p:=⟨wr.heap.size,1,none⟩) (by show wr.heap.size<=wr.heap.size;exact Nat.le_refl _) _).setCell (p:=⟨wr.heap.size,2,none⟩) (by show wr.heap.size<=wr.heap.size;exact Nat.le_refl _) _
    refine YtiafklphblkpbaaGreat.rd 12 none fun K hK=>?_
    clear hHeld
    go_simp
    refine hK.out _ _ (HSS.out _ hS) (fun hHeld=>?_)
    clear hK K
    try simp only [putS]
    refine tka 13 7 hHeld ?_;simp only [putS]
    refine wpAnyH_done (by kernel_rfl) ?_ _
    clear hHeld
    clear HSS
    have hE9:=hE.trans (hS.mono hE.size)
    have hB9:=hB.trans (hE9.mono hB.size)
    have kt_1:=kT.bx 1 _ rfl
    clear kd_0 kq_1 hc0
    generalize (((w4.setCell ⟨wr.heap.size,0,none⟩ (.string t.fName)).setCell ⟨wr.heap.size,1,none⟩ (.int .i64 t.fArity)).setCell ⟨wr.heap.size,2,none⟩ (.slice A2 n2 c2))=wq at kT hS hE9 hB9 kt_1 ⊢
    have hcq1:=cells_below hS _ _ hc1
    have kq_1:=(bxq.below hE9) 1 _ rfl
    clear hc1
    cases is
    ·have HN:Hid (queryFor d q=false):=by show _=_;exact queryFor_no hxx.out (by simp [atomIn,HL.out])
     go_wp2
     go_quiet (fail)
     go_wp2
     go_ret
     exact⟨ret_bool (a:=false) HN.out.symm,hB9.trans (Qt.below ⟨nq,rfl⟩ _)⟩
    ·by_cases har:t.fArity=(nV:Int)
     ·have HA:Hid (atomIn d a=true):=by show _=_;simp [atomIn,HL.out,HLV.out,har]
      have hne:(t.fArity != (nV:Int))=false:=by simp [har]
      have HAR:=Lib.hid har;clear har
      go_wp2
      go_quiet (fail)
      go_wp2
      go_roundw
      case rel=>exact⟨k+1,by omega,by go_num,all_snoc' Hall.out hxx.out HA.out,hE9.trans (Qt.below ⟨nq,rfl⟩ _)⟩
      case measure=>simp [intOf];omega
     ·have HN:Hid (queryFor d q=false):=by show _=_;exact queryFor_no hxx.out (by simp [atomIn,HL.out,HLV.out,har])
      have hne:(t.fArity != (nV:Int))=true:=by simp [har]
      go_wp2
      go_quiet (fail)
      go_wp2
      go_ret
      exact⟨ret_bool (a:=false) HN.out.symm,hB9.trans (Qt.below ⟨nq,rfl⟩ _)⟩
  ·have HY:Hid (queryFor d q=true):=by
    show _=_
    have h1:=Hall.out
    rw [take_all HLQ.out hlt]at h1
    simp [queryFor,HV.out,h1]
   go_wp2
   go_ret
   exact⟨ret_bool (a:=true) HY.out.symm,hB2⟩
end Go.Proofs.YtiafklphblkpbaaGreat
