/-
  JnT
-/
import Derived.Test.YtpodldagcnfhlaaGreatKeep
import Derived.Test.YtpodldagcnfhlaaGreatJnI
import Derived.Test.YtpodldagcnfhlaaGreatOper
namespace Go.Proofs.YtpodldagcnfhlaaGreat
open Go.RowKit
set_option linter.unusedVariables false
set_option linter.unusedSimpArgs false

/-- of a row of rows the blocks are of two types alone -/
theorem OS.neII {M M':Nat}{eS eI t:TypeId}{w:World}{fp:List Nat}{A:Option Addr}{n cap:Nat}{l:List (List Int)}{g:Nat}{cs:List Value}(o:OS M eS (rSlice M' eI rInt) w fp A n cap l) (hk:Bk w g t cs) (h1:t≠eS) (h2:t≠eI):g∉fp:=by
 have one:∀ {e:TypeId} {size:Nat} {A:Option Addr} {n cap:Nat} {xs:List Value},w.ownsRow 0 e size (.slice A n cap) n xs->t≠e->g∉blk A:=by
  intro e size A n cap xs h hne hm
  rcases h.2 with ⟨e1,_⟩|⟨g',c,cur,e1,_,q,_⟩
  ·injection e1 with e1;subst e1;simp [blk]at hm
  ·injection e1 with e1;subst e1
   simp [blk]at hm;subst hm
   unfold Bk at hk;rw [hk]at q
   injection q with q;injection q with q1 q2;exact hne q2
 obtain⟨css,fps,hown,rfl,h3⟩:=o.ex
 rw [List.mem_append]
 rintro(hm|hm)
 ·exact one hown h1 hm
 ·obtain⟨f,hf,hg⟩:=List.mem_flatten.1 hm
  obtain⟨i,hi,rfl⟩:=List.getElem_of_mem hf
  obtain⟨f',c,q1,_,q3⟩:=h3.get (List.getElem?_eq_getElem (l:=l) (i:=i) (by rw [<- h3.lens.1];exact hi))
  rw [List.getElem?_eq_getElem hi]at q1;injection q1 with q1
  obtain⟨A',n',c',_,o'⟩:=q3
  obtain⟨e1,_,hown',_⟩:=osInt.1 o'
  rw [q1,e1]at hg
  exact one hown' h2 hg
theorem MS.neII {B M M':Nat}{eS eI t:TypeId}{w:World}{A:Option Addr}{n cap:Nat}{l:List (List Int)}{g:Nat}{cs:List Value}(o:MS B M eS (rSlice M' eI rInt) w A n cap l) (hk:Bk w g t cs) (h1:t≠eS) (h2:t≠eI):g∉blk A:=by
 obtain⟨fp,o,_⟩:=o
 have:=o.neII hk h1 h2
 obtain⟨css,fps,_,rfl,_⟩:=o.ex
 exact fun h=>this (List.mem_append_left _ h)
theorem Bk.grown {w w':World}{g:Nat}{t:TypeId}{cs:List Value}{A:Option Addr}(h:Bk w g t cs) (hg:w.grownBy w' (A.map (·.block))) (hn:g∉blk A):Bk w' g t cs :=
 (hg.block g h.lt (fun e=>hn (mem_blk.2 e.symm))).trans h
theorem step_app1 {α:Type}{r:Rp α}{B M:Nat}{e:TypeId}{w:World}{A:Option Addr}{n cap:Nat}{l:List α}{P:Program}{ops:Array Oper}{o:Oper}{a:Act}{K:Act->World->Prop}{Q:Exit->Act->World->Prop}{E:Prop}(hgd:o.guard=none) (s x:Operand) (t:TypeId)
  (ho:o.op=.call { callee:=.builtin .append,args:=#[s,x],argTypes:=#[t,t] }) (z:Value) (bytes:Nat) (ei:Ei P t e z r.size bytes) (hr:r.Ok) {wr:World}
  (hs:a.eval s=.slice A n cap) (h:MS B M e r wr A n cap l) (hb:Below wr.heap.size wr w) (hB:B<=wr.heap.size)
  {b off:Nat} (hx:a.eval x=.slice (some ⟨b,off,none⟩) 1 1) {f:List Nat} {cs:List Value} {y:α} (hy:r.own w f cs y) (hf:Fr wr.heap.size f) (hc:∀ i v,cs[i]?=some v->w.cell? ⟨b,off+i,none⟩=some v)
  (hn:n+1<=M) (hM:M<=4294967296) (hby:(n+1)*bytes<=140737488355328)
  (hK:∀ A' cap' w',MS B M e r w' A' (n+1) cap' (l++[y])->Below B w w'->w.grownBy w' (A.map (·.block))->K (a.put o.dst (.slice A' (n+1) cap')) w') :
  if Region.wanted o (yielded ops a.tmps)=true then Oper.wp P o a w K Q else E:=by
 have hw:Region.wanted o (yielded ops a.tmps)=true:=by simp [Region.wanted,hgd]
 rw [if_pos hw]
 obtain⟨A',cap',w',hrun,g1,g2,g3⟩:=run_apps (P:=P) o.type t z bytes ei hr h hb hB (A2:=some ⟨b,off,none⟩) (n2:=1) (cap2:=1) (l2:=[y]) (fs2:=[f]) (css2:=[cs]) ⟨hy,trivial⟩ rfl (by simpa using hf) (fun _=>⟨b,off,rfl,fun j c hj i v hi=>by
  match j,hj with
  | 0,hj=>simp at hj;subst hj;simpa using hc i v hi⟩) hn hM hby
 unfold Oper.wp execOp
 simp only [ho,resolve,invoke,builtin,Sem.run_bind,Sem.run_pure,Result.andThen_ok,List.map_toArray,List.map_cons,List.map_nil,hs,hx,hrun]
 exact hK _ _ _ g1 g2 g3
theorem neS1:(35:TypeId)≠32:=by decide
theorem neS2:(35:TypeId)≠3:=by decide
/-- the walk's world in l27Join: the three boxes, the rows so far -/
structure Lj (w0:World) (ga gb go gr:Nat) (ca cb:List Value) (V:Value) (rows:List (List Int)) (AR:Option Addr) (nR cR:Nat) (w:World):Prop where
 ka:Bk w ga 35 ca
 kb:Bk w gb 35 cb
 ko:Bk w go 35 [V,.slice AR nR cR]
 ms:MS w0.heap.size NB 32 (rSlice NB 3 rInt) w AR nR cR rows
 kr:Bk w gr 35 [.slice none 0 0,.slice none 0 0]
 be:Below w0.heap.size w0 w
theorem Lj.below {w0 w w':World}{ga gb go gr:Nat}{ca cb:List Value}{V:Value}{rows:List (List Int)}{AR:Option Addr}{nR cR:Nat}(h:Lj w0 ga gb go gr ca cb V rows AR nR cR w) (hb:Below w.heap.size w w'):Lj w0 ga gb go gr ca cb V rows AR nR cR w' :=
 ⟨h.ka.below hb,h.kb.below hb,h.ko.below hb,h.ms.below (rSlice_ok NB _ rInt_ok) hb,h.kr.below hb,h.be.trans (hb.mono h.be.size)⟩
/-- the three boxes alone -/
def Tri (ga gb go:Nat) (ca cb:List Value) (V:Value) (w:World):Prop:=Bk w ga 35 ca/\Bk w gb 35 cb/\∃ r,Bk w go 35 [V,r]
theorem Lj.tri {w0 w:World}{ga gb go gr:Nat}{ca cb:List Value}{V:Value}{rows:List (List Int)}{AR:Option Addr}{nR cR:Nat}(h:Lj w0 ga gb go gr ca cb V rows AR nR cR w):Tri ga gb go ca cb V w:=⟨h.ka,h.kb,_,h.ko⟩
/-- behind the append of a row, and its store -/
theorem Lj.app {w0 w w':World}{ga gb go gr:Nat}{ca cb:List Value}{V:Value}{rows rows':List (List Int)}{AR AR':Option Addr}{nR cR nR' cR':Nat}(h:Lj w0 ga gb go gr ca cb V rows AR nR cR w) (hg:w.grownBy w' (AR.map (·.block))) (hm:MS w0.heap.size NB 32 (rSlice NB 3 rInt) w' AR' nR' cR' rows') (hb:Below w0.heap.size w w') :
  Tri ga gb go ca cb V w'/\Bk w' go 35 [V,.slice AR nR cR]/\(ga≠go->gb≠go->gr≠go->w0.heap.size<=go->Lj w0 ga gb go gr ca cb V rows' AR' nR' cR' (w'.setCell ⟨go,1,none⟩ (.slice AR' nR' cR'))):=by
 have k1:=h.ka.grown hg (h.ms.neII h.ka neS1 neS2)
 have k2:=h.kb.grown hg (h.ms.neII h.kb neS1 neS2)
 have k3:=h.ko.grown hg (h.ms.neII h.ko neS1 neS2)
 have k4:=h.kr.grown hg (h.ms.neII h.kr neS1 neS2)
 refine⟨⟨k1,k2,_,k3⟩,k3,fun n1 n2 n3 n4=>?_⟩
 have oth:∀ {g:Nat} {cs:List Value},Bk w' g 35 cs->g≠go->Bk (w'.setCell ⟨go,1,none⟩ (.slice AR' nR' cR')) g 35 cs:=fun {g cs} hk hn=>(heap_setCell_other w' ⟨go,1,none⟩ g _ (fun e=>hn e)).trans hk
 refine⟨oth k1 n1,oth k2 n2,k3.set 1 _,?_,oth k4 n3,(h.be.trans hb).setCell n4 _⟩
 obtain⟨fp,o,fr⟩:=hm
 have hn:=o.neII k3 neS1 neS2
 exact⟨fp,o.okeep (rSlice_ok NB _ rInt_ok) (fun z hz=>heap_setCell_other w' ⟨go,1,none⟩ z _ (fun e=>hn (by rw [<- show z=go from e];exact hz))),fr⟩
theorem Tri.below {w w':World}{ga gb go:Nat}{ca cb:List Value}{V:Value}(h:Tri ga gb go ca cb V w) (hb:Below w.heap.size w w'):Tri ga gb go ca cb V w':=by
 obtain⟨h1,h2,r,h3⟩:=h;exact⟨h1.below hb,h2.below hb,r,h3.below hb⟩
theorem sl27Agree_v {Aa Ax Ab Ay:Option Addr}{na nx nb ny ca cx cb cy:Nat}{a x b y:List Int}{v:Bool}{w:World}(hv:agree a x b y=v) (ha:RS NB rInt w Aa na ca a) (hx:RS NB rInt w Ax nx cx x) (hb:RS NB rInt w Ab nb cb b) (hy:RS NB rInt w Ay ny cy y)
  (hc:colsOk a 4=true) (hla:nx=na) (hlb:ny=nb) :
  Calls Tryz.prog 240 #[.slice Aa na ca,.slice Ax nx cx,.slice Ab nb cb,.slice Ay ny cy] w fun e w'=>e=.returned (.bool v)/\Qt w w':=hv▸sl27Agree_c Aa Ax Ab Ay na nx nb ny ca cx cb cy a x b y w ha hx hb hy hc hla hlb
theorem cap4_stop {α γ:Type}{f:α->Option γ}{ys:List α}{j:Nat}(R:List γ) (h:¬ (cap4 (R++(ys.take j).filterMap f)).length<=4096):cap4 (R++ys.filterMap f)=cap4 (R++(ys.take j).filterMap f):=by
 have e:ys.filterMap f=(ys.take j).filterMap f++(ys.drop j).filterMap f:=by rw [<- List.filterMap_append,List.take_append_drop]
 rw [e,<- List.append_assoc];exact cap4_full _ h
theorem cap4_fmt {α γ:Type}{f:α->Option γ}{ys:List α}{k:Nat}{y:α}(r:List γ) (h:ys[k]?=some y):r++(ys.take (k+1)).filterMap f=(r++(ys.take k).filterMap f)++(f y).toList:=by rw [fm_snoc h,List.append_assoc]

set_option maxRecDepth 100000 in
set_option maxHeartbeats 6400000 in
theorem sl27JoinN_c (A1 A2 A3 A4 AV AR:Option Addr) (n1 n2 n3 n4 nV nR c1 c2 c3 c4 cV cR:Nat) (x y:StreamD) (R0:List (List Int)) (w0 w:World)
  (h1:RS NB rInt w0 A1 n1 c1 x.fVars) (h2:RS NB (rSlice NB 3 rInt) w0 A2 n2 c2 x.fRows) (h3:RS NB rInt w0 A3 n3 c3 y.fVars) (h4:RS NB (rSlice NB 3 rInt) w0 A4 n4 c4 y.fRows)
  (vx:validStream x=true) (vy:validStream y=true) (hV:RS NB rInt w0 AV nV cV (unionI x.fVars y.fVars)) (hR:MS w0.heap.size NB 32 (rSlice NB 3 rInt) w AR nR cR (cap4 R0)) (hb0:Below w0.heap.size w0 w) :
  Calls Tryz.prog 205 #[.agg #[.slice A1 n1 c1,.slice A2 n2 c2],.agg #[.slice A3 n3 c3,.slice A4 n4 c4],.bool false,.int .i64 0,.int .i64 (-1),.agg #[.slice AV nV cV,.slice AR nR cR]] w fun e w' =>
   ∃ (AR':Option Addr) (nR' cR':Nat),e=.returned (.agg #[.slice AV nV cV,.slice AR' nR' cR'])/\MS w0.heap.size NB 32 (rSlice NB 3 rInt) w' AR' nR' cR' (cap4 (R0++nestRows (fun p q=>joinBy x y p q) x.fRows y.fRows))/\Below w0.heap.size w0 w':=by
 obtain⟨px1,px2,px3⟩:=validStream_parts vx
 obtain⟨py1,py2,py3⟩:=validStream_parts vy
 have HM:=Lib.hid (union_iff px1 py1)
 have PC:=Lib.hid px1
 have PX:=Lib.hid px2
 have PY:=Lib.hid py2
 have HLX:=Lib.hid h2.len
 have HLY:=Lib.hid h4.len
 rw [HLX.out]at px3
 rw [HLY.out]at py3
 have HVx:=Lib.hid h1.len
 have HVy:=Lib.hid h3.len
 clear vx vy px1 px2 py1 py2
 have hJ:Lj w0 w.heap.size (w.heap.size+1) (w.heap.size+1+1) (w.heap.size+1+1+1) [.slice A1 n1 c1,.slice A2 n2 c2] [.slice A3 n3 c3,.slice A4 n4 c4] (.slice AV nV cV) (cap4 R0) AR nR cR ((((w.alloc (.cells #[.slice A1 n1 c1,.slice A2 n2 c2] 35)).alloc (.cells #[.slice A3 n3 c3,.slice A4 n4 c4] 35)).alloc (.cells #[.slice AV nV cV,.slice AR nR cR] 35)).alloc (.cells #[.slice none 0 0,.slice none 0 0] 35)):=by
  have q1:=Bk.new w [.slice A1 n1 c1,.slice A2 n2 c2] 35
  have q2:=Bk.new (w.alloc (.cells #[.slice A1 n1 c1,.slice A2 n2 c2] 35)) [.slice A3 n3 c3,.slice A4 n4 c4] 35
  have q3:=Bk.new ((w.alloc (.cells #[.slice A1 n1 c1,.slice A2 n2 c2] 35)).alloc (.cells #[.slice A3 n3 c3,.slice A4 n4 c4] 35)) [.slice AV nV cV,.slice AR nR cR] 35
  have q4:=Bk.new (((w.alloc (.cells #[.slice A1 n1 c1,.slice A2 n2 c2] 35)).alloc (.cells #[.slice A3 n3 c3,.slice A4 n4 c4] 35)).alloc (.cells #[.slice AV nV cV,.slice AR nR cR] 35)) [.slice none 0 0,.slice none 0 0] 35
  have b2:=fun (W:World) (o:Obj)=>(Below.refl W.heap.size W).alloc (Nat.le_refl _) o
  exact⟨((q1.below (b2 _ _)).below (b2 _ _)).below (b2 _ _),by simpa using (q2.below (b2 _ _)).below (b2 _ _),by simpa using q3.below (b2 _ _),(((hR.below (rSlice_ok NB _ rInt_ok) (b2 _ _)).below (rSlice_ok NB _ rInt_ok) (b2 _ _)).below (rSlice_ok NB _ rInt_ok) (b2 _ _)).below (rSlice_ok NB _ rInt_ok) (b2 _ _),by simpa using q4,(((hb0.alloc hb0.size _).alloc (by have:=hb0.size;simp;omega) _).alloc (by have:=hb0.size;simp;omega) _).alloc (by have:=hb0.size;simp;omega) _⟩
 obtain⟨wj,hwj⟩:∃ wj,wj=((((w.alloc (.cells #[.slice A1 n1 c1,.slice A2 n2 c2] 35)).alloc (.cells #[.slice A3 n3 c3,.slice A4 n4 c4] 35)).alloc (.cells #[.slice AV nV cV,.slice AR nR cR] 35)).alloc (.cells #[.slice none 0 0,.slice none 0 0] 35)):=⟨_,rfl⟩
 rw [<- hwj]at hJ
 have h0J:=h1.below rInt_ok hJ.be
 obtain⟨va,hva⟩:∃ v,v=Value.slice A2 n2 c2:=⟨_,rfl⟩
 obtain⟨vb,hvb⟩:∃ v,v=Value.slice A4 n4 c4:=⟨_,rfl⟩
 rw [<- hva,<- hvb]at hJ
 have HVA:=Lib.hid hva;clear hva
 have HVB:=Lib.hid hvb;clear hvb
 have HW:=Lib.hid hwj;clear hwj
 go_enter Tryz.func205,Tryz.ntmps205
 have HAT:=Lib.hid (rfl:idxOf (fun b=>b==0) x.fVars=_)
 go_wp2_with (go_at_call 74;refine(sl27Find_v HAT.out (by rw [<- HW.out];exact h0J)).mono ?_;rintro e w' ⟨rfl,rfl⟩)
 rw [<- HW.out]
 go_loopw [16] (fun i wr=>∃ (k:Nat) (AR:Option Addr) (nR cR:Nat),k<=n2/\i=.int .i64 k/\Lj w0 w.heap.size (w.heap.size+1) (w.heap.size+1+1) (w.heap.size+1+1+1) [.slice A1 n1 c1,va] [.slice A3 n3 c3,vb] (.slice AV nV cV) (cap4 (R0++nestRows (fun p q=>joinBy x y p q) (x.fRows.take k) y.fRows)) AR nR cR wr) (fun i _=>n2 - (intOf i).toNat)
 case atStart=>exact⟨0,AR,nR,cR,Nat.zero_le _,rfl,by simpa [nestRows]using hJ⟩
 case round =>
  clear hJ h0J
  obtain⟨k,AR,nR,cR,hk,rfl,hJ⟩:=hrel
  by_cases hlt:k<n2
  ·obtain⟨b1,o1,p,Ap,np,cp,e0,hc1,hrp,hp⟩:=h2.row hlt
   subst e0
   have HS:=Lib.hid (nest_snoc (f:=(fun p q=>joinBy x y p q)) (ys:=y.fRows) hp.out)
   have lp:np=n1:=by rw [<- hrp.len,rowOk_len (PX.out _ (mem_of_at hp.out)),HVx.out]
   have Lp:=Lib.hid lp;clear lp
   go_wp2
   go_loopw [17] (fun i wr2=>∃ (j:Nat) (AR:Option Addr) (nR cR:Nat),j<=n4/\i=.int .i64 j/\Lj w0 w.heap.size (w.heap.size+1) (w.heap.size+1+1) (w.heap.size+1+1+1) [.slice A1 n1 c1,va] [.slice A3 n3 c3,vb] (.slice AV nV cV) (cap4 (R0++nestRows (fun p q=>joinBy x y p q) (x.fRows.take k) y.fRows++(y.fRows.take j).filterMap ((fun p q=>joinBy x y p q) p))) AR nR cR wr2) (fun i _=>n4 - (intOf i).toNat)
   case atStart=>exact⟨0,AR,nR,cR,Nat.zero_le _,rfl,by simpa using hJ⟩
   case round =>
    clear hJ
    obtain⟨j,AR,nR,cR,hj,rfl,hJ⟩:=hrel
    have ka0:=hJ.ka.bx 0 _ rfl
    have ka1:=hJ.ka.bx 1 _ rfl
    rw [HVA.out]at ka1
    have kb0:=hJ.kb.bx 0 _ rfl
    have kb1:=hJ.kb.bx 1 _ rfl
    rw [HVB.out]at kb1
    have ko0:=hJ.ko.bx 0 _ rfl
    have ko1:=hJ.ko.bx 1 _ rfl
    have hRl:=Lib.hid hJ.ms.len
    by_cases hlt2:j<n4
    ·by_cases hcap:(nR:Int)<=4096
     ·obtain⟨b2,o2,q,Aq,nq,cq,e0,hc2,hrq,hq⟩:=h4.row hlt2
      subst e0
      replace hc1:=cells_below hJ.be _ _ hc1
      replace hc2:=cells_below hJ.be _ _ hc2
      have lq:nq=n3:=by rw [<- hrq.len,rowOk_len (PY.out _ (mem_of_at hq.out)),HVy.out]
      have Lq:=Lib.hid lq;clear lq
      have m1:IntKind.i64.wrap ((n2:Int) - 1)=(n2:Int) - 1:=IntWalk.i64_in _ (by omega)
      have m2:IntKind.i64.wrap ((n4:Int) - 1)=(n4:Int) - 1:=IntWalk.i64_in _ (by omega)
      have m3:min (k:Int) ((n2:Int) - 1)=(k:Int):=by omega
      have m4:min (j:Int) ((n4:Int) - 1)=(j:Int):=by omega
      cases ha:agree x.fVars p y.fVars q
      ·have HJN:Hid (joinBy x y p q=none):=by show _=_;simp [joinBy,joinOpt,ha]
       have HA:=Lib.hid ha;clear ha
       have HS2:Hid (cap4 (R0++nestRows (fun p q=>joinBy x y p q) (x.fRows.take k) y.fRows++(y.fRows.take (j+1)).filterMap ((fun p q=>joinBy x y p q) p))=cap4 (R0++nestRows (fun p q=>joinBy x y p q) (x.fRows.take k) y.fRows++(y.fRows.take j).filterMap ((fun p q=>joinBy x y p q) p))):=by
        show _=_
        rw [cap4_fmt (R0++nestRows (fun p q=>joinBy x y p q) (x.fRows.take k) y.fRows) hq.out]
        simp [HJN.out]
       go_wp2_with fail
       refine(sl27Agree_v HA.out (h1.below rInt_ok hJ.be) (hrp.below rInt_ok hJ.be) (h3.below rInt_ok hJ.be) (hrq.below rInt_ok hJ.be) PC.out Lp.out Lq.out).mono ?_
       rintro e wq ⟨rfl,hq⟩
       have hJq:=hJ.below hq.belowS
       clear ka0 ka1 kb0 kb1 ko0 ko1
       go_wp2
       go_roundw
       case rel=>exact⟨j+1,AR,nR,cR,by omega,by go_num,by rw [HS2.out];exact hJq⟩
       case measure=>simp [intOf];omega
      ·have HJY:Hid (joinBy x y p q=some (joinRow (unionI x.fVars y.fVars) x.fVars p y.fVars q)):=by show _=_;simp [joinBy,joinOpt,ha]
       have HA:=Lib.hid ha;clear ha
       have HS2:Hid (cap4 (R0++nestRows (fun p q=>joinBy x y p q) (x.fRows.take k) y.fRows++(y.fRows.take (j+1)).filterMap ((fun p q=>joinBy x y p q) p))=cap4 (R0++nestRows (fun p q=>joinBy x y p q) (x.fRows.take k) y.fRows++(y.fRows.take j).filterMap ((fun p q=>joinBy x y p q) p))++[joinRow (unionI x.fVars y.fVars) x.fVars p y.fVars q]):=by
        show _=_
        rw [cap4_fmt (R0++nestRows (fun p q=>joinBy x y p q) (x.fRows.take k) y.fRows) hq.out]
        simp only [HJY.out,Option.toList_some]
        exact cap4_more _ (by rw [hRl.out];omega)
       go_wp2_with fail
       refine(sl27Agree_v HA.out (h1.below rInt_ok hJ.be) (hrp.below rInt_ok hJ.be) (h3.below rInt_ok hJ.be) (hrq.below rInt_ok hJ.be) PC.out Lp.out Lq.out).mono ?_
       rintro e wq ⟨rfl,hq⟩
       have hJq:=hJ.below hq.belowS
       have hnR:nR<=4096:=by omega
       clear ka0 ka1 kb0 kb1 ko0 ko1 hc1 hc2 m1 m2 m3 m4
       have HSS:=Lib.hid (fun (w':World) (h:Tri w.heap.size (w.heap.size+1) (w.heap.size+1+1) [.slice A1 n1 c1,va] [.slice A3 n3 c3,vb] (.slice AV nV cV) w')=>(⟨h.1.bx 0 _ rfl,h.2.1.bx 0 _ rfl,h.2.2.elim fun r h3=>h3.bx 0 _ rfl⟩:w'.cell? ⟨w.heap.size,0,none⟩=some (.slice A1 n1 c1)/\w'.cell? ⟨w.heap.size+1,0,none⟩=some (.slice A3 n3 c3)/\w'.cell? ⟨w.heap.size+1+1,0,none⟩=some (.slice AV nV cV)))
       go_wp2_with fail
       refine wp_region_held_drew (S:=fun w'=>w'.cell? ⟨w.heap.size,0,none⟩=some (.slice A1 n1 c1)/\w'.cell? ⟨w.heap.size+1,0,none⟩=some (.slice A3 n3 c3)/\w'.cell? ⟨w.heap.size+1+1,0,none⟩=some (.slice AV nV cV)) (by kernel_rfl) ?_ (fun hHeld=>?_)
       ·exact HSS.out _ (hJq.below (Below.refl _ _).drew).tri
       refine tk 0 (some 103) rfl (by kernel_rfl) (by kernel_rfl) (by kernel_rfl) (fun _ _ _ h=>h) (by rfl) hHeld (fun w h=>by(try dsimp only at h);((go_simp)<;>with_reducible rfl)) ?_
       try simp only [putS]
       refine tk 2 (some 105) rfl (by kernel_rfl) (by kernel_rfl) (by kernel_rfl) (fun _ _ _ h=>h) (by rfl) hHeld (fun w h=>by(try dsimp only at h);((go_simp)<;>with_reducible rfl)) ?_
       try simp only [putS]
       refine tk 3 (some 106) rfl (by kernel_rfl) (by kernel_rfl) (by kernel_rfl) (fun _ _ _ h=>h) (by rfl) hHeld (fun w h=>by(try dsimp only at h);((go_simp)<;>with_reducible rfl)) ?_
       try simp only [putS]
       refine tk 4 (some 107) rfl (by kernel_rfl) (by kernel_rfl) (by kernel_rfl) (fun _ _ _ h=>h) (by rfl) hHeld (fun w h=>by(try dsimp only at h);((go_simp)<;>with_reducible rfl)) ?_
       try simp only [putS]
       refine tk 5 (some 108) rfl (by kernel_rfl) (by kernel_rfl) (by kernel_rfl) (fun _ _ _ h=>h) (by rfl) hHeld (fun w h=>by(try dsimp only at h);((go_simp)<;>with_reducible rfl)) ?_
       try simp only [putS]
       refine tk 6 (some 109) rfl (by kernel_rfl) (by kernel_rfl) (by kernel_rfl) (fun _ _ _ h=>h) (by rfl) hHeld (fun w h=>by(try dsimp only at h);((go_simp)<;>with_reducible rfl)) ?_
       try simp only [putS]
       refine tk 7 (some 110) rfl (by kernel_rfl) (by kernel_rfl) (by kernel_rfl) (fun _ _ _ h=>h) (by rfl) hHeld (fun w h=>by(try dsimp only at h);((go_simp)<;>with_reducible rfl)) ?_
       try simp only [putS]
       refine tk 8 (some 111) rfl (by kernel_rfl) (by kernel_rfl) (by kernel_rfl) (fun _ _ _ h=>h) (by rfl) hHeld (fun w h=>by(try dsimp only at h);((go_simp)<;>with_reducible rfl)) ?_
       try simp only [putS]
       refine tk 9 (some 112) rfl (by kernel_rfl) (by kernel_rfl) (by kernel_rfl) (fun _ _ _ h=>h) (by rfl) hHeld (fun w h=>by(try dsimp only at h);((go_simp)<;>with_reducible rfl)) ?_
       try simp only [putS]
       have o1:=hJq.ko.bx 1 _ rfl
       refine wpAnyH_ready (rs:=[1,10]) (by kernel_rfl) (by simp) ?_
       refine(AllReadyH.cons (o:=⟨some 104,_,_,_,_,_⟩) rfl (fun K hK=>?_) (AllReadyH.cons (o:=⟨some 113,_,_,_,_,_⟩) rfl (fun K hK=>?_) AllReadyH.nil))
       all_goals clear hHeld
       ·go_simp
        refine hK.out _ _ (HSS.out _ (hJq.below (Below.refl _ _).drew).tri) (fun hHeld=>?_)
        clear hK K
        try simp only [putS]
        refine wpAnyH_ready (rs:=[10]) (by kernel_rfl) (by simp) ?_
        refine AllReadyH.cons (o:=⟨some 113,_,_,_,_,_⟩) rfl (fun K hK=>?_) AllReadyH.nil
        clear hHeld
        go_simp
        refine(sl27Merge_c _ _ _ _ _ _ _ _ _ _ _ _ _ _ _ (unionI x.fVars y.fVars) x.fVars p y.fVars q _ (hV.below rInt_ok (hJq.below (Below.refl _ _).drew).be) (h1.below rInt_ok (hJq.below (Below.refl _ _).drew).be) (hrp.below rInt_ok (hJq.below (Below.refl _ _).drew).be) (h3.below rInt_ok (hJq.below (Below.refl _ _).drew).be) (hrq.below rInt_ok (hJq.below (Below.refl _ _).drew).be) (fun v hv=>(HM.out v).1 hv) Lp.out Lq.out).mono ?_
        rintro e wc ⟨Ar,nr,cr,rfl,⟨fpr,or_,frr⟩,hbc⟩
        have hJc:=(hJq.below (Below.refl _ _).drew).below hbc
        have o1c:=hJc.ko.bx 1 _ rfl
        go_wp2_with fail
        refine hK.out _ _ (HSS.out _ hJc.tri) (fun hHeld=>?_)
        clear hK K
        try simp only [putS]
        have hJb:=hJc.below ((Below.refl wc.heap.size wc).alloc (Nat.le_refl _) (.cells #[.slice Ar nr cr] 32))
        refine wpAnyH_ready (rs:=[11]) (by kernel_rfl) (by simp) ?_
        refine AllReadyH.cons (o:=⟨some 114,_,_,_,_,_⟩) rfl (fun K hK=>?_) AllReadyH.nil
        clear hHeld
        go_simp
        refine hK.out _ _ (HSS.out _ hJb.tri) (fun hHeld=>?_)
        clear hK K
        try simp only [putS]
        refine wpAnyH_ready (rs:=[12]) (by kernel_rfl) (by simp) ?_
        refine AllReadyH.cons (o:=⟨some 115,_,_,_,_,_⟩) rfl (fun K hK=>?_) AllReadyH.nil
        clear hHeld
        refine step_app1 (by rfl) _ _ 33 (by rfl) _ 24 eiIntS (rSlice_ok NB _ rInt_ok) (by rfl) hJq.ms (Below.alc (((Below.refl wq.heap.size wq).drew).trans hbc) _) hJq.be.size (by rfl) (f:=fpr) (cs:=[.slice Ar nr cr]) (y:=joinRow (unionI x.fVars y.fVars) x.fVars p y.fVars q) ⟨Ar,nr,cr,rfl,or_.belowS rInt_ok ((Below.refl _ _).alloc (Nat.le_refl _) _)⟩ frr (by intro i v hi;match i,hi with|0,hi=>(simp at hi;subst hi;simp)) (by unfold NB;omega) (Nat.le_refl _) (by omega) ?_
        intro A9 c9 w9 hM9 hb9 hg9
        obtain⟨hT9,hk9,hL9⟩:=hJb.app hg9 hM9 hb9
        have f9:=hk9.frozen 1
        have k9:=hk9.bx 1 _ rfl
        refine hK.out _ _ (HSS.out _ hT9) (fun hHeld=>?_)
        clear hK K
        try simp only [putS]
        refine tk 13 (some 116) rfl (by kernel_rfl) (by kernel_rfl) (by kernel_rfl) (fun _ _ _ h=>h) (by rfl) hHeld (fun w h=>by(try dsimp only at h);((go_simp)<;>with_reducible rfl)) ?_
        try simp only [putS]
        refine wpAnyH_ready (rs:=[14]) (by kernel_rfl) (by simp) ?_
        refine AllReadyH.cons (o:=⟨none,_,_,_,_,_⟩) rfl (fun K hK=>?_) AllReadyH.nil
        clear hHeld
        go_simp
        refine hK.out _ _ (HSS.out _ (hL9 (by omega) (by omega) (by omega) (by have:=hb0.size;omega)).tri) (fun hHeld=>?_)
        clear hK K
        try simp only [putS]
        refine wpAnyH_done (by kernel_rfl) ?_ _
        clear hHeld
        clear HSS
        go_wp2
        go_roundw
        case rel=>exact⟨j+1,A9,nR+1,c9,by omega,by go_num,by rw [HS2.out];exact hL9 (by omega) (by omega) (by omega) (by have:=hb0.size;omega)⟩
        case measure=>simp [intOf];omega
       ·go_simp
        refine(sl27Merge_c _ _ _ _ _ _ _ _ _ _ _ _ _ _ _ (unionI x.fVars y.fVars) x.fVars p y.fVars q _ (hV.below rInt_ok (hJq.below (Below.refl _ _).drew).be) (h1.below rInt_ok (hJq.below (Below.refl _ _).drew).be) (hrp.below rInt_ok (hJq.below (Below.refl _ _).drew).be) (h3.below rInt_ok (hJq.below (Below.refl _ _).drew).be) (hrq.below rInt_ok (hJq.below (Below.refl _ _).drew).be) (fun v hv=>(HM.out v).1 hv) Lp.out Lq.out).mono ?_
        rintro e wc ⟨Ar,nr,cr,rfl,⟨fpr,or_,frr⟩,hbc⟩
        have hJc:=(hJq.below (Below.refl _ _).drew).below hbc
        have o1c:=hJc.ko.bx 1 _ rfl
        go_wp2_with fail
        refine hK.out _ _ (HSS.out _ hJc.tri) (fun hHeld=>?_)
        clear hK K
        try simp only [putS]
        have hJb:=hJc.below ((Below.refl wc.heap.size wc).alloc (Nat.le_refl _) (.cells #[.slice Ar nr cr] 32))
        refine wpAnyH_ready (rs:=[1,11]) (by kernel_rfl) (by simp) ?_
        refine(AllReadyH.cons (o:=⟨some 104,_,_,_,_,_⟩) rfl (fun K hK=>?_) (AllReadyH.cons (o:=⟨some 114,_,_,_,_,_⟩) rfl (fun K hK=>?_) AllReadyH.nil))
        all_goals clear hHeld
        ·go_simp
         refine hK.out _ _ (HSS.out _ hJc.tri) (fun hHeld=>?_)
         clear hK K
         try simp only [putS]
         refine wpAnyH_ready (rs:=[11]) (by kernel_rfl) (by simp) ?_
         refine AllReadyH.cons (o:=⟨some 114,_,_,_,_,_⟩) rfl (fun K hK=>?_) AllReadyH.nil
         clear hHeld
         go_simp
         refine hK.out _ _ (HSS.out _ hJb.tri) (fun hHeld=>?_)
         clear hK K
         try simp only [putS]
         refine wpAnyH_ready (rs:=[12]) (by kernel_rfl) (by simp) ?_
         refine AllReadyH.cons (o:=⟨some 115,_,_,_,_,_⟩) rfl (fun K hK=>?_) AllReadyH.nil
         clear hHeld
         refine step_app1 (by rfl) _ _ 33 (by rfl) _ 24 eiIntS (rSlice_ok NB _ rInt_ok) (by rfl) hJq.ms (Below.alc (((Below.refl wq.heap.size wq).drew).trans hbc) _) hJq.be.size (by rfl) (f:=fpr) (cs:=[.slice Ar nr cr]) (y:=joinRow (unionI x.fVars y.fVars) x.fVars p y.fVars q) ⟨Ar,nr,cr,rfl,or_.belowS rInt_ok ((Below.refl _ _).alloc (Nat.le_refl _) _)⟩ frr (by intro i v hi;match i,hi with|0,hi=>(simp at hi;subst hi;simp)) (by unfold NB;omega) (Nat.le_refl _) (by omega) ?_
         intro A9 c9 w9 hM9 hb9 hg9
         obtain⟨hT9,hk9,hL9⟩:=hJb.app hg9 hM9 hb9
         have f9:=hk9.frozen 1
         have k9:=hk9.bx 1 _ rfl
         refine hK.out _ _ (HSS.out _ hT9) (fun hHeld=>?_)
         clear hK K
         try simp only [putS]
         refine tk 13 (some 116) rfl (by kernel_rfl) (by kernel_rfl) (by kernel_rfl) (fun _ _ _ h=>h) (by rfl) hHeld (fun w h=>by(try dsimp only at h);((go_simp)<;>with_reducible rfl)) ?_
         try simp only [putS]
         refine wpAnyH_ready (rs:=[14]) (by kernel_rfl) (by simp) ?_
         refine AllReadyH.cons (o:=⟨none,_,_,_,_,_⟩) rfl (fun K hK=>?_) AllReadyH.nil
         clear hHeld
         go_simp
         refine hK.out _ _ (HSS.out _ (hL9 (by omega) (by omega) (by omega) (by have:=hb0.size;omega)).tri) (fun hHeld=>?_)
         clear hK K
         try simp only [putS]
         refine wpAnyH_done (by kernel_rfl) ?_ _
         clear hHeld
         clear HSS
         go_wp2
         go_roundw
         case rel=>exact⟨j+1,A9,nR+1,c9,by omega,by go_num,by rw [HS2.out];exact hL9 (by omega) (by omega) (by omega) (by have:=hb0.size;omega)⟩
         case measure=>simp [intOf];omega
        ·go_simp
         refine hK.out _ _ (HSS.out _ hJb.tri) (fun hHeld=>?_)
         clear hK K
         try simp only [putS]
         have o1b:=hJb.ko.bx 1 _ rfl
         refine wpAnyH_ready (rs:=[1]) (by kernel_rfl) (by simp) ?_
         refine AllReadyH.cons (o:=⟨some 104,_,_,_,_,_⟩) rfl (fun K hK=>?_) AllReadyH.nil
         clear hHeld
         go_simp
         refine hK.out _ _ (HSS.out _ hJb.tri) (fun hHeld=>?_)
         clear hK K
         try simp only [putS]
         refine wpAnyH_ready (rs:=[12]) (by kernel_rfl) (by simp) ?_
         refine AllReadyH.cons (o:=⟨some 115,_,_,_,_,_⟩) rfl (fun K hK=>?_) AllReadyH.nil
         clear hHeld
         refine step_app1 (by rfl) _ _ 33 (by rfl) _ 24 eiIntS (rSlice_ok NB _ rInt_ok) (by rfl) hJq.ms (Below.alc (((Below.refl wq.heap.size wq).drew).trans hbc) _) hJq.be.size (by rfl) (f:=fpr) (cs:=[.slice Ar nr cr]) (y:=joinRow (unionI x.fVars y.fVars) x.fVars p y.fVars q) ⟨Ar,nr,cr,rfl,or_.belowS rInt_ok ((Below.refl _ _).alloc (Nat.le_refl _) _)⟩ frr (by intro i v hi;match i,hi with|0,hi=>(simp at hi;subst hi;simp)) (by unfold NB;omega) (Nat.le_refl _) (by omega) ?_
         intro A9 c9 w9 hM9 hb9 hg9
         obtain⟨hT9,hk9,hL9⟩:=hJb.app hg9 hM9 hb9
         have f9:=hk9.frozen 1
         have k9:=hk9.bx 1 _ rfl
         refine hK.out _ _ (HSS.out _ hT9) (fun hHeld=>?_)
         clear hK K
         try simp only [putS]
         refine tk 13 (some 116) rfl (by kernel_rfl) (by kernel_rfl) (by kernel_rfl) (fun _ _ _ h=>h) (by rfl) hHeld (fun w h=>by(try dsimp only at h);((go_simp)<;>with_reducible rfl)) ?_
         try simp only [putS]
         refine wpAnyH_ready (rs:=[14]) (by kernel_rfl) (by simp) ?_
         refine AllReadyH.cons (o:=⟨none,_,_,_,_,_⟩) rfl (fun K hK=>?_) AllReadyH.nil
         clear hHeld
         go_simp
         refine hK.out _ _ (HSS.out _ (hL9 (by omega) (by omega) (by omega) (by have:=hb0.size;omega)).tri) (fun hHeld=>?_)
         clear hK K
         try simp only [putS]
         refine wpAnyH_done (by kernel_rfl) ?_ _
         clear hHeld
         clear HSS
         go_wp2
         go_roundw
         case rel=>exact⟨j+1,A9,nR+1,c9,by omega,by go_num,by rw [HS2.out];exact hL9 (by omega) (by omega) (by omega) (by have:=hb0.size;omega)⟩
         case measure=>simp [intOf];omega
     ·have HX:Hid (cap4 (R0++nestRows (fun p q=>joinBy x y p q) (x.fRows.take (k+1)) y.fRows)=cap4 (R0++nestRows (fun p q=>joinBy x y p q) (x.fRows.take k) y.fRows++(y.fRows.take j).filterMap ((fun p q=>joinBy x y p q) p))):=by
       show _=_
       rw [HS.out,<- List.append_assoc]
       exact cap4_stop _ (by rw [hRl.out];omega)
      go_wp2
      go_roundw
      case rel=>exact⟨k+1,AR,nR,cR,by omega,by go_num,by rw [HX.out];exact hJ⟩
      case measure=>simp [intOf];omega
    ·have HX:Hid (cap4 (R0++nestRows (fun p q=>joinBy x y p q) (x.fRows.take (k+1)) y.fRows)=cap4 (R0++nestRows (fun p q=>joinBy x y p q) (x.fRows.take k) y.fRows++(y.fRows.take j).filterMap ((fun p q=>joinBy x y p q) p))):=by
      show _=_
      rw [HS.out,<- List.append_assoc,take_all HLY.out hlt2]
     go_wp2
     go_roundw
     case rel=>exact⟨k+1,AR,nR,cR,by omega,by go_num,by rw [HX.out];exact hJ⟩
     case measure=>simp [intOf];omega
  ·rw [take_all HLX.out hlt]at hJ
   have ko0:=hJ.ko.bx 0 _ rfl
   have ko1:=hJ.ko.bx 1 _ rfl
   have rf0:=hJ.kr.frozen 0
   have rf1:=hJ.kr.frozen 1
   have rc0:=hJ.kr.bx 0 _ rfl
   have rc1:=hJ.kr.bx 1 _ rfl
   have rl:=hJ.kr.lt
   go_wp2
   have bk3:=(hJ.kr.set 0 (.slice AV nV cV)).set 1 (.slice AR nR cR)
   have q0:=bk3.bx 0 _ rfl
   have q1:=bk3.bx 1 _ rfl
   refine bodyPost_ret (v:=.agg #[.slice AV nV cV,.slice AR nR cR]) (by simp [results,Tryz.results205,go_sem,q0,q1]) rfl ⟨AR,nR,cR,rfl,?_,(hJ.be.setCell (by have:=hb0.size;simp only;omega) _).setCell (by have:=hb0.size;simp only;omega) _⟩
   obtain⟨fp,o,fr⟩:=hJ.ms
   have hn:=o.neII hJ.kr neS1 neS2
   refine⟨fp,o.okeep (rSlice_ok NB _ rInt_ok) (fun z hz=>?_),fr⟩
   exact(heap_setCell_other _ ⟨w.heap.size+1+1+1,1,none⟩ z _ (fun e=>hn ((show z=w.heap.size+1+1+1 from e)▸hz))).trans (heap_setCell_other _ ⟨w.heap.size+1+1+1,0,none⟩ z _ (fun e=>hn ((show z=w.heap.size+1+1+1 from e)▸hz)))
set_option maxRecDepth 100000 in
set_option maxHeartbeats 6400000 in
theorem sl27JoinH_c (A1 A2 A3 A4 AV AR:Option Addr) (n1 n2 n3 n4 nV nR c1 c2 c3 c4 cV cR:Nat) (x y:StreamD) (R0:List (List Int)) (w0 w:World)
  (h1:RS NB rInt w0 A1 n1 c1 x.fVars) (h2:RS NB (rSlice NB 3 rInt) w0 A2 n2 c2 x.fRows) (h3:RS NB rInt w0 A3 n3 c3 y.fVars) (h4:RS NB (rSlice NB 3 rInt) w0 A4 n4 c4 y.fRows)
  (vx:validStream x=true) (vy:validStream y=true) (hV:RS NB rInt w0 AV nV cV (unionI x.fVars y.fVars)) (hR:MS w0.heap.size NB 32 (rSlice NB 3 rInt) w AR nR cR (cap4 R0)) (hb0:Below w0.heap.size w0 w) :
  Calls Tryz.prog 205 #[.agg #[.slice A1 n1 c1,.slice A2 n2 c2],.agg #[.slice A3 n3 c3,.slice A4 n4 c4],.bool true,.int .i64 0,.int .i64 (-1),.agg #[.slice AV nV cV,.slice AR nR cR]] w fun e w' =>
   ∃ (AR':Option Addr) (nR' cR':Nat),e=.returned (.agg #[.slice AV nV cV,.slice AR' nR' cR'])/\MS w0.heap.size NB 32 (rSlice NB 3 rInt) w' AR' nR' cR' (cap4 (R0++nestRows (fun q p=>joinBy x y p q) y.fRows x.fRows))/\Below w0.heap.size w0 w':=by
 obtain⟨px1,px2,px3⟩:=validStream_parts vx
 obtain⟨py1,py2,py3⟩:=validStream_parts vy
 have HM:=Lib.hid (union_iff px1 py1)
 have PC:=Lib.hid px1
 have PX:=Lib.hid px2
 have PY:=Lib.hid py2
 have HLX:=Lib.hid h2.len
 have HLY:=Lib.hid h4.len
 rw [HLX.out]at px3
 rw [HLY.out]at py3
 have HVx:=Lib.hid h1.len
 have HVy:=Lib.hid h3.len
 clear vx vy px1 px2 py1 py2
 have hJ:Lj w0 w.heap.size (w.heap.size+1) (w.heap.size+1+1) (w.heap.size+1+1+1) [.slice A1 n1 c1,.slice A2 n2 c2] [.slice A3 n3 c3,.slice A4 n4 c4] (.slice AV nV cV) (cap4 R0) AR nR cR ((((w.alloc (.cells #[.slice A1 n1 c1,.slice A2 n2 c2] 35)).alloc (.cells #[.slice A3 n3 c3,.slice A4 n4 c4] 35)).alloc (.cells #[.slice AV nV cV,.slice AR nR cR] 35)).alloc (.cells #[.slice none 0 0,.slice none 0 0] 35)):=by
  have q1:=Bk.new w [.slice A1 n1 c1,.slice A2 n2 c2] 35
  have q2:=Bk.new (w.alloc (.cells #[.slice A1 n1 c1,.slice A2 n2 c2] 35)) [.slice A3 n3 c3,.slice A4 n4 c4] 35
  have q3:=Bk.new ((w.alloc (.cells #[.slice A1 n1 c1,.slice A2 n2 c2] 35)).alloc (.cells #[.slice A3 n3 c3,.slice A4 n4 c4] 35)) [.slice AV nV cV,.slice AR nR cR] 35
  have q4:=Bk.new (((w.alloc (.cells #[.slice A1 n1 c1,.slice A2 n2 c2] 35)).alloc (.cells #[.slice A3 n3 c3,.slice A4 n4 c4] 35)).alloc (.cells #[.slice AV nV cV,.slice AR nR cR] 35)) [.slice none 0 0,.slice none 0 0] 35
  have b2:=fun (W:World) (o:Obj)=>(Below.refl W.heap.size W).alloc (Nat.le_refl _) o
  exact⟨((q1.below (b2 _ _)).below (b2 _ _)).below (b2 _ _),by simpa using (q2.below (b2 _ _)).below (b2 _ _),by simpa using q3.below (b2 _ _),(((hR.below (rSlice_ok NB _ rInt_ok) (b2 _ _)).below (rSlice_ok NB _ rInt_ok) (b2 _ _)).below (rSlice_ok NB _ rInt_ok) (b2 _ _)).below (rSlice_ok NB _ rInt_ok) (b2 _ _),by simpa using q4,(((hb0.alloc hb0.size _).alloc (by have:=hb0.size;simp;omega) _).alloc (by have:=hb0.size;simp;omega) _).alloc (by have:=hb0.size;simp;omega) _⟩
 obtain⟨wj,hwj⟩:∃ wj,wj=((((w.alloc (.cells #[.slice A1 n1 c1,.slice A2 n2 c2] 35)).alloc (.cells #[.slice A3 n3 c3,.slice A4 n4 c4] 35)).alloc (.cells #[.slice AV nV cV,.slice AR nR cR] 35)).alloc (.cells #[.slice none 0 0,.slice none 0 0] 35)):=⟨_,rfl⟩
 rw [<- hwj]at hJ
 have h0J:=h1.below rInt_ok hJ.be
 obtain⟨va,hva⟩:∃ v,v=Value.slice A2 n2 c2:=⟨_,rfl⟩
 obtain⟨vb,hvb⟩:∃ v,v=Value.slice A4 n4 c4:=⟨_,rfl⟩
 rw [<- hva,<- hvb]at hJ
 have HVA:=Lib.hid hva;clear hva
 have HVB:=Lib.hid hvb;clear hvb
 have HW:=Lib.hid hwj;clear hwj
 go_enter Tryz.func205,Tryz.ntmps205
 have HAT:=Lib.hid (rfl:idxOf (fun b=>b==0) x.fVars=_)
 go_wp2_with (go_at_call 74;refine(sl27Find_v HAT.out (by rw [<- HW.out];exact h0J)).mono ?_;rintro e w' ⟨rfl,rfl⟩)
 rw [<- HW.out]
 go_loopw [16] (fun i wr=>∃ (k:Nat) (AR:Option Addr) (nR cR:Nat),k<=n4/\i=.int .i64 k/\Lj w0 w.heap.size (w.heap.size+1) (w.heap.size+1+1) (w.heap.size+1+1+1) [.slice A1 n1 c1,va] [.slice A3 n3 c3,vb] (.slice AV nV cV) (cap4 (R0++nestRows (fun q p=>joinBy x y p q) (y.fRows.take k) x.fRows)) AR nR cR wr) (fun i _=>n4 - (intOf i).toNat)
 case atStart=>exact⟨0,AR,nR,cR,Nat.zero_le _,rfl,by simpa [nestRows]using hJ⟩
 case round =>
  clear hJ h0J
  obtain⟨k,AR,nR,cR,hk,rfl,hJ⟩:=hrel
  by_cases hlt:k<n4
  ·obtain⟨b1,o1,q,Aq,nq,cq,e0,hc1,hrq,hq⟩:=h4.row hlt
   subst e0
   have HS:=Lib.hid (nest_snoc (f:=(fun q p=>joinBy x y p q)) (ys:=x.fRows) hq.out)
   have lq:nq=n3:=by rw [<- hrq.len,rowOk_len (PY.out _ (mem_of_at hq.out)),HVy.out]
   have Lq:=Lib.hid lq;clear lq
   go_wp2
   go_loopw [17] (fun i wr2=>∃ (j:Nat) (AR:Option Addr) (nR cR:Nat),j<=n2/\i=.int .i64 j/\Lj w0 w.heap.size (w.heap.size+1) (w.heap.size+1+1) (w.heap.size+1+1+1) [.slice A1 n1 c1,va] [.slice A3 n3 c3,vb] (.slice AV nV cV) (cap4 (R0++nestRows (fun q p=>joinBy x y p q) (y.fRows.take k) x.fRows++(x.fRows.take j).filterMap ((fun q p=>joinBy x y p q) q))) AR nR cR wr2) (fun i _=>n2 - (intOf i).toNat)
   case atStart=>exact⟨0,AR,nR,cR,Nat.zero_le _,rfl,by simpa using hJ⟩
   case round =>
    clear hJ
    obtain⟨j,AR,nR,cR,hj,rfl,hJ⟩:=hrel
    have ka0:=hJ.ka.bx 0 _ rfl
    have ka1:=hJ.ka.bx 1 _ rfl
    rw [HVA.out]at ka1
    have kb0:=hJ.kb.bx 0 _ rfl
    have kb1:=hJ.kb.bx 1 _ rfl
    rw [HVB.out]at kb1
    have ko0:=hJ.ko.bx 0 _ rfl
    have ko1:=hJ.ko.bx 1 _ rfl
    have hRl:=Lib.hid hJ.ms.len
    by_cases hlt2:j<n2
    ·by_cases hcap:(nR:Int)<=4096
     ·obtain⟨b2,o2,p,Ap,np,cp,e0,hc2,hrp,hp⟩:=h2.row hlt2
      subst e0
      replace hc1:=cells_below hJ.be _ _ hc1
      replace hc2:=cells_below hJ.be _ _ hc2
      have lp:np=n1:=by rw [<- hrp.len,rowOk_len (PX.out _ (mem_of_at hp.out)),HVx.out]
      have Lp:=Lib.hid lp;clear lp
      have m1:IntKind.i64.wrap ((n2:Int) - 1)=(n2:Int) - 1:=IntWalk.i64_in _ (by omega)
      have m2:IntKind.i64.wrap ((n4:Int) - 1)=(n4:Int) - 1:=IntWalk.i64_in _ (by omega)
      obtain⟨mi,hmi⟩:∃ mi:Nat,min (k:Int) ((n2:Int) - 1)=(mi:Int):=⟨(min (k:Int) ((n2:Int) - 1)).toNat,by omega⟩
      obtain⟨mj,hmj⟩:∃ mj:Nat,min (j:Int) ((n4:Int) - 1)=(mj:Int):=⟨(min (j:Int) ((n4:Int) - 1)).toNat,by omega⟩
      have hmi2:mi<n2:=by omega
      have hmj2:mj<n4:=by omega
      obtain⟨b8,o8,p8,A8,n8,c8,e8,hc8,_,_⟩:=h2.row hmi2
      injection e8 with e8;injection e8 with e8 e9;subst e8;subst e9
      obtain⟨b9,o9,p9,A9',n9',c9',e9,hc9,_,_⟩:=h4.row hmj2
      injection e9 with e9;injection e9 with e9 e10;subst e9;subst e10
      replace hc8:=cells_below hJ.be _ _ hc8
      replace hc9:=cells_below hJ.be _ _ hc9
      cases ha:agree x.fVars p y.fVars q
      ·have HJN:Hid (joinBy x y p q=none):=by show _=_;simp [joinBy,joinOpt,ha]
       have HA:=Lib.hid ha;clear ha
       have HS2:Hid (cap4 (R0++nestRows (fun q p=>joinBy x y p q) (y.fRows.take k) x.fRows++(x.fRows.take (j+1)).filterMap ((fun q p=>joinBy x y p q) q))=cap4 (R0++nestRows (fun q p=>joinBy x y p q) (y.fRows.take k) x.fRows++(x.fRows.take j).filterMap ((fun q p=>joinBy x y p q) q))):=by
        show _=_
        rw [cap4_fmt (R0++nestRows (fun q p=>joinBy x y p q) (y.fRows.take k) x.fRows) hp.out]
        simp [HJN.out]
       go_wp2_with fail
       refine(sl27Agree_v HA.out (h1.below rInt_ok hJ.be) (hrp.below rInt_ok hJ.be) (h3.below rInt_ok hJ.be) (hrq.below rInt_ok hJ.be) PC.out Lp.out Lq.out).mono ?_
       rintro e wq ⟨rfl,hq⟩
       have hJq:=hJ.below hq.belowS
       clear ka0 ka1 kb0 kb1 ko0 ko1
       go_wp2
       go_roundw
       case rel=>exact⟨j+1,AR,nR,cR,by omega,by go_num,by rw [HS2.out];exact hJq⟩
       case measure=>simp [intOf];omega
      ·have HJY:Hid (joinBy x y p q=some (joinRow (unionI x.fVars y.fVars) x.fVars p y.fVars q)):=by show _=_;simp [joinBy,joinOpt,ha]
       have HA:=Lib.hid ha;clear ha
       have HS2:Hid (cap4 (R0++nestRows (fun q p=>joinBy x y p q) (y.fRows.take k) x.fRows++(x.fRows.take (j+1)).filterMap ((fun q p=>joinBy x y p q) q))=cap4 (R0++nestRows (fun q p=>joinBy x y p q) (y.fRows.take k) x.fRows++(x.fRows.take j).filterMap ((fun q p=>joinBy x y p q) q))++[joinRow (unionI x.fVars y.fVars) x.fVars p y.fVars q]):=by
        show _=_
        rw [cap4_fmt (R0++nestRows (fun q p=>joinBy x y p q) (y.fRows.take k) x.fRows) hp.out]
        simp only [HJY.out,Option.toList_some]
        exact cap4_more _ (by rw [hRl.out];omega)
       go_wp2_with fail
       refine(sl27Agree_v HA.out (h1.below rInt_ok hJ.be) (hrp.below rInt_ok hJ.be) (h3.below rInt_ok hJ.be) (hrq.below rInt_ok hJ.be) PC.out Lp.out Lq.out).mono ?_
       rintro e wq ⟨rfl,hq⟩
       have hJq:=hJ.below hq.belowS
       have hnR:nR<=4096:=by omega
       clear ka0 ka1 kb0 kb1 ko0 ko1 hc1 hc2 m1 m2 hmi hmj hc8 hc9
       have HSS:=Lib.hid (fun (w':World) (h:Tri w.heap.size (w.heap.size+1) (w.heap.size+1+1) [.slice A1 n1 c1,va] [.slice A3 n3 c3,vb] (.slice AV nV cV) w')=>(⟨h.1.bx 0 _ rfl,h.2.1.bx 0 _ rfl,h.2.2.elim fun r h3=>h3.bx 0 _ rfl⟩:w'.cell? ⟨w.heap.size,0,none⟩=some (.slice A1 n1 c1)/\w'.cell? ⟨w.heap.size+1,0,none⟩=some (.slice A3 n3 c3)/\w'.cell? ⟨w.heap.size+1+1,0,none⟩=some (.slice AV nV cV)))
       go_wp2_with fail
       refine wp_region_held_drew (S:=fun w'=>w'.cell? ⟨w.heap.size,0,none⟩=some (.slice A1 n1 c1)/\w'.cell? ⟨w.heap.size+1,0,none⟩=some (.slice A3 n3 c3)/\w'.cell? ⟨w.heap.size+1+1,0,none⟩=some (.slice AV nV cV)) (by kernel_rfl) ?_ (fun hHeld=>?_)
       ·exact HSS.out _ (hJq.below (Below.refl _ _).drew).tri
       refine tk 0 (some 103) rfl (by kernel_rfl) (by kernel_rfl) (by kernel_rfl) (fun _ _ _ h=>h) (by rfl) hHeld (fun w h=>by(try dsimp only at h);((go_simp)<;>with_reducible rfl)) ?_
       try simp only [putS]
       refine tk 2 (some 105) rfl (by kernel_rfl) (by kernel_rfl) (by kernel_rfl) (fun _ _ _ h=>h) (by rfl) hHeld (fun w h=>by(try dsimp only at h);((go_simp)<;>with_reducible rfl)) ?_
       try simp only [putS]
       refine tk 3 (some 106) rfl (by kernel_rfl) (by kernel_rfl) (by kernel_rfl) (fun _ _ _ h=>h) (by rfl) hHeld (fun w h=>by(try dsimp only at h);((go_simp)<;>with_reducible rfl)) ?_
       try simp only [putS]
       refine tk 4 (some 107) rfl (by kernel_rfl) (by kernel_rfl) (by kernel_rfl) (fun _ _ _ h=>h) (by rfl) hHeld (fun w h=>by(try dsimp only at h);((go_simp)<;>with_reducible rfl)) ?_
       try simp only [putS]
       refine tk 5 (some 108) rfl (by kernel_rfl) (by kernel_rfl) (by kernel_rfl) (fun _ _ _ h=>h) (by rfl) hHeld (fun w h=>by(try dsimp only at h);((go_simp)<;>with_reducible rfl)) ?_
       try simp only [putS]
       refine tk 6 (some 109) rfl (by kernel_rfl) (by kernel_rfl) (by kernel_rfl) (fun _ _ _ h=>h) (by rfl) hHeld (fun w h=>by(try dsimp only at h);((go_simp)<;>with_reducible rfl)) ?_
       try simp only [putS]
       refine tk 7 (some 110) rfl (by kernel_rfl) (by kernel_rfl) (by kernel_rfl) (fun _ _ _ h=>h) (by rfl) hHeld (fun w h=>by(try dsimp only at h);((go_simp)<;>with_reducible rfl)) ?_
       try simp only [putS]
       refine tk 8 (some 111) rfl (by kernel_rfl) (by kernel_rfl) (by kernel_rfl) (fun _ _ _ h=>h) (by rfl) hHeld (fun w h=>by(try dsimp only at h);((go_simp)<;>with_reducible rfl)) ?_
       try simp only [putS]
       refine tk 9 (some 112) rfl (by kernel_rfl) (by kernel_rfl) (by kernel_rfl) (fun _ _ _ h=>h) (by rfl) hHeld (fun w h=>by(try dsimp only at h);((go_simp)<;>with_reducible rfl)) ?_
       try simp only [putS]
       have o1:=hJq.ko.bx 1 _ rfl
       refine wpAnyH_ready (rs:=[1,10]) (by kernel_rfl) (by simp) ?_
       refine(AllReadyH.cons (o:=⟨some 104,_,_,_,_,_⟩) rfl (fun K hK=>?_) (AllReadyH.cons (o:=⟨some 113,_,_,_,_,_⟩) rfl (fun K hK=>?_) AllReadyH.nil))
       all_goals clear hHeld
       ·go_simp
        refine hK.out _ _ (HSS.out _ (hJq.below (Below.refl _ _).drew).tri) (fun hHeld=>?_)
        clear hK K
        try simp only [putS]
        refine wpAnyH_ready (rs:=[10]) (by kernel_rfl) (by simp) ?_
        refine AllReadyH.cons (o:=⟨some 113,_,_,_,_,_⟩) rfl (fun K hK=>?_) AllReadyH.nil
        clear hHeld
        go_simp
        refine(sl27Merge_c _ _ _ _ _ _ _ _ _ _ _ _ _ _ _ (unionI x.fVars y.fVars) x.fVars p y.fVars q _ (hV.below rInt_ok (hJq.below (Below.refl _ _).drew).be) (h1.below rInt_ok (hJq.below (Below.refl _ _).drew).be) (hrp.below rInt_ok (hJq.below (Below.refl _ _).drew).be) (h3.below rInt_ok (hJq.below (Below.refl _ _).drew).be) (hrq.below rInt_ok (hJq.below (Below.refl _ _).drew).be) (fun v hv=>(HM.out v).1 hv) Lp.out Lq.out).mono ?_
        rintro e wc ⟨Ar,nr,cr,rfl,⟨fpr,or_,frr⟩,hbc⟩
        have hJc:=(hJq.below (Below.refl _ _).drew).below hbc
        have o1c:=hJc.ko.bx 1 _ rfl
        go_wp2_with fail
        refine hK.out _ _ (HSS.out _ hJc.tri) (fun hHeld=>?_)
        clear hK K
        try simp only [putS]
        have hJb:=hJc.below ((Below.refl wc.heap.size wc).alloc (Nat.le_refl _) (.cells #[.slice Ar nr cr] 32))
        refine wpAnyH_ready (rs:=[11]) (by kernel_rfl) (by simp) ?_
        refine AllReadyH.cons (o:=⟨some 114,_,_,_,_,_⟩) rfl (fun K hK=>?_) AllReadyH.nil
        clear hHeld
        go_simp
        refine hK.out _ _ (HSS.out _ hJb.tri) (fun hHeld=>?_)
        clear hK K
        try simp only [putS]
        refine wpAnyH_ready (rs:=[12]) (by kernel_rfl) (by simp) ?_
        refine AllReadyH.cons (o:=⟨some 115,_,_,_,_,_⟩) rfl (fun K hK=>?_) AllReadyH.nil
        clear hHeld
        refine step_app1 (by rfl) _ _ 33 (by rfl) _ 24 eiIntS (rSlice_ok NB _ rInt_ok) (by rfl) hJq.ms (Below.alc (((Below.refl wq.heap.size wq).drew).trans hbc) _) hJq.be.size (by rfl) (f:=fpr) (cs:=[.slice Ar nr cr]) (y:=joinRow (unionI x.fVars y.fVars) x.fVars p y.fVars q) ⟨Ar,nr,cr,rfl,or_.belowS rInt_ok ((Below.refl _ _).alloc (Nat.le_refl _) _)⟩ frr (by intro i v hi;match i,hi with|0,hi=>(simp at hi;subst hi;simp)) (by unfold NB;omega) (Nat.le_refl _) (by omega) ?_
        intro A9 c9 w9 hM9 hb9 hg9
        obtain⟨hT9,hk9,hL9⟩:=hJb.app hg9 hM9 hb9
        have f9:=hk9.frozen 1
        have k9:=hk9.bx 1 _ rfl
        refine hK.out _ _ (HSS.out _ hT9) (fun hHeld=>?_)
        clear hK K
        try simp only [putS]
        refine tk 13 (some 116) rfl (by kernel_rfl) (by kernel_rfl) (by kernel_rfl) (fun _ _ _ h=>h) (by rfl) hHeld (fun w h=>by(try dsimp only at h);((go_simp)<;>with_reducible rfl)) ?_
        try simp only [putS]
        refine wpAnyH_ready (rs:=[14]) (by kernel_rfl) (by simp) ?_
        refine AllReadyH.cons (o:=⟨none,_,_,_,_,_⟩) rfl (fun K hK=>?_) AllReadyH.nil
        clear hHeld
        go_simp
        refine hK.out _ _ (HSS.out _ (hL9 (by omega) (by omega) (by omega) (by have:=hb0.size;omega)).tri) (fun hHeld=>?_)
        clear hK K
        try simp only [putS]
        refine wpAnyH_done (by kernel_rfl) ?_ _
        clear hHeld
        clear HSS
        go_wp2
        go_roundw
        case rel=>exact⟨j+1,A9,nR+1,c9,by omega,by go_num,by rw [HS2.out];exact hL9 (by omega) (by omega) (by omega) (by have:=hb0.size;omega)⟩
        case measure=>simp [intOf];omega
       ·go_simp
        refine(sl27Merge_c _ _ _ _ _ _ _ _ _ _ _ _ _ _ _ (unionI x.fVars y.fVars) x.fVars p y.fVars q _ (hV.below rInt_ok (hJq.below (Below.refl _ _).drew).be) (h1.below rInt_ok (hJq.below (Below.refl _ _).drew).be) (hrp.below rInt_ok (hJq.below (Below.refl _ _).drew).be) (h3.below rInt_ok (hJq.below (Below.refl _ _).drew).be) (hrq.below rInt_ok (hJq.below (Below.refl _ _).drew).be) (fun v hv=>(HM.out v).1 hv) Lp.out Lq.out).mono ?_
        rintro e wc ⟨Ar,nr,cr,rfl,⟨fpr,or_,frr⟩,hbc⟩
        have hJc:=(hJq.below (Below.refl _ _).drew).below hbc
        have o1c:=hJc.ko.bx 1 _ rfl
        go_wp2_with fail
        refine hK.out _ _ (HSS.out _ hJc.tri) (fun hHeld=>?_)
        clear hK K
        try simp only [putS]
        have hJb:=hJc.below ((Below.refl wc.heap.size wc).alloc (Nat.le_refl _) (.cells #[.slice Ar nr cr] 32))
        refine wpAnyH_ready (rs:=[1,11]) (by kernel_rfl) (by simp) ?_
        refine(AllReadyH.cons (o:=⟨some 104,_,_,_,_,_⟩) rfl (fun K hK=>?_) (AllReadyH.cons (o:=⟨some 114,_,_,_,_,_⟩) rfl (fun K hK=>?_) AllReadyH.nil))
        all_goals clear hHeld
        ·go_simp
         refine hK.out _ _ (HSS.out _ hJc.tri) (fun hHeld=>?_)
         clear hK K
         try simp only [putS]
         refine wpAnyH_ready (rs:=[11]) (by kernel_rfl) (by simp) ?_
         refine AllReadyH.cons (o:=⟨some 114,_,_,_,_,_⟩) rfl (fun K hK=>?_) AllReadyH.nil
         clear hHeld
         go_simp
         refine hK.out _ _ (HSS.out _ hJb.tri) (fun hHeld=>?_)
         clear hK K
         try simp only [putS]
         refine wpAnyH_ready (rs:=[12]) (by kernel_rfl) (by simp) ?_
         refine AllReadyH.cons (o:=⟨some 115,_,_,_,_,_⟩) rfl (fun K hK=>?_) AllReadyH.nil
         clear hHeld
         refine step_app1 (by rfl) _ _ 33 (by rfl) _ 24 eiIntS (rSlice_ok NB _ rInt_ok) (by rfl) hJq.ms (Below.alc (((Below.refl wq.heap.size wq).drew).trans hbc) _) hJq.be.size (by rfl) (f:=fpr) (cs:=[.slice Ar nr cr]) (y:=joinRow (unionI x.fVars y.fVars) x.fVars p y.fVars q) ⟨Ar,nr,cr,rfl,or_.belowS rInt_ok ((Below.refl _ _).alloc (Nat.le_refl _) _)⟩ frr (by intro i v hi;match i,hi with|0,hi=>(simp at hi;subst hi;simp)) (by unfold NB;omega) (Nat.le_refl _) (by omega) ?_
         intro A9 c9 w9 hM9 hb9 hg9
         obtain⟨hT9,hk9,hL9⟩:=hJb.app hg9 hM9 hb9
         have f9:=hk9.frozen 1
         have k9:=hk9.bx 1 _ rfl
         refine hK.out _ _ (HSS.out _ hT9) (fun hHeld=>?_)
         clear hK K
         try simp only [putS]
         refine tk 13 (some 116) rfl (by kernel_rfl) (by kernel_rfl) (by kernel_rfl) (fun _ _ _ h=>h) (by rfl) hHeld (fun w h=>by(try dsimp only at h);((go_simp)<;>with_reducible rfl)) ?_
         try simp only [putS]
         refine wpAnyH_ready (rs:=[14]) (by kernel_rfl) (by simp) ?_
         refine AllReadyH.cons (o:=⟨none,_,_,_,_,_⟩) rfl (fun K hK=>?_) AllReadyH.nil
         clear hHeld
         go_simp
         refine hK.out _ _ (HSS.out _ (hL9 (by omega) (by omega) (by omega) (by have:=hb0.size;omega)).tri) (fun hHeld=>?_)
         clear hK K
         try simp only [putS]
         refine wpAnyH_done (by kernel_rfl) ?_ _
         clear hHeld
         clear HSS
         go_wp2
         go_roundw
         case rel=>exact⟨j+1,A9,nR+1,c9,by omega,by go_num,by rw [HS2.out];exact hL9 (by omega) (by omega) (by omega) (by have:=hb0.size;omega)⟩
         case measure=>simp [intOf];omega
        ·go_simp
         refine hK.out _ _ (HSS.out _ hJb.tri) (fun hHeld=>?_)
         clear hK K
         try simp only [putS]
         have o1b:=hJb.ko.bx 1 _ rfl
         refine wpAnyH_ready (rs:=[1]) (by kernel_rfl) (by simp) ?_
         refine AllReadyH.cons (o:=⟨some 104,_,_,_,_,_⟩) rfl (fun K hK=>?_) AllReadyH.nil
         clear hHeld
         go_simp
         refine hK.out _ _ (HSS.out _ hJb.tri) (fun hHeld=>?_)
         clear hK K
         try simp only [putS]
         refine wpAnyH_ready (rs:=[12]) (by kernel_rfl) (by simp) ?_
         refine AllReadyH.cons (o:=⟨some 115,_,_,_,_,_⟩) rfl (fun K hK=>?_) AllReadyH.nil
         clear hHeld
         refine step_app1 (by rfl) _ _ 33 (by rfl) _ 24 eiIntS (rSlice_ok NB _ rInt_ok) (by rfl) hJq.ms (Below.alc (((Below.refl wq.heap.size wq).drew).trans hbc) _) hJq.be.size (by rfl) (f:=fpr) (cs:=[.slice Ar nr cr]) (y:=joinRow (unionI x.fVars y.fVars) x.fVars p y.fVars q) ⟨Ar,nr,cr,rfl,or_.belowS rInt_ok ((Below.refl _ _).alloc (Nat.le_refl _) _)⟩ frr (by intro i v hi;match i,hi with|0,hi=>(simp at hi;subst hi;simp)) (by unfold NB;omega) (Nat.le_refl _) (by omega) ?_
         intro A9 c9 w9 hM9 hb9 hg9
         obtain⟨hT9,hk9,hL9⟩:=hJb.app hg9 hM9 hb9
         have f9:=hk9.frozen 1
         have k9:=hk9.bx 1 _ rfl
         refine hK.out _ _ (HSS.out _ hT9) (fun hHeld=>?_)
         clear hK K
         try simp only [putS]
         refine tk 13 (some 116) rfl (by kernel_rfl) (by kernel_rfl) (by kernel_rfl) (fun _ _ _ h=>h) (by rfl) hHeld (fun w h=>by(try dsimp only at h);((go_simp)<;>with_reducible rfl)) ?_
         try simp only [putS]
         refine wpAnyH_ready (rs:=[14]) (by kernel_rfl) (by simp) ?_
         refine AllReadyH.cons (o:=⟨none,_,_,_,_,_⟩) rfl (fun K hK=>?_) AllReadyH.nil
         clear hHeld
         go_simp
         refine hK.out _ _ (HSS.out _ (hL9 (by omega) (by omega) (by omega) (by have:=hb0.size;omega)).tri) (fun hHeld=>?_)
         clear hK K
         try simp only [putS]
         refine wpAnyH_done (by kernel_rfl) ?_ _
         clear hHeld
         clear HSS
         go_wp2
         go_roundw
         case rel=>exact⟨j+1,A9,nR+1,c9,by omega,by go_num,by rw [HS2.out];exact hL9 (by omega) (by omega) (by omega) (by have:=hb0.size;omega)⟩
         case measure=>simp [intOf];omega
     ·have HX:Hid (cap4 (R0++nestRows (fun q p=>joinBy x y p q) (y.fRows.take (k+1)) x.fRows)=cap4 (R0++nestRows (fun q p=>joinBy x y p q) (y.fRows.take k) x.fRows++(x.fRows.take j).filterMap ((fun q p=>joinBy x y p q) q))):=by
       show _=_
       rw [HS.out,<- List.append_assoc]
       exact cap4_stop _ (by rw [hRl.out];omega)
      go_wp2
      go_roundw
      case rel=>exact⟨k+1,AR,nR,cR,by omega,by go_num,by rw [HX.out];exact hJ⟩
      case measure=>simp [intOf];omega
    ·have HX:Hid (cap4 (R0++nestRows (fun q p=>joinBy x y p q) (y.fRows.take (k+1)) x.fRows)=cap4 (R0++nestRows (fun q p=>joinBy x y p q) (y.fRows.take k) x.fRows++(x.fRows.take j).filterMap ((fun q p=>joinBy x y p q) q))):=by
      show _=_
      rw [HS.out,<- List.append_assoc,take_all HLX.out hlt2]
     go_wp2
     go_roundw
     case rel=>exact⟨k+1,AR,nR,cR,by omega,by go_num,by rw [HX.out];exact hJ⟩
     case measure=>simp [intOf];omega
  ·rw [take_all HLY.out hlt]at hJ
   have ko0:=hJ.ko.bx 0 _ rfl
   have ko1:=hJ.ko.bx 1 _ rfl
   have rf0:=hJ.kr.frozen 0
   have rf1:=hJ.kr.frozen 1
   have rc0:=hJ.kr.bx 0 _ rfl
   have rc1:=hJ.kr.bx 1 _ rfl
   have rl:=hJ.kr.lt
   go_wp2
   have bk3:=(hJ.kr.set 0 (.slice AV nV cV)).set 1 (.slice AR nR cR)
   have q0:=bk3.bx 0 _ rfl
   have q1:=bk3.bx 1 _ rfl
   refine bodyPost_ret (v:=.agg #[.slice AV nV cV,.slice AR nR cR]) (by simp [results,Tryz.results205,go_sem,q0,q1]) rfl ⟨AR,nR,cR,rfl,?_,(hJ.be.setCell (by have:=hb0.size;simp only;omega) _).setCell (by have:=hb0.size;simp only;omega) _⟩
   obtain⟨fp,o,fr⟩:=hJ.ms
   have hn:=o.neII hJ.kr neS1 neS2
   refine⟨fp,o.okeep (rSlice_ok NB _ rInt_ok) (fun z hz=>?_),fr⟩
   exact(heap_setCell_other _ ⟨w.heap.size+1+1+1,1,none⟩ z _ (fun e=>hn ((show z=w.heap.size+1+1+1 from e)▸hz))).trans (heap_setCell_other _ ⟨w.heap.size+1+1+1,0,none⟩ z _ (fun e=>hn ((show z=w.heap.size+1+1+1 from e)▸hz)))
set_option maxRecDepth 100000 in
set_option maxHeartbeats 6400000 in
theorem sl27JoinM_c (A1 A2 A3 A4 AV AR:Option Addr) (n1 n2 n3 n4 nV nR c1 c2 c3 c4 cV cR:Nat) (x y:StreamD) (R0:List (List Int)) (v val:Int) (t:Nat) (hv0:0<=val) (hat:x.fVars.findIdx? (fun c=>c==v)=some t) (w0 w:World)
  (h1:RS NB rInt w0 A1 n1 c1 x.fVars) (h2:RS NB (rSlice NB 3 rInt) w0 A2 n2 c2 x.fRows) (h3:RS NB rInt w0 A3 n3 c3 y.fVars) (h4:RS NB (rSlice NB 3 rInt) w0 A4 n4 c4 y.fRows)
  (vx:validStream x=true) (vy:validStream y=true) (hV:RS NB rInt w0 AV nV cV (unionI x.fVars y.fVars)) (hR:MS w0.heap.size NB 32 (rSlice NB 3 rInt) w AR nR cR (cap4 R0)) (hb0:Below w0.heap.size w0 w) :
  Calls Tryz.prog 205 #[.agg #[.slice A1 n1 c1,.slice A2 n2 c2],.agg #[.slice A3 n3 c3,.slice A4 n4 c4],.bool false,.int .i64 v,.int .i64 val,.agg #[.slice AV nV cV,.slice AR nR cR]] w fun e w' =>
   ∃ (AR':Option Addr) (nR' cR':Nat),e=.returned (.agg #[.slice AV nV cV,.slice AR' nR' cR'])/\MS w0.heap.size NB 32 (rSlice NB 3 rInt) w' AR' nR' cR' (cap4 (R0++nestRows (fun p q=>if p[t]?=some val then joinBy x y p q else none) x.fRows y.fRows))/\Below w0.heap.size w0 w':=by
 obtain⟨px1,px2,px3⟩:=validStream_parts vx
 obtain⟨py1,py2,py3⟩:=validStream_parts vy
 have HM:=Lib.hid (union_iff px1 py1)
 have PC:=Lib.hid px1
 have PX:=Lib.hid px2
 have PY:=Lib.hid py2
 have HLX:=Lib.hid h2.len
 have HLY:=Lib.hid h4.len
 rw [HLX.out]at px3
 rw [HLY.out]at py3
 have HVx:=Lib.hid h1.len
 have HVy:=Lib.hid h3.len
 clear vx vy px1 px2 py1 py2
 have hJ:Lj w0 w.heap.size (w.heap.size+1) (w.heap.size+1+1) (w.heap.size+1+1+1) [.slice A1 n1 c1,.slice A2 n2 c2] [.slice A3 n3 c3,.slice A4 n4 c4] (.slice AV nV cV) (cap4 R0) AR nR cR ((((w.alloc (.cells #[.slice A1 n1 c1,.slice A2 n2 c2] 35)).alloc (.cells #[.slice A3 n3 c3,.slice A4 n4 c4] 35)).alloc (.cells #[.slice AV nV cV,.slice AR nR cR] 35)).alloc (.cells #[.slice none 0 0,.slice none 0 0] 35)):=by
  have q1:=Bk.new w [.slice A1 n1 c1,.slice A2 n2 c2] 35
  have q2:=Bk.new (w.alloc (.cells #[.slice A1 n1 c1,.slice A2 n2 c2] 35)) [.slice A3 n3 c3,.slice A4 n4 c4] 35
  have q3:=Bk.new ((w.alloc (.cells #[.slice A1 n1 c1,.slice A2 n2 c2] 35)).alloc (.cells #[.slice A3 n3 c3,.slice A4 n4 c4] 35)) [.slice AV nV cV,.slice AR nR cR] 35
  have q4:=Bk.new (((w.alloc (.cells #[.slice A1 n1 c1,.slice A2 n2 c2] 35)).alloc (.cells #[.slice A3 n3 c3,.slice A4 n4 c4] 35)).alloc (.cells #[.slice AV nV cV,.slice AR nR cR] 35)) [.slice none 0 0,.slice none 0 0] 35
  have b2:=fun (W:World) (o:Obj)=>(Below.refl W.heap.size W).alloc (Nat.le_refl _) o
  exact⟨((q1.below (b2 _ _)).below (b2 _ _)).below (b2 _ _),by simpa using (q2.below (b2 _ _)).below (b2 _ _),by simpa using q3.below (b2 _ _),(((hR.below (rSlice_ok NB _ rInt_ok) (b2 _ _)).below (rSlice_ok NB _ rInt_ok) (b2 _ _)).below (rSlice_ok NB _ rInt_ok) (b2 _ _)).below (rSlice_ok NB _ rInt_ok) (b2 _ _),by simpa using q4,(((hb0.alloc hb0.size _).alloc (by have:=hb0.size;simp;omega) _).alloc (by have:=hb0.size;simp;omega) _).alloc (by have:=hb0.size;simp;omega) _⟩
 obtain⟨wj,hwj⟩:∃ wj,wj=((((w.alloc (.cells #[.slice A1 n1 c1,.slice A2 n2 c2] 35)).alloc (.cells #[.slice A3 n3 c3,.slice A4 n4 c4] 35)).alloc (.cells #[.slice AV nV cV,.slice AR nR cR] 35)).alloc (.cells #[.slice none 0 0,.slice none 0 0] 35)):=⟨_,rfl⟩
 rw [<- hwj]at hJ
 have h0J:=h1.below rInt_ok hJ.be
 obtain⟨va,hva⟩:∃ v,v=Value.slice A2 n2 c2:=⟨_,rfl⟩
 obtain⟨vb,hvb⟩:∃ v,v=Value.slice A4 n4 c4:=⟨_,rfl⟩
 rw [<- hva,<- hvb]at hJ
 have HVA:=Lib.hid hva;clear hva
 have HVB:=Lib.hid hvb;clear hvb
 have HW:=Lib.hid hwj;clear hwj
 go_enter Tryz.func205,Tryz.ntmps205
 have HAT:=Lib.hid (idxOf_find hat)
 have HF:=Lib.hid hat;clear hat
 go_wp2_with (go_at_call 74;refine(sl27Find_v HAT.out (by rw [<- HW.out];exact h0J)).mono ?_;rintro e w' ⟨rfl,rfl⟩)
 rw [<- HW.out]
 go_loopw [16] (fun i wr=>∃ (k:Nat) (AR:Option Addr) (nR cR:Nat),k<=n2/\i=.int .i64 k/\Lj w0 w.heap.size (w.heap.size+1) (w.heap.size+1+1) (w.heap.size+1+1+1) [.slice A1 n1 c1,va] [.slice A3 n3 c3,vb] (.slice AV nV cV) (cap4 (R0++nestRows (fun p q=>if p[t]?=some val then joinBy x y p q else none) (x.fRows.take k) y.fRows)) AR nR cR wr) (fun i _=>n2 - (intOf i).toNat)
 case atStart=>exact⟨0,AR,nR,cR,Nat.zero_le _,rfl,by simpa [nestRows]using hJ⟩
 case round =>
  clear hJ h0J
  obtain⟨k,AR,nR,cR,hk,rfl,hJ⟩:=hrel
  by_cases hlt:k<n2
  ·obtain⟨b1,o1,p,Ap,np,cp,e0,hc1,hrp,hp⟩:=h2.row hlt
   subst e0
   have HS:=Lib.hid (nest_snoc (f:=(fun p q=>if p[t]?=some val then joinBy x y p q else none)) (ys:=y.fRows) hp.out)
   have lp:np=n1:=by rw [<- hrp.len,rowOk_len (PX.out _ (mem_of_at hp.out)),HVx.out]
   have Lp:=Lib.hid lp;clear lp
   go_wp2
   go_loopw [17] (fun i wr2=>∃ (j:Nat) (AR:Option Addr) (nR cR:Nat),j<=n4/\i=.int .i64 j/\Lj w0 w.heap.size (w.heap.size+1) (w.heap.size+1+1) (w.heap.size+1+1+1) [.slice A1 n1 c1,va] [.slice A3 n3 c3,vb] (.slice AV nV cV) (cap4 (R0++nestRows (fun p q=>if p[t]?=some val then joinBy x y p q else none) (x.fRows.take k) y.fRows++(y.fRows.take j).filterMap ((fun p q=>if p[t]?=some val then joinBy x y p q else none) p))) AR nR cR wr2) (fun i _=>n4 - (intOf i).toNat)
   case atStart=>exact⟨0,AR,nR,cR,Nat.zero_le _,rfl,by simpa using hJ⟩
   case round =>
    clear hJ
    obtain⟨j,AR,nR,cR,hj,rfl,hJ⟩:=hrel
    have ka0:=hJ.ka.bx 0 _ rfl
    have ka1:=hJ.ka.bx 1 _ rfl
    rw [HVA.out]at ka1
    have kb0:=hJ.kb.bx 0 _ rfl
    have kb1:=hJ.kb.bx 1 _ rfl
    rw [HVB.out]at kb1
    have ko0:=hJ.ko.bx 0 _ rfl
    have ko1:=hJ.ko.bx 1 _ rfl
    have hRl:=Lib.hid hJ.ms.len
    by_cases hlt2:j<n4
    ·by_cases hcap:(nR:Int)<=4096
     ·obtain⟨b2,o2,q,Aq,nq,cq,e0,hc2,hrq,hq⟩:=h4.row hlt2
      subst e0
      replace hc1:=cells_below hJ.be _ _ hc1
      replace hc2:=cells_below hJ.be _ _ hc2
      have lq:nq=n3:=by rw [<- hrq.len,rowOk_len (PY.out _ (mem_of_at hq.out)),HVy.out]
      have Lq:=Lib.hid lq;clear lq
      have m1:IntKind.i64.wrap ((n2:Int) - 1)=(n2:Int) - 1:=IntWalk.i64_in _ (by omega)
      have m2:IntKind.i64.wrap ((n4:Int) - 1)=(n4:Int) - 1:=IntWalk.i64_in _ (by omega)
      have m3:min (k:Int) ((n2:Int) - 1)=(k:Int):=by omega
      have m4:min (j:Int) ((n4:Int) - 1)=(j:Int):=by omega
      have ht:t<np:=by rw [Lp.out,<- HVx.out];exact(List.findIdx?_eq_some_iff_getElem.1 HF.out).1
      obtain⟨b7,o7,pt,e7,hc7,hI7,hpt⟩:=hrp.ati ht
      subst e7
      replace hc7:=cells_below hJ.be _ _ hc7
      by_cases hval:pt=val
      rotate_left
      ·have hvb:(pt==val)=false:=by simp [hval]
       have HS2:Hid (cap4 (R0++nestRows (fun p q=>if p[t]?=some val then joinBy x y p q else none) (x.fRows.take k) y.fRows++(y.fRows.take (j+1)).filterMap ((fun p q=>if p[t]?=some val then joinBy x y p q else none) p))=cap4 (R0++nestRows (fun p q=>if p[t]?=some val then joinBy x y p q else none) (x.fRows.take k) y.fRows++(y.fRows.take j).filterMap ((fun p q=>if p[t]?=some val then joinBy x y p q else none) p))):=by
        show _=_
        rw [cap4_fmt (R0++nestRows (fun p q=>if p[t]?=some val then joinBy x y p q else none) (x.fRows.take k) y.fRows) hq.out]
        have hne:¬ p[t]?=some val:=by rw [hpt.out];simpa using hval
        simp [hne]
       clear hval
       go_wp2
       go_roundw
       case rel=>exact⟨j+1,AR,nR,cR,by omega,by go_num,by rw [HS2.out];exact hJ⟩
       case measure=>simp [intOf];omega
      have hvb:(pt==val)=true:=by simp [hval]
      have HPT:Hid (p[t]?=some val):=by show _=_;rw [hpt.out,hval]
      clear hval
      cases ha:agree x.fVars p y.fVars q
      ·have HJN:Hid (joinBy x y p q=none):=by show _=_;simp [joinBy,joinOpt,ha]
       have HA:=Lib.hid ha;clear ha
       have HS2:Hid (cap4 (R0++nestRows (fun p q=>if p[t]?=some val then joinBy x y p q else none) (x.fRows.take k) y.fRows++(y.fRows.take (j+1)).filterMap ((fun p q=>if p[t]?=some val then joinBy x y p q else none) p))=cap4 (R0++nestRows (fun p q=>if p[t]?=some val then joinBy x y p q else none) (x.fRows.take k) y.fRows++(y.fRows.take j).filterMap ((fun p q=>if p[t]?=some val then joinBy x y p q else none) p))):=by
        show _=_
        rw [cap4_fmt (R0++nestRows (fun p q=>if p[t]?=some val then joinBy x y p q else none) (x.fRows.take k) y.fRows) hq.out]
        simp [HJN.out,HPT.out]
       go_wp2_with fail
       refine(sl27Agree_v HA.out (h1.below rInt_ok hJ.be) (hrp.below rInt_ok hJ.be) (h3.below rInt_ok hJ.be) (hrq.below rInt_ok hJ.be) PC.out Lp.out Lq.out).mono ?_
       rintro e wq ⟨rfl,hq⟩
       have hJq:=hJ.below hq.belowS
       clear ka0 ka1 kb0 kb1 ko0 ko1
       go_wp2
       go_roundw
       case rel=>exact⟨j+1,AR,nR,cR,by omega,by go_num,by rw [HS2.out];exact hJq⟩
       case measure=>simp [intOf];omega
      ·have HJY:Hid (joinBy x y p q=some (joinRow (unionI x.fVars y.fVars) x.fVars p y.fVars q)):=by show _=_;simp [joinBy,joinOpt,ha]
       have HA:=Lib.hid ha;clear ha
       have HS2:Hid (cap4 (R0++nestRows (fun p q=>if p[t]?=some val then joinBy x y p q else none) (x.fRows.take k) y.fRows++(y.fRows.take (j+1)).filterMap ((fun p q=>if p[t]?=some val then joinBy x y p q else none) p))=cap4 (R0++nestRows (fun p q=>if p[t]?=some val then joinBy x y p q else none) (x.fRows.take k) y.fRows++(y.fRows.take j).filterMap ((fun p q=>if p[t]?=some val then joinBy x y p q else none) p))++[joinRow (unionI x.fVars y.fVars) x.fVars p y.fVars q]):=by
        show _=_
        rw [cap4_fmt (R0++nestRows (fun p q=>if p[t]?=some val then joinBy x y p q else none) (x.fRows.take k) y.fRows) hq.out]
        have hfv:(if p[t]?=some val then joinBy x y p q else none)=some (joinRow (unionI x.fVars y.fVars) x.fVars p y.fVars q):=by rw [if_pos HPT.out,HJY.out]
        show cap4 (_++(if p[t]?=some val then joinBy x y p q else none).toList)=_
        rw [hfv]
        simp only [Option.toList_some]
        exact cap4_more _ (by rw [hRl.out];omega)
       go_wp2_with fail
       refine(sl27Agree_v HA.out (h1.below rInt_ok hJ.be) (hrp.below rInt_ok hJ.be) (h3.below rInt_ok hJ.be) (hrq.below rInt_ok hJ.be) PC.out Lp.out Lq.out).mono ?_
       rintro e wq ⟨rfl,hq⟩
       have hJq:=hJ.below hq.belowS
       have hnR:nR<=4096:=by omega
       clear ka0 ka1 kb0 kb1 ko0 ko1 hc1 hc2 m1 m2 m3 m4
       have HSS:=Lib.hid (fun (w':World) (h:Tri w.heap.size (w.heap.size+1) (w.heap.size+1+1) [.slice A1 n1 c1,va] [.slice A3 n3 c3,vb] (.slice AV nV cV) w')=>(⟨h.1.bx 0 _ rfl,h.2.1.bx 0 _ rfl,h.2.2.elim fun r h3=>h3.bx 0 _ rfl⟩:w'.cell? ⟨w.heap.size,0,none⟩=some (.slice A1 n1 c1)/\w'.cell? ⟨w.heap.size+1,0,none⟩=some (.slice A3 n3 c3)/\w'.cell? ⟨w.heap.size+1+1,0,none⟩=some (.slice AV nV cV)))
       go_wp2_with fail
       refine wp_region_held_drew (S:=fun w'=>w'.cell? ⟨w.heap.size,0,none⟩=some (.slice A1 n1 c1)/\w'.cell? ⟨w.heap.size+1,0,none⟩=some (.slice A3 n3 c3)/\w'.cell? ⟨w.heap.size+1+1,0,none⟩=some (.slice AV nV cV)) (by kernel_rfl) ?_ (fun hHeld=>?_)
       ·exact HSS.out _ (hJq.below (Below.refl _ _).drew).tri
       refine tk 0 (some 103) rfl (by kernel_rfl) (by kernel_rfl) (by kernel_rfl) (fun _ _ _ h=>h) (by rfl) hHeld (fun w h=>by(try dsimp only at h);((go_simp)<;>with_reducible rfl)) ?_
       try simp only [putS]
       refine tk 2 (some 105) rfl (by kernel_rfl) (by kernel_rfl) (by kernel_rfl) (fun _ _ _ h=>h) (by rfl) hHeld (fun w h=>by(try dsimp only at h);((go_simp)<;>with_reducible rfl)) ?_
       try simp only [putS]
       refine tk 3 (some 106) rfl (by kernel_rfl) (by kernel_rfl) (by kernel_rfl) (fun _ _ _ h=>h) (by rfl) hHeld (fun w h=>by(try dsimp only at h);((go_simp)<;>with_reducible rfl)) ?_
       try simp only [putS]
       refine tk 4 (some 107) rfl (by kernel_rfl) (by kernel_rfl) (by kernel_rfl) (fun _ _ _ h=>h) (by rfl) hHeld (fun w h=>by(try dsimp only at h);((go_simp)<;>with_reducible rfl)) ?_
       try simp only [putS]
       refine tk 5 (some 108) rfl (by kernel_rfl) (by kernel_rfl) (by kernel_rfl) (fun _ _ _ h=>h) (by rfl) hHeld (fun w h=>by(try dsimp only at h);((go_simp)<;>with_reducible rfl)) ?_
       try simp only [putS]
       refine tk 6 (some 109) rfl (by kernel_rfl) (by kernel_rfl) (by kernel_rfl) (fun _ _ _ h=>h) (by rfl) hHeld (fun w h=>by(try dsimp only at h);((go_simp)<;>with_reducible rfl)) ?_
       try simp only [putS]
       refine tk 7 (some 110) rfl (by kernel_rfl) (by kernel_rfl) (by kernel_rfl) (fun _ _ _ h=>h) (by rfl) hHeld (fun w h=>by(try dsimp only at h);((go_simp)<;>with_reducible rfl)) ?_
       try simp only [putS]
       refine tk 8 (some 111) rfl (by kernel_rfl) (by kernel_rfl) (by kernel_rfl) (fun _ _ _ h=>h) (by rfl) hHeld (fun w h=>by(try dsimp only at h);((go_simp)<;>with_reducible rfl)) ?_
       try simp only [putS]
       refine tk 9 (some 112) rfl (by kernel_rfl) (by kernel_rfl) (by kernel_rfl) (fun _ _ _ h=>h) (by rfl) hHeld (fun w h=>by(try dsimp only at h);((go_simp)<;>with_reducible rfl)) ?_
       try simp only [putS]
       have o1:=hJq.ko.bx 1 _ rfl
       refine wpAnyH_ready (rs:=[1,10]) (by kernel_rfl) (by simp) ?_
       refine(AllReadyH.cons (o:=⟨some 104,_,_,_,_,_⟩) rfl (fun K hK=>?_) (AllReadyH.cons (o:=⟨some 113,_,_,_,_,_⟩) rfl (fun K hK=>?_) AllReadyH.nil))
       all_goals clear hHeld
       ·go_simp
        refine hK.out _ _ (HSS.out _ (hJq.below (Below.refl _ _).drew).tri) (fun hHeld=>?_)
        clear hK K
        try simp only [putS]
        refine wpAnyH_ready (rs:=[10]) (by kernel_rfl) (by simp) ?_
        refine AllReadyH.cons (o:=⟨some 113,_,_,_,_,_⟩) rfl (fun K hK=>?_) AllReadyH.nil
        clear hHeld
        go_simp
        refine(sl27Merge_c _ _ _ _ _ _ _ _ _ _ _ _ _ _ _ (unionI x.fVars y.fVars) x.fVars p y.fVars q _ (hV.below rInt_ok (hJq.below (Below.refl _ _).drew).be) (h1.below rInt_ok (hJq.below (Below.refl _ _).drew).be) (hrp.below rInt_ok (hJq.below (Below.refl _ _).drew).be) (h3.below rInt_ok (hJq.below (Below.refl _ _).drew).be) (hrq.below rInt_ok (hJq.below (Below.refl _ _).drew).be) (fun v hv=>(HM.out v).1 hv) Lp.out Lq.out).mono ?_
        rintro e wc ⟨Ar,nr,cr,rfl,⟨fpr,or_,frr⟩,hbc⟩
        have hJc:=(hJq.below (Below.refl _ _).drew).below hbc
        have o1c:=hJc.ko.bx 1 _ rfl
        go_wp2_with fail
        refine hK.out _ _ (HSS.out _ hJc.tri) (fun hHeld=>?_)
        clear hK K
        try simp only [putS]
        have hJb:=hJc.below ((Below.refl wc.heap.size wc).alloc (Nat.le_refl _) (.cells #[.slice Ar nr cr] 32))
        refine wpAnyH_ready (rs:=[11]) (by kernel_rfl) (by simp) ?_
        refine AllReadyH.cons (o:=⟨some 114,_,_,_,_,_⟩) rfl (fun K hK=>?_) AllReadyH.nil
        clear hHeld
        go_simp
        refine hK.out _ _ (HSS.out _ hJb.tri) (fun hHeld=>?_)
        clear hK K
        try simp only [putS]
        refine wpAnyH_ready (rs:=[12]) (by kernel_rfl) (by simp) ?_
        refine AllReadyH.cons (o:=⟨some 115,_,_,_,_,_⟩) rfl (fun K hK=>?_) AllReadyH.nil
        clear hHeld
        refine step_app1 (by rfl) _ _ 33 (by rfl) _ 24 eiIntS (rSlice_ok NB _ rInt_ok) (by rfl) hJq.ms (Below.alc (((Below.refl wq.heap.size wq).drew).trans hbc) _) hJq.be.size (by rfl) (f:=fpr) (cs:=[.slice Ar nr cr]) (y:=joinRow (unionI x.fVars y.fVars) x.fVars p y.fVars q) ⟨Ar,nr,cr,rfl,or_.belowS rInt_ok ((Below.refl _ _).alloc (Nat.le_refl _) _)⟩ frr (by intro i v hi;match i,hi with|0,hi=>(simp at hi;subst hi;simp)) (by unfold NB;omega) (Nat.le_refl _) (by omega) ?_
        intro A9 c9 w9 hM9 hb9 hg9
        obtain⟨hT9,hk9,hL9⟩:=hJb.app hg9 hM9 hb9
        have f9:=hk9.frozen 1
        have k9:=hk9.bx 1 _ rfl
        refine hK.out _ _ (HSS.out _ hT9) (fun hHeld=>?_)
        clear hK K
        try simp only [putS]
        refine tk 13 (some 116) rfl (by kernel_rfl) (by kernel_rfl) (by kernel_rfl) (fun _ _ _ h=>h) (by rfl) hHeld (fun w h=>by(try dsimp only at h);((go_simp)<;>with_reducible rfl)) ?_
        try simp only [putS]
        refine wpAnyH_ready (rs:=[14]) (by kernel_rfl) (by simp) ?_
        refine AllReadyH.cons (o:=⟨none,_,_,_,_,_⟩) rfl (fun K hK=>?_) AllReadyH.nil
        clear hHeld
        go_simp
        refine hK.out _ _ (HSS.out _ (hL9 (by omega) (by omega) (by omega) (by have:=hb0.size;omega)).tri) (fun hHeld=>?_)
        clear hK K
        try simp only [putS]
        refine wpAnyH_done (by kernel_rfl) ?_ _
        clear hHeld
        clear HSS
        go_wp2
        go_roundw
        case rel=>exact⟨j+1,A9,nR+1,c9,by omega,by go_num,by rw [HS2.out];exact hL9 (by omega) (by omega) (by omega) (by have:=hb0.size;omega)⟩
        case measure=>simp [intOf];omega
       ·go_simp
        refine(sl27Merge_c _ _ _ _ _ _ _ _ _ _ _ _ _ _ _ (unionI x.fVars y.fVars) x.fVars p y.fVars q _ (hV.below rInt_ok (hJq.below (Below.refl _ _).drew).be) (h1.below rInt_ok (hJq.below (Below.refl _ _).drew).be) (hrp.below rInt_ok (hJq.below (Below.refl _ _).drew).be) (h3.below rInt_ok (hJq.below (Below.refl _ _).drew).be) (hrq.below rInt_ok (hJq.below (Below.refl _ _).drew).be) (fun v hv=>(HM.out v).1 hv) Lp.out Lq.out).mono ?_
        rintro e wc ⟨Ar,nr,cr,rfl,⟨fpr,or_,frr⟩,hbc⟩
        have hJc:=(hJq.below (Below.refl _ _).drew).below hbc
        have o1c:=hJc.ko.bx 1 _ rfl
        go_wp2_with fail
        refine hK.out _ _ (HSS.out _ hJc.tri) (fun hHeld=>?_)
        clear hK K
        try simp only [putS]
        have hJb:=hJc.below ((Below.refl wc.heap.size wc).alloc (Nat.le_refl _) (.cells #[.slice Ar nr cr] 32))
        refine wpAnyH_ready (rs:=[1,11]) (by kernel_rfl) (by simp) ?_
        refine(AllReadyH.cons (o:=⟨some 104,_,_,_,_,_⟩) rfl (fun K hK=>?_) (AllReadyH.cons (o:=⟨some 114,_,_,_,_,_⟩) rfl (fun K hK=>?_) AllReadyH.nil))
        all_goals clear hHeld
        ·go_simp
         refine hK.out _ _ (HSS.out _ hJc.tri) (fun hHeld=>?_)
         clear hK K
         try simp only [putS]
         refine wpAnyH_ready (rs:=[11]) (by kernel_rfl) (by simp) ?_
         refine AllReadyH.cons (o:=⟨some 114,_,_,_,_,_⟩) rfl (fun K hK=>?_) AllReadyH.nil
         clear hHeld
         go_simp
         refine hK.out _ _ (HSS.out _ hJb.tri) (fun hHeld=>?_)
         clear hK K
         try simp only [putS]
         refine wpAnyH_ready (rs:=[12]) (by kernel_rfl) (by simp) ?_
         refine AllReadyH.cons (o:=⟨some 115,_,_,_,_,_⟩) rfl (fun K hK=>?_) AllReadyH.nil
         clear hHeld
         refine step_app1 (by rfl) _ _ 33 (by rfl) _ 24 eiIntS (rSlice_ok NB _ rInt_ok) (by rfl) hJq.ms (Below.alc (((Below.refl wq.heap.size wq).drew).trans hbc) _) hJq.be.size (by rfl) (f:=fpr) (cs:=[.slice Ar nr cr]) (y:=joinRow (unionI x.fVars y.fVars) x.fVars p y.fVars q) ⟨Ar,nr,cr,rfl,or_.belowS rInt_ok ((Below.refl _ _).alloc (Nat.le_refl _) _)⟩ frr (by intro i v hi;match i,hi with|0,hi=>(simp at hi;subst hi;simp)) (by unfold NB;omega) (Nat.le_refl _) (by omega) ?_
         intro A9 c9 w9 hM9 hb9 hg9
         obtain⟨hT9,hk9,hL9⟩:=hJb.app hg9 hM9 hb9
         have f9:=hk9.frozen 1
         have k9:=hk9.bx 1 _ rfl
         refine hK.out _ _ (HSS.out _ hT9) (fun hHeld=>?_)
         clear hK K
         try simp only [putS]
         refine tk 13 (some 116) rfl (by kernel_rfl) (by kernel_rfl) (by kernel_rfl) (fun _ _ _ h=>h) (by rfl) hHeld (fun w h=>by(try dsimp only at h);((go_simp)<;>with_reducible rfl)) ?_
         try simp only [putS]
         refine wpAnyH_ready (rs:=[14]) (by kernel_rfl) (by simp) ?_
         refine AllReadyH.cons (o:=⟨none,_,_,_,_,_⟩) rfl (fun K hK=>?_) AllReadyH.nil
         clear hHeld
         go_simp
         refine hK.out _ _ (HSS.out _ (hL9 (by omega) (by omega) (by omega) (by have:=hb0.size;omega)).tri) (fun hHeld=>?_)
         clear hK K
         try simp only [putS]
         refine wpAnyH_done (by kernel_rfl) ?_ _
         clear hHeld
         clear HSS
         go_wp2
         go_roundw
         case rel=>exact⟨j+1,A9,nR+1,c9,by omega,by go_num,by rw [HS2.out];exact hL9 (by omega) (by omega) (by omega) (by have:=hb0.size;omega)⟩
         case measure=>simp [intOf];omega
        ·go_simp
         refine hK.out _ _ (HSS.out _ hJb.tri) (fun hHeld=>?_)
         clear hK K
         try simp only [putS]
         have o1b:=hJb.ko.bx 1 _ rfl
         refine wpAnyH_ready (rs:=[1]) (by kernel_rfl) (by simp) ?_
         refine AllReadyH.cons (o:=⟨some 104,_,_,_,_,_⟩) rfl (fun K hK=>?_) AllReadyH.nil
         clear hHeld
         go_simp
         refine hK.out _ _ (HSS.out _ hJb.tri) (fun hHeld=>?_)
         clear hK K
         try simp only [putS]
         refine wpAnyH_ready (rs:=[12]) (by kernel_rfl) (by simp) ?_
         refine AllReadyH.cons (o:=⟨some 115,_,_,_,_,_⟩) rfl (fun K hK=>?_) AllReadyH.nil
         clear hHeld
         refine step_app1 (by rfl) _ _ 33 (by rfl) _ 24 eiIntS (rSlice_ok NB _ rInt_ok) (by rfl) hJq.ms (Below.alc (((Below.refl wq.heap.size wq).drew).trans hbc) _) hJq.be.size (by rfl) (f:=fpr) (cs:=[.slice Ar nr cr]) (y:=joinRow (unionI x.fVars y.fVars) x.fVars p y.fVars q) ⟨Ar,nr,cr,rfl,or_.belowS rInt_ok ((Below.refl _ _).alloc (Nat.le_refl _) _)⟩ frr (by intro i v hi;match i,hi with|0,hi=>(simp at hi;subst hi;simp)) (by unfold NB;omega) (Nat.le_refl _) (by omega) ?_
         intro A9 c9 w9 hM9 hb9 hg9
         obtain⟨hT9,hk9,hL9⟩:=hJb.app hg9 hM9 hb9
         have f9:=hk9.frozen 1
         have k9:=hk9.bx 1 _ rfl
         refine hK.out _ _ (HSS.out _ hT9) (fun hHeld=>?_)
         clear hK K
         try simp only [putS]
         refine tk 13 (some 116) rfl (by kernel_rfl) (by kernel_rfl) (by kernel_rfl) (fun _ _ _ h=>h) (by rfl) hHeld (fun w h=>by(try dsimp only at h);((go_simp)<;>with_reducible rfl)) ?_
         try simp only [putS]
         refine wpAnyH_ready (rs:=[14]) (by kernel_rfl) (by simp) ?_
         refine AllReadyH.cons (o:=⟨none,_,_,_,_,_⟩) rfl (fun K hK=>?_) AllReadyH.nil
         clear hHeld
         go_simp
         refine hK.out _ _ (HSS.out _ (hL9 (by omega) (by omega) (by omega) (by have:=hb0.size;omega)).tri) (fun hHeld=>?_)
         clear hK K
         try simp only [putS]
         refine wpAnyH_done (by kernel_rfl) ?_ _
         clear hHeld
         clear HSS
         go_wp2
         go_roundw
         case rel=>exact⟨j+1,A9,nR+1,c9,by omega,by go_num,by rw [HS2.out];exact hL9 (by omega) (by omega) (by omega) (by have:=hb0.size;omega)⟩
         case measure=>simp [intOf];omega
     ·have HX:Hid (cap4 (R0++nestRows (fun p q=>if p[t]?=some val then joinBy x y p q else none) (x.fRows.take (k+1)) y.fRows)=cap4 (R0++nestRows (fun p q=>if p[t]?=some val then joinBy x y p q else none) (x.fRows.take k) y.fRows++(y.fRows.take j).filterMap ((fun p q=>if p[t]?=some val then joinBy x y p q else none) p))):=by
       show _=_
       rw [HS.out,<- List.append_assoc]
       exact cap4_stop _ (by rw [hRl.out];omega)
      go_wp2
      go_roundw
      case rel=>exact⟨k+1,AR,nR,cR,by omega,by go_num,by rw [HX.out];exact hJ⟩
      case measure=>simp [intOf];omega
    ·have HX:Hid (cap4 (R0++nestRows (fun p q=>if p[t]?=some val then joinBy x y p q else none) (x.fRows.take (k+1)) y.fRows)=cap4 (R0++nestRows (fun p q=>if p[t]?=some val then joinBy x y p q else none) (x.fRows.take k) y.fRows++(y.fRows.take j).filterMap ((fun p q=>if p[t]?=some val then joinBy x y p q else none) p))):=by
      show _=_
      rw [HS.out,<- List.append_assoc,take_all HLY.out hlt2]
     go_wp2
     go_roundw
     case rel=>exact⟨k+1,AR,nR,cR,by omega,by go_num,by rw [HX.out];exact hJ⟩
     case measure=>simp [intOf];omega
  ·rw [take_all HLX.out hlt]at hJ
   have ko0:=hJ.ko.bx 0 _ rfl
   have ko1:=hJ.ko.bx 1 _ rfl
   have rf0:=hJ.kr.frozen 0
   have rf1:=hJ.kr.frozen 1
   have rc0:=hJ.kr.bx 0 _ rfl
   have rc1:=hJ.kr.bx 1 _ rfl
   have rl:=hJ.kr.lt
   go_wp2
   have bk3:=(hJ.kr.set 0 (.slice AV nV cV)).set 1 (.slice AR nR cR)
   have q0:=bk3.bx 0 _ rfl
   have q1:=bk3.bx 1 _ rfl
   refine bodyPost_ret (v:=.agg #[.slice AV nV cV,.slice AR nR cR]) (by simp [results,Tryz.results205,go_sem,q0,q1]) rfl ⟨AR,nR,cR,rfl,?_,(hJ.be.setCell (by have:=hb0.size;simp only;omega) _).setCell (by have:=hb0.size;simp only;omega) _⟩
   obtain⟨fp,o,fr⟩:=hJ.ms
   have hn:=o.neII hJ.kr neS1 neS2
   refine⟨fp,o.okeep (rSlice_ok NB _ rInt_ok) (fun z hz=>?_),fr⟩
   exact(heap_setCell_other _ ⟨w.heap.size+1+1+1,1,none⟩ z _ (fun e=>hn ((show z=w.heap.size+1+1+1 from e)▸hz))).trans (heap_setCell_other _ ⟨w.heap.size+1+1+1,0,none⟩ z _ (fun e=>hn ((show z=w.heap.size+1+1+1 from e)▸hz)))
end Go.Proofs.YtpodldagcnfhlaaGreat
