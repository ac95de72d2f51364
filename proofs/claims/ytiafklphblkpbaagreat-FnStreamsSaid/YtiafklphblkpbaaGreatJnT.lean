/-
  JnT
-/
import Derived.Test.YtiafklphblkpbaaGreatKeep
import Derived.Test.YtiafklphblkpbaaGreatJnI
import Derived.Test.YtiafklphblkpbaaGreatOper
namespace Go.Proofs.YtiafklphblkpbaaGreat
open Go.RowKit
set_option linter.unusedVariables false
set_option linter.unusedSimpArgs false

/-- of a row of rows the blocks are of two types alone -/
theorem OS.neII {M M':Nat}{eS eI t:TypeId}{w:World}{fp:List Nat}{A:Option Addr}{n cap:Nat}{l:List (List Int)}{g:Nat}{cs:List Value}(o:OS M eS (rSlice M' eI rInt) w fp A n cap l) (hk:Bk w g t cs) (h1:t≠eS) (h2:t≠eI):g∉fp:=by
 have one:∀ {e:TypeId} {size:Nat} {A:Option Addr} {n cap:Nat} {xs:List Value},w.ownsRow 0 e size (.slice A n cap) n xs->t≠e->g∉blk A:=by
  intro e size A n cap xs h hne hm
  rcases h.2 with ⟨e1,_⟩|⟨g',c,cur,e1,_,q,_⟩
  ·injection e1 with e1;subst e1;simp [blk]at hm
  ·injection e1 with e1;subst e1
   simp [blk]at hm;subst hm
   unfold Bk at hk;rw [hk]at q
   injection q with q;injection q with q1 q2;exact hne q2
 obtain⟨css,fps,hown,rfl,h3⟩:=o.ex
 rw [List.mem_append]
 rintro(hm|hm)
 ·exact one hown h1 hm
 ·obtain⟨f,hf,hg⟩:=List.mem_flatten.1 hm
  obtain⟨i,hi,rfl⟩:=List.getElem_of_mem hf
  obtain⟨f',c,q1,_,q3⟩:=h3.get (List.getElem?_eq_getElem (l:=l) (i:=i) (by rw [<- h3.lens.1];exact hi))
  rw [List.getElem?_eq_getElem hi]at q1;injection q1 with q1
  obtain⟨A',n',c',_,o'⟩:=q3
  obtain⟨e1,_,hown',_⟩:=osInt.1 o'
  rw [q1,e1]at hg
  exact one hown' h2 hg
theorem MS.neII {B M M':Nat}{eS eI t:TypeId}{w:World}{A:Option Addr}{n cap:Nat}{l:List (List Int)}{g:Nat}{cs:List Value}(o:MS B M eS (rSlice M' eI rInt) w A n cap l) (hk:Bk w g t cs) (h1:t≠eS) (h2:t≠eI):g∉blk A:=by
 obtain⟨fp,o,_⟩:=o
 have:=o.neII hk h1 h2
 obtain⟨css,fps,_,rfl,_⟩:=o.ex
 exact fun h=>this (List.mem_append_left _ h)
theorem Bk.grown {w w':World}{g:Nat}{t:TypeId}{cs:List Value}{A:Option Addr}(h:Bk w g t cs) (hg:w.grownBy w' (A.map (·.block))) (hn:g∉blk A):Bk w' g t cs :=
 (hg.block g h.lt (fun e=>hn (mem_blk.2 e.symm))).trans h
theorem step_app1 {α:Type}{r:Rp α}{B M:Nat}{e:TypeId}{w:World}{A:Option Addr}{n cap:Nat}{l:List α}{P:Program}{ops:Array Oper}{o:Oper}{a:Act}{K:Act->World->Prop}{Q:Exit->Act->World->Prop}{E:Prop}(hgd:o.guard=none) (s x:Operand) (t:TypeId)
  (ho:o.op=.call { callee:=.builtin .append,args:=#[s,x],argTypes:=#[t,t] }) (z:Value) (bytes:Nat) (ei:Ei P t e z r.size bytes) (hr:r.Ok) {wr:World}
  (hs:a.eval s=.slice A n cap) (h:MS B M e r wr A n cap l) (hb:Below wr.heap.size wr w) (hB:B<=wr.heap.size)
  {b off:Nat} (hx:a.eval x=.slice (some ⟨b,off,none⟩) 1 1) {f:List Nat} {cs:List Value} {y:α} (hy:r.own w f cs y) (hf:Fr wr.heap.size f) (hc:∀ i v,cs[i]?=some v->w.cell? ⟨b,off+i,none⟩=some v)
  (hn:n+1<=M) (hM:M<=4294967296) (hby:(n+1)*bytes<=140737488355328)
  (hK:∀ A' cap' w',MS B M e r w' A' (n+1) cap' (l++[y])->Below B w w'->w.grownBy w' (A.map (·.block))->K (a.put o.dst (.slice A' (n+1) cap')) w') :
  if Region.wanted o (yielded ops a.tmps)=true then Oper.wp P o a w K Q else E:=by
 have hw:Region.wanted o (yielded ops a.tmps)=true:=by simp [Region.wanted,hgd]
 rw [if_pos hw]
 obtain⟨A',cap',w',hrun,g1,g2,g3⟩:=run_apps (P:=P) o.type t z bytes ei hr h hb hB (A2:=some ⟨b,off,none⟩) (n2:=1) (cap2:=1) (l2:=[y]) (fs2:=[f]) (css2:=[cs]) ⟨hy,trivial⟩ rfl (by simpa using hf) (fun _=>⟨b,off,rfl,fun j c hj i v hi=>by
  match j,hj with
  | 0,hj=>simp at hj;subst hj;simpa using hc i v hi⟩) hn hM hby
 unfold Oper.wp execOp
 simp only [ho,resolve,invoke,builtin,Sem.run_bind,Sem.run_pure,Result.andThen_ok,List.map_toArray,List.map_cons,List.map_nil,hs,hx,hrun]
 exact hK _ _ _ g1 g2 g3
theorem neS1:(51:TypeId)≠24:=by decide
theorem neS2:(51:TypeId)≠3:=by decide
/-- the walk's world in l27Join: the three boxes, the rows so far -/
structure Lj (w0:World) (ga gb go gr:Nat) (ca cb:List Value) (V:Value) (rows:List (List Int)) (AR:Option Addr) (nR cR:Nat) (w:World):Prop where
 ka:Bk w ga 51 ca
 kb:Bk w gb 51 cb
 ko:Bk w go 51 [V,.slice AR nR cR]
 ms:MS w0.heap.size NB 24 (rSlice NB 3 rInt) w AR nR cR rows
 kr:Bk w gr 51 [.slice none 0 0,.slice none 0 0]
 be:Below w0.heap.size w0 w
theorem Lj.below {w0 w w':World}{ga gb go gr:Nat}{ca cb:List Value}{V:Value}{rows:List (List Int)}{AR:Option Addr}{nR cR:Nat}(h:Lj w0 ga gb go gr ca cb V rows AR nR cR w) (hb:Below w.heap.size w w'):Lj w0 ga gb go gr ca cb V rows AR nR cR w' :=
 ⟨h.ka.below hb,h.kb.below hb,h.ko.below hb,h.ms.below (rSlice_ok NB _ rInt_ok) hb,h.kr.below hb,h.be.trans (hb.mono h.be.size)⟩
/-- the three boxes alone -/
def Tri (ga gb go:Nat) (ca cb:List Value) (V:Value) (w:World):Prop:=Bk w ga 51 ca/\Bk w gb 51 cb/\∃ r,Bk w go 51 [V,r]
theorem Lj.tri {w0 w:World}{ga gb go gr:Nat}{ca cb:List Value}{V:Value}{rows:List (List Int)}{AR:Option Addr}{nR cR:Nat}(h:Lj w0 ga gb go gr ca cb V rows AR nR cR w):Tri ga gb go ca cb V w:=⟨h.ka,h.kb,_,h.ko⟩
/-- behind the append of a row, and its store -/
theorem Lj.app {w0 w w':World}{ga gb go gr:Nat}{ca cb:List Value}{V:Value}{rows rows':List (List Int)}{AR AR':Option Addr}{nR cR nR' cR':Nat}(h:Lj w0 ga gb go gr ca cb V rows AR nR cR w) (hg:w.grownBy w' (AR.map (·.block))) (hm:MS w0.heap.size NB 24 (rSlice NB 3 rInt) w' AR' nR' cR' rows') (hb:Below w0.heap.size w w') :
  Tri ga gb go ca cb V w'/\Bk w' go 51 [V,.slice AR nR cR]/\(ga≠go->gb≠go->gr≠go->w0.heap.size<=go->Lj w0 ga gb go gr ca cb V rows' AR' nR' cR' (w'.setCell ⟨go,1,none⟩ (.slice AR' nR' cR'))):=by
 have k1:=h.ka.grown hg (h.ms.neII h.ka neS1 neS2)
 have k2:=h.kb.grown hg (h.ms.neII h.kb neS1 neS2)
 have k3:=h.ko.grown hg (h.ms.neII h.ko neS1 neS2)
 have k4:=h.kr.grown hg (h.ms.neII h.kr neS1 neS2)
 refine⟨⟨k1,k2,_,k3⟩,k3,fun n1 n2 n3 n4=>?_⟩
 have oth:∀ {g:Nat} {cs:List Value},Bk w' g 51 cs->g≠go->Bk (w'.setCell ⟨go,1,none⟩ (.slice AR' nR' cR')) g 51 cs:=fun {g cs} hk hn=>(heap_setCell_other w' ⟨go,1,none⟩ g _ (fun e=>hn e)).trans hk
 refine⟨oth k1 n1,oth k2 n2,k3.set 1 _,?_,oth k4 n3,(h.be.trans hb).setCell n4 _⟩
 obtain⟨fp,o,fr⟩:=hm
 have hn:=o.neII k3 neS1 neS2
 exact⟨fp,o.okeep (rSlice_ok NB _ rInt_ok) (fun z hz=>heap_setCell_other w' ⟨go,1,none⟩ z _ (fun e=>hn (by rw [<- show z=go from e];exact hz))),fr⟩
theorem Tri.below {w w':World}{ga gb go:Nat}{ca cb:List Value}{V:Value}(h:Tri ga gb go ca cb V w) (hb:Below w.heap.size w w'):Tri ga gb go ca cb V w':=by
 obtain⟨h1,h2,r,h3⟩:=h;exact⟨h1.below hb,h2.below hb,r,h3.below hb⟩
theorem cap4_stop {α γ:Type}{f:α->Option γ}{ys:List α}{j:Nat}(R:List γ) (h:¬ (cap4 (R++(ys.take j).filterMap f)).length<=4096):cap4 (R++ys.filterMap f)=cap4 (R++(ys.take j).filterMap f):=by
 have e:ys.filterMap f=(ys.take j).filterMap f++(ys.drop j).filterMap f:=by rw [<- List.filterMap_append,List.take_append_drop]
 rw [e,<- List.append_assoc];exact cap4_full _ h
theorem cap4_fmt {α γ:Type}{f:α->Option γ}{ys:List α}{k:Nat}{y:α}(r:List γ) (h:ys[k]?=some y):r++(ys.take (k+1)).filterMap f=(r++(ys.take k).filterMap f)++(f y).toList:=by rw [fm_snoc h,List.append_assoc]

end Go.Proofs.YtiafklphblkpbaaGreat
