/-
  Trip
-/
import Derived.Test.YtblbnbfghlkkfaaGreatOper
import Derived.Test.YtblbnbfghlkkfaaGreatCopy
namespace Go.Proofs.YtblbnbfghlkkfaaGreat
open Go.RowKit
set_option linter.unusedVariables false
set_option linter.unusedSimpArgs false
attribute [local go_sem ↓] Go.wp_at_zero Go.wp_at_succ

def costL (o:OperatorD):List Int->Int
 | [a,b,c]=>opCost o (clsSize a) (clsSize b) (clsSize c)
 | _=>0
/-- three classes -/
def Trip (l:List Int):Prop:=∃ a b c,l=[a,b,c]/\(0<=a/\a<=7)/\(0<=b/\b<=7)/\0<=c/\c<=7
theorem Trip.bd {o:OperatorD}{l:List Int}(h:Trip l) (hv:validOp o=true):-2000000000<=costL o l/\costL o l<=2000000000:=by
 obtain⟨a,b,c,rfl,ha,hb,hc⟩:=h
 exact opCost_bd hv (clsSize_bd ha.1 ha.2) (clsSize_bd hb.1 hb.2) (clsSize_bd hc.1 hc.2)
theorem Trip.len {l:List Int}(h:Trip l):l.length=3:=by obtain⟨a,b,c,rfl,_⟩:=h;rfl
theorem Trip.at_ {l:List Int}(h:Trip l) {k:Nat}{x:Int}(hk:l[k]?=some x):0<=x/\x<=7:=by
 obtain⟨a,b,c,rfl,ha,hb,hc⟩:=h
 have:=lt_of_at hk
 simp at this
 have:k=0\/k=1\/k=2:=by omega
 rcases this with rfl|rfl|rfl<;>(simp at hk;subst hk;omega)
theorem Trip.set {l:List Int}(h:Trip l) {k:Nat}{x:Int}(hx:0<=x/\x<=7):Trip (l.set k x):=by
 obtain⟨a,b,c,rfl,ha,hb,hc⟩:=h
 match k with
 | 0=>exact⟨x,b,c,rfl,hx,hb,hc⟩
 | 1=>exact⟨a,x,c,rfl,ha,hx,hc⟩
 | 2=>exact⟨a,b,x,rfl,ha,hb,hx⟩
 | k+3=>exact⟨a,b,c,rfl,ha,hb,hc⟩

set_option maxRecDepth 100000 in
set_option maxHeartbeats 1600000 in
theorem sTripleCost_c (csx:List Value) (x:OperatorD) (At:Option Addr) (nt ct:Nat) (t:List Int) (w:World) (hx:(rOperator NB).rep w csx x) (ht:RS NB rInt w At nt ct t) (hv:validOp x=true) (hT:Trip t) :
  Calls Tryz.prog 150 #[.agg csx.toArray,.slice At nt ct] w fun e w'=>e=.returned (.int .i64 (costL x t))/\Below w.heap.size w w':=by
 obtain⟨a,b,c,rfl,ha,hb,hc⟩:=hT
 have rx:=hx
 obtain⟨AxSteps,nxSteps,cxSteps,rfl,hxFixed,hxPerLeft,hxPerRight,hxPerOutput,hxPerPair,hxSteps⟩:=rOperator_rep.1 hx
 clear hx
 have hB:Below w.heap.size w w:=Below.refl _ _
 have hAx:=(Below.refl (World.heap (w)).size (w)).alloc (Nat.le_refl _) (.cells #[.int .i64 x.fFixed,.int .i64 x.fPerLeft,.int .i64 x.fPerRight,.int .i64 x.fPerOutput,.int .i64 x.fPerPair,.slice AxSteps nxSteps cxSteps] 26)
 replace hB:=hB.trans (hAx.mono hB.size)
 have bxx:=Bx.new (w) [.int .i64 x.fFixed,.int .i64 x.fPerLeft,.int .i64 x.fPerRight,.int .i64 x.fPerOutput,.int .i64 x.fPerPair,.slice AxSteps nxSteps cxSteps] 26
 clear hAx
 obtain rfl:nt=3:=by have:=ht.len;simpa using this.symm
 have sa:=clsSize_bd ha.1 ha.2
 have sb:=clsSize_bd hb.1 hb.2
 have sc:=clsSize_bd hc.1 hc.2
 have HF:Hid (opCostV x (clsSize a) (clsSize b) (clsSize c)=opCost x (clsSize a) (clsSize b) (clsSize c)):=by show opCostV _ _ _ _=_;rw [opCostV,hv,inR_t.2 sa,inR_t.2 sb,inR_t.2 sc];rfl
 obtain⟨bt,ot,a',rfl,ka,_,ea⟩:=(ht.below rInt_ok hB).ati (k:=0) (by omega)
 obtain⟨bt2,ot2,b',e2,kb,_,eb⟩:=(ht.below rInt_ok hB).ati (k:=1) (by omega)
 injection e2 with e2;injection e2 with e2 e3;subst e2;subst e3
 obtain⟨bt2,ot2,c',e2,kc,_,ec⟩:=(ht.below rInt_ok hB).ati (k:=2) (by omega)
 injection e2 with e2;injection e2 with e2 e3;subst e2;subst e3
 obtain rfl:a'=a:=by have:=ea.out;simpa using this.symm
 obtain rfl:b'=b:=by have:=eb.out;simpa using this.symm
 obtain rfl:c'=c:=by have:=ec.out;simpa using this.symm
 clear ea eb ec ha hb hc
 simp only [Nat.add_zero]at ka
 clear hv
 obtain⟨wa,hwa⟩:∃ wa,wa=w.alloc (.cells #[.int .i64 x.fFixed,.int .i64 x.fPerLeft,.int .i64 x.fPerRight,.int .i64 x.fPerOutput,.int .i64 x.fPerPair,.slice AxSteps nxSteps cxSteps] 26):=⟨_,rfl⟩
 go_enter Tryz.func150,Tryz.ntmps150
 go_wp2
 rw [<- hwa]at hB bxx ka kb kc ⊢
 clear hwa
 have kx_0:=bxx 0 _ rfl
 have kx_1:=bxx 1 _ rfl
 have kx_2:=bxx 2 _ rfl
 have kx_3:=bxx 3 _ rfl
 have kx_4:=bxx 4 _ rfl
 have kx_5:=bxx 5 _ rfl
 have SS:∀ w',Below wa.heap.size wa w'->(w'.cell? ⟨bt,ot,none⟩=some (.int .i64 a')/\w'.cell? ⟨bt,ot+1,none⟩=some (.int .i64 b')/\w'.cell? ⟨bt,ot+2,none⟩=some (.int .i64 c')/\w'.cell? ⟨w.heap.size,0,none⟩=some (.int .i64 x.fFixed)/\w'.cell? ⟨w.heap.size,1,none⟩=some (.int .i64 x.fPerLeft)/\w'.cell? ⟨w.heap.size,2,none⟩=some (.int .i64 x.fPerRight)/\w'.cell? ⟨w.heap.size,3,none⟩=some (.int .i64 x.fPerOutput)/\w'.cell? ⟨w.heap.size,4,none⟩=some (.int .i64 x.fPerPair)/\w'.cell? ⟨w.heap.size,5,none⟩=some (.slice AxSteps nxSteps cxSteps)):=fun w' hb=>⟨cells_below hb _ _ ka,cells_below hb _ _ kb,cells_below hb _ _ kc,cells_below hb _ _ kx_0,cells_below hb _ _ kx_1,cells_below hb _ _ kx_2,cells_below hb _ _ kx_3,cells_below hb _ _ kx_4,cells_below hb _ _ kx_5⟩
 have HSS:=Lib.hid SS;clear SS ka kb kc kx_0 kx_1 kx_2 kx_3 kx_4 kx_5
 have HB:=Lib.hid hB.drew
 go_region_held3 (fun w'=>w'.cell? ⟨bt,ot,none⟩=some (.int .i64 a')/\w'.cell? ⟨bt,ot+1,none⟩=some (.int .i64 b')/\w'.cell? ⟨bt,ot+2,none⟩=some (.int .i64 c')/\w'.cell? ⟨w.heap.size,0,none⟩=some (.int .i64 x.fFixed)/\w'.cell? ⟨w.heap.size,1,none⟩=some (.int .i64 x.fPerLeft)/\w'.cell? ⟨w.heap.size,2,none⟩=some (.int .i64 x.fPerRight)/\w'.cell? ⟨w.heap.size,3,none⟩=some (.int .i64 x.fPerOutput)/\w'.cell? ⟨w.heap.size,4,none⟩=some (.int .i64 x.fPerPair)/\w'.cell? ⟨w.heap.size,5,none⟩=some (.slice AxSteps nxSteps cxSteps)) (first|exact HSS.out _ (Below.refl _ _).drew|exact HSS.out _ hC5) ((first|(go_at_call 85;refine(sClassSize_q _ _).mono ?_;rintro e w' ⟨rfl,rfl⟩)|(go_at_call 122;refine(sOpCost_c _ x _ _ _ _ ?_).mono ?_;exact((rOperator_ok NB).keep rx (cells_below HB.out));rintro e w5 ⟨rfl,hb5⟩;have hC5:Below wa.heap.size wa w5:=Below.trans (Below.refl wa.heap.size wa).drew hb5)))
 all_goals
  go_wp2
  go_ret
  exact⟨ret_int HF.out,hB.trans (hC5.mono hB.size)⟩
end Go.Proofs.YtblbnbfghlkkfaaGreat
