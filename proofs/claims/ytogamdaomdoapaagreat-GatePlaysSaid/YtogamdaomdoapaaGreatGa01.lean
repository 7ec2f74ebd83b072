/- Texts put together: Kit, Plain, W1, ItPl, Own, Open, Bytes, Bw, Num. -/
import Derived.Test.YtogamdaomdoapaaGreatChecked
import Derived.BigQuiet
import Derived.BigRegion
import Derived.ChangeSame
import Derived.Deep.Fields
import Derived.Deep.RegionHeld3
import Derived.Deep.Slices
import Derived.Laws.AppendOwnNone
import Derived.Lib.Hide
import Derived.Lib.SmallJoins
import Derived.Lib.Strings
import Derived.OpenShut
import Derived.Outline
import Derived.ProofKit
import Derived.RegionTactic
import Derived.ShutString
import Derived.SizedLaws
import Derived.StillTailTactics
import Derived.WalkKit
import Derived.WalkLawsBesides
import Derived.WalkSpells
import GoSem.Op.String
namespace Go.Proofs.YtogamdaomdoapaaGreat
open Go.Value renaming int→aI,string→aS,bool→aB
open Go.RowKit
theorem a0w {W w1:World} (hb:Below W.heap.size W w1):(∀ b o,b<W.heap.size→w1.cell? ⟨b,o,none⟩=W.cell? ⟨b,o,none⟩)∧(∀ b o,b<W.heap.size→w1.frozen? ⟨b,o,none⟩=W.frozen? ⟨b,o,none⟩) :=
 ⟨fun b o h=>hb.cell (p:=⟨b,o,none⟩) h,fun b o h=>hb.frozen (p:=⟨b,o,none⟩) h⟩
@[go_sem] theorem lt_two (n:Nat):n<n+1+1:=by omega
@[go_sem] theorem lt_three (n:Nat):n<n+1+1+1:=by omega
@[go_sem] theorem lt_four (n:Nat):n<n+1+1+1+1:=by omega
@[go_sem] theorem lt_five (n:Nat):n<n+1+1+1+1+1:=by omega
@[go_sem] theorem lt_six (n:Nat):n<n+1+1+1+1+1+1:=by omega
theorem a0z {B:Nat} {a w:World} {n:Nat} (h:Below B a w):Below B a (w.drewN n):=⟨h.os,h.tape,h.output,h.size,h.block⟩
theorem a0e {P:Program} {f:FuncId} {args:Array Value} {R:Ending→World→Prop} {w:World} (h:∀ w3,w3=w→Calls P f args w3 R):Calls P f args w R:=h w rfl
theorem a0d {P:Program} {c:Code} {Q:Exit→Act→World→Prop} {a:Act} {w:World} (h:∀ w3,w3=w→c.wp P Q a w3):c.wp P Q a w:=h w rfl
theorem v0i (w3:World):Below w3.heap.size w3 w3.drew∧∀ b o,b<w3.heap.size→w3.drew.cell? ⟨b,o,none⟩=w3.cell? ⟨b,o,none⟩ :=
 ⟨(Below.refl _ _).drew,fun _ _ _=>rfl⟩
theorem v0h {w3 W W':World} (h:Below w3.heap.size w3 W∧∀ b o,b<w3.heap.size→W.cell? ⟨b,o,none⟩=w3.cell? ⟨b,o,none⟩) (hb:Below W.heap.size W W') :
 Below w3.heap.size w3 W'∧∀ b o,b<w3.heap.size→W'.cell? ⟨b,o,none⟩=w3.cell? ⟨b,o,none⟩ :=
 ⟨h.1.trans (hb.mono h.1.size),fun b o hbo=>(a0w (h.1.trans (hb.mono h.1.size))).1 b o hbo⟩
structure Gr (w:World) where
 to:World
 below:Below w.heap.size w to
instance grThere (w:World):Nonempty (Gr w):=⟨⟨w,Below.refl _ _⟩⟩
def gr (w:World) (g:Gr w):World:=g.to
@[go_sem] theorem gr_cell (w:World) (g:Gr w) (b o:Nat) (h:b<w.heap.size):(gr w g).cell? ⟨b,o,none⟩=w.cell? ⟨b,o,none⟩:=g.below.cell (p:=⟨b,o,none⟩) h
@[go_sem] theorem gr_frozen (w:World) (g:Gr w) (b o:Nat) (h:b<w.heap.size):(gr w g).frozen? ⟨b,o,none⟩=w.frozen? ⟨b,o,none⟩:=g.below.frozen (p:=⟨b,o,none⟩) h
theorem a0f (w:World) (g:Gr w):Below w.heap.size w (gr w g):=g.below
theorem gr_le (w:World) (g:Gr w):w.heap.size≤(gr w g).heap.size:=g.below.size
theorem o0d {P:Program} {id:Nat} {Q:Exit→Act→World→Prop} {a:Act} {w:World} {l:List Oper} (hm:P.follows .mixedOrders=true) (hB:Region.lexB .any l.toArray=true)
 (h:wpQuiet P l.toArray (fun w'=>∃ g,w'=gr w g) (fun a'=>∀ w',(∃ g,w'=gr w g)→Q .normal a' w') l a):(Code.region id l.toArray true).wp P Q a w :=
 wp_region_quiet (C:=fun w'=>∃ g,w'=gr w g) hm hB ⟨⟨w.drew,(Below.refl _ _).drew⟩,rfl⟩ (by simpa using h)
theorem grA {P:Program} {id:Nat} {Q:Exit→Act→World→Prop} {a:Act} {w:World} {l:List Oper} (h:wpQuiet P l.toArray (fun w'=>∃ g,w'=gr w g) (fun a'=>∀ w',(∃ g,w'=gr w g)→Q .normal a' w') l a) (hm:P.follows .mixedOrders=true:=by kernel_rfl) (hB:Region.lexB .any l.toArray=true:=by kernel_rfl):(Code.region id l.toArray true).wp P Q a w :=
 o0d hm hB h
theorem grN {P:Program} {ops:Array Oper} {Q:Exit→Act→World→Prop} {a:Act} {w:World} (h:∀ g:Gr w,Q .normal a (gr w g)):wpQuiet P ops (fun w'=>∃ g,w'=gr w g) (fun a'=>∀ w',(∃ g,w'=gr w g)→Q .normal a' w') [] a:=by
 refine wpQuiet_nil ?_
 rintro w' ⟨g,rfl⟩
 exact h g
theorem bg {n:Nat} {a w:World} (h:Below n a w:=by repeat (first | with_reducible exact Below.refl _ _ | with_reducible assumption | with_reducible refine Below.drew ?_ | with_reducible refine a0z ?_ | with_reducible refine Below.alloc ?_ (by first | omega | (simp;done) | (simp;omega) | (simp at *;omega)) _ | with_reducible refine Below.setCell ?_ (by first | omega | (simp;done) | (simp;omega) | (simp at *;omega)) _ | with_reducible refine Below.trans ?_ (Below.mono (by assumption) (by first | omega | (simp;done) | (simp;omega) | (simp at *;omega))))):Below n a w:=h
theorem kk1 {w t:World} (e:w=t) (b0 o0:Nat) (v0:Value) (h:t.cell? ⟨b0,o0,none⟩=some v0:=by go_simp):w.cell? ⟨b0,o0,none⟩=some v0:=e▸h
theorem kk2 {w t:World} (e:w=t) (b0 o0:Nat) (v0:Value) (b1 o1:Nat) (v1:Value) (h:t.cell? ⟨b0,o0,none⟩=some v0∧t.cell? ⟨b1,o1,none⟩=some v1:=by refine ⟨?_,?_⟩<;>go_simp):w.cell? ⟨b0,o0,none⟩=some v0∧w.cell? ⟨b1,o1,none⟩=some v1:=e▸h
theorem ff2 {w t:World} (e:w=t) (b0 o0:Nat) (b1 o1:Nat) (h:t.frozen? ⟨b0,o0,none⟩=false∧t.frozen? ⟨b1,o1,none⟩=false:=by refine ⟨?_,?_⟩<;>go_simp):w.frozen? ⟨b0,o0,none⟩=false∧w.frozen? ⟨b1,o1,none⟩=false:=e▸h
theorem kk4 {w t:World} (e:w=t) (b0 o0:Nat) (v0:Value) (b1 o1:Nat) (v1:Value) (b2 o2:Nat) (v2:Value) (b3 o3:Nat) (v3:Value) (h:t.cell? ⟨b0,o0,none⟩=some v0∧t.cell? ⟨b1,o1,none⟩=some v1∧t.cell? ⟨b2,o2,none⟩=some v2∧t.cell? ⟨b3,o3,none⟩=some v3:=by refine ⟨?_,?_,?_,?_⟩<;>go_simp):w.cell? ⟨b0,o0,none⟩=some v0∧w.cell? ⟨b1,o1,none⟩=some v1∧w.cell? ⟨b2,o2,none⟩=some v2∧w.cell? ⟨b3,o3,none⟩=some v3:=e▸h
theorem ff4 {w t:World} (e:w=t) (b0 o0:Nat) (b1 o1:Nat) (b2 o2:Nat) (b3 o3:Nat) (h:t.frozen? ⟨b0,o0,none⟩=false∧t.frozen? ⟨b1,o1,none⟩=false∧t.frozen? ⟨b2,o2,none⟩=false∧t.frozen? ⟨b3,o3,none⟩=false:=by refine ⟨?_,?_,?_,?_⟩<;>go_simp):w.frozen? ⟨b0,o0,none⟩=false∧w.frozen? ⟨b1,o1,none⟩=false∧w.frozen? ⟨b2,o2,none⟩=false∧w.frozen? ⟨b3,o3,none⟩=false:=e▸h
theorem kk6 {w t:World} (e:w=t) (b0 o0:Nat) (v0:Value) (b1 o1:Nat) (v1:Value) (b2 o2:Nat) (v2:Value) (b3 o3:Nat) (v3:Value) (b4 o4:Nat) (v4:Value) (b5 o5:Nat) (v5:Value) (h:t.cell? ⟨b0,o0,none⟩=some v0∧t.cell? ⟨b1,o1,none⟩=some v1∧t.cell? ⟨b2,o2,none⟩=some v2∧t.cell? ⟨b3,o3,none⟩=some v3∧t.cell? ⟨b4,o4,none⟩=some v4∧t.cell? ⟨b5,o5,none⟩=some v5:=by refine ⟨?_,?_,?_,?_,?_,?_⟩<;>go_simp):w.cell? ⟨b0,o0,none⟩=some v0∧w.cell? ⟨b1,o1,none⟩=some v1∧w.cell? ⟨b2,o2,none⟩=some v2∧w.cell? ⟨b3,o3,none⟩=some v3∧w.cell? ⟨b4,o4,none⟩=some v4∧w.cell? ⟨b5,o5,none⟩=some v5:=e▸h
theorem ff7 {w t:World} (e:w=t) (b0 o0:Nat) (b1 o1:Nat) (b2 o2:Nat) (b3 o3:Nat) (b4 o4:Nat) (b5 o5:Nat) (b6 o6:Nat) (h:t.frozen? ⟨b0,o0,none⟩=false∧t.frozen? ⟨b1,o1,none⟩=false∧t.frozen? ⟨b2,o2,none⟩=false∧t.frozen? ⟨b3,o3,none⟩=false∧t.frozen? ⟨b4,o4,none⟩=false∧t.frozen? ⟨b5,o5,none⟩=false∧t.frozen? ⟨b6,o6,none⟩=false:=by refine ⟨?_,?_,?_,?_,?_,?_,?_⟩<;>go_simp):w.frozen? ⟨b0,o0,none⟩=false∧w.frozen? ⟨b1,o1,none⟩=false∧w.frozen? ⟨b2,o2,none⟩=false∧w.frozen? ⟨b3,o3,none⟩=false∧w.frozen? ⟨b4,o4,none⟩=false∧w.frozen? ⟨b5,o5,none⟩=false∧w.frozen? ⟨b6,o6,none⟩=false:=e▸h
theorem kb3 {w t:World} (e:w=t) (b:Nat) (o0:Nat) (v0:Value) (o1:Nat) (v1:Value) (o2:Nat) (v2:Value) (h:t.cell? ⟨b,o0,none⟩=some v0∧t.cell? ⟨b,o1,none⟩=some v1∧t.cell? ⟨b,o2,none⟩=some v2:=by refine ⟨?_,?_,?_⟩<;>go_simp):w.cell? ⟨b,o0,none⟩=some v0∧w.cell? ⟨b,o1,none⟩=some v1∧w.cell? ⟨b,o2,none⟩=some v2:=e▸h
theorem kz3 {w t:World} (e:w=t) (b:Nat) (v0 v1 v2:Value) (h:t.cell? ⟨b,0,none⟩=some v0∧t.cell? ⟨b,1,none⟩=some v1∧t.cell? ⟨b,2,none⟩=some v2:=by refine ⟨?_,?_,?_⟩<;>go_simp):w.cell? ⟨b,0,none⟩=some v0∧w.cell? ⟨b,1,none⟩=some v1∧w.cell? ⟨b,2,none⟩=some v2:=e▸h
theorem kb4 {w t:World} (e:w=t) (b:Nat) (o0:Nat) (v0:Value) (o1:Nat) (v1:Value) (o2:Nat) (v2:Value) (o3:Nat) (v3:Value) (h:t.cell? ⟨b,o0,none⟩=some v0∧t.cell? ⟨b,o1,none⟩=some v1∧t.cell? ⟨b,o2,none⟩=some v2∧t.cell? ⟨b,o3,none⟩=some v3:=by refine ⟨?_,?_,?_,?_⟩<;>go_simp):w.cell? ⟨b,o0,none⟩=some v0∧w.cell? ⟨b,o1,none⟩=some v1∧w.cell? ⟨b,o2,none⟩=some v2∧w.cell? ⟨b,o3,none⟩=some v3:=e▸h
theorem kz4 {w t:World} (e:w=t) (b:Nat) (v0 v1 v2 v3:Value) (h:t.cell? ⟨b,0,none⟩=some v0∧t.cell? ⟨b,1,none⟩=some v1∧t.cell? ⟨b,2,none⟩=some v2∧t.cell? ⟨b,3,none⟩=some v3:=by refine ⟨?_,?_,?_,?_⟩<;>go_simp):w.cell? ⟨b,0,none⟩=some v0∧w.cell? ⟨b,1,none⟩=some v1∧w.cell? ⟨b,2,none⟩=some v2∧w.cell? ⟨b,3,none⟩=some v3:=e▸h
theorem kb6 {w t:World} (e:w=t) (b:Nat) (o0:Nat) (v0:Value) (o1:Nat) (v1:Value) (o2:Nat) (v2:Value) (o3:Nat) (v3:Value) (o4:Nat) (v4:Value) (o5:Nat) (v5:Value) (h:t.cell? ⟨b,o0,none⟩=some v0∧t.cell? ⟨b,o1,none⟩=some v1∧t.cell? ⟨b,o2,none⟩=some v2∧t.cell? ⟨b,o3,none⟩=some v3∧t.cell? ⟨b,o4,none⟩=some v4∧t.cell? ⟨b,o5,none⟩=some v5:=by refine ⟨?_,?_,?_,?_,?_,?_⟩<;>go_simp):w.cell? ⟨b,o0,none⟩=some v0∧w.cell? ⟨b,o1,none⟩=some v1∧w.cell? ⟨b,o2,none⟩=some v2∧w.cell? ⟨b,o3,none⟩=some v3∧w.cell? ⟨b,o4,none⟩=some v4∧w.cell? ⟨b,o5,none⟩=some v5:=e▸h
theorem kz6 {w t:World} (e:w=t) (b:Nat) (v0 v1 v2 v3 v4 v5:Value) (h:t.cell? ⟨b,0,none⟩=some v0∧t.cell? ⟨b,1,none⟩=some v1∧t.cell? ⟨b,2,none⟩=some v2∧t.cell? ⟨b,3,none⟩=some v3∧t.cell? ⟨b,4,none⟩=some v4∧t.cell? ⟨b,5,none⟩=some v5:=by refine ⟨?_,?_,?_,?_,?_,?_⟩<;>go_simp):w.cell? ⟨b,0,none⟩=some v0∧w.cell? ⟨b,1,none⟩=some v1∧w.cell? ⟨b,2,none⟩=some v2∧w.cell? ⟨b,3,none⟩=some v3∧w.cell? ⟨b,4,none⟩=some v4∧w.cell? ⟨b,5,none⟩=some v5:=e▸h
theorem kb7 {w t:World} (e:w=t) (b:Nat) (o0:Nat) (v0:Value) (o1:Nat) (v1:Value) (o2:Nat) (v2:Value) (o3:Nat) (v3:Value) (o4:Nat) (v4:Value) (o5:Nat) (v5:Value) (o6:Nat) (v6:Value) (h:t.cell? ⟨b,o0,none⟩=some v0∧t.cell? ⟨b,o1,none⟩=some v1∧t.cell? ⟨b,o2,none⟩=some v2∧t.cell? ⟨b,o3,none⟩=some v3∧t.cell? ⟨b,o4,none⟩=some v4∧t.cell? ⟨b,o5,none⟩=some v5∧t.cell? ⟨b,o6,none⟩=some v6:=by refine ⟨?_,?_,?_,?_,?_,?_,?_⟩<;>go_simp):w.cell? ⟨b,o0,none⟩=some v0∧w.cell? ⟨b,o1,none⟩=some v1∧w.cell? ⟨b,o2,none⟩=some v2∧w.cell? ⟨b,o3,none⟩=some v3∧w.cell? ⟨b,o4,none⟩=some v4∧w.cell? ⟨b,o5,none⟩=some v5∧w.cell? ⟨b,o6,none⟩=some v6:=e▸h
theorem kb9 {w t:World} (e:w=t) (b:Nat) (o0:Nat) (v0:Value) (o1:Nat) (v1:Value) (o2:Nat) (v2:Value) (o3:Nat) (v3:Value) (o4:Nat) (v4:Value) (o5:Nat) (v5:Value) (o6:Nat) (v6:Value) (o7:Nat) (v7:Value) (o8:Nat) (v8:Value) (h:t.cell? ⟨b,o0,none⟩=some v0∧t.cell? ⟨b,o1,none⟩=some v1∧t.cell? ⟨b,o2,none⟩=some v2∧t.cell? ⟨b,o3,none⟩=some v3∧t.cell? ⟨b,o4,none⟩=some v4∧t.cell? ⟨b,o5,none⟩=some v5∧t.cell? ⟨b,o6,none⟩=some v6∧t.cell? ⟨b,o7,none⟩=some v7∧t.cell? ⟨b,o8,none⟩=some v8:=by refine ⟨?_,?_,?_,?_,?_,?_,?_,?_,?_⟩<;>go_simp):w.cell? ⟨b,o0,none⟩=some v0∧w.cell? ⟨b,o1,none⟩=some v1∧w.cell? ⟨b,o2,none⟩=some v2∧w.cell? ⟨b,o3,none⟩=some v3∧w.cell? ⟨b,o4,none⟩=some v4∧w.cell? ⟨b,o5,none⟩=some v5∧w.cell? ⟨b,o6,none⟩=some v6∧w.cell? ⟨b,o7,none⟩=some v7∧w.cell? ⟨b,o8,none⟩=some v8:=e▸h
theorem kz9 {w t:World} (e:w=t) (b:Nat) (v0 v1 v2 v3 v4 v5 v6 v7 v8:Value) (h:t.cell? ⟨b,0,none⟩=some v0∧t.cell? ⟨b,1,none⟩=some v1∧t.cell? ⟨b,2,none⟩=some v2∧t.cell? ⟨b,3,none⟩=some v3∧t.cell? ⟨b,4,none⟩=some v4∧t.cell? ⟨b,5,none⟩=some v5∧t.cell? ⟨b,6,none⟩=some v6∧t.cell? ⟨b,7,none⟩=some v7∧t.cell? ⟨b,8,none⟩=some v8:=by refine ⟨?_,?_,?_,?_,?_,?_,?_,?_,?_⟩<;>go_simp):w.cell? ⟨b,0,none⟩=some v0∧w.cell? ⟨b,1,none⟩=some v1∧w.cell? ⟨b,2,none⟩=some v2∧w.cell? ⟨b,3,none⟩=some v3∧w.cell? ⟨b,4,none⟩=some v4∧w.cell? ⟨b,5,none⟩=some v5∧w.cell? ⟨b,6,none⟩=some v6∧w.cell? ⟨b,7,none⟩=some v7∧w.cell? ⟨b,8,none⟩=some v8:=e▸h
theorem kb12 {w t:World} (e:w=t) (b:Nat) (o0:Nat) (v0:Value) (o1:Nat) (v1:Value) (o2:Nat) (v2:Value) (o3:Nat) (v3:Value) (o4:Nat) (v4:Value) (o5:Nat) (v5:Value) (o6:Nat) (v6:Value) (o7:Nat) (v7:Value) (o8:Nat) (v8:Value) (o9:Nat) (v9:Value) (o10:Nat) (v10:Value) (o11:Nat) (v11:Value) (h:t.cell? ⟨b,o0,none⟩=some v0∧t.cell? ⟨b,o1,none⟩=some v1∧t.cell? ⟨b,o2,none⟩=some v2∧t.cell? ⟨b,o3,none⟩=some v3∧t.cell? ⟨b,o4,none⟩=some v4∧t.cell? ⟨b,o5,none⟩=some v5∧t.cell? ⟨b,o6,none⟩=some v6∧t.cell? ⟨b,o7,none⟩=some v7∧t.cell? ⟨b,o8,none⟩=some v8∧t.cell? ⟨b,o9,none⟩=some v9∧t.cell? ⟨b,o10,none⟩=some v10∧t.cell? ⟨b,o11,none⟩=some v11:=by refine ⟨?_,?_,?_,?_,?_,?_,?_,?_,?_,?_,?_,?_⟩<;>go_simp):w.cell? ⟨b,o0,none⟩=some v0∧w.cell? ⟨b,o1,none⟩=some v1∧w.cell? ⟨b,o2,none⟩=some v2∧w.cell? ⟨b,o3,none⟩=some v3∧w.cell? ⟨b,o4,none⟩=some v4∧w.cell? ⟨b,o5,none⟩=some v5∧w.cell? ⟨b,o6,none⟩=some v6∧w.cell? ⟨b,o7,none⟩=some v7∧w.cell? ⟨b,o8,none⟩=some v8∧w.cell? ⟨b,o9,none⟩=some v9∧w.cell? ⟨b,o10,none⟩=some v10∧w.cell? ⟨b,o11,none⟩=some v11:=e▸h
theorem kz12 {w t:World} (e:w=t) (b:Nat) (v0 v1 v2 v3 v4 v5 v6 v7 v8 v9 v10 v11:Value) (h:t.cell? ⟨b,0,none⟩=some v0∧t.cell? ⟨b,1,none⟩=some v1∧t.cell? ⟨b,2,none⟩=some v2∧t.cell? ⟨b,3,none⟩=some v3∧t.cell? ⟨b,4,none⟩=some v4∧t.cell? ⟨b,5,none⟩=some v5∧t.cell? ⟨b,6,none⟩=some v6∧t.cell? ⟨b,7,none⟩=some v7∧t.cell? ⟨b,8,none⟩=some v8∧t.cell? ⟨b,9,none⟩=some v9∧t.cell? ⟨b,10,none⟩=some v10∧t.cell? ⟨b,11,none⟩=some v11:=by refine ⟨?_,?_,?_,?_,?_,?_,?_,?_,?_,?_,?_,?_⟩<;>go_simp):w.cell? ⟨b,0,none⟩=some v0∧w.cell? ⟨b,1,none⟩=some v1∧w.cell? ⟨b,2,none⟩=some v2∧w.cell? ⟨b,3,none⟩=some v3∧w.cell? ⟨b,4,none⟩=some v4∧w.cell? ⟨b,5,none⟩=some v5∧w.cell? ⟨b,6,none⟩=some v6∧w.cell? ⟨b,7,none⟩=some v7∧w.cell? ⟨b,8,none⟩=some v8∧w.cell? ⟨b,9,none⟩=some v9∧w.cell? ⟨b,10,none⟩=some v10∧w.cell? ⟨b,11,none⟩=some v11:=e▸h
theorem sg (b:Nat) {w t:World} (e:w=t) (h:b<t.heap.size:=by first | omega | (simp;done) | (simp;omega)):b<w.heap.size:=e▸h
theorem a0i {P:Program} {f:FuncId} {args:Array Value} {w:World} {g:Gr w} {v:Value}
 (h:Calls P f args (gr w g) fun e w'=>e=.returned v∧Below (gr w g).heap.size (gr w g) w'):Calls P f args (gr w g) fun e w''=>e=.returned v∧∃ m,w''=gr w m :=
 h.mono fun _ w' ⟨he,hb⟩=>⟨he,⟨w',g.below.trans (hb.mono g.below.size)⟩,rfl⟩
theorem p0v (x:List UInt8):Op.bytesLess x x=false:=by
 induction x with
 | nil=>rfl
 | cons a x ih=>simp [Op.bytesLess,ih]
theorem bl_trans {x y z:List UInt8} (h:Op.bytesLess x y=true) (k:Op.bytesLess y z=true):Op.bytesLess x z=true:=by
 induction x generalizing y z with
 | nil =>
  cases y with
  | nil=>simp [Op.bytesLess] at h
  | cons b y=>cases z with
   | nil=>simp [Op.bytesLess] at k
   | cons c z=>simp [Op.bytesLess]
 | cons a x ih =>
  cases y with
  | nil=>simp [Op.bytesLess] at h
  | cons b y=>cases z with
   | nil=>simp [Op.bytesLess] at k
   | cons c z =>
    simp only [Op.bytesLess,Bool.or_eq_true,decide_eq_true_eq,Bool.and_eq_true,beq_iff_eq] at h k ⊢
    rcases h with h | ⟨rfl,h⟩<;>rcases k with k | ⟨rfl,k⟩
    ·left;exact UInt8.lt_trans h k
    ·left;exact h
    ·left;exact k
    ·right;exact ⟨rfl,ih h k⟩
theorem bl_tri {x y:List UInt8} (h:Op.bytesLess x y=false) (k:Op.bytesLess y x=false):x=y:=by
 induction x generalizing y with
 | nil=>cases y with
  | nil=>rfl
  | cons b y=>simp [Op.bytesLess] at h
 | cons a x ih=>cases y with
  | nil=>simp [Op.bytesLess] at k
  | cons b y =>
   simp only [Op.bytesLess,Bool.or_eq_false_iff,decide_eq_false_iff_not,Bool.and_eq_false_iff,beq_eq_false_iff_ne] at h k
   have e:a=b:=by
    have h1:=h.1;have h2:=k.1
    exact UInt8.le_antisymm (UInt8.not_lt.1 h2) (UInt8.not_lt.1 h1)
   subst e
   have:=ih (y:=y) (by rcases h.2 with h | h<;>simp_all) (by rcases k.2 with h | h<;>simp_all)
   rw [this]
theorem bl_asymm {x y:List UInt8} (h:Op.bytesLess x y=true):Op.bytesLess y x=false:=by
 cases k:Op.bytesLess y x with
 | false=>rfl
 | true=>have:=bl_trans h k;rw [p0v] at this;cases this
theorem bl_nil (x:List UInt8):Op.bytesLess x []=false:=by cases x<;>rfl
theorem y0s {x:List UInt8} (h:x≠[]):Op.bytesLess [] x=true:=by cases x<;>simp_all [Op.bytesLess]
def gtB (a b:ByteArray):Bool:=!Op.bytesLess a.toList b.toList&&!(a.toList==b.toList)
def leB (a b:ByteArray):Bool:=Op.bytesLess a.toList b.toList || a.toList==b.toList
def isB (f t:ByteArray):Bool:=decide ((f.size:Int)≤16)&&(decide ((t.size:Int)≤16)&&(t.toList.isEmpty || gtB t f))
def inB (f t k:ByteArray):Bool:=isB f t&&decide ((1:Int)≤k.size)&&decide ((k.size:Int)≤16)&&!(Op.bytesLess k.toList f.toList)&&(t.toList.isEmpty || Op.bytesLess k.toList t.toList)
def e0y (f t k:ByteArray):Bool:=inB f t k&&!(leB k f)
def d0z (f t f' t':ByteArray):Bool:=isB f t&&isB f' t'&&!t.toList.isEmpty&&(t.toList==f'.toList)
def sel (b:Bool) (x:ByteArray):ByteArray:=if b then x else ⟨#[]⟩
theorem isB_iff (f t:ByteArray):isB f t=true↔(f.size:Int)≤16∧(t.size:Int)≤16∧(t.toList=[]∨Op.bytesLess f.toList t.toList=true):=by
 have key:gtB t f=true↔Op.bytesLess f.toList t.toList=true:=by
  unfold gtB
  simp only [Bool.and_eq_true,Bool.not_eq_true',beq_eq_false_iff_ne]
  constructor
  ·rintro ⟨h,k⟩
   cases j:Op.bytesLess f.toList t.toList with
   | true=>rfl
   | false=>exact absurd (bl_tri h j) k
  ·intro h
   refine ⟨bl_asymm h,fun e=>?_⟩
   rw [e,p0v] at h;cases h
 simp only [isB,Bool.and_eq_true,Bool.or_eq_true,decide_eq_true_eq,List.isEmpty_iff,key]
open Go.RowKit
set_option maxHeartbeats 1000000 in
theorem g0g (f t:ByteArray) (w:World) :
 Calls Tryz.prog 136 #[.agg #[aS f,aS t]] w fun e w'=>e=.returned (aB (isB f t))∧Below w.heap.size w w':=by
 go_enter Tryz.func136,Tryz.ntmps136
 go_wp2
 all_goals (go_ret;refine ⟨?_,bg⟩)
 all_goals (simp [isB,gtB, *];try omega)
set_option maxHeartbeats 1000000 in
theorem span_in (f t k:ByteArray) (w:World) :
 Calls Tryz.prog 152 #[.agg #[aS f,aS t],aS k] w fun e w'=>e=.returned (aB (inB f t k))∧Below w.heap.size w w':=by
 go_enter Tryz.func152,Tryz.ntmps152
 go_wp2_with fail
 (refine a0e fun wa hwa=>?_;have wa_s0:=sg w.heap.size hwa;obtain ⟨wa_c0,wa_c1⟩:=kk2 hwa w.heap.size 0 (aS f) w.heap.size 1 (aS t);have wa_b:Below w.heap.size w wa:=(by rw [hwa];exact bg);clear hwa)
 refine (g0g _ _ _).mono ?_
 (rintro e w1 ⟨rfl,w1_h⟩;obtain ⟨w1_hc,w1_hf⟩:=a0w w1_h;have w1_z:=w1_h.size;have w1_b:=wa_b.trans (w1_h.mono (by have:=wa_b.size;omega));have w1_le:=w1_b.size;clear w1_h)
 go_wp2_with fail
 all_goals (go_ret;refine ⟨?_,bg⟩)
 all_goals (simp [inB, *];try omega)
set_option maxHeartbeats 1000000 in
theorem span_cut (f t k:ByteArray) (w:World) :
 Calls Tryz.prog 149 #[.agg #[aS f,aS t],aS k] w fun e w'=>e=.returned (.tuple #[.agg #[aS (sel (e0y f t k) f),aS (sel (e0y f t k) k)],.agg #[aS (sel (e0y f t k) k),aS (sel (e0y f t k) t)],aB (e0y f t k)])∧Below w.heap.size w w':=by
 go_enter Tryz.func149,Tryz.ntmps149
 go_wp2_with fail
 (refine a0e fun wa hwa=>?_;have wa_s0:=sg w.heap.size hwa;have wa_s1:=sg (w.heap.size+1) hwa;have wa_s2:=sg (w.heap.size+2) hwa;obtain ⟨wa_c0,wa_c1,wa_c2,wa_c3,wa_c4,wa_c5⟩:=kk6 hwa w.heap.size 0 (aS f) w.heap.size 1 (aS t) (w.heap.size+1) 0 (aS ⟨#[]⟩) (w.heap.size+1) 1 (aS ⟨#[]⟩) (w.heap.size+2) 0 (aS ⟨#[]⟩) (w.heap.size+2) 1 (aS ⟨#[]⟩);obtain ⟨wa_f2,wa_f3,wa_f4,wa_f5⟩:=ff4 hwa (w.heap.size+1) 0 (w.heap.size+1) 1 (w.heap.size+2) 0 (w.heap.size+2) 1;have wa_b:Below w.heap.size w wa:=(by rw [hwa];exact bg);clear hwa)
 refine (span_in _ _ _ _).mono ?_
 (rintro e w1 ⟨rfl,w1_h⟩;obtain ⟨w1_hc,w1_hf⟩:=a0w w1_h;have w1_z:=w1_h.size;have w1_b:=wa_b.trans (w1_h.mono (by have:=wa_b.size;omega));have w1_le:=w1_b.size;have w1_s0:w.heap.size<w1.heap.size:=(by omega);have w1_s1:w.heap.size+1<w1.heap.size:=(by omega);have w1_s2:w.heap.size+2<w1.heap.size:=(by omega);clear w1_h)
 go_wp2_with fail
 rotate_left
 ·go_region_held3 (fun W=>W.cell? ⟨w.heap.size,0,none⟩=some (aS f)∧W.cell? ⟨w.heap.size,1,none⟩=some (aS t)) (go_simp) (fail)
  go_wp2_with fail
  refine bodyPost_ret (v:=.tuple #[.agg #[aS f,aS k],.agg #[aS k,aS t],aB true]) (by simp [results,Tryz.results149,go_sem, *]) rfl ⟨?_,bg⟩
  simp [e0y,leB,sel, *]
 all_goals (refine bodyPost_ret (v:=.tuple #[.agg #[aS ⟨#[]⟩,aS ⟨#[]⟩],.agg #[aS ⟨#[]⟩,aS ⟨#[]⟩],aB false]) (by simp [results,Tryz.results149,go_sem, *]) rfl ⟨?_,bg⟩)
 ·simp [e0y,sel, *]
 ·rcases ‹_∨_› with h | h<;>simp [e0y,leB,sel,h]
set_option maxHeartbeats 1000000 in
theorem d0q (f t:ByteArray) (w:World) :
 Calls Tryz.prog 37 #[.agg #[aS f,aS t]] w fun e w'=>e=.returned (aB (isB f t))∧Below w.heap.size w w':=by
 go_enter Tryz.func37,Tryz.ntmps37
 go_wp2
 all_goals (go_ret;refine ⟨?_,bg⟩)
 all_goals (simp [isB,gtB, *];try omega)
set_option maxHeartbeats 1000000 in
theorem k0p (f t k:ByteArray) (w:World) :
 Calls Tryz.prog 146 #[.agg #[aS f,aS t],aS k] w fun e w'=>e=.returned (aB (inB f t k))∧Below w.heap.size w w':=by
 go_enter Tryz.func146,Tryz.ntmps146
 go_wp2_with fail
 (refine a0e fun wa hwa=>?_;have wa_s0:=sg w.heap.size hwa;obtain ⟨wa_c0,wa_c1⟩:=kk2 hwa w.heap.size 0 (aS f) w.heap.size 1 (aS t);have wa_b:Below w.heap.size w wa:=(by rw [hwa];exact bg);clear hwa)
 refine (d0q _ _ _).mono ?_
 (rintro e w1 ⟨rfl,w1_h⟩;obtain ⟨w1_hc,w1_hf⟩:=a0w w1_h;have w1_z:=w1_h.size;have w1_b:=wa_b.trans (w1_h.mono (by have:=wa_b.size;omega));have w1_le:=w1_b.size;clear w1_h)
 go_wp2_with fail
 all_goals (go_ret;refine ⟨?_,bg⟩)
 all_goals (simp [inB, *];try omega)
set_option maxHeartbeats 1000000 in
theorem j0w (f t k:ByteArray) (w:World) :
 Calls Tryz.prog 134 #[.agg #[aS f,aS t],aS k] w fun e w'=>e=.returned (.tuple #[.agg #[aS (sel (e0y f t k) f),aS (sel (e0y f t k) k)],.agg #[aS (sel (e0y f t k) k),aS (sel (e0y f t k) t)],aB (e0y f t k)])∧Below w.heap.size w w':=by
 go_enter Tryz.func134,Tryz.ntmps134
 go_wp2_with fail
 (refine a0e fun wa hwa=>?_;have wa_s0:=sg w.heap.size hwa;have wa_s1:=sg (w.heap.size+1) hwa;have wa_s2:=sg (w.heap.size+2) hwa;obtain ⟨wa_c0,wa_c1,wa_c2,wa_c3,wa_c4,wa_c5⟩:=kk6 hwa w.heap.size 0 (aS f) w.heap.size 1 (aS t) (w.heap.size+1) 0 (aS ⟨#[]⟩) (w.heap.size+1) 1 (aS ⟨#[]⟩) (w.heap.size+2) 0 (aS ⟨#[]⟩) (w.heap.size+2) 1 (aS ⟨#[]⟩);obtain ⟨wa_f2,wa_f3,wa_f4,wa_f5⟩:=ff4 hwa (w.heap.size+1) 0 (w.heap.size+1) 1 (w.heap.size+2) 0 (w.heap.size+2) 1;have wa_b:Below w.heap.size w wa:=(by rw [hwa];exact bg);clear hwa)
 refine (k0p _ _ _ _).mono ?_
 (rintro e w1 ⟨rfl,w1_h⟩;obtain ⟨w1_hc,w1_hf⟩:=a0w w1_h;have w1_z:=w1_h.size;have w1_b:=wa_b.trans (w1_h.mono (by have:=wa_b.size;omega));have w1_le:=w1_b.size;have w1_s0:w.heap.size<w1.heap.size:=(by omega);have w1_s1:w.heap.size+1<w1.heap.size:=(by omega);have w1_s2:w.heap.size+2<w1.heap.size:=(by omega);clear w1_h)
 go_wp2_with fail
 rotate_left
 ·go_region_held3 (fun W=>W.cell? ⟨w.heap.size,0,none⟩=some (aS f)∧W.cell? ⟨w.heap.size,1,none⟩=some (aS t)) (go_simp) (fail)
  go_wp2_with fail
  refine bodyPost_ret (v:=.tuple #[.agg #[aS f,aS k],.agg #[aS k,aS t],aB true]) (by simp [results,Tryz.results134,go_sem, *]) rfl ⟨?_,bg⟩
  simp [e0y,leB,sel, *]
 all_goals (refine bodyPost_ret (v:=.tuple #[.agg #[aS ⟨#[]⟩,aS ⟨#[]⟩],.agg #[aS ⟨#[]⟩,aS ⟨#[]⟩],aB false]) (by simp [results,Tryz.results134,go_sem, *]) rfl ⟨?_,bg⟩)
 ·simp [e0y,sel, *]
 ·rcases ‹_∨_› with h | h<;>simp [e0y,leB,sel,h]
structure It where
 a:Int
 b:Int
 c:Int
 d:Int
def okN (x:Int):Prop:=0≤x∧x≤1152921504606846976
instance (x:Int):Decidable (okN x):=by unfold okN;infer_instance
def isI (i:It):Bool:=decide (okN i.a∧okN i.b∧okN i.c∧okN i.d)
theorem q0s (i:It):isI i=true↔(0≤i.a∧i.a≤1152921504606846976)∧(0≤i.b∧i.b≤1152921504606846976)∧(0≤i.c∧i.c≤1152921504606846976)∧(0≤i.d∧i.d≤1152921504606846976):=by unfold isI;rw [decide_eq_true_eq];exact Iff.rfl
theorem p0f (i:It):isI i=false↔¬((0≤i.a∧i.a≤1152921504606846976)∧(0≤i.b∧i.b≤1152921504606846976)∧(0≤i.c∧i.c≤1152921504606846976)∧(0≤i.d∧i.d≤1152921504606846976)):=by
 rw [←q0s];simp
open Go.RowKit
theorem c0q (b off j:Nat):(⟨b,off,none⟩:Addr).add j=⟨b,off+j,none⟩:=by
 unfold Addr.add
 split
 ·rename_i h;subst h;rfl
 ·rfl
theorem b0r (w:World) (o:Obj):(w.alloc o).heap[w.heap.size]?=some o:=(MapKept.heap_alloc w o).1
theorem t0w (w:World) (base:Nat) (h:base≤w.heap.size) (e:TypeId) (size:Nat):(w.alloc (.cells #[] e)).ownsRow base e size (.slice (some ⟨w.heap.size,0,none⟩) 0 0) 0 [] :=
 ⟨by simp,.inr ⟨w.heap.size,0,#[],rfl,h,b0r w _,Nat.le_refl _,by simp [maxLen],by simp,by simp⟩⟩
theorem f0c (w:World) (n:Nat) (hn:n=w.heap.size) (base:Nat) (h:base≤n) (e:TypeId) (size:Nat):(w.alloc (.cells #[] e)).ownsRow base e size (.slice (some ⟨n,0,none⟩) 0 0) 0 []:=by
 subst hn;exact t0w w base h e size
theorem bcellB {B:Nat} {W w1:World} (hb:Below B W w1):(∀ b o,b<B→w1.cell? ⟨b,o,none⟩=W.cell? ⟨b,o,none⟩)∧(∀ b o,b<B→w1.frozen? ⟨b,o,none⟩=W.frozen? ⟨b,o,none⟩) :=
 ⟨fun b o h=>hb.cell (p:=⟨b,o,none⟩) h,fun b o h=>hb.frozen (p:=⟨b,o,none⟩) h⟩
theorem below_grown {B:Nat} {w w1 w2:World} {row:Option Nat} (h:Below B w w1) (hB:B≤w1.heap.size) (hg:w1.grownBy w2 row) (hr:∀ k,row=some k→B≤k):Below B w w2:=h.grown hg hB hr
theorem b0o {v:Value} {B k:Nat} {w:World} {e:TypeId} {size n:Nat} {xs:List Value} (h:w.ownsRow B e size v n xs) (hk:v.ownBlock=some k):B≤k:=by
 rcases h.2 with ⟨rfl,-⟩ | ⟨g,cap,cur,rfl,hg,-⟩
 ·simp [Value.ownBlock] at hk
 ·simp [Value.ownBlock] at hk;omega
theorem c0i {P:Program} (w:World) {ops:Array Oper} {rest:List Oper} {o:Oper} {a:Act} {Q:Exit→Act→World→Prop} (hgd:o.guard=none) (s x:Operand) (t:TypeId)
 (ho:o.op=.call { callee:=.builtin .append,args:=#[s,x],argTypes:=#[t,t] })
 (base:Nat) (e:TypeId) (i:TypeInfo) (z:Value) (size bytes:Nat) (ht:P.underlying t=some (.slice e)) (hi:P.info? e=some i) (hz:i.zero=some z)
 (hsize:i.size=size) (hby:i.bytes=bytes) (hzs:z.cells.size=size) (hsz:0<size)
 (v:Value) (n:Nat) (xs:List Value) (hs:a.eval s=v) (hown:w.ownsRow base e size v n xs)
 (ao:Option Addr) (m c:Nat) (news:List Value) (hx:a.eval x=.slice ao m c) (hnone:ao=none→m=0∧c=0) (hl:news.length=m * size) (hnews:∀ ad,ao=some ad→∀ j u,news[j]?=some u→w.cell? (ad.add j)=some u) (h1:∀ u∈news,u.oneCell'=true)
 (h63:n+m≤maxLen) (hbytes:(n+m) * bytes≤140737488355328) (hbase:base≤w.heap.size)
 (h:∀ v' w',w'.ownsRow base e size v' (n+m) (xs++news)→w.grownBy w' v.ownBlock→wpList P ops Q rest (a.put o.dst v') w'):wpList P ops Q (o::rest) a w:=by
 cases ao with
 | none =>
  obtain ⟨rfl,rfl⟩:=hnone rfl
  have hn:news=[]:=by cases news with
   | nil=>rfl
   | cons y r=>simp at hl
  subst hn
  refine wpList_append_own_none hgd s x t ho base e i size ht hi v n xs hs hown hx ?_
  exact h v w (by simpa using hown) ⟨rfl,rfl,rfl,Nat.le_refl _,fun _ _ _=>rfl⟩
 | some ad=>exact wpList_append_own w hgd s x t ho base e i z size bytes ht hi hz hsize hby hzs hsz v n xs hs hown ad m c news hx hl (hnews ad rfl) h1 h63 hbytes hbase fun v' w' a b _=>h v' w' a b
open Go.ChangeShapes Go.WideShapes Go.Deep
theorem r0e {α:Type} {P:Nat→α→Prop} (n:Nat) (h:∀ i,i<n→∃ a,P i a):∃ l:List α,l.length=n∧∀ i,(hi:i<l.length)→P i l[i]:=by
 induction n with
 | zero=>exact ⟨[],rfl,fun i hi=>by simp at hi⟩
 | succ n ih =>
  obtain ⟨l,hl,hp⟩:=ih fun i hi=>h i (by omega)
  obtain ⟨a,ha⟩:=h n (by omega)
  refine ⟨l++[a],by simp [hl],fun i hi=>?_⟩
  by_cases e:i<l.length
  ·rw [List.getElem_append_left e];exact hp i e
  ·have:i=n:=by simp at hi;omega
   subst this
   rw [List.getElem_append_right (by omega)]
   simpa [hl] using ha
section
variable {H:Type} {enc:TypeId × Value→H} {P:Program} {w:World} {base:Nat} {spare:Nat→Bool} {held:Bool}
end
open Go.RowKit
structure Keeps (w w':World) (S:Nat→Prop):Prop where
 os:w'.os=w.os
 tape:w'.tape=w.tape
 output:w'.output=w.output
 size:w.heap.size≤w'.heap.size
 block:∀ k,k<w.heap.size→¬S k→w'.heap[k]?=w.heap[k]?
theorem Keeps.refl (w:World) (S:Nat→Prop):Keeps w w S:=⟨rfl,rfl,rfl,Nat.le_refl _,fun _ _ _=>rfl⟩
theorem Keeps.trans {a b c:World} {S T U:Nat→Prop} (h:Keeps a b S) (k:Keeps b c T) (hS:∀ i,S i→U i) (hT:∀ i,i<a.heap.size→T i→U i):Keeps a c U :=
 ⟨k.os.trans h.os,k.tape.trans h.tape,k.output.trans h.output,Nat.le_trans h.size k.size,fun i hi hn =>
  (k.block i (Nat.lt_of_lt_of_le hi h.size) fun t=>hn (hT i hi t)).trans (h.block i hi fun s=>hn (hS i s))⟩
theorem Keeps.weak {a b:World} {S T:Nat→Prop} (h:Keeps a b S) (hS:∀ i,i<a.heap.size→S i→T i):Keeps a b T :=
 ⟨h.os,h.tape,h.output,h.size,fun i hi hn=>h.block i hi fun s=>hn (hS i hi s)⟩
theorem Keeps.of_below {B:Nat} {a b:World} (h:Below B a b):Keeps a b (fun k=>B≤k):=⟨h.os,h.tape,h.output,h.size,fun i _ hn=>h.block i (Nat.lt_of_not_le hn)⟩
theorem Keeps.f0d {B:Nat} {a b:World} (h:Below B a b) (hB:a.heap.size≤B) (S:Nat→Prop):Keeps a b S:=⟨h.os,h.tape,h.output,h.size,fun i hi _=>h.block i (Nat.lt_of_lt_of_le hi hB)⟩
theorem Keeps.below {B:Nat} {a b:World} {S:Nat→Prop} (h:Keeps a b S) (hS:∀ k,S k→B≤k) (hB:B≤a.heap.size):Below B a b :=
 ⟨h.os,h.tape,h.output,h.size,fun k hk=>h.block k (by omega) fun s=>by have:=hS k s;omega⟩
theorem Keeps.grown {a b:World} {row:Option Nat} (h:a.grownBy b row):Keeps a b (fun k=>some k=row):=⟨h.os,h.tape,h.output,h.size,fun k hk hn=>h.block k hk hn⟩
theorem Keeps.cell {a b:World} {S:Nat→Prop} (h:Keeps a b S) {p:Addr} (hp:p.block<a.heap.size) (hn:¬S p.block):b.cell? p=a.cell? p:=World.cell?_of_block (w:=a) (h.block p.block hp hn)
theorem Keeps.frozen {a b:World} {S:Nat→Prop} (h:Keeps a b S) {p:Addr} (hp:p.block<a.heap.size) (hn:¬S p.block):b.frozen? p=a.frozen? p:=World.frozen?_of_block (w:=a) (h.block p.block hp hn)
theorem Keeps.set (w:World) (a:Addr) (v:Value):Keeps w (w.setCell a v) (fun x=>x=a.block):=⟨rfl,rfl,rfl,by simp [World.setCell],fun k _ hn=>Below.heap_setCell _ _ _ _ hn⟩
def bytV (l:List UInt8):List Value:=l.map fun c=>aI .u8 (c.toNat:Int)
theorem a0u (l:List UInt8):(bytV l).length=l.length:=by simp [bytV]
theorem a0y (a b:List UInt8):bytV a++bytV b=bytV (a++b):=by simp [bytV]
theorem a0x (l:List UInt8):∀ u∈bytV l,u.oneCell'=true:=by
 intro u hu
 simp only [bytV,List.mem_map] at hu
 obtain ⟨c,-,rfl⟩:=hu
 rfl
theorem t0f (l:List UInt8) (i:Nat) (h:i<l.length):(bytV l)[i]?=some (aI .u8 (l[i].toNat:Int)):=by simp [bytV,h]
def BRow (w:World) (b off:Nat) (l:List UInt8):Prop:=∀ i,(h:i<l.length)→w.cell? ⟨b,off+i,none⟩=some (aI .u8 (l[i].toNat:Int))
def BAt (w:World) (ao:Option Addr) (l:List UInt8):Prop:=0<l.length→∃ b off,ao=some ⟨b,off,none⟩∧b<w.heap.size∧BRow w b off l
theorem BRow.keeps {w w':World} {b off:Nat} {l:List UInt8} {S:Nat→Prop} (h:BRow w b off l) (hb:b<w.heap.size) (k:Keeps w w' S) (hn:¬S b):BRow w' b off l:=fun i hi=>(k.cell (p:=⟨b,_,none⟩) hb hn).trans (h i hi)
theorem BRow.below {w w':World} {b off B:Nat} {l:List UInt8} (h:BRow w b off l) (hb:b<B) (k:Below B w w'):BRow w' b off l:=fun i hi=>(k.cell (p:=⟨b,_,none⟩) hb).trans (h i hi)
theorem BAt.below {w w':World} {ao:Option Addr} {l:List UInt8} (h:BAt w ao l) (k:Below w.heap.size w w'):BAt w' ao l:=fun hp =>
 let ⟨b,off,e,hb,hr⟩:=h hp
 ⟨b,off,e,Nat.lt_of_lt_of_le hb k.size,hr.below hb k⟩
theorem BAt.nil {w:World} {ao:Option Addr}:BAt w ao []:=fun h=>by simp at h
theorem BRow.at {w:World} {b off:Nat} {l:List UInt8} (h:BRow w b off l) (hb:b<w.heap.size):BAt w (some ⟨b,off,none⟩) l:=fun _=>⟨b,off,rfl,hb,h⟩
theorem BRow.cells {w:World} {b off:Nat} {l:List UInt8} (h:BRow w b off l):∀ j u,(bytV l)[j]?=some u→w.cell? ((⟨b,off,none⟩:Addr).add j)=some u:=by
 intro j u hu
 have hj:j<l.length:=by rw [←a0u];exact (List.getElem?_eq_some_iff.1 hu).1
 rw [t0f l j hj] at hu
 rw [c0q,←hu]
 exact h j hj
theorem BAt.cells {w:World} {ao:Option Addr} {l:List UInt8} (h:BAt w ao l):∀ ad,ao=some ad→∀ j u,(bytV l)[j]?=some u→w.cell? (ad.add j)=some u:=by
 intro ad had j u hu
 by_cases hp:0<l.length
 ·obtain ⟨b,off,e,-,hr⟩:=h hp
  rw [had] at e
  obtain rfl:ad=⟨b,off,none⟩:=by simpa using e
  exact hr.cells j u hu
 ·have:l=[]:=by cases l with
   | nil=>rfl
   | cons x r=>simp at hp
  subst this
  simp [bytV] at hu
def OwnB (w:World) (base:Nat) (ao:Option Addr) (cap:Nat) (l:List UInt8):Prop:=w.ownsRow base 5 1 (.slice ao l.length cap) l.length (bytV l)
theorem OwnB.at {w:World} {base:Nat} {ao:Option Addr} {cap:Nat} {l:List UInt8} (h:OwnB w base ao cap l):BAt w ao l:=by
 intro hp
 rcases h.2 with ⟨hv,h0⟩ | ⟨g,c,cur,hv,hg,hh,-⟩
 ·omega
 ·simp only [Value.slice.injEq] at hv
  obtain ⟨rfl,-,rfl⟩:=hv
  refine ⟨g,0,rfl,(Array.getElem?_eq_some_iff.1 hh).1,fun i hi=>?_⟩
  have:=h.cellAt i (by omega)
  rw [t0f l i hi] at this
  simpa using this
theorem OwnB.none {w:World} {base:Nat} {ao:Option Addr} {cap:Nat} {l:List UInt8} (h:OwnB w base ao cap l):ao=.none→l.length=0∧cap=0:=by
 intro e
 subst e
 rcases h.2 with ⟨hv,h0⟩ | ⟨g,c,cur,hv,-⟩
 ·simp only [Value.slice.injEq] at hv;exact ⟨h0,hv.2.2⟩
 ·simp at hv
theorem OwnB.le {w:World} {base:Nat} {ao:Option Addr} {cap:Nat} {l:List UInt8} (h:OwnB w base ao cap l):l.length≤cap∧cap≤9223372036854775807:=by
 rcases h.2 with ⟨hv,h0⟩ | ⟨g,c,cur,hv,-,-,h1,h2,-⟩
 ·simp only [Value.slice.injEq] at hv;omega
 ·simp only [Value.slice.injEq] at hv
  obtain ⟨-,-,rfl⟩:=hv
  unfold maxLen at h2
  omega
theorem OwnB.row {w:World} {base:Nat} {ao:Option Addr} {cap:Nat} {l:List UInt8} (h:OwnB w base ao cap l) (hp:0<l.length):∃ g,ao=some ⟨g,0,Option.none⟩∧base≤g∧g<w.heap.size∧BRow w g 0 l:=by
 obtain ⟨b,off,e,hlt,hr⟩:=h.at hp
 rcases h.2 with ⟨hv,h0⟩ | ⟨g,c,cur,hv,hb,-⟩
 ·omega
 ·simp only [Value.slice.injEq] at hv
  rw [hv.1] at e
  simp only [Option.some.injEq,Addr.mk.injEq,and_true] at e
  obtain ⟨rfl,rfl⟩:=e
  exact ⟨g,hv.1,hb,hlt,hr⟩
theorem b0a {w:World} {b c:Nat} {ao:Option Addr} {cap:Nat} {l:List UInt8} (h:OwnB w b ao cap l) (hc:c≤b):OwnB w c ao cap l:=by
 obtain ⟨h1,h2⟩:=h
 refine ⟨h1,?_⟩
 rcases h2 with h2 | ⟨g,c',cur,hv,hg,r⟩
 ·exact Or.inl h2
 ·exact Or.inr ⟨g,c',cur,hv,Nat.le_trans hc hg,r⟩
theorem c0n {w:World} {base n:Nat} {v:Value} {l:List UInt8} (h:w.ownsRow base 5 1 v n (bytV l)) (hn:n=l.length):∃ ao cap,v=.slice ao l.length cap∧OwnB w base ao cap l:=by
 subst hn
 rcases h.2 with ⟨hv,h0⟩ | ⟨g,c,cur,hv,-⟩
 ·exact ⟨.none,0,by rw [hv,h0],by unfold OwnB;rw [h0] at h ⊢;rw [hv] at h;exact h⟩
 ·exact ⟨_,c,hv,by unfold OwnB;rw [hv] at h;exact h⟩
theorem c0h:(Tryz.prog.info? 5).map (fun i=>(i.zero,i.size,i.bytes))=some (some (aI .u8 0),1,1):=by kernel_rfl
def d0b (w:World) (l:List UInt8) (e:Ending) (w':World):Prop:=∃ ao cap,e=.returned (.slice ao l.length cap)∧OwnB w' w.heap.size ao cap l∧Below w.heap.size w w'
open Go.RowKit
theorem one_cell (wr:World) (c:UInt8) (t:TypeId) (x:Int) (hx:x=(c.toNat:Int)):∀ ad,some (⟨wr.heap.size,0,none⟩:Addr)=some ad→∀ j u,(bytV [c])[j]?=some u→(wr.alloc (.cells #[aI .u8 x] t)).cell? (ad.add j)=some u:=by
 intro ad had j u hu
 obtain rfl:ad=⟨wr.heap.size,0,none⟩:=by simpa using had.symm
 have hj:j=0:=by
  have:=(List.getElem?_eq_some_iff.1 hu).1
  simp [bytV] at this;exact this
 subst hj hx
 simp [bytV] at hu
 subst hu
 simp [Addr.add]
set_option maxHeartbeats 1000000 in
theorem i0q (ao:Option Addr) (cap:Nat) (a:List UInt8) (w:World) (h0:ao=none→a.length=0∧cap=0) (ha:BAt w ao a) (hm:a.length≤140737488351232) :
 Calls Tryz.prog 80 #[.slice ao a.length cap] w (d0b w a):=by
 cases ao with
 | none =>
  obtain ⟨h1,h2⟩:=h0 rfl
  have h3:a=[]:=List.length_eq_zero_iff.1 h1
  subst h3 h2
  have heq:=fun w=>Lib.run_eql_slice_nil (P:=Tryz.prog) w 47 5 none 0 0 0 0 Tryz.underlying47
  simp only [List.length_nil]
  go_enter Tryz.func80,Tryz.ntmps80
  go_wp2_with fail
  go_ret
  exact ⟨none,0,rfl,World.ownsRow_nil _ _ _ _,Below.refl _ _⟩
 | some ad =>
  have heq:=fun w=>Lib.run_eql_slice_nil (P:=Tryz.prog) w 47 5 (some ad) a.length cap 0 0 Tryz.underlying47
  obtain ⟨i0,hi,hz0,hz1,hz2⟩:=info_parts c0h
  have Ha:=Lib.hid ha
  clear ha h0
  go_enter Tryz.func80,Tryz.ntmps80
  go_wp2_with (at_builtin;go_must (refine c0i _ rfl (.tmp 5) (.tmp 6) 47 rfl w.heap.size 5 i0 (aI .u8 0) 1 1 Tryz.underlying47 hi hz0 hz1 hz2 rfl (by decide) _ 0 [] rfl (f0c _ w.heap.size rfl w.heap.size (Nat.le_refl _) 5 1) (some ad) a.length cap (bytV a) rfl (fun h=>by cases h) (by rw [a0u,Nat.mul_one]) (Ha.out.below ((Below.refl _ _).alloc (Nat.le_refl _) _)).cells (a0x a) (by unfold maxLen;omega) (by omega) (by simp) ?_))
  intro v w1 hown hgrow
  have hb:Below w.heap.size w w1:=below_grown ((Below.refl _ _).alloc (Nat.le_refl _) _) (by simp) hgrow (fun k hk=>by simp [Value.ownBlock] at hk;omega)
  obtain ⟨bo,c,hv,ho⟩:=c0n (by simpa using hown) rfl
  have Ho:=Lib.hid ho
  clear hown hgrow ho
  rw [hv]
  go_wp2_with fail
  go_ret
  exact ⟨bo,c,rfl,Ho.out,hb⟩
def encF:Nat→Nat→List UInt8
 | 0,n=>[UInt8.ofNat n]
 | f+1,n=>if n<128 then [UInt8.ofNat n] else UInt8.ofNat (n % 128+128)::encF f (n / 128)
def encN (n:Nat):List UInt8:=encF 9 n
def a0l (v:Int):Nat:=(max 0 (min v 4611686018427387904)).toNat
theorem c0x (v:Int):a0l v≤4611686018427387904:=by unfold a0l;omega
theorem y0o (v:Int):max 0 (min v 4611686018427387904)=(a0l v:Int):=by unfold a0l;omega
def encs (vs:List Int):List UInt8:=vs.flatMap fun v=>encN (a0l v)
theorem p0n:∀ (f g n:Nat),n<128 ^ (f+1)→n<128 ^ (g+1)→encF f n=encF g n
 | 0,0,_,_,_=>rfl
 | 0,g+1,n,h,_=>by have h:n<128:=by simpa using h
                   simp [encF,h]
 | f+1,0,n,_,h=>by have h:n<128:=by simpa using h
                   simp [encF,h]
 | f+1,g+1,n,h,k=>by
  simp only [encF]
  split
  ·rfl
  ·rw [p0n f g (n / 128) (by rw [Nat.div_lt_iff_lt_mul (by omega)];rwa [Nat.pow_succ] at h) (by rw [Nat.div_lt_iff_lt_mul (by omega)];rwa [Nat.pow_succ] at k)]
theorem e0s {n:Nat} (h:n<128):encN n=[UInt8.ofNat n]:=by simp [encN,encF,h]
theorem h0a {n:Nat} (h:¬n<128) (hn:n≤4611686018427387904):encN n=UInt8.ofNat (n % 128+128)::encN (n / 128):=by
 unfold encN
 rw [show encF 9 n=UInt8.ofNat (n % 128+128)::encF 8 (n / 128) from by simp [encF,h]]
 rw [p0n 8 9 (n / 128) (by have:(128:Nat) ^ (8+1)=9223372036854775808:=by decide
                           omega) (by have:(128:Nat) ^ (9+1)=1180591620717411303424:=by decide
                                      omega)]
theorem l0m:∀ (f n:Nat),(encF f n).length≤f+1∧0<(encF f n).length
 | 0,_=>by simp [encF]
 | f+1,n=>by
  simp only [encF]
  split
  ·simp
  ·have:=l0m f (n / 128);simp;omega
theorem a0o (n:Nat):(encN n).length≤10∧0<(encN n).length:=l0m 9 n
theorem a0m (vs:List Int):(encs vs).length≤10 * vs.length:=by
 induction vs with
 | nil=>simp [encs]
 | cons v r ih =>
  have:=(a0o (a0l v)).1
  simp only [encs,List.flatMap_cons,List.length_append,List.length_cons] at *
  omega
theorem p0l (vs:List Int) (k:Nat) (h:k<vs.length):encs (vs.take (k+1))=encs (vs.take k)++encN (a0l vs[k]):=by
 rw [List.take_succ_eq_append_getElem h];simp only [encs,List.flatMap_append,List.flatMap_cons,List.flatMap_nil,List.append_nil]
end Go.Proofs.YtogamdaomdoapaaGreat