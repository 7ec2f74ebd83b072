/- Texts put together: Kit, Plain, W1, ItPl, Own. -/
import Derived.Test.YtogamdaomdoapaaGreatChecked
import Derived.BigQuiet
import Derived.BigRegion
import Derived.Deep.RegionHeld3
import Derived.Laws.AppendOwnNone
import Derived.Lib.Hide
import Derived.Lib.Strings
import Derived.Outline
import Derived.RegionTactic
import Derived.StillTailTactics
import Derived.WalkKit
import Derived.WalkLawsBesides
import Derived.WalkSpells
import GoSem.Op.String
namespace Go.Proofs.YtogamdaomdoapaaGreat
open Go.RowKit
theorem bcell {W w1:World} (hb:Below W.heap.size W w1):(∀ b o,b<W.heap.size→w1.cell? ⟨b,o,none⟩=W.cell? ⟨b,o,none⟩)∧(∀ b o,b<W.heap.size→w1.frozen? ⟨b,o,none⟩=W.frozen? ⟨b,o,none⟩) :=
 ⟨fun b o h=>hb.cell (p:=⟨b,o,none⟩) h,fun b o h=>hb.frozen (p:=⟨b,o,none⟩) h⟩
@[go_sem] theorem lt_two (n:Nat):n<n+1+1:=by omega
@[go_sem] theorem lt_three (n:Nat):n<n+1+1+1:=by omega
@[go_sem] theorem lt_four (n:Nat):n<n+1+1+1+1:=by omega
@[go_sem] theorem lt_five (n:Nat):n<n+1+1+1+1+1:=by omega
@[go_sem] theorem lt_six (n:Nat):n<n+1+1+1+1+1+1:=by omega
theorem below_drawn {B:Nat} {a w:World} {n:Nat} (h:Below B a w):Below B a (w.drewN n):=⟨h.os,h.tape,h.output,h.size,h.block⟩
theorem calls_name {P:Program} {f:FuncId} {args:Array Value} {R:Ending→World→Prop} {w:World} (h:∀ w3,w3=w→Calls P f args w3 R):Calls P f args w R:=h w rfl
theorem wp_name {P:Program} {c:Code} {Q:Exit→Act→World→Prop} {a:Act} {w:World} (h:∀ w3,w3=w→c.wp P Q a w3):c.wp P Q a w:=h w rfl
theorem stay_drew (w3:World):Below w3.heap.size w3 w3.drew∧∀ b o,b<w3.heap.size→w3.drew.cell? ⟨b,o,none⟩=w3.cell? ⟨b,o,none⟩ :=
 ⟨(Below.refl _ _).drew,fun _ _ _=>rfl⟩
theorem stay_next {w3 W W':World} (h:Below w3.heap.size w3 W∧∀ b o,b<w3.heap.size→W.cell? ⟨b,o,none⟩=w3.cell? ⟨b,o,none⟩) (hb:Below W.heap.size W W') :
 Below w3.heap.size w3 W'∧∀ b o,b<w3.heap.size→W'.cell? ⟨b,o,none⟩=w3.cell? ⟨b,o,none⟩ :=
 ⟨h.1.trans (hb.mono h.1.size),fun b o hbo=>(bcell (h.1.trans (hb.mono h.1.size))).1 b o hbo⟩
structure Gr (w:World) where
 to:World
 below:Below w.heap.size w to
instance grThere (w:World):Nonempty (Gr w):=⟨⟨w,Below.refl _ _⟩⟩
def gr (w:World) (g:Gr w):World:=g.to
@[go_sem] theorem gr_cell (w:World) (g:Gr w) (b o:Nat) (h:b<w.heap.size):(gr w g).cell? ⟨b,o,none⟩=w.cell? ⟨b,o,none⟩:=g.below.cell (p:=⟨b,o,none⟩) h
@[go_sem] theorem gr_frozen (w:World) (g:Gr w) (b o:Nat) (h:b<w.heap.size):(gr w g).frozen? ⟨b,o,none⟩=w.frozen? ⟨b,o,none⟩:=g.below.frozen (p:=⟨b,o,none⟩) h
theorem gr_below (w:World) (g:Gr w):Below w.heap.size w (gr w g):=g.below
theorem gr_le (w:World) (g:Gr w):w.heap.size≤(gr w g).heap.size:=g.below.size
theorem wp_region_gr {P:Program} {id:Nat} {Q:Exit→Act→World→Prop} {a:Act} {w:World} {l:List Oper} (hm:P.follows .mixedOrders=true) (hB:Region.lexB .any l.toArray=true)
 (h:wpQuiet P l.toArray (fun w'=>∃ g,w'=gr w g) (fun a'=>∀ w',(∃ g,w'=gr w g)→Q .normal a' w') l a):(Code.region id l.toArray true).wp P Q a w :=
 wp_region_quiet (C:=fun w'=>∃ g,w'=gr w g) hm hB ⟨⟨w.drew,(Below.refl _ _).drew⟩,rfl⟩ (by simpa using h)
theorem bg {n:Nat} {a w:World} (h:Below n a w:=by repeat (first | with_reducible exact Below.refl _ _ | with_reducible assumption | with_reducible refine Below.drew ?_ | with_reducible refine below_drawn ?_ | with_reducible refine Below.alloc ?_ (by first | omega | (simp;done) | (simp;omega) | (simp at *;omega)) _ | with_reducible refine Below.setCell ?_ (by first | omega | (simp;done) | (simp;omega) | (simp at *;omega)) _ | with_reducible refine Below.trans ?_ (Below.mono (by assumption) (by first | omega | (simp;done) | (simp;omega) | (simp at *;omega))))):Below n a w:=h
theorem kk1 {w t:World} (e:w=t) (b0 o0:Nat) (v0:Value) (h:t.cell? ⟨b0,o0,none⟩=some v0:=by go_simp):w.cell? ⟨b0,o0,none⟩=some v0:=e▸h
theorem kk2 {w t:World} (e:w=t) (b0 o0:Nat) (v0:Value) (b1 o1:Nat) (v1:Value) (h:t.cell? ⟨b0,o0,none⟩=some v0∧t.cell? ⟨b1,o1,none⟩=some v1:=by refine ⟨?_,?_⟩<;>go_simp):w.cell? ⟨b0,o0,none⟩=some v0∧w.cell? ⟨b1,o1,none⟩=some v1:=e▸h
theorem ff2 {w t:World} (e:w=t) (b0 o0:Nat) (b1 o1:Nat) (h:t.frozen? ⟨b0,o0,none⟩=false∧t.frozen? ⟨b1,o1,none⟩=false:=by refine ⟨?_,?_⟩<;>go_simp):w.frozen? ⟨b0,o0,none⟩=false∧w.frozen? ⟨b1,o1,none⟩=false:=e▸h
theorem kk4 {w t:World} (e:w=t) (b0 o0:Nat) (v0:Value) (b1 o1:Nat) (v1:Value) (b2 o2:Nat) (v2:Value) (b3 o3:Nat) (v3:Value) (h:t.cell? ⟨b0,o0,none⟩=some v0∧t.cell? ⟨b1,o1,none⟩=some v1∧t.cell? ⟨b2,o2,none⟩=some v2∧t.cell? ⟨b3,o3,none⟩=some v3:=by refine ⟨?_,?_,?_,?_⟩<;>go_simp):w.cell? ⟨b0,o0,none⟩=some v0∧w.cell? ⟨b1,o1,none⟩=some v1∧w.cell? ⟨b2,o2,none⟩=some v2∧w.cell? ⟨b3,o3,none⟩=some v3:=e▸h
theorem ff4 {w t:World} (e:w=t) (b0 o0:Nat) (b1 o1:Nat) (b2 o2:Nat) (b3 o3:Nat) (h:t.frozen? ⟨b0,o0,none⟩=false∧t.frozen? ⟨b1,o1,none⟩=false∧t.frozen? ⟨b2,o2,none⟩=false∧t.frozen? ⟨b3,o3,none⟩=false:=by refine ⟨?_,?_,?_,?_⟩<;>go_simp):w.frozen? ⟨b0,o0,none⟩=false∧w.frozen? ⟨b1,o1,none⟩=false∧w.frozen? ⟨b2,o2,none⟩=false∧w.frozen? ⟨b3,o3,none⟩=false:=e▸h
theorem kk6 {w t:World} (e:w=t) (b0 o0:Nat) (v0:Value) (b1 o1:Nat) (v1:Value) (b2 o2:Nat) (v2:Value) (b3 o3:Nat) (v3:Value) (b4 o4:Nat) (v4:Value) (b5 o5:Nat) (v5:Value) (h:t.cell? ⟨b0,o0,none⟩=some v0∧t.cell? ⟨b1,o1,none⟩=some v1∧t.cell? ⟨b2,o2,none⟩=some v2∧t.cell? ⟨b3,o3,none⟩=some v3∧t.cell? ⟨b4,o4,none⟩=some v4∧t.cell? ⟨b5,o5,none⟩=some v5:=by refine ⟨?_,?_,?_,?_,?_,?_⟩<;>go_simp):w.cell? ⟨b0,o0,none⟩=some v0∧w.cell? ⟨b1,o1,none⟩=some v1∧w.cell? ⟨b2,o2,none⟩=some v2∧w.cell? ⟨b3,o3,none⟩=some v3∧w.cell? ⟨b4,o4,none⟩=some v4∧w.cell? ⟨b5,o5,none⟩=some v5:=e▸h
theorem ff7 {w t:World} (e:w=t) (b0 o0:Nat) (b1 o1:Nat) (b2 o2:Nat) (b3 o3:Nat) (b4 o4:Nat) (b5 o5:Nat) (b6 o6:Nat) (h:t.frozen? ⟨b0,o0,none⟩=false∧t.frozen? ⟨b1,o1,none⟩=false∧t.frozen? ⟨b2,o2,none⟩=false∧t.frozen? ⟨b3,o3,none⟩=false∧t.frozen? ⟨b4,o4,none⟩=false∧t.frozen? ⟨b5,o5,none⟩=false∧t.frozen? ⟨b6,o6,none⟩=false:=by refine ⟨?_,?_,?_,?_,?_,?_,?_⟩<;>go_simp):w.frozen? ⟨b0,o0,none⟩=false∧w.frozen? ⟨b1,o1,none⟩=false∧w.frozen? ⟨b2,o2,none⟩=false∧w.frozen? ⟨b3,o3,none⟩=false∧w.frozen? ⟨b4,o4,none⟩=false∧w.frozen? ⟨b5,o5,none⟩=false∧w.frozen? ⟨b6,o6,none⟩=false:=e▸h
theorem kb3 {w t:World} (e:w=t) (b:Nat) (o0:Nat) (v0:Value) (o1:Nat) (v1:Value) (o2:Nat) (v2:Value) (h:t.cell? ⟨b,o0,none⟩=some v0∧t.cell? ⟨b,o1,none⟩=some v1∧t.cell? ⟨b,o2,none⟩=some v2:=by refine ⟨?_,?_,?_⟩<;>go_simp):w.cell? ⟨b,o0,none⟩=some v0∧w.cell? ⟨b,o1,none⟩=some v1∧w.cell? ⟨b,o2,none⟩=some v2:=e▸h
theorem kz3 {w t:World} (e:w=t) (b:Nat) (v0 v1 v2:Value) (h:t.cell? ⟨b,0,none⟩=some v0∧t.cell? ⟨b,1,none⟩=some v1∧t.cell? ⟨b,2,none⟩=some v2:=by refine ⟨?_,?_,?_⟩<;>go_simp):w.cell? ⟨b,0,none⟩=some v0∧w.cell? ⟨b,1,none⟩=some v1∧w.cell? ⟨b,2,none⟩=some v2:=e▸h
theorem kb4 {w t:World} (e:w=t) (b:Nat) (o0:Nat) (v0:Value) (o1:Nat) (v1:Value) (o2:Nat) (v2:Value) (o3:Nat) (v3:Value) (h:t.cell? ⟨b,o0,none⟩=some v0∧t.cell? ⟨b,o1,none⟩=some v1∧t.cell? ⟨b,o2,none⟩=some v2∧t.cell? ⟨b,o3,none⟩=some v3:=by refine ⟨?_,?_,?_,?_⟩<;>go_simp):w.cell? ⟨b,o0,none⟩=some v0∧w.cell? ⟨b,o1,none⟩=some v1∧w.cell? ⟨b,o2,none⟩=some v2∧w.cell? ⟨b,o3,none⟩=some v3:=e▸h
theorem kz4 {w t:World} (e:w=t) (b:Nat) (v0 v1 v2 v3:Value) (h:t.cell? ⟨b,0,none⟩=some v0∧t.cell? ⟨b,1,none⟩=some v1∧t.cell? ⟨b,2,none⟩=some v2∧t.cell? ⟨b,3,none⟩=some v3:=by refine ⟨?_,?_,?_,?_⟩<;>go_simp):w.cell? ⟨b,0,none⟩=some v0∧w.cell? ⟨b,1,none⟩=some v1∧w.cell? ⟨b,2,none⟩=some v2∧w.cell? ⟨b,3,none⟩=some v3:=e▸h
theorem kb6 {w t:World} (e:w=t) (b:Nat) (o0:Nat) (v0:Value) (o1:Nat) (v1:Value) (o2:Nat) (v2:Value) (o3:Nat) (v3:Value) (o4:Nat) (v4:Value) (o5:Nat) (v5:Value) (h:t.cell? ⟨b,o0,none⟩=some v0∧t.cell? ⟨b,o1,none⟩=some v1∧t.cell? ⟨b,o2,none⟩=some v2∧t.cell? ⟨b,o3,none⟩=some v3∧t.cell? ⟨b,o4,none⟩=some v4∧t.cell? ⟨b,o5,none⟩=some v5:=by refine ⟨?_,?_,?_,?_,?_,?_⟩<;>go_simp):w.cell? ⟨b,o0,none⟩=some v0∧w.cell? ⟨b,o1,none⟩=some v1∧w.cell? ⟨b,o2,none⟩=some v2∧w.cell? ⟨b,o3,none⟩=some v3∧w.cell? ⟨b,o4,none⟩=some v4∧w.cell? ⟨b,o5,none⟩=some v5:=e▸h
theorem kz6 {w t:World} (e:w=t) (b:Nat) (v0 v1 v2 v3 v4 v5:Value) (h:t.cell? ⟨b,0,none⟩=some v0∧t.cell? ⟨b,1,none⟩=some v1∧t.cell? ⟨b,2,none⟩=some v2∧t.cell? ⟨b,3,none⟩=some v3∧t.cell? ⟨b,4,none⟩=some v4∧t.cell? ⟨b,5,none⟩=some v5:=by refine ⟨?_,?_,?_,?_,?_,?_⟩<;>go_simp):w.cell? ⟨b,0,none⟩=some v0∧w.cell? ⟨b,1,none⟩=some v1∧w.cell? ⟨b,2,none⟩=some v2∧w.cell? ⟨b,3,none⟩=some v3∧w.cell? ⟨b,4,none⟩=some v4∧w.cell? ⟨b,5,none⟩=some v5:=e▸h
theorem kb7 {w t:World} (e:w=t) (b:Nat) (o0:Nat) (v0:Value) (o1:Nat) (v1:Value) (o2:Nat) (v2:Value) (o3:Nat) (v3:Value) (o4:Nat) (v4:Value) (o5:Nat) (v5:Value) (o6:Nat) (v6:Value) (h:t.cell? ⟨b,o0,none⟩=some v0∧t.cell? ⟨b,o1,none⟩=some v1∧t.cell? ⟨b,o2,none⟩=some v2∧t.cell? ⟨b,o3,none⟩=some v3∧t.cell? ⟨b,o4,none⟩=some v4∧t.cell? ⟨b,o5,none⟩=some v5∧t.cell? ⟨b,o6,none⟩=some v6:=by refine ⟨?_,?_,?_,?_,?_,?_,?_⟩<;>go_simp):w.cell? ⟨b,o0,none⟩=some v0∧w.cell? ⟨b,o1,none⟩=some v1∧w.cell? ⟨b,o2,none⟩=some v2∧w.cell? ⟨b,o3,none⟩=some v3∧w.cell? ⟨b,o4,none⟩=some v4∧w.cell? ⟨b,o5,none⟩=some v5∧w.cell? ⟨b,o6,none⟩=some v6:=e▸h
theorem kb9 {w t:World} (e:w=t) (b:Nat) (o0:Nat) (v0:Value) (o1:Nat) (v1:Value) (o2:Nat) (v2:Value) (o3:Nat) (v3:Value) (o4:Nat) (v4:Value) (o5:Nat) (v5:Value) (o6:Nat) (v6:Value) (o7:Nat) (v7:Value) (o8:Nat) (v8:Value) (h:t.cell? ⟨b,o0,none⟩=some v0∧t.cell? ⟨b,o1,none⟩=some v1∧t.cell? ⟨b,o2,none⟩=some v2∧t.cell? ⟨b,o3,none⟩=some v3∧t.cell? ⟨b,o4,none⟩=some v4∧t.cell? ⟨b,o5,none⟩=some v5∧t.cell? ⟨b,o6,none⟩=some v6∧t.cell? ⟨b,o7,none⟩=some v7∧t.cell? ⟨b,o8,none⟩=some v8:=by refine ⟨?_,?_,?_,?_,?_,?_,?_,?_,?_⟩<;>go_simp):w.cell? ⟨b,o0,none⟩=some v0∧w.cell? ⟨b,o1,none⟩=some v1∧w.cell? ⟨b,o2,none⟩=some v2∧w.cell? ⟨b,o3,none⟩=some v3∧w.cell? ⟨b,o4,none⟩=some v4∧w.cell? ⟨b,o5,none⟩=some v5∧w.cell? ⟨b,o6,none⟩=some v6∧w.cell? ⟨b,o7,none⟩=some v7∧w.cell? ⟨b,o8,none⟩=some v8:=e▸h
theorem kz9 {w t:World} (e:w=t) (b:Nat) (v0 v1 v2 v3 v4 v5 v6 v7 v8:Value) (h:t.cell? ⟨b,0,none⟩=some v0∧t.cell? ⟨b,1,none⟩=some v1∧t.cell? ⟨b,2,none⟩=some v2∧t.cell? ⟨b,3,none⟩=some v3∧t.cell? ⟨b,4,none⟩=some v4∧t.cell? ⟨b,5,none⟩=some v5∧t.cell? ⟨b,6,none⟩=some v6∧t.cell? ⟨b,7,none⟩=some v7∧t.cell? ⟨b,8,none⟩=some v8:=by refine ⟨?_,?_,?_,?_,?_,?_,?_,?_,?_⟩<;>go_simp):w.cell? ⟨b,0,none⟩=some v0∧w.cell? ⟨b,1,none⟩=some v1∧w.cell? ⟨b,2,none⟩=some v2∧w.cell? ⟨b,3,none⟩=some v3∧w.cell? ⟨b,4,none⟩=some v4∧w.cell? ⟨b,5,none⟩=some v5∧w.cell? ⟨b,6,none⟩=some v6∧w.cell? ⟨b,7,none⟩=some v7∧w.cell? ⟨b,8,none⟩=some v8:=e▸h
theorem kb12 {w t:World} (e:w=t) (b:Nat) (o0:Nat) (v0:Value) (o1:Nat) (v1:Value) (o2:Nat) (v2:Value) (o3:Nat) (v3:Value) (o4:Nat) (v4:Value) (o5:Nat) (v5:Value) (o6:Nat) (v6:Value) (o7:Nat) (v7:Value) (o8:Nat) (v8:Value) (o9:Nat) (v9:Value) (o10:Nat) (v10:Value) (o11:Nat) (v11:Value) (h:t.cell? ⟨b,o0,none⟩=some v0∧t.cell? ⟨b,o1,none⟩=some v1∧t.cell? ⟨b,o2,none⟩=some v2∧t.cell? ⟨b,o3,none⟩=some v3∧t.cell? ⟨b,o4,none⟩=some v4∧t.cell? ⟨b,o5,none⟩=some v5∧t.cell? ⟨b,o6,none⟩=some v6∧t.cell? ⟨b,o7,none⟩=some v7∧t.cell? ⟨b,o8,none⟩=some v8∧t.cell? ⟨b,o9,none⟩=some v9∧t.cell? ⟨b,o10,none⟩=some v10∧t.cell? ⟨b,o11,none⟩=some v11:=by refine ⟨?_,?_,?_,?_,?_,?_,?_,?_,?_,?_,?_,?_⟩<;>go_simp):w.cell? ⟨b,o0,none⟩=some v0∧w.cell? ⟨b,o1,none⟩=some v1∧w.cell? ⟨b,o2,none⟩=some v2∧w.cell? ⟨b,o3,none⟩=some v3∧w.cell? ⟨b,o4,none⟩=some v4∧w.cell? ⟨b,o5,none⟩=some v5∧w.cell? ⟨b,o6,none⟩=some v6∧w.cell? ⟨b,o7,none⟩=some v7∧w.cell? ⟨b,o8,none⟩=some v8∧w.cell? ⟨b,o9,none⟩=some v9∧w.cell? ⟨b,o10,none⟩=some v10∧w.cell? ⟨b,o11,none⟩=some v11:=e▸h
theorem kz12 {w t:World} (e:w=t) (b:Nat) (v0 v1 v2 v3 v4 v5 v6 v7 v8 v9 v10 v11:Value) (h:t.cell? ⟨b,0,none⟩=some v0∧t.cell? ⟨b,1,none⟩=some v1∧t.cell? ⟨b,2,none⟩=some v2∧t.cell? ⟨b,3,none⟩=some v3∧t.cell? ⟨b,4,none⟩=some v4∧t.cell? ⟨b,5,none⟩=some v5∧t.cell? ⟨b,6,none⟩=some v6∧t.cell? ⟨b,7,none⟩=some v7∧t.cell? ⟨b,8,none⟩=some v8∧t.cell? ⟨b,9,none⟩=some v9∧t.cell? ⟨b,10,none⟩=some v10∧t.cell? ⟨b,11,none⟩=some v11:=by refine ⟨?_,?_,?_,?_,?_,?_,?_,?_,?_,?_,?_,?_⟩<;>go_simp):w.cell? ⟨b,0,none⟩=some v0∧w.cell? ⟨b,1,none⟩=some v1∧w.cell? ⟨b,2,none⟩=some v2∧w.cell? ⟨b,3,none⟩=some v3∧w.cell? ⟨b,4,none⟩=some v4∧w.cell? ⟨b,5,none⟩=some v5∧w.cell? ⟨b,6,none⟩=some v6∧w.cell? ⟨b,7,none⟩=some v7∧w.cell? ⟨b,8,none⟩=some v8∧w.cell? ⟨b,9,none⟩=some v9∧w.cell? ⟨b,10,none⟩=some v10∧w.cell? ⟨b,11,none⟩=some v11:=e▸h
theorem sg (b:Nat) {w t:World} (e:w=t) (h:b<t.heap.size:=by first | omega | (simp;done) | (simp;omega)):b<w.heap.size:=e▸h
theorem calls_gr {P:Program} {f:FuncId} {args:Array Value} {w:World} {g:Gr w} {v:Value}
 (h:Calls P f args (gr w g) fun e w'=>e=.returned v∧Below (gr w g).heap.size (gr w g) w'):Calls P f args (gr w g) fun e w''=>e=.returned v∧∃ m,w''=gr w m :=
 h.mono fun _ w' ⟨he,hb⟩=>⟨he,⟨w',g.below.trans (hb.mono g.below.size)⟩,rfl⟩
end Go.Proofs.YtogamdaomdoapaaGreat
namespace Go.Proofs.YtogamdaomdoapaaGreat
theorem bl_irrefl (x:List UInt8):Op.bytesLess x x=false:=by
 induction x with
 | nil=>rfl
 | cons a x ih=>simp [Op.bytesLess,ih]
theorem bl_trans {x y z:List UInt8} (h:Op.bytesLess x y=true) (k:Op.bytesLess y z=true):Op.bytesLess x z=true:=by
 induction x generalizing y z with
 | nil =>
  cases y with
  | nil=>simp [Op.bytesLess] at h
  | cons b y=>cases z with
   | nil=>simp [Op.bytesLess] at k
   | cons c z=>simp [Op.bytesLess]
 | cons a x ih =>
  cases y with
  | nil=>simp [Op.bytesLess] at h
  | cons b y=>cases z with
   | nil=>simp [Op.bytesLess] at k
   | cons c z =>
    simp only [Op.bytesLess,Bool.or_eq_true,decide_eq_true_eq,Bool.and_eq_true,beq_iff_eq] at h k ⊢
    rcases h with h | ⟨rfl,h⟩<;>rcases k with k | ⟨rfl,k⟩
    ·left;exact UInt8.lt_trans h k
    ·left;exact h
    ·left;exact k
    ·right;exact ⟨rfl,ih h k⟩
theorem bl_tri {x y:List UInt8} (h:Op.bytesLess x y=false) (k:Op.bytesLess y x=false):x=y:=by
 induction x generalizing y with
 | nil=>cases y with
  | nil=>rfl
  | cons b y=>simp [Op.bytesLess] at h
 | cons a x ih=>cases y with
  | nil=>simp [Op.bytesLess] at k
  | cons b y =>
   simp only [Op.bytesLess,Bool.or_eq_false_iff,decide_eq_false_iff_not,Bool.and_eq_false_iff,beq_eq_false_iff_ne] at h k
   have e:a=b:=by
    have h1:=h.1;have h2:=k.1
    exact UInt8.le_antisymm (UInt8.not_lt.1 h2) (UInt8.not_lt.1 h1)
   subst e
   have:=ih (y:=y) (by rcases h.2 with h | h<;>simp_all) (by rcases k.2 with h | h<;>simp_all)
   rw [this]
theorem bl_asymm {x y:List UInt8} (h:Op.bytesLess x y=true):Op.bytesLess y x=false:=by
 cases k:Op.bytesLess y x with
 | false=>rfl
 | true=>have:=bl_trans h k;rw [bl_irrefl] at this;cases this
theorem bl_nil (x:List UInt8):Op.bytesLess x []=false:=by cases x<;>rfl
theorem bl_of_nil {x:List UInt8} (h:x≠[]):Op.bytesLess [] x=true:=by cases x<;>simp_all [Op.bytesLess]
def gtB (a b:ByteArray):Bool:=!Op.bytesLess a.toList b.toList&&!(a.toList==b.toList)
def leB (a b:ByteArray):Bool:=Op.bytesLess a.toList b.toList || a.toList==b.toList
def isB (f t:ByteArray):Bool:=decide ((f.size:Int)≤16)&&(decide ((t.size:Int)≤16)&&(t.toList.isEmpty || gtB t f))
def inB (f t k:ByteArray):Bool:=isB f t&&decide ((1:Int)≤k.size)&&decide ((k.size:Int)≤16)&&!(Op.bytesLess k.toList f.toList)&&(t.toList.isEmpty || Op.bytesLess k.toList t.toList)
def cutOk (f t k:ByteArray):Bool:=inB f t k&&!(leB k f)
def joinOk (f t f' t':ByteArray):Bool:=isB f t&&isB f' t'&&!t.toList.isEmpty&&(t.toList==f'.toList)
def sel (b:Bool) (x:ByteArray):ByteArray:=if b then x else ⟨#[]⟩
theorem isB_iff (f t:ByteArray):isB f t=true↔(f.size:Int)≤16∧(t.size:Int)≤16∧(t.toList=[]∨Op.bytesLess f.toList t.toList=true):=by
 have key:gtB t f=true↔Op.bytesLess f.toList t.toList=true:=by
  unfold gtB
  simp only [Bool.and_eq_true,Bool.not_eq_true',beq_eq_false_iff_ne]
  constructor
  ·rintro ⟨h,k⟩
   cases j:Op.bytesLess f.toList t.toList with
   | true=>rfl
   | false=>exact absurd (bl_tri h j) k
  ·intro h
   refine ⟨bl_asymm h,fun e=>?_⟩
   rw [e,bl_irrefl] at h;cases h
 simp only [isB,Bool.and_eq_true,Bool.or_eq_true,decide_eq_true_eq,List.isEmpty_iff,key]
end Go.Proofs.YtogamdaomdoapaaGreat
namespace Go.Proofs.YtogamdaomdoapaaGreat
open Go.RowKit
set_option maxHeartbeats 1000000 in
theorem span_is (f t:ByteArray) (w:World) :
 Calls Tryz.prog 136 #[.agg #[.string f,.string t]] w fun e w'=>e=.returned (.bool (isB f t))∧Below w.heap.size w w':=by
 go_enter Tryz.func136,Tryz.ntmps136
 go_wp2
 all_goals (go_ret;refine ⟨?_,bg⟩)
 all_goals (simp [isB,gtB, *];try omega)
set_option maxHeartbeats 1000000 in
theorem span_in (f t k:ByteArray) (w:World) :
 Calls Tryz.prog 152 #[.agg #[.string f,.string t],.string k] w fun e w'=>e=.returned (.bool (inB f t k))∧Below w.heap.size w w':=by
 go_enter Tryz.func152,Tryz.ntmps152
 go_wp2_with fail
 (refine calls_name fun wa hwa=>?_;have wa_s0:=sg w.heap.size hwa;obtain ⟨wa_c0,wa_c1⟩:=kk2 hwa w.heap.size 0 (.string f) w.heap.size 1 (.string t);have wa_b:Below w.heap.size w wa:=(by rw [hwa];exact bg);clear hwa)
 refine (span_is _ _ _).mono ?_
 (rintro e w1 ⟨rfl,w1_h⟩;obtain ⟨w1_hc,w1_hf⟩:=bcell w1_h;have w1_z:=w1_h.size;have w1_b:=wa_b.trans (w1_h.mono (by have:=wa_b.size;omega));have w1_le:=w1_b.size;clear w1_h)
 go_wp2_with fail
 all_goals (go_ret;refine ⟨?_,bg⟩)
 all_goals (simp [inB, *];try omega)
set_option maxHeartbeats 1000000 in
theorem span_cut (f t k:ByteArray) (w:World) :
 Calls Tryz.prog 149 #[.agg #[.string f,.string t],.string k] w fun e w'=>e=.returned (.tuple #[.agg #[.string (sel (cutOk f t k) f),.string (sel (cutOk f t k) k)],.agg #[.string (sel (cutOk f t k) k),.string (sel (cutOk f t k) t)],.bool (cutOk f t k)])∧Below w.heap.size w w':=by
 go_enter Tryz.func149,Tryz.ntmps149
 go_wp2_with fail
 (refine calls_name fun wa hwa=>?_;have wa_s0:=sg w.heap.size hwa;have wa_s1:=sg (w.heap.size+1) hwa;have wa_s2:=sg (w.heap.size+2) hwa;obtain ⟨wa_c0,wa_c1,wa_c2,wa_c3,wa_c4,wa_c5⟩:=kk6 hwa w.heap.size 0 (.string f) w.heap.size 1 (.string t) (w.heap.size+1) 0 (.string ⟨#[]⟩) (w.heap.size+1) 1 (.string ⟨#[]⟩) (w.heap.size+2) 0 (.string ⟨#[]⟩) (w.heap.size+2) 1 (.string ⟨#[]⟩);obtain ⟨wa_f2,wa_f3,wa_f4,wa_f5⟩:=ff4 hwa (w.heap.size+1) 0 (w.heap.size+1) 1 (w.heap.size+2) 0 (w.heap.size+2) 1;have wa_b:Below w.heap.size w wa:=(by rw [hwa];exact bg);clear hwa)
 refine (span_in _ _ _ _).mono ?_
 (rintro e w1 ⟨rfl,w1_h⟩;obtain ⟨w1_hc,w1_hf⟩:=bcell w1_h;have w1_z:=w1_h.size;have w1_b:=wa_b.trans (w1_h.mono (by have:=wa_b.size;omega));have w1_le:=w1_b.size;have w1_s0:w.heap.size<w1.heap.size:=(by omega);have w1_s1:w.heap.size+1<w1.heap.size:=(by omega);have w1_s2:w.heap.size+2<w1.heap.size:=(by omega);clear w1_h)
 go_wp2_with fail
 rotate_left
 ·go_region_held3 (fun W=>W.cell? ⟨w.heap.size,0,none⟩=some (.string f)∧W.cell? ⟨w.heap.size,1,none⟩=some (.string t)) (go_simp) (fail)
  go_wp2_with fail
  refine bodyPost_ret (v:=.tuple #[.agg #[.string f,.string k],.agg #[.string k,.string t],.bool true]) (by simp [results,Tryz.results149,go_sem, *]) rfl ⟨?_,bg⟩
  simp [cutOk,leB,sel, *]
 all_goals (refine bodyPost_ret (v:=.tuple #[.agg #[.string ⟨#[]⟩,.string ⟨#[]⟩],.agg #[.string ⟨#[]⟩,.string ⟨#[]⟩],.bool false]) (by simp [results,Tryz.results149,go_sem, *]) rfl ⟨?_,bg⟩)
 ·simp [cutOk,sel, *]
 ·rcases ‹_∨_› with h | h<;>simp [cutOk,leB,sel,h]
set_option maxHeartbeats 1000000 in
theorem satrapyref12_is (f t:ByteArray) (w:World) :
 Calls Tryz.prog 37 #[.agg #[.string f,.string t]] w fun e w'=>e=.returned (.bool (isB f t))∧Below w.heap.size w w':=by
 go_enter Tryz.func37,Tryz.ntmps37
 go_wp2
 all_goals (go_ret;refine ⟨?_,bg⟩)
 all_goals (simp [isB,gtB, *];try omega)
set_option maxHeartbeats 1000000 in
theorem satrapyref12_in (f t k:ByteArray) (w:World) :
 Calls Tryz.prog 146 #[.agg #[.string f,.string t],.string k] w fun e w'=>e=.returned (.bool (inB f t k))∧Below w.heap.size w w':=by
 go_enter Tryz.func146,Tryz.ntmps146
 go_wp2_with fail
 (refine calls_name fun wa hwa=>?_;have wa_s0:=sg w.heap.size hwa;obtain ⟨wa_c0,wa_c1⟩:=kk2 hwa w.heap.size 0 (.string f) w.heap.size 1 (.string t);have wa_b:Below w.heap.size w wa:=(by rw [hwa];exact bg);clear hwa)
 refine (satrapyref12_is _ _ _).mono ?_
 (rintro e w1 ⟨rfl,w1_h⟩;obtain ⟨w1_hc,w1_hf⟩:=bcell w1_h;have w1_z:=w1_h.size;have w1_b:=wa_b.trans (w1_h.mono (by have:=wa_b.size;omega));have w1_le:=w1_b.size;clear w1_h)
 go_wp2_with fail
 all_goals (go_ret;refine ⟨?_,bg⟩)
 all_goals (simp [inB, *];try omega)
set_option maxHeartbeats 1000000 in
theorem satrapyref12_cut (f t k:ByteArray) (w:World) :
 Calls Tryz.prog 134 #[.agg #[.string f,.string t],.string k] w fun e w'=>e=.returned (.tuple #[.agg #[.string (sel (cutOk f t k) f),.string (sel (cutOk f t k) k)],.agg #[.string (sel (cutOk f t k) k),.string (sel (cutOk f t k) t)],.bool (cutOk f t k)])∧Below w.heap.size w w':=by
 go_enter Tryz.func134,Tryz.ntmps134
 go_wp2_with fail
 (refine calls_name fun wa hwa=>?_;have wa_s0:=sg w.heap.size hwa;have wa_s1:=sg (w.heap.size+1) hwa;have wa_s2:=sg (w.heap.size+2) hwa;obtain ⟨wa_c0,wa_c1,wa_c2,wa_c3,wa_c4,wa_c5⟩:=kk6 hwa w.heap.size 0 (.string f) w.heap.size 1 (.string t) (w.heap.size+1) 0 (.string ⟨#[]⟩) (w.heap.size+1) 1 (.string ⟨#[]⟩) (w.heap.size+2) 0 (.string ⟨#[]⟩) (w.heap.size+2) 1 (.string ⟨#[]⟩);obtain ⟨wa_f2,wa_f3,wa_f4,wa_f5⟩:=ff4 hwa (w.heap.size+1) 0 (w.heap.size+1) 1 (w.heap.size+2) 0 (w.heap.size+2) 1;have wa_b:Below w.heap.size w wa:=(by rw [hwa];exact bg);clear hwa)
 refine (satrapyref12_in _ _ _ _).mono ?_
 (rintro e w1 ⟨rfl,w1_h⟩;obtain ⟨w1_hc,w1_hf⟩:=bcell w1_h;have w1_z:=w1_h.size;have w1_b:=wa_b.trans (w1_h.mono (by have:=wa_b.size;omega));have w1_le:=w1_b.size;have w1_s0:w.heap.size<w1.heap.size:=(by omega);have w1_s1:w.heap.size+1<w1.heap.size:=(by omega);have w1_s2:w.heap.size+2<w1.heap.size:=(by omega);clear w1_h)
 go_wp2_with fail
 rotate_left
 ·go_region_held3 (fun W=>W.cell? ⟨w.heap.size,0,none⟩=some (.string f)∧W.cell? ⟨w.heap.size,1,none⟩=some (.string t)) (go_simp) (fail)
  go_wp2_with fail
  refine bodyPost_ret (v:=.tuple #[.agg #[.string f,.string k],.agg #[.string k,.string t],.bool true]) (by simp [results,Tryz.results134,go_sem, *]) rfl ⟨?_,bg⟩
  simp [cutOk,leB,sel, *]
 all_goals (refine bodyPost_ret (v:=.tuple #[.agg #[.string ⟨#[]⟩,.string ⟨#[]⟩],.agg #[.string ⟨#[]⟩,.string ⟨#[]⟩],.bool false]) (by simp [results,Tryz.results134,go_sem, *]) rfl ⟨?_,bg⟩)
 ·simp [cutOk,sel, *]
 ·rcases ‹_∨_› with h | h<;>simp [cutOk,leB,sel,h]
end Go.Proofs.YtogamdaomdoapaaGreat
namespace Go.Proofs.YtogamdaomdoapaaGreat
structure It where
 a:Int
 b:Int
 c:Int
 d:Int
def okN (x:Int):Prop:=0≤x∧x≤1152921504606846976
instance (x:Int):Decidable (okN x):=by unfold okN;infer_instance
def isI (i:It):Bool:=decide (okN i.a∧okN i.b∧okN i.c∧okN i.d)
theorem isI_iff (i:It):isI i=true↔(0≤i.a∧i.a≤1152921504606846976)∧(0≤i.b∧i.b≤1152921504606846976)∧(0≤i.c∧i.c≤1152921504606846976)∧(0≤i.d∧i.d≤1152921504606846976):=by unfold isI;rw [decide_eq_true_eq];exact Iff.rfl
theorem isI_false (i:It):isI i=false↔¬((0≤i.a∧i.a≤1152921504606846976)∧(0≤i.b∧i.b≤1152921504606846976)∧(0≤i.c∧i.c≤1152921504606846976)∧(0≤i.d∧i.d≤1152921504606846976)):=by
 rw [←isI_iff];simp
end Go.Proofs.YtogamdaomdoapaaGreat
namespace Go.Proofs.YtogamdaomdoapaaGreat
open Go.RowKit
theorem add_none (b off j:Nat):(⟨b,off,none⟩:Addr).add j=⟨b,off+j,none⟩:=by
 unfold Addr.add
 split
 ·rename_i h;subst h;rfl
 ·rfl
theorem heap_new (w:World) (o:Obj):(w.alloc o).heap[w.heap.size]?=some o:=(MapKept.heap_alloc w o).1
theorem owns_empty (w:World) (base:Nat) (h:base≤w.heap.size) (e:TypeId) (size:Nat):(w.alloc (.cells #[] e)).ownsRow base e size (.slice (some ⟨w.heap.size,0,none⟩) 0 0) 0 [] :=
 ⟨by simp,.inr ⟨w.heap.size,0,#[],rfl,h,heap_new w _,Nat.le_refl _,by simp [maxLen],by simp,by simp⟩⟩
theorem owns_emptyAt (w:World) (n:Nat) (hn:n=w.heap.size) (base:Nat) (h:base≤n) (e:TypeId) (size:Nat):(w.alloc (.cells #[] e)).ownsRow base e size (.slice (some ⟨n,0,none⟩) 0 0) 0 []:=by
 subst hn;exact owns_empty w base h e size
theorem bcellB {B:Nat} {W w1:World} (hb:Below B W w1):(∀ b o,b<B→w1.cell? ⟨b,o,none⟩=W.cell? ⟨b,o,none⟩)∧(∀ b o,b<B→w1.frozen? ⟨b,o,none⟩=W.frozen? ⟨b,o,none⟩) :=
 ⟨fun b o h=>hb.cell (p:=⟨b,o,none⟩) h,fun b o h=>hb.frozen (p:=⟨b,o,none⟩) h⟩
theorem below_grown {B:Nat} {w w1 w2:World} {row:Option Nat} (h:Below B w w1) (hB:B≤w1.heap.size) (hg:w1.grownBy w2 row) (hr:∀ k,row=some k→B≤k):Below B w w2:=h.grown hg hB hr
theorem own_block {v:Value} {B k:Nat} {w:World} {e:TypeId} {size n:Nat} {xs:List Value} (h:w.ownsRow B e size v n xs) (hk:v.ownBlock=some k):B≤k:=by
 rcases h.2 with ⟨rfl,-⟩ | ⟨g,cap,cur,rfl,hg,-⟩
 ·simp [Value.ownBlock] at hk
 ·simp [Value.ownBlock] at hk;omega
theorem wpList_append_any {P:Program} (w:World) {ops:Array Oper} {rest:List Oper} {o:Oper} {a:Act} {Q:Exit→Act→World→Prop} (hgd:o.guard=none) (s x:Operand) (t:TypeId)
 (ho:o.op=.call { callee:=.builtin .append,args:=#[s,x],argTypes:=#[t,t] })
 (base:Nat) (e:TypeId) (i:TypeInfo) (z:Value) (size bytes:Nat) (ht:P.underlying t=some (.slice e)) (hi:P.info? e=some i) (hz:i.zero=some z)
 (hsize:i.size=size) (hby:i.bytes=bytes) (hzs:z.cells.size=size) (hsz:0<size)
 (v:Value) (n:Nat) (xs:List Value) (hs:a.eval s=v) (hown:w.ownsRow base e size v n xs)
 (ao:Option Addr) (m c:Nat) (news:List Value) (hx:a.eval x=.slice ao m c) (hnone:ao=none→m=0∧c=0) (hl:news.length=m * size) (hnews:∀ ad,ao=some ad→∀ j u,news[j]?=some u→w.cell? (ad.add j)=some u) (h1:∀ u∈news,u.oneCell'=true)
 (h63:n+m≤maxLen) (hbytes:(n+m) * bytes≤140737488355328) (hbase:base≤w.heap.size)
 (h:∀ v' w',w'.ownsRow base e size v' (n+m) (xs++news)→w.grownBy w' v.ownBlock→wpList P ops Q rest (a.put o.dst v') w'):wpList P ops Q (o::rest) a w:=by
 cases ao with
 | none =>
  obtain ⟨rfl,rfl⟩:=hnone rfl
  have hn:news=[]:=by cases news with
   | nil=>rfl
   | cons y r=>simp at hl
  subst hn
  refine wpList_append_own_none hgd s x t ho base e i size ht hi v n xs hs hown hx ?_
  exact h v w (by simpa using hown) ⟨rfl,rfl,rfl,Nat.le_refl _,fun _ _ _=>rfl⟩
 | some ad=>exact wpList_append_own w hgd s x t ho base e i z size bytes ht hi hz hsize hby hzs hsz v n xs hs hown ad m c news hx hl (hnews ad rfl) h1 h63 hbytes hbase fun v' w' a b _=>h v' w' a b
end Go.Proofs.YtogamdaomdoapaaGreat