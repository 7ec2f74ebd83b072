/- Texts put together: OpenOp. -/
import Derived.Test.YtogamdaomdoapaaZa01
import Derived.Test.YtogamdaomdoapaaZa08
import Derived.ChangeSame
import Derived.Deep.Fields
import Derived.Deep.Slices
import Derived.Lib.SmallJoins
import Derived.OpenShut
import Derived.ProofKit
import Derived.ShutString
import Derived.SizedLaws
namespace Go.Proofs.Ytogamdaomdoapaa
open Go.ChangeShapes Go.WideShapes Go.Deep Go.Joins Go.RowKit
section
variable {H:Type} {enc:TypeId × Value→H} {w:World} {base:Nat}
theorem list12 {α:Type} {l:List α} (h:l.length=12):∃ a b c d e f g i j k m n,l=[a,b,c,d,e,f,g,i,j,k,m,n]:=by
 match l,h with
 | [a,b,c,d,e,f,g,i,j,k,m,n],_=>exact ⟨a,b,c,d,e,f,g,i,j,k,m,n,rfl⟩
theorem trod_place {fuel:Nat} {c0 c1:Value} {x:DataW H × List MemPlace} (h:DataW.trod enc Try.prog w base (fun _=>true) true fuel 28 [c0,c1]=some x):∃ k v:ByteArray,c0=.string k∧c1=.string v:=by
 obtain ⟨y0,y1,n,-,-,h0,h1⟩:=trod_struct2 Try.underlying28 h
 have e:Try.prog.cellsOf 9=1:=by kernel_rfl
 simp only [e,List.drop_zero,List.drop_succ_cons,List.take_succ_cons,List.take_zero] at h0 h1
 obtain ⟨k,ek,-⟩:=DataW.trod_string Try.underlying9 h0
 obtain ⟨v,ev,-⟩:=DataW.trod_string Try.underlying9 h1
 exact ⟨k,v,by simpa using ek,by simpa using ev⟩
set_option maxRecDepth 20000 in
theorem open_op {v:Value} {d:DataW H} {p:List MemPlace} {b:Nat} (hv:Value.okWide Try.prog w .any b 30 v) (h:DataW.Trod enc Try.prog w 0 (fun _=>true) true 30 v d p) :
 ∃ o:Rq,v=.agg #[.int .i64 o.kind,.int .i64 o.client,.int .i64 o.seq,.string o.key,.string o.who,.string o.tkey,.string o.twho,.int .i64 o.item,.int .i64 o.count,.int .i64 o.price,.bool o.buy,.int .i64 o.id]:=by
 obtain ⟨cs,rfl,hsz⟩:=okWide_struct Try.underlying30 hv
 obtain ⟨c0,c1,c2,c3,c4,c5,c6,c7,c8,c9,c10,c11,hcs⟩:=list12 (show cs.toList.length=12 by rw [Array.length_toList];exact hsz.trans (by kernel_rfl))
 obtain ⟨fuel,hf⟩:=h
 simp only [Value.cells,hcs] at hf
 obtain ⟨xs,n,-,-,hl,hlen,hg⟩:=DataW.trod_struct Try.underlying30 hf
 have e3:Try.prog.cellsOf 3=1:=by kernel_rfl
 have e4:Try.prog.cellsOf 4=1:=by kernel_rfl
 have e23:Try.prog.cellsOf 28=2:=by kernel_rfl
 have hx:∀ i,i<10→∃ y,xs[i]?=some y:=fun i hi=>⟨_,List.getElem?_eq_getElem (by rw [hlen];exact hi)⟩
 have g0:=hg 0 _ rfl
 obtain ⟨y0,hy0⟩:=hx 0 (by decide)
 rw [hy0] at g0
 simp only [List.getElem_toArray] at g0
 (try simp only [List.getElem_cons_succ] at g0);(try simp only [List.getElem_cons_zero] at g0);(try simp only [e3] at g0);(try simp only [e4] at g0);(try simp only [e23] at g0);(try simp only [List.drop_zero] at g0);(try simp only [List.drop_succ_cons] at g0);(try simp only [List.drop_zero] at g0);(try simp only [List.take_succ_cons] at g0);(try simp only [List.take_zero] at g0)
 have g1:=hg 1 _ rfl
 obtain ⟨y1,hy1⟩:=hx 1 (by decide)
 rw [hy1] at g1
 simp only [List.getElem_toArray] at g1
 (try simp only [List.getElem_cons_succ] at g1);(try simp only [List.getElem_cons_zero] at g1);(try simp only [e3] at g1);(try simp only [e4] at g1);(try simp only [e23] at g1);(try simp only [List.drop_zero] at g1);(try simp only [List.drop_succ_cons] at g1);(try simp only [List.drop_zero] at g1);(try simp only [List.take_succ_cons] at g1);(try simp only [List.take_zero] at g1)
 have g2:=hg 2 _ rfl
 obtain ⟨y2,hy2⟩:=hx 2 (by decide)
 rw [hy2] at g2
 simp only [List.getElem_toArray] at g2
 (try simp only [List.getElem_cons_succ] at g2);(try simp only [List.getElem_cons_zero] at g2);(try simp only [e3] at g2);(try simp only [e4] at g2);(try simp only [e23] at g2);(try simp only [List.drop_zero] at g2);(try simp only [List.drop_succ_cons] at g2);(try simp only [List.drop_zero] at g2);(try simp only [List.take_succ_cons] at g2);(try simp only [List.take_zero] at g2)
 have g3:=hg 3 _ rfl
 obtain ⟨y3,hy3⟩:=hx 3 (by decide)
 rw [hy3] at g3
 simp only [List.getElem_toArray] at g3
 (try simp only [List.getElem_cons_succ] at g3);(try simp only [List.getElem_cons_zero] at g3);(try simp only [e3] at g3);(try simp only [e4] at g3);(try simp only [e23] at g3);(try simp only [List.drop_zero] at g3);(try simp only [List.drop_succ_cons] at g3);(try simp only [List.drop_zero] at g3);(try simp only [List.take_succ_cons] at g3);(try simp only [List.take_zero] at g3)
 have g4:=hg 4 _ rfl
 obtain ⟨y4,hy4⟩:=hx 4 (by decide)
 rw [hy4] at g4
 simp only [List.getElem_toArray] at g4
 (try simp only [List.getElem_cons_succ] at g4);(try simp only [List.getElem_cons_zero] at g4);(try simp only [e3] at g4);(try simp only [e4] at g4);(try simp only [e23] at g4);(try simp only [List.drop_zero] at g4);(try simp only [List.drop_succ_cons] at g4);(try simp only [List.drop_zero] at g4);(try simp only [List.take_succ_cons] at g4);(try simp only [List.take_zero] at g4)
 have g5:=hg 5 _ rfl
 obtain ⟨y5,hy5⟩:=hx 5 (by decide)
 rw [hy5] at g5
 simp only [List.getElem_toArray] at g5
 (try simp only [List.getElem_cons_succ] at g5);(try simp only [List.getElem_cons_zero] at g5);(try simp only [e3] at g5);(try simp only [e4] at g5);(try simp only [e23] at g5);(try simp only [List.drop_zero] at g5);(try simp only [List.drop_succ_cons] at g5);(try simp only [List.drop_zero] at g5);(try simp only [List.take_succ_cons] at g5);(try simp only [List.take_zero] at g5)
 have g6:=hg 6 _ rfl
 obtain ⟨y6,hy6⟩:=hx 6 (by decide)
 rw [hy6] at g6
 simp only [List.getElem_toArray] at g6
 (try simp only [List.getElem_cons_succ] at g6);(try simp only [List.getElem_cons_zero] at g6);(try simp only [e3] at g6);(try simp only [e4] at g6);(try simp only [e23] at g6);(try simp only [List.drop_zero] at g6);(try simp only [List.drop_succ_cons] at g6);(try simp only [List.drop_zero] at g6);(try simp only [List.take_succ_cons] at g6);(try simp only [List.take_zero] at g6)
 have g7:=hg 7 _ rfl
 obtain ⟨y7,hy7⟩:=hx 7 (by decide)
 rw [hy7] at g7
 simp only [List.getElem_toArray] at g7
 (try simp only [List.getElem_cons_succ] at g7);(try simp only [List.getElem_cons_zero] at g7);(try simp only [e3] at g7);(try simp only [e4] at g7);(try simp only [e23] at g7);(try simp only [List.drop_zero] at g7);(try simp only [List.drop_succ_cons] at g7);(try simp only [List.drop_zero] at g7);(try simp only [List.take_succ_cons] at g7);(try simp only [List.take_zero] at g7)
 have g8:=hg 8 _ rfl
 obtain ⟨y8,hy8⟩:=hx 8 (by decide)
 rw [hy8] at g8
 simp only [List.getElem_toArray] at g8
 (try simp only [List.getElem_cons_succ] at g8);(try simp only [List.getElem_cons_zero] at g8);(try simp only [e3] at g8);(try simp only [e4] at g8);(try simp only [e23] at g8);(try simp only [List.drop_zero] at g8);(try simp only [List.drop_succ_cons] at g8);(try simp only [List.drop_zero] at g8);(try simp only [List.take_succ_cons] at g8);(try simp only [List.take_zero] at g8)
 have g9:=hg 9 _ rfl
 obtain ⟨y9,hy9⟩:=hx 9 (by decide)
 rw [hy9] at g9
 simp only [List.getElem_toArray] at g9
 (try simp only [List.getElem_cons_succ] at g9);(try simp only [List.getElem_cons_zero] at g9);(try simp only [e3] at g9);(try simp only [e4] at g9);(try simp only [e23] at g9);(try simp only [List.drop_zero] at g9);(try simp only [List.drop_succ_cons] at g9);(try simp only [List.drop_zero] at g9);(try simp only [List.take_succ_cons] at g9);(try simp only [List.take_zero] at g9)
 obtain ⟨n0,q0,-⟩:=DataW.trod_int Try.underlying3 g0
 obtain ⟨n1,q1,-⟩:=DataW.trod_int Try.underlying3 g1
 obtain ⟨n2,q2,-⟩:=DataW.trod_int Try.underlying3 g2
 obtain ⟨k1,v1,rfl,rfl⟩:=trod_place g3
 obtain ⟨k2,v2,rfl,rfl⟩:=trod_place g4
 obtain ⟨n5,q5,-⟩:=DataW.trod_int Try.underlying3 g5
 obtain ⟨n6,q6,-⟩:=DataW.trod_int Try.underlying3 g6
 obtain ⟨n7,q7,-⟩:=DataW.trod_int Try.underlying3 g7
 obtain ⟨b8,q8,-⟩:=DataW.trod_bool Try.underlying4 g8
 obtain ⟨n9,q9,-⟩:=DataW.trod_int Try.underlying3 g9
 simp only [List.cons.injEq,and_true] at q0 q1 q2 q5 q6 q7 q8 q9
 subst q0 q1 q2 q5 q6 q7 q8 q9
 refine ⟨⟨n0,n1,n2,k1,v1,k2,v2,n5,n6,n7,b8,n9⟩,?_⟩
 rw [←hcs]
end
end Go.Proofs.Ytogamdaomdoapaa