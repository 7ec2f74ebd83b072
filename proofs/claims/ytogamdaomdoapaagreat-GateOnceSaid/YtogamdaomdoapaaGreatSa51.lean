/- Texts put together: GtE. -/
import Derived.Test.YtogamdaomdoapaaGreatSa50
import Derived.Laws.IdiomArrays
namespace Go.Proofs.YtogamdaomdoapaaGreat
open Go.ChangeShapes Go.WideShapes Go.Deep Go.Joins Go.RowKit
namespace G
section
variable {H:Type} {enc:TypeId × Value→H} {w:World} {base:Nat}
theorem trod_items {fuel:Nat} {c0 c1 c2 c3:Value} {x:DataW H × List MemPlace} (h:DataW.trod enc Tryz.prog w base (fun _=>true) true fuel 39 [c0,c1,c2,c3]=some x):∃ i:It,[c0,c1,c2,c3]=[.int .i64 i.a,.int .i64 i.b,.int .i64 i.c,.int .i64 i.d]:=by
 obtain ⟨y0,y1,y2,y3,n,-,h0,h1,h2,h3⟩:=trod_array4 Tryz.underlying39 (by kernel_rfl) h
 obtain ⟨n0,q0,-⟩:=DataW.trod_int Tryz.underlying3 h0
 obtain ⟨n1,q1,-⟩:=DataW.trod_int Tryz.underlying3 h1
 obtain ⟨n2,q2,-⟩:=DataW.trod_int Tryz.underlying3 h2
 obtain ⟨n3,q3,-⟩:=DataW.trod_int Tryz.underlying3 h3
 simp only [List.cons.injEq,and_true] at q0 q1 q2 q3
 subst q0 q1 q2 q3
 exact ⟨⟨n0,n1,n2,n3⟩,rfl⟩
set_option maxRecDepth 20000 in
theorem trod_rep {fuel:Nat} {c0 c1 c2 c3 c4 c5:Value} {x:DataW H × List MemPlace} (hf:DataW.trod enc Tryz.prog w base (fun _=>true) true fuel 41 [c0,c1,c2,c3,c4,c5]=some x):∃ r:Rp,[c0,c1,c2,c3,c4,c5]=[.int .i64 r.err,.int .i64 r.id,.int .i64 r.i.a,.int .i64 r.i.b,.int .i64 r.i.c,.int .i64 r.i.d]:=by
 obtain ⟨xs,n,-,-,hl,hlen,hg⟩:=DataW.trod_struct Tryz.underlying41 hf
 have e0:Tryz.prog.cellsOf 24=1:=by kernel_rfl
 have e1:Tryz.prog.cellsOf 39=4:=by kernel_rfl
 have e2:Tryz.prog.cellsOf 3=1:=by kernel_rfl
 have hx:∀ i,i<3→∃ y,xs[i]?=some y:=fun i hi=>⟨_,List.getElem?_eq_getElem (by rw [hlen];exact hi)⟩
 have g0:=hg 0 _ rfl
 obtain ⟨y0,hy0⟩:=hx 0 (by decide)
 rw [hy0] at g0
 simp only [List.getElem_toArray] at g0
 (try simp only [List.getElem_cons_succ] at g0);(try simp only [List.getElem_cons_zero] at g0);(try simp only [e0] at g0);(try simp only [e1] at g0);(try simp only [e2] at g0);(try simp only [List.drop_zero] at g0);(try simp only [List.drop_succ_cons] at g0);(try simp only [List.drop_zero] at g0);(try simp only [List.take_succ_cons] at g0);(try simp only [List.take_zero] at g0)
 have g1:=hg 1 _ rfl
 obtain ⟨y1,hy1⟩:=hx 1 (by decide)
 rw [hy1] at g1
 simp only [List.getElem_toArray] at g1
 (try simp only [List.getElem_cons_succ] at g1);(try simp only [List.getElem_cons_zero] at g1);(try simp only [e0] at g1);(try simp only [e1] at g1);(try simp only [e2] at g1);(try simp only [List.drop_zero] at g1);(try simp only [List.drop_succ_cons] at g1);(try simp only [List.drop_zero] at g1);(try simp only [List.take_succ_cons] at g1);(try simp only [List.take_zero] at g1)
 have g2:=hg 2 _ rfl
 obtain ⟨y2,hy2⟩:=hx 2 (by decide)
 rw [hy2] at g2
 simp only [List.getElem_toArray] at g2
 (try simp only [List.getElem_cons_succ] at g2);(try simp only [List.getElem_cons_zero] at g2);(try simp only [e0] at g2);(try simp only [e1] at g2);(try simp only [e2] at g2);(try simp only [List.drop_zero] at g2);(try simp only [List.drop_succ_cons] at g2);(try simp only [List.drop_zero] at g2);(try simp only [List.take_succ_cons] at g2);(try simp only [List.take_zero] at g2)
 obtain ⟨n0,q0,-⟩:=DataW.trod_int Tryz.underlying24 g0
 obtain ⟨n1,q1,-⟩:=DataW.trod_int Tryz.underlying3 g1
 obtain ⟨t2,q2⟩:=trod_items g2;simp only [List.cons.injEq,and_true] at q2;obtain ⟨rfl,rfl,rfl,rfl⟩:=q2
 simp only [List.cons.injEq,and_true] at q0 q1
 subst q0 q1
 exact ⟨⟨n0,n1,t2⟩,rfl⟩
set_option maxRecDepth 20000 in
theorem open_rep {v:Value} {d:DataW H} {p:List MemPlace} {b:Nat} (hv:Value.okWide Tryz.prog w .any b 41 v) (h:DataW.Trod enc Tryz.prog w base (fun _=>true) true 41 v d p):∃ r:Rp,v=.agg #[.int .i64 r.err,.int .i64 r.id,.int .i64 r.i.a,.int .i64 r.i.b,.int .i64 r.i.c,.int .i64 r.i.d]:=by
 obtain ⟨cs,rfl,hsz⟩:=okWide_struct Tryz.underlying41 hv
 obtain ⟨l⟩:=cs
 match l,hsz.trans (by kernel_rfl:Tryz.prog.cellsOf 41=6) with
 | [c0,c1,c2,c3,c4,c5],_ =>
  obtain ⟨fuel,hf⟩:=h
  obtain ⟨r,hr⟩:=trod_rep hf
  exact ⟨r,by rw [hr]⟩
end
end G
end Go.Proofs.YtogamdaomdoapaaGreat