/- Texts put together: WOp. -/
import Derived.Test.YthlcmjgdilebeaaGreatQb08
import Derived.Test.YthlcmjgdilebeaaGreatQb48
import Derived.Laws.IdiomArrays
namespace Go.Proofs.YthlcmjgdilebeaaGreat
open Go.ChangeShapes Go.WideShapes Go.Deep Go.Joins Go.RowKit
section
variable {H:Type} {enc:TypeId × Value→H} {w:World} {base:Nat}
theorem trod_place {fuel:Nat} {c0 c1:Value} {x:DataW H × List MemPlace} (h:DataW.trod enc Tryz.prog w base (fun _=>true) true fuel 26 [c0,c1]=some x):∃ k v:ByteArray,c0=.string k∧c1=.string v:=by
 obtain ⟨y0,y1,n,-,-,h0,h1⟩:=trod_struct2 Tryz.underlying26 h
 have e:Tryz.prog.cellsOf 9=1:=by kernel_rfl
 simp only [e,List.drop_zero,List.drop_succ_cons,List.take_succ_cons,List.take_zero] at h0 h1
 obtain ⟨k,ek,-⟩:=DataW.trod_string Tryz.underlying9 h0
 obtain ⟨v,ev,-⟩:=DataW.trod_string Tryz.underlying9 h1
 exact ⟨k,v,by simpa using ek,by simpa using ev⟩
theorem trod_items {fuel:Nat} {c0 c1 c2 c3:Value} {x:DataW H × List MemPlace} (h:DataW.trod enc Tryz.prog w base (fun _=>true) true fuel 30 [c0,c1,c2,c3]=some x):∃ i:It,[c0,c1,c2,c3]=[.int .i64 i.a,.int .i64 i.b,.int .i64 i.c,.int .i64 i.d]:=by
 obtain ⟨y0,y1,y2,y3,n,-,h0,h1,h2,h3⟩:=trod_array4 Tryz.underlying30 (by kernel_rfl) h
 obtain ⟨n0,q0,-⟩:=DataW.trod_int Tryz.underlying3 h0
 obtain ⟨n1,q1,-⟩:=DataW.trod_int Tryz.underlying3 h1
 obtain ⟨n2,q2,-⟩:=DataW.trod_int Tryz.underlying3 h2
 obtain ⟨n3,q3,-⟩:=DataW.trod_int Tryz.underlying3 h3
 simp only [List.cons.injEq,and_true] at q0 q1 q2 q3
 subst q0 q1 q2 q3
 exact ⟨⟨n0,n1,n2,n3⟩,rfl⟩
set_option maxRecDepth 20000 in
theorem trod_op {fuel:Nat} {c0 c1 c2 c3 c4 c5 c6 c7 c8 c9 c10 c11:Value} {x:DataW H × List MemPlace} (hf:DataW.trod enc Tryz.prog w base (fun _=>true) true fuel 28 [c0,c1,c2,c3,c4,c5,c6,c7,c8,c9,c10,c11]=some x):∃ o:Rq,[c0,c1,c2,c3,c4,c5,c6,c7,c8,c9,c10,c11]=[.int .i64 o.kind,.int .i64 o.client,.int .i64 o.seq,.string o.key,.string o.who,.string o.tkey,.string o.twho,.int .i64 o.item,.int .i64 o.count,.int .i64 o.price,.bool o.buy,.int .i64 o.id]:=by
 obtain ⟨xs,n,-,-,hl,hlen,hg⟩:=DataW.trod_struct Tryz.underlying28 hf
 have e0:Tryz.prog.cellsOf 26=2:=by kernel_rfl
 have e1:Tryz.prog.cellsOf 4=1:=by kernel_rfl
 have e2:Tryz.prog.cellsOf 3=1:=by kernel_rfl
 have hx:∀ i,i<10→∃ y,xs[i]?=some y:=fun i hi=>⟨_,List.getElem?_eq_getElem (by rw [hlen];exact hi)⟩
 have g0:=hg 0 _ rfl
 obtain ⟨y0,hy0⟩:=hx 0 (by decide)
 rw [hy0] at g0
 simp only [List.getElem_toArray] at g0
 (try simp only [List.getElem_cons_succ] at g0);(try simp only [List.getElem_cons_zero] at g0);(try simp only [e0] at g0);(try simp only [e1] at g0);(try simp only [e2] at g0);(try simp only [List.drop_zero] at g0);(try simp only [List.drop_succ_cons] at g0);(try simp only [List.drop_zero] at g0);(try simp only [List.take_succ_cons] at g0);(try simp only [List.take_zero] at g0)
 have g1:=hg 1 _ rfl
 obtain ⟨y1,hy1⟩:=hx 1 (by decide)
 rw [hy1] at g1
 simp only [List.getElem_toArray] at g1
 (try simp only [List.getElem_cons_succ] at g1);(try simp only [List.getElem_cons_zero] at g1);(try simp only [e0] at g1);(try simp only [e1] at g1);(try simp only [e2] at g1);(try simp only [List.drop_zero] at g1);(try simp only [List.drop_succ_cons] at g1);(try simp only [List.drop_zero] at g1);(try simp only [List.take_succ_cons] at g1);(try simp only [List.take_zero] at g1)
 have g2:=hg 2 _ rfl
 obtain ⟨y2,hy2⟩:=hx 2 (by decide)
 rw [hy2] at g2
 simp only [List.getElem_toArray] at g2
 (try simp only [List.getElem_cons_succ] at g2);(try simp only [List.getElem_cons_zero] at g2);(try simp only [e0] at g2);(try simp only [e1] at g2);(try simp only [e2] at g2);(try simp only [List.drop_zero] at g2);(try simp only [List.drop_succ_cons] at g2);(try simp only [List.drop_zero] at g2);(try simp only [List.take_succ_cons] at g2);(try simp only [List.take_zero] at g2)
 have g3:=hg 3 _ rfl
 obtain ⟨y3,hy3⟩:=hx 3 (by decide)
 rw [hy3] at g3
 simp only [List.getElem_toArray] at g3
 (try simp only [List.getElem_cons_succ] at g3);(try simp only [List.getElem_cons_zero] at g3);(try simp only [e0] at g3);(try simp only [e1] at g3);(try simp only [e2] at g3);(try simp only [List.drop_zero] at g3);(try simp only [List.drop_succ_cons] at g3);(try simp only [List.drop_zero] at g3);(try simp only [List.take_succ_cons] at g3);(try simp only [List.take_zero] at g3)
 have g4:=hg 4 _ rfl
 obtain ⟨y4,hy4⟩:=hx 4 (by decide)
 rw [hy4] at g4
 simp only [List.getElem_toArray] at g4
 (try simp only [List.getElem_cons_succ] at g4);(try simp only [List.getElem_cons_zero] at g4);(try simp only [e0] at g4);(try simp only [e1] at g4);(try simp only [e2] at g4);(try simp only [List.drop_zero] at g4);(try simp only [List.drop_succ_cons] at g4);(try simp only [List.drop_zero] at g4);(try simp only [List.take_succ_cons] at g4);(try simp only [List.take_zero] at g4)
 have g5:=hg 5 _ rfl
 obtain ⟨y5,hy5⟩:=hx 5 (by decide)
 rw [hy5] at g5
 simp only [List.getElem_toArray] at g5
 (try simp only [List.getElem_cons_succ] at g5);(try simp only [List.getElem_cons_zero] at g5);(try simp only [e0] at g5);(try simp only [e1] at g5);(try simp only [e2] at g5);(try simp only [List.drop_zero] at g5);(try simp only [List.drop_succ_cons] at g5);(try simp only [List.drop_zero] at g5);(try simp only [List.take_succ_cons] at g5);(try simp only [List.take_zero] at g5)
 have g6:=hg 6 _ rfl
 obtain ⟨y6,hy6⟩:=hx 6 (by decide)
 rw [hy6] at g6
 simp only [List.getElem_toArray] at g6
 (try simp only [List.getElem_cons_succ] at g6);(try simp only [List.getElem_cons_zero] at g6);(try simp only [e0] at g6);(try simp only [e1] at g6);(try simp only [e2] at g6);(try simp only [List.drop_zero] at g6);(try simp only [List.drop_succ_cons] at g6);(try simp only [List.drop_zero] at g6);(try simp only [List.take_succ_cons] at g6);(try simp only [List.take_zero] at g6)
 have g7:=hg 7 _ rfl
 obtain ⟨y7,hy7⟩:=hx 7 (by decide)
 rw [hy7] at g7
 simp only [List.getElem_toArray] at g7
 (try simp only [List.getElem_cons_succ] at g7);(try simp only [List.getElem_cons_zero] at g7);(try simp only [e0] at g7);(try simp only [e1] at g7);(try simp only [e2] at g7);(try simp only [List.drop_zero] at g7);(try simp only [List.drop_succ_cons] at g7);(try simp only [List.drop_zero] at g7);(try simp only [List.take_succ_cons] at g7);(try simp only [List.take_zero] at g7)
 have g8:=hg 8 _ rfl
 obtain ⟨y8,hy8⟩:=hx 8 (by decide)
 rw [hy8] at g8
 simp only [List.getElem_toArray] at g8
 (try simp only [List.getElem_cons_succ] at g8);(try simp only [List.getElem_cons_zero] at g8);(try simp only [e0] at g8);(try simp only [e1] at g8);(try simp only [e2] at g8);(try simp only [List.drop_zero] at g8);(try simp only [List.drop_succ_cons] at g8);(try simp only [List.drop_zero] at g8);(try simp only [List.take_succ_cons] at g8);(try simp only [List.take_zero] at g8)
 have g9:=hg 9 _ rfl
 obtain ⟨y9,hy9⟩:=hx 9 (by decide)
 rw [hy9] at g9
 simp only [List.getElem_toArray] at g9
 (try simp only [List.getElem_cons_succ] at g9);(try simp only [List.getElem_cons_zero] at g9);(try simp only [e0] at g9);(try simp only [e1] at g9);(try simp only [e2] at g9);(try simp only [List.drop_zero] at g9);(try simp only [List.drop_succ_cons] at g9);(try simp only [List.drop_zero] at g9);(try simp only [List.take_succ_cons] at g9);(try simp only [List.take_zero] at g9)
 obtain ⟨n0,q0,-⟩:=DataW.trod_int Tryz.underlying3 g0
 obtain ⟨n1,q1,-⟩:=DataW.trod_int Tryz.underlying3 g1
 obtain ⟨n2,q2,-⟩:=DataW.trod_int Tryz.underlying3 g2
 obtain ⟨k3,v3,rfl,rfl⟩:=trod_place g3
 obtain ⟨k4,v4,rfl,rfl⟩:=trod_place g4
 obtain ⟨n5,q5,-⟩:=DataW.trod_int Tryz.underlying3 g5
 obtain ⟨n6,q6,-⟩:=DataW.trod_int Tryz.underlying3 g6
 obtain ⟨n7,q7,-⟩:=DataW.trod_int Tryz.underlying3 g7
 obtain ⟨n8,q8,-⟩:=DataW.trod_bool Tryz.underlying4 g8
 obtain ⟨n9,q9,-⟩:=DataW.trod_int Tryz.underlying3 g9
 simp only [List.cons.injEq,and_true] at q0 q1 q2 q5 q6 q7 q8 q9
 subst q0 q1 q2 q5 q6 q7 q8 q9
 exact ⟨⟨n0,n1,n2,k3,v3,k4,v4,n5,n6,n7,n8,n9⟩,rfl⟩
set_option maxRecDepth 20000 in
theorem trod_rep {fuel:Nat} {c0 c1 c2 c3 c4 c5:Value} {x:DataW H × List MemPlace} (hf:DataW.trod enc Tryz.prog w base (fun _=>true) true fuel 32 [c0,c1,c2,c3,c4,c5]=some x):∃ r:Rp,[c0,c1,c2,c3,c4,c5]=[.int .i64 r.err,.int .i64 r.id,.int .i64 r.i.a,.int .i64 r.i.b,.int .i64 r.i.c,.int .i64 r.i.d]:=by
 obtain ⟨xs,n,-,-,hl,hlen,hg⟩:=DataW.trod_struct Tryz.underlying32 hf
 have e0:Tryz.prog.cellsOf 22=1:=by kernel_rfl
 have e1:Tryz.prog.cellsOf 30=4:=by kernel_rfl
 have e2:Tryz.prog.cellsOf 3=1:=by kernel_rfl
 have hx:∀ i,i<3→∃ y,xs[i]?=some y:=fun i hi=>⟨_,List.getElem?_eq_getElem (by rw [hlen];exact hi)⟩
 have g0:=hg 0 _ rfl
 obtain ⟨y0,hy0⟩:=hx 0 (by decide)
 rw [hy0] at g0
 simp only [List.getElem_toArray] at g0
 (try simp only [List.getElem_cons_succ] at g0);(try simp only [List.getElem_cons_zero] at g0);(try simp only [e0] at g0);(try simp only [e1] at g0);(try simp only [e2] at g0);(try simp only [List.drop_zero] at g0);(try simp only [List.drop_succ_cons] at g0);(try simp only [List.drop_zero] at g0);(try simp only [List.take_succ_cons] at g0);(try simp only [List.take_zero] at g0)
 have g1:=hg 1 _ rfl
 obtain ⟨y1,hy1⟩:=hx 1 (by decide)
 rw [hy1] at g1
 simp only [List.getElem_toArray] at g1
 (try simp only [List.getElem_cons_succ] at g1);(try simp only [List.getElem_cons_zero] at g1);(try simp only [e0] at g1);(try simp only [e1] at g1);(try simp only [e2] at g1);(try simp only [List.drop_zero] at g1);(try simp only [List.drop_succ_cons] at g1);(try simp only [List.drop_zero] at g1);(try simp only [List.take_succ_cons] at g1);(try simp only [List.take_zero] at g1)
 have g2:=hg 2 _ rfl
 obtain ⟨y2,hy2⟩:=hx 2 (by decide)
 rw [hy2] at g2
 simp only [List.getElem_toArray] at g2
 (try simp only [List.getElem_cons_succ] at g2);(try simp only [List.getElem_cons_zero] at g2);(try simp only [e0] at g2);(try simp only [e1] at g2);(try simp only [e2] at g2);(try simp only [List.drop_zero] at g2);(try simp only [List.drop_succ_cons] at g2);(try simp only [List.drop_zero] at g2);(try simp only [List.take_succ_cons] at g2);(try simp only [List.take_zero] at g2)
 obtain ⟨n0,q0,-⟩:=DataW.trod_int Tryz.underlying22 g0
 obtain ⟨n1,q1,-⟩:=DataW.trod_int Tryz.underlying3 g1
 obtain ⟨t2,q2⟩:=trod_items g2;simp only [List.cons.injEq,and_true] at q2;obtain ⟨rfl,rfl,rfl,rfl⟩:=q2
 simp only [List.cons.injEq,and_true] at q0 q1
 subst q0 q1
 exact ⟨⟨n0,n1,t2⟩,rfl⟩
set_option maxRecDepth 20000 in
theorem trod_map {fuel:Nat} {c0 c1 c2:Value} {x:DataW H × List MemPlace} (hf:DataW.trod enc Tryz.prog w base (fun _=>true) true fuel 35 [c0,c1,c2]=some x):∃ (m:Mp) (ao:Option Addr) (cap:Nat),[c0,c1,c2]=[.int .i64 m.ver,.int .i64 m.next,.slice ao m.zs.length cap]∧m.zs.length≤cap∧cap≤maxLen∧O.ZsAt w ao m.zs:=by
 obtain ⟨xs,n,-,-,hl,hlen,hg⟩:=DataW.trod_struct Tryz.underlying35 hf
 have e0:Tryz.prog.cellsOf 33=1:=by kernel_rfl
 have e1:Tryz.prog.cellsOf 3=1:=by kernel_rfl
 have hx:∀ i,i<3→∃ y,xs[i]?=some y:=fun i hi=>⟨_,List.getElem?_eq_getElem (by rw [hlen];exact hi)⟩
 have g0:=hg 0 _ rfl
 obtain ⟨y0,hy0⟩:=hx 0 (by decide)
 rw [hy0] at g0
 simp only [List.getElem_toArray] at g0
 (try simp only [List.getElem_cons_succ] at g0);(try simp only [List.getElem_cons_zero] at g0);(try simp only [e0] at g0);(try simp only [e1] at g0);(try simp only [List.drop_zero] at g0);(try simp only [List.drop_succ_cons] at g0);(try simp only [List.drop_zero] at g0);(try simp only [List.take_succ_cons] at g0);(try simp only [List.take_zero] at g0)
 have g1:=hg 1 _ rfl
 obtain ⟨y1,hy1⟩:=hx 1 (by decide)
 rw [hy1] at g1
 simp only [List.getElem_toArray] at g1
 (try simp only [List.getElem_cons_succ] at g1);(try simp only [List.getElem_cons_zero] at g1);(try simp only [e0] at g1);(try simp only [e1] at g1);(try simp only [List.drop_zero] at g1);(try simp only [List.drop_succ_cons] at g1);(try simp only [List.drop_zero] at g1);(try simp only [List.take_succ_cons] at g1);(try simp only [List.take_zero] at g1)
 have g2:=hg 2 _ rfl
 obtain ⟨y2,hy2⟩:=hx 2 (by decide)
 rw [hy2] at g2
 simp only [List.getElem_toArray] at g2
 (try simp only [List.getElem_cons_succ] at g2);(try simp only [List.getElem_cons_zero] at g2);(try simp only [e0] at g2);(try simp only [e1] at g2);(try simp only [List.drop_zero] at g2);(try simp only [List.drop_succ_cons] at g2);(try simp only [List.drop_zero] at g2);(try simp only [List.take_succ_cons] at g2);(try simp only [List.take_zero] at g2)
 obtain ⟨n0,q0,-⟩:=DataW.trod_int Tryz.underlying3 g0
 obtain ⟨n1,q1,-⟩:=DataW.trod_int Tryz.underlying3 g1
 obtain ⟨ao,L,cap,q2,h1,h2,h3⟩:=O.trod_zones g2;simp only [List.cons.injEq,and_true] at q2;subst q2
 simp only [List.cons.injEq,and_true] at q0 q1
 subst q0 q1
 exact ⟨⟨n0,n1,L⟩,ao,cap,rfl,h1,h2,h3⟩
set_option maxRecDepth 20000 in
theorem trod_change {fuel:Nat} {c0 c1 c2 c3 c4:Value} {x:DataW H × List MemPlace} (hf:DataW.trod enc Tryz.prog w base (fun _=>true) true fuel 37 [c0,c1,c2,c3,c4]=some x):∃ c:Ch,[c0,c1,c2,c3,c4]=[.int .i64 c.kind,.int .i64 c.zone,.int .i64 c.epoch,.int .i64 c.tt,.string c.key]:=by
 obtain ⟨xs,n,-,-,hl,hlen,hg⟩:=DataW.trod_struct Tryz.underlying37 hf
 have e0:Tryz.prog.cellsOf 3=1:=by kernel_rfl
 have e1:Tryz.prog.cellsOf 9=1:=by kernel_rfl
 have hx:∀ i,i<5→∃ y,xs[i]?=some y:=fun i hi=>⟨_,List.getElem?_eq_getElem (by rw [hlen];exact hi)⟩
 have g0:=hg 0 _ rfl
 obtain ⟨y0,hy0⟩:=hx 0 (by decide)
 rw [hy0] at g0
 simp only [List.getElem_toArray] at g0
 (try simp only [List.getElem_cons_succ] at g0);(try simp only [List.getElem_cons_zero] at g0);(try simp only [e0] at g0);(try simp only [e1] at g0);(try simp only [List.drop_zero] at g0);(try simp only [List.drop_succ_cons] at g0);(try simp only [List.drop_zero] at g0);(try simp only [List.take_succ_cons] at g0);(try simp only [List.take_zero] at g0)
 have g1:=hg 1 _ rfl
 obtain ⟨y1,hy1⟩:=hx 1 (by decide)
 rw [hy1] at g1
 simp only [List.getElem_toArray] at g1
 (try simp only [List.getElem_cons_succ] at g1);(try simp only [List.getElem_cons_zero] at g1);(try simp only [e0] at g1);(try simp only [e1] at g1);(try simp only [List.drop_zero] at g1);(try simp only [List.drop_succ_cons] at g1);(try simp only [List.drop_zero] at g1);(try simp only [List.take_succ_cons] at g1);(try simp only [List.take_zero] at g1)
 have g2:=hg 2 _ rfl
 obtain ⟨y2,hy2⟩:=hx 2 (by decide)
 rw [hy2] at g2
 simp only [List.getElem_toArray] at g2
 (try simp only [List.getElem_cons_succ] at g2);(try simp only [List.getElem_cons_zero] at g2);(try simp only [e0] at g2);(try simp only [e1] at g2);(try simp only [List.drop_zero] at g2);(try simp only [List.drop_succ_cons] at g2);(try simp only [List.drop_zero] at g2);(try simp only [List.take_succ_cons] at g2);(try simp only [List.take_zero] at g2)
 have g3:=hg 3 _ rfl
 obtain ⟨y3,hy3⟩:=hx 3 (by decide)
 rw [hy3] at g3
 simp only [List.getElem_toArray] at g3
 (try simp only [List.getElem_cons_succ] at g3);(try simp only [List.getElem_cons_zero] at g3);(try simp only [e0] at g3);(try simp only [e1] at g3);(try simp only [List.drop_zero] at g3);(try simp only [List.drop_succ_cons] at g3);(try simp only [List.drop_zero] at g3);(try simp only [List.take_succ_cons] at g3);(try simp only [List.take_zero] at g3)
 have g4:=hg 4 _ rfl
 obtain ⟨y4,hy4⟩:=hx 4 (by decide)
 rw [hy4] at g4
 simp only [List.getElem_toArray] at g4
 (try simp only [List.getElem_cons_succ] at g4);(try simp only [List.getElem_cons_zero] at g4);(try simp only [e0] at g4);(try simp only [e1] at g4);(try simp only [List.drop_zero] at g4);(try simp only [List.drop_succ_cons] at g4);(try simp only [List.drop_zero] at g4);(try simp only [List.take_succ_cons] at g4);(try simp only [List.take_zero] at g4)
 obtain ⟨n0,q0,-⟩:=DataW.trod_int Tryz.underlying3 g0
 obtain ⟨n1,q1,-⟩:=DataW.trod_int Tryz.underlying3 g1
 obtain ⟨n2,q2,-⟩:=DataW.trod_int Tryz.underlying3 g2
 obtain ⟨n3,q3,-⟩:=DataW.trod_int Tryz.underlying3 g3
 obtain ⟨n4,q4,-⟩:=DataW.trod_string Tryz.underlying9 g4
 simp only [List.cons.injEq,and_true] at q0 q1 q2 q3 q4
 subst q0 q1 q2 q3 q4
 exact ⟨⟨n0,n1,n2,n3,n4⟩,rfl⟩
set_option maxRecDepth 20000 in
theorem trod_word {fuel:Nat} {c0 c1 c2 c3 c4 c5 c6 c7 c8 c9 c10 c11 c12 c13 c14 c15 c16 c17 c18 c19 c20 c21 c22 c23 c24 c25 c26 c27 c28 c29 c30 c31 c32 c33 c34 c35 c36:Value} {x:DataW H × List MemPlace} (hf:DataW.trod enc Tryz.prog w base (fun _=>true) true fuel 40 [c0,c1,c2,c3,c4,c5,c6,c7,c8,c9,c10,c11,c12,c13,c14,c15,c16,c17,c18,c19,c20,c21,c22,c23,c24,c25,c26,c27,c28,c29,c30,c31,c32,c33,c34,c35,c36]=some x):∃ (d:Wd) (ao:Option Addr) (zc:Nat) (bo:Option Addr) (bc:Nat),[c0,c1,c2,c3,c4,c5,c6,c7,c8,c9,c10,c11,c12,c13,c14,c15,c16,c17,c18,c19,c20,c21,c22,c23,c24,c25,c26,c27,c28,c29,c30,c31,c32,c33,c34,c35,c36]=(wdV d (.slice ao d.mp.zs.length zc) (.slice bo d.data.length bc)).toList∧d.mp.zs.length≤zc∧zc≤maxLen∧O.ZsAt w ao d.mp.zs∧d.data.length≤bc∧bc≤maxLen∧(bo=none→d.data.length=0∧bc=0)∧BAt w bo d.data:=by
 obtain ⟨xs,n,-,-,hl,hlen,hg⟩:=DataW.trod_struct Tryz.underlying40 hf
 have e0:Tryz.prog.cellsOf 38=1:=by kernel_rfl
 have e1:Tryz.prog.cellsOf 37=5:=by kernel_rfl
 have e2:Tryz.prog.cellsOf 22=1:=by kernel_rfl
 have e3:Tryz.prog.cellsOf 35=3:=by kernel_rfl
 have e4:Tryz.prog.cellsOf 28=12:=by kernel_rfl
 have e5:Tryz.prog.cellsOf 32=6:=by kernel_rfl
 have e6:Tryz.prog.cellsOf 24=2:=by kernel_rfl
 have e7:Tryz.prog.cellsOf 3=1:=by kernel_rfl
 have hx:∀ i,i<14→∃ y,xs[i]?=some y:=fun i hi=>⟨_,List.getElem?_eq_getElem (by rw [hlen];exact hi)⟩
 have g0:=hg 0 _ rfl
 obtain ⟨y0,hy0⟩:=hx 0 (by decide)
 rw [hy0] at g0
 simp only [List.getElem_toArray] at g0
 (try simp only [List.getElem_cons_succ] at g0);(try simp only [List.getElem_cons_zero] at g0);(try simp only [e0] at g0);(try simp only [e1] at g0);(try simp only [e2] at g0);(try simp only [e3] at g0);(try simp only [e4] at g0);(try simp only [e5] at g0);(try simp only [e6] at g0);(try simp only [e7] at g0);(try simp only [List.drop_zero] at g0);(try simp only [List.drop_succ_cons] at g0);(try simp only [List.drop_zero] at g0);(try simp only [List.take_succ_cons] at g0);(try simp only [List.take_zero] at g0)
 have g1:=hg 1 _ rfl
 obtain ⟨y1,hy1⟩:=hx 1 (by decide)
 rw [hy1] at g1
 simp only [List.getElem_toArray] at g1
 (try simp only [List.getElem_cons_succ] at g1);(try simp only [List.getElem_cons_zero] at g1);(try simp only [e0] at g1);(try simp only [e1] at g1);(try simp only [e2] at g1);(try simp only [e3] at g1);(try simp only [e4] at g1);(try simp only [e5] at g1);(try simp only [e6] at g1);(try simp only [e7] at g1);(try simp only [List.drop_zero] at g1);(try simp only [List.drop_succ_cons] at g1);(try simp only [List.drop_zero] at g1);(try simp only [List.take_succ_cons] at g1);(try simp only [List.take_zero] at g1)
 have g2:=hg 2 _ rfl
 obtain ⟨y2,hy2⟩:=hx 2 (by decide)
 rw [hy2] at g2
 simp only [List.getElem_toArray] at g2
 (try simp only [List.getElem_cons_succ] at g2);(try simp only [List.getElem_cons_zero] at g2);(try simp only [e0] at g2);(try simp only [e1] at g2);(try simp only [e2] at g2);(try simp only [e3] at g2);(try simp only [e4] at g2);(try simp only [e5] at g2);(try simp only [e6] at g2);(try simp only [e7] at g2);(try simp only [List.drop_zero] at g2);(try simp only [List.drop_succ_cons] at g2);(try simp only [List.drop_zero] at g2);(try simp only [List.take_succ_cons] at g2);(try simp only [List.take_zero] at g2)
 have g3:=hg 3 _ rfl
 obtain ⟨y3,hy3⟩:=hx 3 (by decide)
 rw [hy3] at g3
 simp only [List.getElem_toArray] at g3
 (try simp only [List.getElem_cons_succ] at g3);(try simp only [List.getElem_cons_zero] at g3);(try simp only [e0] at g3);(try simp only [e1] at g3);(try simp only [e2] at g3);(try simp only [e3] at g3);(try simp only [e4] at g3);(try simp only [e5] at g3);(try simp only [e6] at g3);(try simp only [e7] at g3);(try simp only [List.drop_zero] at g3);(try simp only [List.drop_succ_cons] at g3);(try simp only [List.drop_zero] at g3);(try simp only [List.take_succ_cons] at g3);(try simp only [List.take_zero] at g3)
 have g4:=hg 4 _ rfl
 obtain ⟨y4,hy4⟩:=hx 4 (by decide)
 rw [hy4] at g4
 simp only [List.getElem_toArray] at g4
 (try simp only [List.getElem_cons_succ] at g4);(try simp only [List.getElem_cons_zero] at g4);(try simp only [e0] at g4);(try simp only [e1] at g4);(try simp only [e2] at g4);(try simp only [e3] at g4);(try simp only [e4] at g4);(try simp only [e5] at g4);(try simp only [e6] at g4);(try simp only [e7] at g4);(try simp only [List.drop_zero] at g4);(try simp only [List.drop_succ_cons] at g4);(try simp only [List.drop_zero] at g4);(try simp only [List.take_succ_cons] at g4);(try simp only [List.take_zero] at g4)
 have g5:=hg 5 _ rfl
 obtain ⟨y5,hy5⟩:=hx 5 (by decide)
 rw [hy5] at g5
 simp only [List.getElem_toArray] at g5
 (try simp only [List.getElem_cons_succ] at g5);(try simp only [List.getElem_cons_zero] at g5);(try simp only [e0] at g5);(try simp only [e1] at g5);(try simp only [e2] at g5);(try simp only [e3] at g5);(try simp only [e4] at g5);(try simp only [e5] at g5);(try simp only [e6] at g5);(try simp only [e7] at g5);(try simp only [List.drop_zero] at g5);(try simp only [List.drop_succ_cons] at g5);(try simp only [List.drop_zero] at g5);(try simp only [List.take_succ_cons] at g5);(try simp only [List.take_zero] at g5)
 have g6:=hg 6 _ rfl
 obtain ⟨y6,hy6⟩:=hx 6 (by decide)
 rw [hy6] at g6
 simp only [List.getElem_toArray] at g6
 (try simp only [List.getElem_cons_succ] at g6);(try simp only [List.getElem_cons_zero] at g6);(try simp only [e0] at g6);(try simp only [e1] at g6);(try simp only [e2] at g6);(try simp only [e3] at g6);(try simp only [e4] at g6);(try simp only [e5] at g6);(try simp only [e6] at g6);(try simp only [e7] at g6);(try simp only [List.drop_zero] at g6);(try simp only [List.drop_succ_cons] at g6);(try simp only [List.drop_zero] at g6);(try simp only [List.take_succ_cons] at g6);(try simp only [List.take_zero] at g6)
 have g7:=hg 7 _ rfl
 obtain ⟨y7,hy7⟩:=hx 7 (by decide)
 rw [hy7] at g7
 simp only [List.getElem_toArray] at g7
 (try simp only [List.getElem_cons_succ] at g7);(try simp only [List.getElem_cons_zero] at g7);(try simp only [e0] at g7);(try simp only [e1] at g7);(try simp only [e2] at g7);(try simp only [e3] at g7);(try simp only [e4] at g7);(try simp only [e5] at g7);(try simp only [e6] at g7);(try simp only [e7] at g7);(try simp only [List.drop_zero] at g7);(try simp only [List.drop_succ_cons] at g7);(try simp only [List.drop_zero] at g7);(try simp only [List.take_succ_cons] at g7);(try simp only [List.take_zero] at g7)
 have g8:=hg 8 _ rfl
 obtain ⟨y8,hy8⟩:=hx 8 (by decide)
 rw [hy8] at g8
 simp only [List.getElem_toArray] at g8
 (try simp only [List.getElem_cons_succ] at g8);(try simp only [List.getElem_cons_zero] at g8);(try simp only [e0] at g8);(try simp only [e1] at g8);(try simp only [e2] at g8);(try simp only [e3] at g8);(try simp only [e4] at g8);(try simp only [e5] at g8);(try simp only [e6] at g8);(try simp only [e7] at g8);(try simp only [List.drop_zero] at g8);(try simp only [List.drop_succ_cons] at g8);(try simp only [List.drop_zero] at g8);(try simp only [List.take_succ_cons] at g8);(try simp only [List.take_zero] at g8)
 have g9:=hg 9 _ rfl
 obtain ⟨y9,hy9⟩:=hx 9 (by decide)
 rw [hy9] at g9
 simp only [List.getElem_toArray] at g9
 (try simp only [List.getElem_cons_succ] at g9);(try simp only [List.getElem_cons_zero] at g9);(try simp only [e0] at g9);(try simp only [e1] at g9);(try simp only [e2] at g9);(try simp only [e3] at g9);(try simp only [e4] at g9);(try simp only [e5] at g9);(try simp only [e6] at g9);(try simp only [e7] at g9);(try simp only [List.drop_zero] at g9);(try simp only [List.drop_succ_cons] at g9);(try simp only [List.drop_zero] at g9);(try simp only [List.take_succ_cons] at g9);(try simp only [List.take_zero] at g9)
 have g10:=hg 10 _ rfl
 obtain ⟨y10,hy10⟩:=hx 10 (by decide)
 rw [hy10] at g10
 simp only [List.getElem_toArray] at g10
 (try simp only [List.getElem_cons_succ] at g10);(try simp only [List.getElem_cons_zero] at g10);(try simp only [e0] at g10);(try simp only [e1] at g10);(try simp only [e2] at g10);(try simp only [e3] at g10);(try simp only [e4] at g10);(try simp only [e5] at g10);(try simp only [e6] at g10);(try simp only [e7] at g10);(try simp only [List.drop_zero] at g10);(try simp only [List.drop_succ_cons] at g10);(try simp only [List.drop_zero] at g10);(try simp only [List.take_succ_cons] at g10);(try simp only [List.take_zero] at g10)
 have g11:=hg 11 _ rfl
 obtain ⟨y11,hy11⟩:=hx 11 (by decide)
 rw [hy11] at g11
 simp only [List.getElem_toArray] at g11
 (try simp only [List.getElem_cons_succ] at g11);(try simp only [List.getElem_cons_zero] at g11);(try simp only [e0] at g11);(try simp only [e1] at g11);(try simp only [e2] at g11);(try simp only [e3] at g11);(try simp only [e4] at g11);(try simp only [e5] at g11);(try simp only [e6] at g11);(try simp only [e7] at g11);(try simp only [List.drop_zero] at g11);(try simp only [List.drop_succ_cons] at g11);(try simp only [List.drop_zero] at g11);(try simp only [List.take_succ_cons] at g11);(try simp only [List.take_zero] at g11)
 have g12:=hg 12 _ rfl
 obtain ⟨y12,hy12⟩:=hx 12 (by decide)
 rw [hy12] at g12
 simp only [List.getElem_toArray] at g12
 (try simp only [List.getElem_cons_succ] at g12);(try simp only [List.getElem_cons_zero] at g12);(try simp only [e0] at g12);(try simp only [e1] at g12);(try simp only [e2] at g12);(try simp only [e3] at g12);(try simp only [e4] at g12);(try simp only [e5] at g12);(try simp only [e6] at g12);(try simp only [e7] at g12);(try simp only [List.drop_zero] at g12);(try simp only [List.drop_succ_cons] at g12);(try simp only [List.drop_zero] at g12);(try simp only [List.take_succ_cons] at g12);(try simp only [List.take_zero] at g12)
 have g13:=hg 13 _ rfl
 obtain ⟨y13,hy13⟩:=hx 13 (by decide)
 rw [hy13] at g13
 simp only [List.getElem_toArray] at g13
 (try simp only [List.getElem_cons_succ] at g13);(try simp only [List.getElem_cons_zero] at g13);(try simp only [e0] at g13);(try simp only [e1] at g13);(try simp only [e2] at g13);(try simp only [e3] at g13);(try simp only [e4] at g13);(try simp only [e5] at g13);(try simp only [e6] at g13);(try simp only [e7] at g13);(try simp only [List.drop_zero] at g13);(try simp only [List.drop_succ_cons] at g13);(try simp only [List.drop_zero] at g13);(try simp only [List.take_succ_cons] at g13);(try simp only [List.take_zero] at g13)
 obtain ⟨n0,q0,-⟩:=DataW.trod_int Tryz.underlying3 g0
 obtain ⟨n1,q1,-⟩:=DataW.trod_int Tryz.underlying3 g1
 obtain ⟨n2,q2,-⟩:=DataW.trod_int Tryz.underlying3 g2
 obtain ⟨n3,q3,-⟩:=DataW.trod_int Tryz.underlying3 g3
 obtain ⟨n4,q4,-⟩:=DataW.trod_int Tryz.underlying3 g4
 obtain ⟨n5,q5,-⟩:=DataW.trod_int Tryz.underlying3 g5
 obtain ⟨n6,q6,-⟩:=DataW.trod_int Tryz.underlying3 g6
 obtain ⟨n7,q7,-⟩:=DataW.trod_int Tryz.underlying22 g7
 obtain ⟨k8,v8,rfl,rfl⟩:=O.trod_span g8
 obtain ⟨o9,z9⟩:=trod_op g9;simp only [List.cons.injEq,and_true] at z9;obtain ⟨rfl,rfl,rfl,rfl,rfl,rfl,rfl,rfl,rfl,rfl,rfl,rfl⟩:=z9
 obtain ⟨r10,z10⟩:=trod_rep g10;simp only [List.cons.injEq,and_true] at z10;obtain ⟨rfl,rfl,rfl,rfl,rfl,rfl⟩:=z10
 obtain ⟨m11,ao,cap,z11,h1,h2,h3⟩:=trod_map g11;simp only [List.cons.injEq,and_true] at z11;obtain ⟨rfl,rfl,rfl⟩:=z11
 obtain ⟨d12,z12⟩:=trod_change g12;simp only [List.cons.injEq,and_true] at z12;obtain ⟨rfl,rfl,rfl,rfl,rfl⟩:=z12
 obtain ⟨bo,l13,bc,z13,b1,b2,b3,b4⟩:=trod_bytes g13;simp only [List.cons.injEq,and_true] at z13;subst z13
 simp only [List.cons.injEq,and_true] at q0 q1 q2 q3 q4 q5 q6 q7
 subst q0 q1 q2 q3 q4 q5 q6 q7
 exact ⟨⟨n0,n1,n2,n3,n4,n5,n6,n7,k8,v8,o9,r10,m11,d12,l13⟩,ao,cap,bo,bc,rfl,h1,h2,h3,b1,b2,b3,b4⟩
theorem len_cons {α:Type} {l:List α} {n:Nat} (h:l.length=n+1):∃ a t,l=a::t∧t.length=n:=by
 cases l with
 | nil=>simp at h
 | cons a t=>exact ⟨a,t,rfl,by simpa using h⟩
set_option maxRecDepth 20000 in
theorem list37 {α:Type} {l:List α} (h:l.length=37):∃ zz0 zz1 zz2 zz3 zz4 zz5 zz6 zz7 zz8 zz9 zz10 zz11 zz12 zz13 zz14 zz15 zz16 zz17 zz18 zz19 zz20 zz21 zz22 zz23 zz24 zz25 zz26 zz27 zz28 zz29 zz30 zz31 zz32 zz33 zz34 zz35 zz36,l=[zz0,zz1,zz2,zz3,zz4,zz5,zz6,zz7,zz8,zz9,zz10,zz11,zz12,zz13,zz14,zz15,zz16,zz17,zz18,zz19,zz20,zz21,zz22,zz23,zz24,zz25,zz26,zz27,zz28,zz29,zz30,zz31,zz32,zz33,zz34,zz35,zz36]:=by
 obtain ⟨zz0,t0,rfl,h0⟩:=len_cons h
 obtain ⟨zz1,t1,rfl,h1⟩:=len_cons h0
 obtain ⟨zz2,t2,rfl,h2⟩:=len_cons h1
 obtain ⟨zz3,t3,rfl,h3⟩:=len_cons h2
 obtain ⟨zz4,t4,rfl,h4⟩:=len_cons h3
 obtain ⟨zz5,t5,rfl,h5⟩:=len_cons h4
 obtain ⟨zz6,t6,rfl,h6⟩:=len_cons h5
 obtain ⟨zz7,t7,rfl,h7⟩:=len_cons h6
 obtain ⟨zz8,t8,rfl,h8⟩:=len_cons h7
 obtain ⟨zz9,t9,rfl,h9⟩:=len_cons h8
 obtain ⟨zz10,t10,rfl,h10⟩:=len_cons h9
 obtain ⟨zz11,t11,rfl,h11⟩:=len_cons h10
 obtain ⟨zz12,t12,rfl,h12⟩:=len_cons h11
 obtain ⟨zz13,t13,rfl,h13⟩:=len_cons h12
 obtain ⟨zz14,t14,rfl,h14⟩:=len_cons h13
 obtain ⟨zz15,t15,rfl,h15⟩:=len_cons h14
 obtain ⟨zz16,t16,rfl,h16⟩:=len_cons h15
 obtain ⟨zz17,t17,rfl,h17⟩:=len_cons h16
 obtain ⟨zz18,t18,rfl,h18⟩:=len_cons h17
 obtain ⟨zz19,t19,rfl,h19⟩:=len_cons h18
 obtain ⟨zz20,t20,rfl,h20⟩:=len_cons h19
 obtain ⟨zz21,t21,rfl,h21⟩:=len_cons h20
 obtain ⟨zz22,t22,rfl,h22⟩:=len_cons h21
 obtain ⟨zz23,t23,rfl,h23⟩:=len_cons h22
 obtain ⟨zz24,t24,rfl,h24⟩:=len_cons h23
 obtain ⟨zz25,t25,rfl,h25⟩:=len_cons h24
 obtain ⟨zz26,t26,rfl,h26⟩:=len_cons h25
 obtain ⟨zz27,t27,rfl,h27⟩:=len_cons h26
 obtain ⟨zz28,t28,rfl,h28⟩:=len_cons h27
 obtain ⟨zz29,t29,rfl,h29⟩:=len_cons h28
 obtain ⟨zz30,t30,rfl,h30⟩:=len_cons h29
 obtain ⟨zz31,t31,rfl,h31⟩:=len_cons h30
 obtain ⟨zz32,t32,rfl,h32⟩:=len_cons h31
 obtain ⟨zz33,t33,rfl,h33⟩:=len_cons h32
 obtain ⟨zz34,t34,rfl,h34⟩:=len_cons h33
 obtain ⟨zz35,t35,rfl,h35⟩:=len_cons h34
 obtain ⟨zz36,t36,rfl,h36⟩:=len_cons h35
 obtain rfl:=List.length_eq_zero_iff.1 h36
 exact ⟨zz0,zz1,zz2,zz3,zz4,zz5,zz6,zz7,zz8,zz9,zz10,zz11,zz12,zz13,zz14,zz15,zz16,zz17,zz18,zz19,zz20,zz21,zz22,zz23,zz24,zz25,zz26,zz27,zz28,zz29,zz30,zz31,zz32,zz33,zz34,zz35,zz36,rfl⟩
set_option maxRecDepth 20000 in
theorem open_word {v:Value} {dd:DataW H} {p:List MemPlace} {b:Nat} (hv:Value.okWide Tryz.prog w .any b 40 v) (h:DataW.Trod enc Tryz.prog w 0 (fun _=>true) true 40 v dd p) :
 ∃ (d:Wd) (ao:Option Addr) (zc:Nat) (bo:Option Addr) (bc:Nat),v=.agg (wdV d (.slice ao d.mp.zs.length zc) (.slice bo d.data.length bc))∧d.mp.zs.length≤zc∧zc≤maxLen∧O.ZsAt w ao d.mp.zs∧d.data.length≤bc∧bc≤maxLen∧(bo=none→d.data.length=0∧bc=0)∧BAt w bo d.data:=by
 obtain ⟨cs,rfl,hsz⟩:=okWide_struct Tryz.underlying40 hv
 obtain ⟨zz0,zz1,zz2,zz3,zz4,zz5,zz6,zz7,zz8,zz9,zz10,zz11,zz12,zz13,zz14,zz15,zz16,zz17,zz18,zz19,zz20,zz21,zz22,zz23,zz24,zz25,zz26,zz27,zz28,zz29,zz30,zz31,zz32,zz33,zz34,zz35,zz36,hcs⟩:=list37 (show cs.toList.length=37 by rw [Array.length_toList];exact hsz.trans (by kernel_rfl))
 obtain ⟨fuel,hf⟩:=h
 simp only [Value.cells,hcs] at hf
 obtain ⟨d,ao,zc,bo,bc,e,r⟩:=trod_word hf
 refine ⟨d,ao,zc,bo,bc,?_,r⟩
 rw [←hcs] at e
 rw [Array.toList_inj.1 e]
end
end Go.Proofs.YthlcmjgdilebeaaGreat