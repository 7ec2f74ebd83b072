/- Texts put together: OpenZ. -/
import Derived.Test.YthlcmjgdilebeaaGreatQb05
import Derived.Test.YthlcmjgdilebeaaGreatQb10
namespace Go.Proofs.YthlcmjgdilebeaaGreat.O
open Go.ChangeShapes Go.WideShapes Go.Deep Go.Joins Go.RowKit
section
variable {H:Type} {enc:TypeId × Value→H} {w:World} {base:Nat}
theorem list9 {α:Type} {l:List α} (h:l.length=9):∃ a b c d e f g i j,l=[a,b,c,d,e,f,g,i,j]:=by
 match l,h with
 | [a,b,c,d,e,f,g,i,j],_=>exact ⟨a,b,c,d,e,f,g,i,j,rfl⟩
theorem trod_span {fuel:Nat} {c0 c1:Value} {x:DataW H × List MemPlace} (h:DataW.trod enc Tryz.prog w base (fun _=>true) true fuel 24 [c0,c1]=some x):∃ k v:ByteArray,c0=.string k∧c1=.string v:=by
 obtain ⟨y0,y1,n,-,-,h0,h1⟩:=trod_struct2 Tryz.underlying24 h
 have e:Tryz.prog.cellsOf 9=1:=by kernel_rfl
 simp only [e,List.drop_zero,List.drop_succ_cons,List.take_succ_cons,List.take_zero] at h0 h1
 obtain ⟨k,ek,-⟩:=DataW.trod_string Tryz.underlying9 h0
 obtain ⟨v,ev,-⟩:=DataW.trod_string Tryz.underlying9 h1
 exact ⟨k,v,by simpa using ek,by simpa using ev⟩
set_option maxRecDepth 20000 in
theorem trod_zone {fuel:Nat} {cs:List Value} {x:DataW H × List MemPlace} (hl:cs.length=9) (h:DataW.trod enc Tryz.prog w base (fun _=>true) true fuel 87 cs=some x):∃ z:Zn,cs=znV z:=by
 obtain ⟨c0,c1,c2,c3,c4,c5,c6,c7,c8,rfl⟩:=list9 hl
 obtain ⟨xs,n,-,-,hlx,hlen,hg⟩:=DataW.trod_struct Tryz.underlying87 h
 have e3:Tryz.prog.cellsOf 3=1:=by kernel_rfl
 have e4:Tryz.prog.cellsOf 9=1:=by kernel_rfl
 have e23:Tryz.prog.cellsOf 24=2:=by kernel_rfl
 have hx:∀ i,i<8→∃ y,xs[i]?=some y:=fun i hi=>⟨_,List.getElem?_eq_getElem (by rw [hlen];exact hi)⟩
 have g0:=hg 0 _ rfl
 obtain ⟨y0,hy0⟩:=hx 0 (by decide)
 rw [hy0] at g0
 simp only [List.getElem_toArray] at g0
 (try simp only [List.getElem_cons_succ] at g0);(try simp only [List.getElem_cons_zero] at g0);(try simp only [e3] at g0);(try simp only [e4] at g0);(try simp only [e23] at g0);(try simp only [List.drop_zero] at g0);(try simp only [List.drop_succ_cons] at g0);(try simp only [List.drop_zero] at g0);(try simp only [List.take_succ_cons] at g0);(try simp only [List.take_zero] at g0)
 have g1:=hg 1 _ rfl
 obtain ⟨y1,hy1⟩:=hx 1 (by decide)
 rw [hy1] at g1
 simp only [List.getElem_toArray] at g1
 (try simp only [List.getElem_cons_succ] at g1);(try simp only [List.getElem_cons_zero] at g1);(try simp only [e3] at g1);(try simp only [e4] at g1);(try simp only [e23] at g1);(try simp only [List.drop_zero] at g1);(try simp only [List.drop_succ_cons] at g1);(try simp only [List.drop_zero] at g1);(try simp only [List.take_succ_cons] at g1);(try simp only [List.take_zero] at g1)
 have g2:=hg 2 _ rfl
 obtain ⟨y2,hy2⟩:=hx 2 (by decide)
 rw [hy2] at g2
 simp only [List.getElem_toArray] at g2
 (try simp only [List.getElem_cons_succ] at g2);(try simp only [List.getElem_cons_zero] at g2);(try simp only [e3] at g2);(try simp only [e4] at g2);(try simp only [e23] at g2);(try simp only [List.drop_zero] at g2);(try simp only [List.drop_succ_cons] at g2);(try simp only [List.drop_zero] at g2);(try simp only [List.take_succ_cons] at g2);(try simp only [List.take_zero] at g2)
 have g3:=hg 3 _ rfl
 obtain ⟨y3,hy3⟩:=hx 3 (by decide)
 rw [hy3] at g3
 simp only [List.getElem_toArray] at g3
 (try simp only [List.getElem_cons_succ] at g3);(try simp only [List.getElem_cons_zero] at g3);(try simp only [e3] at g3);(try simp only [e4] at g3);(try simp only [e23] at g3);(try simp only [List.drop_zero] at g3);(try simp only [List.drop_succ_cons] at g3);(try simp only [List.drop_zero] at g3);(try simp only [List.take_succ_cons] at g3);(try simp only [List.take_zero] at g3)
 have g4:=hg 4 _ rfl
 obtain ⟨y4,hy4⟩:=hx 4 (by decide)
 rw [hy4] at g4
 simp only [List.getElem_toArray] at g4
 (try simp only [List.getElem_cons_succ] at g4);(try simp only [List.getElem_cons_zero] at g4);(try simp only [e3] at g4);(try simp only [e4] at g4);(try simp only [e23] at g4);(try simp only [List.drop_zero] at g4);(try simp only [List.drop_succ_cons] at g4);(try simp only [List.drop_zero] at g4);(try simp only [List.take_succ_cons] at g4);(try simp only [List.take_zero] at g4)
 have g5:=hg 5 _ rfl
 obtain ⟨y5,hy5⟩:=hx 5 (by decide)
 rw [hy5] at g5
 simp only [List.getElem_toArray] at g5
 (try simp only [List.getElem_cons_succ] at g5);(try simp only [List.getElem_cons_zero] at g5);(try simp only [e3] at g5);(try simp only [e4] at g5);(try simp only [e23] at g5);(try simp only [List.drop_zero] at g5);(try simp only [List.drop_succ_cons] at g5);(try simp only [List.drop_zero] at g5);(try simp only [List.take_succ_cons] at g5);(try simp only [List.take_zero] at g5)
 have g6:=hg 6 _ rfl
 obtain ⟨y6,hy6⟩:=hx 6 (by decide)
 rw [hy6] at g6
 simp only [List.getElem_toArray] at g6
 (try simp only [List.getElem_cons_succ] at g6);(try simp only [List.getElem_cons_zero] at g6);(try simp only [e3] at g6);(try simp only [e4] at g6);(try simp only [e23] at g6);(try simp only [List.drop_zero] at g6);(try simp only [List.drop_succ_cons] at g6);(try simp only [List.drop_zero] at g6);(try simp only [List.take_succ_cons] at g6);(try simp only [List.take_zero] at g6)
 have g7:=hg 7 _ rfl
 obtain ⟨y7,hy7⟩:=hx 7 (by decide)
 rw [hy7] at g7
 simp only [List.getElem_toArray] at g7
 (try simp only [List.getElem_cons_succ] at g7);(try simp only [List.getElem_cons_zero] at g7);(try simp only [e3] at g7);(try simp only [e4] at g7);(try simp only [e23] at g7);(try simp only [List.drop_zero] at g7);(try simp only [List.drop_succ_cons] at g7);(try simp only [List.drop_zero] at g7);(try simp only [List.take_succ_cons] at g7);(try simp only [List.take_zero] at g7)
 obtain ⟨n0,q0,-⟩:=DataW.trod_int Tryz.underlying3 g0
 obtain ⟨k1,v1,rfl,rfl⟩:=trod_span g1
 obtain ⟨n2,q2,-⟩:=DataW.trod_int Tryz.underlying3 g2
 obtain ⟨n3,q3,-⟩:=DataW.trod_int Tryz.underlying3 g3
 obtain ⟨n4,q4,-⟩:=DataW.trod_int Tryz.underlying3 g4
 obtain ⟨n5,q5,-⟩:=DataW.trod_int Tryz.underlying3 g5
 obtain ⟨k6,q6,-⟩:=DataW.trod_string Tryz.underlying9 g6
 obtain ⟨n7,q7,-⟩:=DataW.trod_int Tryz.underlying3 g7
 simp only [List.cons.injEq,and_true] at q0 q2 q3 q4 q5 q6 q7
 subst q0 q2 q3 q4 q5 q6 q7
 exact ⟨⟨n0,k1,v1,n2,n3,n4,n5,k6,n7⟩,rfl⟩
theorem trod_zones {fuel base:Nat} {cs:List Value} {x:DataW H × List MemPlace} (h:DataW.trod enc Tryz.prog w base (fun _=>true) true fuel 33 cs=some x) :
 ∃ ao L cap,cs=[.slice ao (L:List Zn).length cap]∧L.length≤cap∧cap≤maxLen∧ZsAt w ao L:=by
 rcases open_slice Tryz.underlying33 h with ⟨hcs,hx⟩ | ⟨a,len,cap,m,n,D,Pl,hcs,hb,hl,hm,hmm,hx,hi⟩
 ·exact ⟨none,[],0,hcs,by simp,by unfold maxLen;omega,fun h=>absurd h (by simp)⟩
 ·have hC:Tryz.prog.cellsOf 87=9:=by kernel_rfl
  simp only [if_true] at hmm
  subst hmm
  obtain ⟨L,hL,hR⟩:∃ L:List Zn,L.length=len∧∀ i,(hi:i<L.length)→∀ j v,(znV L[i])[j]?=some v→w.cell? ((a.add (i * 9)).add j)=some v:=by
   refine choose_list (P:=fun i (z:Zn)=>∀ j v,(znV z)[j]?=some v→w.cell? ((a.add (i * 9)).add j)=some v) len fun i hil=>?_
   obtain ⟨cs',hc,ht'⟩:=hi i (by omega)
   rw [hC] at hc
   obtain ⟨_,hcl,hat⟩:=World.cells?_some hc
   obtain ⟨z,rfl⟩:=trod_zone hcl ht'
   refine ⟨z,fun j v hv=>?_⟩
   have hj:j<9:=(List.getElem?_eq_some_iff.1 hv).1
   rw [hat j hj]
   exact hv
  refine ⟨some a,L,_,by rw [hL];exact hcs,by omega,hm,fun hp=>?_⟩
  obtain ⟨ab,ao,spot⟩:=a
  have h0:=hR 0 hp 0 _ rfl
  have hspot:spot=none:=by simpa [Addr.add] using World.cell?_spot h0
  subst hspot
  rw [add_none,add_none] at h0
  refine ⟨ab,ao,rfl,lt_of_cellB h0,fun i hi j v hv=>?_⟩
  have:=hR i hi j v hv
  rw [add_none,add_none] at this
  exact this
end
end Go.Proofs.YthlcmjgdilebeaaGreat.O