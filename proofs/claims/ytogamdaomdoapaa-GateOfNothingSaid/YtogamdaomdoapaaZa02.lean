/- Texts put together: ItPl, Own, Bytes, Bw, Num. -/
import Derived.Test.YtogamdaomdoapaaZa01
import Derived.ChangeSame
import Derived.Deep.Fields
import Derived.Deep.Slices
import Derived.Laws.AppendOwnNone
import Derived.Lib.SmallJoins
import Derived.OpenShut
import Derived.ProofKit
import Derived.ShutString
import Derived.SizedLaws
import GoSem.Op.String
namespace Go.Proofs.Ytogamdaomdoapaa
structure It where
 a:Int
 b:Int
 c:Int
 d:Int
def okN (x:Int):Prop:=0≤x∧x≤1152921504606846976
instance (x:Int):Decidable (okN x):=by unfold okN;infer_instance
def isI (i:It):Bool:=decide (okN i.a∧okN i.b∧okN i.c∧okN i.d)
theorem isI_iff (i:It):isI i=true↔(0≤i.a∧i.a≤1152921504606846976)∧(0≤i.b∧i.b≤1152921504606846976)∧(0≤i.c∧i.c≤1152921504606846976)∧(0≤i.d∧i.d≤1152921504606846976):=by unfold isI;rw [decide_eq_true_eq];exact Iff.rfl
theorem isI_false (i:It):isI i=false↔¬((0≤i.a∧i.a≤1152921504606846976)∧(0≤i.b∧i.b≤1152921504606846976)∧(0≤i.c∧i.c≤1152921504606846976)∧(0≤i.d∧i.d≤1152921504606846976)):=by
 rw [←isI_iff];simp
end Go.Proofs.Ytogamdaomdoapaa
namespace Go.Proofs.Ytogamdaomdoapaa
open Go.RowKit
theorem add_none (b off j:Nat):(⟨b,off,none⟩:Addr).add j=⟨b,off+j,none⟩:=by
 unfold Addr.add
 split
 ·rename_i h;subst h;rfl
 ·rfl
theorem heap_new (w:World) (o:Obj):(w.alloc o).heap[w.heap.size]?=some o:=(MapKept.heap_alloc w o).1
theorem owns_empty (w:World) (base:Nat) (h:base≤w.heap.size) (e:TypeId) (size:Nat):(w.alloc (.cells #[] e)).ownsRow base e size (.slice (some ⟨w.heap.size,0,none⟩) 0 0) 0 [] :=
 ⟨by simp,.inr ⟨w.heap.size,0,#[],rfl,h,heap_new w _,Nat.le_refl _,by simp [maxLen],by simp,by simp⟩⟩
theorem owns_emptyAt (w:World) (n:Nat) (hn:n=w.heap.size) (base:Nat) (h:base≤n) (e:TypeId) (size:Nat):(w.alloc (.cells #[] e)).ownsRow base e size (.slice (some ⟨n,0,none⟩) 0 0) 0 []:=by
 subst hn;exact owns_empty w base h e size
theorem below_grown {B:Nat} {w w1 w2:World} {row:Option Nat} (h:Below B w w1) (hB:B≤w1.heap.size) (hg:w1.grownBy w2 row) (hr:∀ k,row=some k→B≤k):Below B w w2:=h.grown hg hB hr
theorem wpList_append_any {P:Program} (w:World) {ops:Array Oper} {rest:List Oper} {o:Oper} {a:Act} {Q:Exit→Act→World→Prop} (hgd:o.guard=none) (s x:Operand) (t:TypeId)
 (ho:o.op=.call { callee:=.builtin .append,args:=#[s,x],argTypes:=#[t,t] })
 (base:Nat) (e:TypeId) (i:TypeInfo) (z:Value) (size bytes:Nat) (ht:P.underlying t=some (.slice e)) (hi:P.info? e=some i) (hz:i.zero=some z)
 (hsize:i.size=size) (hby:i.bytes=bytes) (hzs:z.cells.size=size) (hsz:0<size)
 (v:Value) (n:Nat) (xs:List Value) (hs:a.eval s=v) (hown:w.ownsRow base e size v n xs)
 (ao:Option Addr) (m c:Nat) (news:List Value) (hx:a.eval x=.slice ao m c) (hnone:ao=none→m=0∧c=0) (hl:news.length=m * size) (hnews:∀ ad,ao=some ad→∀ j u,news[j]?=some u→w.cell? (ad.add j)=some u) (h1:∀ u∈news,u.oneCell'=true)
 (h63:n+m≤maxLen) (hbytes:(n+m) * bytes≤140737488355328) (hbase:base≤w.heap.size)
 (h:∀ v' w',w'.ownsRow base e size v' (n+m) (xs++news)→w.grownBy w' v.ownBlock→wpList P ops Q rest (a.put o.dst v') w'):wpList P ops Q (o::rest) a w:=by
 cases ao with
 | none =>
  obtain ⟨rfl,rfl⟩:=hnone rfl
  have hn:news=[]:=by cases news with
   | nil=>rfl
   | cons y r=>simp at hl
  subst hn
  refine wpList_append_own_none hgd s x t ho base e i size ht hi v n xs hs hown hx ?_
  exact h v w (by simpa using hown) ⟨rfl,rfl,rfl,Nat.le_refl _,fun _ _ _=>rfl⟩
 | some ad=>exact wpList_append_own w hgd s x t ho base e i z size bytes ht hi hz hsize hby hzs hsz v n xs hs hown ad m c news hx hl (hnews ad rfl) h1 h63 hbytes hbase fun v' w' a b _=>h v' w' a b
end Go.Proofs.Ytogamdaomdoapaa
namespace Go.Proofs.Ytogamdaomdoapaa
open Go.RowKit
structure Keeps (w w':World) (S:Nat→Prop):Prop where
 os:w'.os=w.os
 tape:w'.tape=w.tape
 output:w'.output=w.output
 size:w.heap.size≤w'.heap.size
 block:∀ k,k<w.heap.size→¬S k→w'.heap[k]?=w.heap[k]?
theorem Keeps.refl (w:World) (S:Nat→Prop):Keeps w w S:=⟨rfl,rfl,rfl,Nat.le_refl _,fun _ _ _=>rfl⟩
theorem Keeps.trans {a b c:World} {S T U:Nat→Prop} (h:Keeps a b S) (k:Keeps b c T) (hS:∀ i,S i→U i) (hT:∀ i,i<a.heap.size→T i→U i):Keeps a c U :=
 ⟨k.os.trans h.os,k.tape.trans h.tape,k.output.trans h.output,Nat.le_trans h.size k.size,fun i hi hn =>
  (k.block i (Nat.lt_of_lt_of_le hi h.size) fun t=>hn (hT i hi t)).trans (h.block i hi fun s=>hn (hS i s))⟩
theorem Keeps.weak {a b:World} {S T:Nat→Prop} (h:Keeps a b S) (hS:∀ i,i<a.heap.size→S i→T i):Keeps a b T :=
 ⟨h.os,h.tape,h.output,h.size,fun i hi hn=>h.block i hi fun s=>hn (hS i hi s)⟩
theorem Keeps.of_below {B:Nat} {a b:World} (h:Below B a b):Keeps a b (fun k=>B≤k):=⟨h.os,h.tape,h.output,h.size,fun i _ hn=>h.block i (Nat.lt_of_not_le hn)⟩
theorem Keeps.of_grown {B:Nat} {a b:World} (h:Below B a b) (hB:a.heap.size≤B) (S:Nat→Prop):Keeps a b S:=⟨h.os,h.tape,h.output,h.size,fun i hi _=>h.block i (Nat.lt_of_lt_of_le hi hB)⟩
theorem Keeps.below {B:Nat} {a b:World} {S:Nat→Prop} (h:Keeps a b S) (hS:∀ k,S k→B≤k) (hB:B≤a.heap.size):Below B a b :=
 ⟨h.os,h.tape,h.output,h.size,fun k hk=>h.block k (by omega) fun s=>by have:=hS k s;omega⟩
theorem Keeps.grown {a b:World} {row:Option Nat} (h:a.grownBy b row):Keeps a b (fun k=>some k=row):=⟨h.os,h.tape,h.output,h.size,fun k hk hn=>h.block k hk hn⟩
theorem Keeps.cell {a b:World} {S:Nat→Prop} (h:Keeps a b S) {p:Addr} (hp:p.block<a.heap.size) (hn:¬S p.block):b.cell? p=a.cell? p:=World.cell?_of_block (w:=a) (h.block p.block hp hn)
theorem Keeps.frozen {a b:World} {S:Nat→Prop} (h:Keeps a b S) {p:Addr} (hp:p.block<a.heap.size) (hn:¬S p.block):b.frozen? p=a.frozen? p:=World.frozen?_of_block (w:=a) (h.block p.block hp hn)
theorem Keeps.set (w:World) (a:Addr) (v:Value):Keeps w (w.setCell a v) (fun x=>x=a.block):=⟨rfl,rfl,rfl,by simp [World.setCell],fun k _ hn=>Below.heap_setCell _ _ _ _ hn⟩
def bytV (l:List UInt8):List Value:=l.map fun c=>.int .u8 (c.toNat:Int)
theorem bytV_length (l:List UInt8):(bytV l).length=l.length:=by simp [bytV]
theorem bytV_append (a b:List UInt8):bytV a++bytV b=bytV (a++b):=by simp [bytV]
theorem bytV_one (l:List UInt8):∀ u∈bytV l,u.oneCell'=true:=by
 intro u hu
 simp only [bytV,List.mem_map] at hu
 obtain ⟨c,-,rfl⟩:=hu
 rfl
theorem bytV_get (l:List UInt8) (i:Nat) (h:i<l.length):(bytV l)[i]?=some (.int .u8 (l[i].toNat:Int)):=by simp [bytV,h]
def BRow (w:World) (b off:Nat) (l:List UInt8):Prop:=∀ i,(h:i<l.length)→w.cell? ⟨b,off+i,none⟩=some (.int .u8 (l[i].toNat:Int))
def BAt (w:World) (ao:Option Addr) (l:List UInt8):Prop:=0<l.length→∃ b off,ao=some ⟨b,off,none⟩∧b<w.heap.size∧BRow w b off l
theorem BRow.keeps {w w':World} {b off:Nat} {l:List UInt8} {S:Nat→Prop} (h:BRow w b off l) (hb:b<w.heap.size) (k:Keeps w w' S) (hn:¬S b):BRow w' b off l:=fun i hi=>(k.cell (p:=⟨b,_,none⟩) hb hn).trans (h i hi)
theorem BRow.below {w w':World} {b off B:Nat} {l:List UInt8} (h:BRow w b off l) (hb:b<B) (k:Below B w w'):BRow w' b off l:=fun i hi=>(k.cell (p:=⟨b,_,none⟩) hb).trans (h i hi)
theorem BAt.below {w w':World} {ao:Option Addr} {l:List UInt8} (h:BAt w ao l) (k:Below w.heap.size w w'):BAt w' ao l:=fun hp =>
 let ⟨b,off,e,hb,hr⟩:=h hp
 ⟨b,off,e,Nat.lt_of_lt_of_le hb k.size,hr.below hb k⟩
theorem BAt.nil {w:World} {ao:Option Addr}:BAt w ao []:=fun h=>by simp at h
theorem BRow.at {w:World} {b off:Nat} {l:List UInt8} (h:BRow w b off l) (hb:b<w.heap.size):BAt w (some ⟨b,off,none⟩) l:=fun _=>⟨b,off,rfl,hb,h⟩
theorem BRow.cells {w:World} {b off:Nat} {l:List UInt8} (h:BRow w b off l):∀ j u,(bytV l)[j]?=some u→w.cell? ((⟨b,off,none⟩:Addr).add j)=some u:=by
 intro j u hu
 have hj:j<l.length:=by rw [←bytV_length];exact (List.getElem?_eq_some_iff.1 hu).1
 rw [bytV_get l j hj] at hu
 rw [add_none,←hu]
 exact h j hj
theorem BAt.cells {w:World} {ao:Option Addr} {l:List UInt8} (h:BAt w ao l):∀ ad,ao=some ad→∀ j u,(bytV l)[j]?=some u→w.cell? (ad.add j)=some u:=by
 intro ad had j u hu
 by_cases hp:0<l.length
 ·obtain ⟨b,off,e,-,hr⟩:=h hp
  rw [had] at e
  obtain rfl:ad=⟨b,off,none⟩:=by simpa using e
  exact hr.cells j u hu
 ·have:l=[]:=by cases l with
   | nil=>rfl
   | cons x r=>simp at hp
  subst this
  simp [bytV] at hu
def OwnB (w:World) (base:Nat) (ao:Option Addr) (cap:Nat) (l:List UInt8):Prop:=w.ownsRow base 5 1 (.slice ao l.length cap) l.length (bytV l)
theorem OwnB.at {w:World} {base:Nat} {ao:Option Addr} {cap:Nat} {l:List UInt8} (h:OwnB w base ao cap l):BAt w ao l:=by
 intro hp
 rcases h.2 with ⟨hv,h0⟩ | ⟨g,c,cur,hv,hg,hh,-⟩
 ·omega
 ·simp only [Value.slice.injEq] at hv
  obtain ⟨rfl,-,rfl⟩:=hv
  refine ⟨g,0,rfl,(Array.getElem?_eq_some_iff.1 hh).1,fun i hi=>?_⟩
  have:=h.cellAt i (by omega)
  rw [bytV_get l i hi] at this
  simpa using this
theorem OwnB.none {w:World} {base:Nat} {ao:Option Addr} {cap:Nat} {l:List UInt8} (h:OwnB w base ao cap l):ao=.none→l.length=0∧cap=0:=by
 intro e
 subst e
 rcases h.2 with ⟨hv,h0⟩ | ⟨g,c,cur,hv,-⟩
 ·simp only [Value.slice.injEq] at hv;exact ⟨h0,hv.2.2⟩
 ·simp at hv
theorem OwnB.le {w:World} {base:Nat} {ao:Option Addr} {cap:Nat} {l:List UInt8} (h:OwnB w base ao cap l):l.length≤cap∧cap≤9223372036854775807:=by
 rcases h.2 with ⟨hv,h0⟩ | ⟨g,c,cur,hv,-,-,h1,h2,-⟩
 ·simp only [Value.slice.injEq] at hv;omega
 ·simp only [Value.slice.injEq] at hv
  obtain ⟨-,-,rfl⟩:=hv
  unfold maxLen at h2
  omega
theorem OwnB.row {w:World} {base:Nat} {ao:Option Addr} {cap:Nat} {l:List UInt8} (h:OwnB w base ao cap l) (hp:0<l.length):∃ g,ao=some ⟨g,0,Option.none⟩∧base≤g∧g<w.heap.size∧BRow w g 0 l:=by
 obtain ⟨b,off,e,hlt,hr⟩:=h.at hp
 rcases h.2 with ⟨hv,h0⟩ | ⟨g,c,cur,hv,hb,-⟩
 ·omega
 ·simp only [Value.slice.injEq] at hv
  rw [hv.1] at e
  simp only [Option.some.injEq,Addr.mk.injEq,and_true] at e
  obtain ⟨rfl,rfl⟩:=e
  exact ⟨g,hv.1,hb,hlt,hr⟩
theorem own_weak {w:World} {b c:Nat} {ao:Option Addr} {cap:Nat} {l:List UInt8} (h:OwnB w b ao cap l) (hc:c≤b):OwnB w c ao cap l:=by
 obtain ⟨h1,h2⟩:=h
 refine ⟨h1,?_⟩
 rcases h2 with h2 | ⟨g,c',cur,hv,hg,r⟩
 ·exact Or.inl h2
 ·exact Or.inr ⟨g,c',cur,hv,Nat.le_trans hc hg,r⟩
theorem owned_bytes {w:World} {base n:Nat} {v:Value} {l:List UInt8} (h:w.ownsRow base 5 1 v n (bytV l)) (hn:n=l.length):∃ ao cap,v=.slice ao l.length cap∧OwnB w base ao cap l:=by
 subst hn
 rcases h.2 with ⟨hv,h0⟩ | ⟨g,c,cur,hv,-⟩
 ·exact ⟨.none,0,by rw [hv,h0],by unfold OwnB;rw [h0] at h ⊢;rw [hv] at h;exact h⟩
 ·exact ⟨_,c,hv,by unfold OwnB;rw [hv] at h;exact h⟩
theorem byteInfo:(Try.prog.info? 5).map (fun i=>(i.zero,i.size,i.bytes))=some (some (.int .u8 0),1,1):=by kernel_rfl
def FreshB (w:World) (l:List UInt8) (e:Ending) (w':World):Prop:=∃ ao cap,e=.returned (.slice ao l.length cap)∧OwnB w' w.heap.size ao cap l∧Below w.heap.size w w'
end Go.Proofs.Ytogamdaomdoapaa
namespace Go.Proofs.Ytogamdaomdoapaa
open Go.RowKit
theorem one_cell (wr:World) (c:UInt8) (t:TypeId) (x:Int) (hx:x=(c.toNat:Int)):∀ ad,some (⟨wr.heap.size,0,none⟩:Addr)=some ad→∀ j u,(bytV [c])[j]?=some u→(wr.alloc (.cells #[.int .u8 x] t)).cell? (ad.add j)=some u:=by
 intro ad had j u hu
 obtain rfl:ad=⟨wr.heap.size,0,none⟩:=by simpa using had.symm
 have hj:j=0:=by
  have:=(List.getElem?_eq_some_iff.1 hu).1
  simp [bytV] at this;exact this
 subst hj hx
 simp [bytV] at hu
 subst hu
 simp [Addr.add]
set_option maxHeartbeats 1000000 in
theorem clone_any (ao:Option Addr) (cap:Nat) (a:List UInt8) (w:World) (h0:ao=none→a.length=0∧cap=0) (ha:BAt w ao a) (hm:a.length≤140737488351232) :
 Calls Try.prog 45 #[.slice ao a.length cap] w (FreshB w a):=by
 cases ao with
 | none =>
  obtain ⟨h1,h2⟩:=h0 rfl
  have h3:a=[]:=List.length_eq_zero_iff.1 h1
  subst h3 h2
  have heq:=fun w=>Lib.run_eql_slice_nil (P:=Try.prog) w 36 5 none 0 0 0 0 Try.underlying36
  simp only [List.length_nil]
  go_enter Try.func45,Try.ntmps45
  go_wp2_with fail
  go_ret
  exact ⟨none,0,rfl,World.ownsRow_nil _ _ _ _,Below.refl _ _⟩
 | some ad =>
  have heq:=fun w=>Lib.run_eql_slice_nil (P:=Try.prog) w 36 5 (some ad) a.length cap 0 0 Try.underlying36
  obtain ⟨i0,hi,hz0,hz1,hz2⟩:=info_parts byteInfo
  have Ha:=Lib.hid ha
  clear ha h0
  go_enter Try.func45,Try.ntmps45
  go_wp2_with (at_builtin;go_must (refine wpList_append_any _ rfl (.tmp 5) (.tmp 6) 36 rfl w.heap.size 5 i0 (.int .u8 0) 1 1 Try.underlying36 hi hz0 hz1 hz2 rfl (by decide) _ 0 [] rfl (owns_emptyAt _ w.heap.size rfl w.heap.size (Nat.le_refl _) 5 1) (some ad) a.length cap (bytV a) rfl (fun h=>by cases h) (by rw [bytV_length,Nat.mul_one]) (Ha.out.below ((Below.refl _ _).alloc (Nat.le_refl _) _)).cells (bytV_one a) (by unfold maxLen;omega) (by omega) (by simp) ?_))
  intro v w1 hown hgrow
  have hb:Below w.heap.size w w1:=below_grown ((Below.refl _ _).alloc (Nat.le_refl _) _) (by simp) hgrow (fun k hk=>by simp [Value.ownBlock] at hk;omega)
  obtain ⟨bo,c,hv,ho⟩:=owned_bytes (by simpa using hown) rfl
  have Ho:=Lib.hid ho
  clear hown hgrow ho
  rw [hv]
  go_wp2_with fail
  go_ret
  exact ⟨bo,c,rfl,Ho.out,hb⟩
end Go.Proofs.Ytogamdaomdoapaa
namespace Go.Proofs.Ytogamdaomdoapaa
def encF:Nat→Nat→List UInt8
 | 0,n=>[UInt8.ofNat n]
 | f+1,n=>if n<128 then [UInt8.ofNat n] else UInt8.ofNat (n % 128+128)::encF f (n / 128)
def encN (n:Nat):List UInt8:=encF 9 n
def clampN (v:Int):Nat:=(max 0 (min v 4611686018427387904)).toNat
theorem clampN_le (v:Int):clampN v≤4611686018427387904:=by unfold clampN;omega
theorem clampN_eq (v:Int):max 0 (min v 4611686018427387904)=(clampN v:Int):=by unfold clampN;omega
def encs (vs:List Int):List UInt8:=vs.flatMap fun v=>encN (clampN v)
theorem encF_same:∀ (f g n:Nat),n<128 ^ (f+1)→n<128 ^ (g+1)→encF f n=encF g n
 | 0,0,_,_,_=>rfl
 | 0,g+1,n,h,_=>by have h:n<128:=by simpa using h
                   simp [encF,h]
 | f+1,0,n,_,h=>by have h:n<128:=by simpa using h
                   simp [encF,h]
 | f+1,g+1,n,h,k=>by
  simp only [encF]
  split
  ·rfl
  ·rw [encF_same f g (n / 128) (by rw [Nat.div_lt_iff_lt_mul (by omega)];rwa [Nat.pow_succ] at h) (by rw [Nat.div_lt_iff_lt_mul (by omega)];rwa [Nat.pow_succ] at k)]
theorem encN_small {n:Nat} (h:n<128):encN n=[UInt8.ofNat n]:=by simp [encN,encF,h]
theorem encN_big {n:Nat} (h:¬n<128) (hn:n≤4611686018427387904):encN n=UInt8.ofNat (n % 128+128)::encN (n / 128):=by
 unfold encN
 rw [show encF 9 n=UInt8.ofNat (n % 128+128)::encF 8 (n / 128) from by simp [encF,h]]
 rw [encF_same 8 9 (n / 128) (by have:(128:Nat) ^ (8+1)=9223372036854775808:=by decide
                                 omega) (by have:(128:Nat) ^ (9+1)=1180591620717411303424:=by decide
                                            omega)]
theorem encF_length:∀ (f n:Nat),(encF f n).length≤f+1∧0<(encF f n).length
 | 0,_=>by simp [encF]
 | f+1,n=>by
  simp only [encF]
  split
  ·simp
  ·have:=encF_length f (n / 128);simp;omega
theorem encN_length (n:Nat):(encN n).length≤10∧0<(encN n).length:=encF_length 9 n
theorem encs_length (vs:List Int):(encs vs).length≤10 * vs.length:=by
 induction vs with
 | nil=>simp [encs]
 | cons v r ih =>
  have:=(encN_length (clampN v)).1
  simp only [encs,List.flatMap_cons,List.length_append,List.length_cons] at *
  omega
theorem encs_snoc (vs:List Int) (k:Nat) (h:k<vs.length):encs (vs.take (k+1))=encs (vs.take k)++encN (clampN vs[k]):=by
 rw [List.take_succ_eq_append_getElem h];simp only [encs,List.flatMap_append,List.flatMap_cons,List.flatMap_nil,List.append_nil]
end Go.Proofs.Ytogamdaomdoapaa