/- Texts put together: Bytes, Bw, Num, Foot, Wr, Nums, Raw. -/
import Derived.Test.YtogamdaomdoapaaGreatSa01
import Derived.ArgAppend
import Derived.ChangeSame
import Derived.Deep.AppendLies
import Derived.Deep.Fields
import Derived.Deep.Slices
import Derived.Lib.MinMax
import Derived.Lib.SmallJoins
import Derived.OpenShut
import Derived.ProofKit
import Derived.ShutString
import Derived.SizedLaws
import GoSem.Op.String
namespace Go.Proofs.YtogamdaomdoapaaGreat
open Go.RowKit
structure Keeps (w w':World) (S:Nat→Prop):Prop where
 os:w'.os=w.os
 tape:w'.tape=w.tape
 output:w'.output=w.output
 size:w.heap.size≤w'.heap.size
 block:∀ k,k<w.heap.size→¬S k→w'.heap[k]?=w.heap[k]?
theorem Keeps.refl (w:World) (S:Nat→Prop):Keeps w w S:=⟨rfl,rfl,rfl,Nat.le_refl _,fun _ _ _=>rfl⟩
theorem Keeps.trans {a b c:World} {S T U:Nat→Prop} (h:Keeps a b S) (k:Keeps b c T) (hS:∀ i,S i→U i) (hT:∀ i,i<a.heap.size→T i→U i):Keeps a c U :=
 ⟨k.os.trans h.os,k.tape.trans h.tape,k.output.trans h.output,Nat.le_trans h.size k.size,fun i hi hn =>
  (k.block i (Nat.lt_of_lt_of_le hi h.size) fun t=>hn (hT i hi t)).trans (h.block i hi fun s=>hn (hS i s))⟩
theorem Keeps.weak {a b:World} {S T:Nat→Prop} (h:Keeps a b S) (hS:∀ i,i<a.heap.size→S i→T i):Keeps a b T :=
 ⟨h.os,h.tape,h.output,h.size,fun i hi hn=>h.block i hi fun s=>hn (hS i hi s)⟩
theorem Keeps.of_below {B:Nat} {a b:World} (h:Below B a b):Keeps a b (fun k=>B≤k):=⟨h.os,h.tape,h.output,h.size,fun i _ hn=>h.block i (Nat.lt_of_not_le hn)⟩
theorem Keeps.of_grown {B:Nat} {a b:World} (h:Below B a b) (hB:a.heap.size≤B) (S:Nat→Prop):Keeps a b S:=⟨h.os,h.tape,h.output,h.size,fun i hi _=>h.block i (Nat.lt_of_lt_of_le hi hB)⟩
theorem Keeps.below {B:Nat} {a b:World} {S:Nat→Prop} (h:Keeps a b S) (hS:∀ k,S k→B≤k) (hB:B≤a.heap.size):Below B a b :=
 ⟨h.os,h.tape,h.output,h.size,fun k hk=>h.block k (by omega) fun s=>by have:=hS k s;omega⟩
theorem Keeps.grown {a b:World} {row:Option Nat} (h:a.grownBy b row):Keeps a b (fun k=>some k=row):=⟨h.os,h.tape,h.output,h.size,fun k hk hn=>h.block k hk hn⟩
theorem Keeps.cell {a b:World} {S:Nat→Prop} (h:Keeps a b S) {p:Addr} (hp:p.block<a.heap.size) (hn:¬S p.block):b.cell? p=a.cell? p:=World.cell?_of_block (w:=a) (h.block p.block hp hn)
theorem Keeps.frozen {a b:World} {S:Nat→Prop} (h:Keeps a b S) {p:Addr} (hp:p.block<a.heap.size) (hn:¬S p.block):b.frozen? p=a.frozen? p:=World.frozen?_of_block (w:=a) (h.block p.block hp hn)
theorem Keeps.set (w:World) (a:Addr) (v:Value):Keeps w (w.setCell a v) (fun x=>x=a.block):=⟨rfl,rfl,rfl,by simp [World.setCell],fun k _ hn=>Below.heap_setCell _ _ _ _ hn⟩
def bytV (l:List UInt8):List Value:=l.map fun c=>.int .u8 (c.toNat:Int)
theorem bytV_length (l:List UInt8):(bytV l).length=l.length:=by simp [bytV]
theorem bytV_append (a b:List UInt8):bytV a++bytV b=bytV (a++b):=by simp [bytV]
theorem bytV_one (l:List UInt8):∀ u∈bytV l,u.oneCell'=true:=by
 intro u hu
 simp only [bytV,List.mem_map] at hu
 obtain ⟨c,-,rfl⟩:=hu
 rfl
theorem bytV_get (l:List UInt8) (i:Nat) (h:i<l.length):(bytV l)[i]?=some (.int .u8 (l[i].toNat:Int)):=by simp [bytV,h]
def BRow (w:World) (b off:Nat) (l:List UInt8):Prop:=∀ i,(h:i<l.length)→w.cell? ⟨b,off+i,none⟩=some (.int .u8 (l[i].toNat:Int))
def BAt (w:World) (ao:Option Addr) (l:List UInt8):Prop:=0<l.length→∃ b off,ao=some ⟨b,off,none⟩∧b<w.heap.size∧BRow w b off l
theorem BRow.keeps {w w':World} {b off:Nat} {l:List UInt8} {S:Nat→Prop} (h:BRow w b off l) (hb:b<w.heap.size) (k:Keeps w w' S) (hn:¬S b):BRow w' b off l:=fun i hi=>(k.cell (p:=⟨b,_,none⟩) hb hn).trans (h i hi)
theorem BRow.below {w w':World} {b off B:Nat} {l:List UInt8} (h:BRow w b off l) (hb:b<B) (k:Below B w w'):BRow w' b off l:=fun i hi=>(k.cell (p:=⟨b,_,none⟩) hb).trans (h i hi)
theorem BAt.below {w w':World} {ao:Option Addr} {l:List UInt8} (h:BAt w ao l) (k:Below w.heap.size w w'):BAt w' ao l:=fun hp =>
 let ⟨b,off,e,hb,hr⟩:=h hp
 ⟨b,off,e,Nat.lt_of_lt_of_le hb k.size,hr.below hb k⟩
theorem BAt.nil {w:World} {ao:Option Addr}:BAt w ao []:=fun h=>by simp at h
theorem BRow.at {w:World} {b off:Nat} {l:List UInt8} (h:BRow w b off l) (hb:b<w.heap.size):BAt w (some ⟨b,off,none⟩) l:=fun _=>⟨b,off,rfl,hb,h⟩
theorem BRow.cells {w:World} {b off:Nat} {l:List UInt8} (h:BRow w b off l):∀ j u,(bytV l)[j]?=some u→w.cell? ((⟨b,off,none⟩:Addr).add j)=some u:=by
 intro j u hu
 have hj:j<l.length:=by rw [←bytV_length];exact (List.getElem?_eq_some_iff.1 hu).1
 rw [bytV_get l j hj] at hu
 rw [add_none,←hu]
 exact h j hj
theorem BAt.cells {w:World} {ao:Option Addr} {l:List UInt8} (h:BAt w ao l):∀ ad,ao=some ad→∀ j u,(bytV l)[j]?=some u→w.cell? (ad.add j)=some u:=by
 intro ad had j u hu
 by_cases hp:0<l.length
 ·obtain ⟨b,off,e,-,hr⟩:=h hp
  rw [had] at e
  obtain rfl:ad=⟨b,off,none⟩:=by simpa using e
  exact hr.cells j u hu
 ·have:l=[]:=by cases l with
   | nil=>rfl
   | cons x r=>simp at hp
  subst this
  simp [bytV] at hu
def OwnB (w:World) (base:Nat) (ao:Option Addr) (cap:Nat) (l:List UInt8):Prop:=w.ownsRow base 5 1 (.slice ao l.length cap) l.length (bytV l)
theorem OwnB.at {w:World} {base:Nat} {ao:Option Addr} {cap:Nat} {l:List UInt8} (h:OwnB w base ao cap l):BAt w ao l:=by
 intro hp
 rcases h.2 with ⟨hv,h0⟩ | ⟨g,c,cur,hv,hg,hh,-⟩
 ·omega
 ·simp only [Value.slice.injEq] at hv
  obtain ⟨rfl,-,rfl⟩:=hv
  refine ⟨g,0,rfl,(Array.getElem?_eq_some_iff.1 hh).1,fun i hi=>?_⟩
  have:=h.cellAt i (by omega)
  rw [bytV_get l i hi] at this
  simpa using this
theorem OwnB.none {w:World} {base:Nat} {ao:Option Addr} {cap:Nat} {l:List UInt8} (h:OwnB w base ao cap l):ao=.none→l.length=0∧cap=0:=by
 intro e
 subst e
 rcases h.2 with ⟨hv,h0⟩ | ⟨g,c,cur,hv,-⟩
 ·simp only [Value.slice.injEq] at hv;exact ⟨h0,hv.2.2⟩
 ·simp at hv
theorem OwnB.le {w:World} {base:Nat} {ao:Option Addr} {cap:Nat} {l:List UInt8} (h:OwnB w base ao cap l):l.length≤cap∧cap≤9223372036854775807:=by
 rcases h.2 with ⟨hv,h0⟩ | ⟨g,c,cur,hv,-,-,h1,h2,-⟩
 ·simp only [Value.slice.injEq] at hv;omega
 ·simp only [Value.slice.injEq] at hv
  obtain ⟨-,-,rfl⟩:=hv
  unfold maxLen at h2
  omega
theorem OwnB.row {w:World} {base:Nat} {ao:Option Addr} {cap:Nat} {l:List UInt8} (h:OwnB w base ao cap l) (hp:0<l.length):∃ g,ao=some ⟨g,0,Option.none⟩∧base≤g∧g<w.heap.size∧BRow w g 0 l:=by
 obtain ⟨b,off,e,hlt,hr⟩:=h.at hp
 rcases h.2 with ⟨hv,h0⟩ | ⟨g,c,cur,hv,hb,-⟩
 ·omega
 ·simp only [Value.slice.injEq] at hv
  rw [hv.1] at e
  simp only [Option.some.injEq,Addr.mk.injEq,and_true] at e
  obtain ⟨rfl,rfl⟩:=e
  exact ⟨g,hv.1,hb,hlt,hr⟩
theorem own_weak {w:World} {b c:Nat} {ao:Option Addr} {cap:Nat} {l:List UInt8} (h:OwnB w b ao cap l) (hc:c≤b):OwnB w c ao cap l:=by
 obtain ⟨h1,h2⟩:=h
 refine ⟨h1,?_⟩
 rcases h2 with h2 | ⟨g,c',cur,hv,hg,r⟩
 ·exact Or.inl h2
 ·exact Or.inr ⟨g,c',cur,hv,Nat.le_trans hc hg,r⟩
theorem owned_bytes {w:World} {base n:Nat} {v:Value} {l:List UInt8} (h:w.ownsRow base 5 1 v n (bytV l)) (hn:n=l.length):∃ ao cap,v=.slice ao l.length cap∧OwnB w base ao cap l:=by
 subst hn
 rcases h.2 with ⟨hv,h0⟩ | ⟨g,c,cur,hv,-⟩
 ·exact ⟨.none,0,by rw [hv,h0],by unfold OwnB;rw [h0] at h ⊢;rw [hv] at h;exact h⟩
 ·exact ⟨_,c,hv,by unfold OwnB;rw [hv] at h;exact h⟩
theorem byteInfo:(Tryz.prog.info? 5).map (fun i=>(i.zero,i.size,i.bytes))=some (some (.int .u8 0),1,1):=by kernel_rfl
def FreshB (w:World) (l:List UInt8) (e:Ending) (w':World):Prop:=∃ ao cap,e=.returned (.slice ao l.length cap)∧OwnB w' w.heap.size ao cap l∧Below w.heap.size w w'
end Go.Proofs.YtogamdaomdoapaaGreat
namespace Go.Proofs.YtogamdaomdoapaaGreat
open Go.RowKit
theorem one_cell (wr:World) (c:UInt8) (t:TypeId) (x:Int) (hx:x=(c.toNat:Int)):∀ ad,some (⟨wr.heap.size,0,none⟩:Addr)=some ad→∀ j u,(bytV [c])[j]?=some u→(wr.alloc (.cells #[.int .u8 x] t)).cell? (ad.add j)=some u:=by
 intro ad had j u hu
 obtain rfl:ad=⟨wr.heap.size,0,none⟩:=by simpa using had.symm
 have hj:j=0:=by
  have:=(List.getElem?_eq_some_iff.1 hu).1
  simp [bytV] at this;exact this
 subst hj hx
 simp [bytV] at hu
 subst hu
 simp [Addr.add]
set_option maxHeartbeats 1000000 in
theorem clone_any (ao:Option Addr) (cap:Nat) (a:List UInt8) (w:World) (h0:ao=none→a.length=0∧cap=0) (ha:BAt w ao a) (hm:a.length≤140737488351232) :
 Calls Tryz.prog 80 #[.slice ao a.length cap] w (FreshB w a):=by
 cases ao with
 | none =>
  obtain ⟨h1,h2⟩:=h0 rfl
  have h3:a=[]:=List.length_eq_zero_iff.1 h1
  subst h3 h2
  have heq:=fun w=>Lib.run_eql_slice_nil (P:=Tryz.prog) w 47 5 none 0 0 0 0 Tryz.underlying47
  simp only [List.length_nil]
  go_enter Tryz.func80,Tryz.ntmps80
  go_wp2_with fail
  go_ret
  exact ⟨none,0,rfl,World.ownsRow_nil _ _ _ _,Below.refl _ _⟩
 | some ad =>
  have heq:=fun w=>Lib.run_eql_slice_nil (P:=Tryz.prog) w 47 5 (some ad) a.length cap 0 0 Tryz.underlying47
  obtain ⟨i0,hi,hz0,hz1,hz2⟩:=info_parts byteInfo
  have Ha:=Lib.hid ha
  clear ha h0
  go_enter Tryz.func80,Tryz.ntmps80
  go_wp2_with (at_builtin;go_must (refine wpList_append_any _ rfl (.tmp 5) (.tmp 6) 47 rfl w.heap.size 5 i0 (.int .u8 0) 1 1 Tryz.underlying47 hi hz0 hz1 hz2 rfl (by decide) _ 0 [] rfl (owns_emptyAt _ w.heap.size rfl w.heap.size (Nat.le_refl _) 5 1) (some ad) a.length cap (bytV a) rfl (fun h=>by cases h) (by rw [bytV_length,Nat.mul_one]) (Ha.out.below ((Below.refl _ _).alloc (Nat.le_refl _) _)).cells (bytV_one a) (by unfold maxLen;omega) (by omega) (by simp) ?_))
  intro v w1 hown hgrow
  have hb:Below w.heap.size w w1:=below_grown ((Below.refl _ _).alloc (Nat.le_refl _) _) (by simp) hgrow (fun k hk=>by simp [Value.ownBlock] at hk;omega)
  obtain ⟨bo,c,hv,ho⟩:=owned_bytes (by simpa using hown) rfl
  have Ho:=Lib.hid ho
  clear hown hgrow ho
  rw [hv]
  go_wp2_with fail
  go_ret
  exact ⟨bo,c,rfl,Ho.out,hb⟩
end Go.Proofs.YtogamdaomdoapaaGreat
namespace Go.Proofs.YtogamdaomdoapaaGreat
def encF:Nat→Nat→List UInt8
 | 0,n=>[UInt8.ofNat n]
 | f+1,n=>if n<128 then [UInt8.ofNat n] else UInt8.ofNat (n % 128+128)::encF f (n / 128)
def encN (n:Nat):List UInt8:=encF 9 n
def clampN (v:Int):Nat:=(max 0 (min v 4611686018427387904)).toNat
theorem clampN_le (v:Int):clampN v≤4611686018427387904:=by unfold clampN;omega
theorem clampN_eq (v:Int):max 0 (min v 4611686018427387904)=(clampN v:Int):=by unfold clampN;omega
def encs (vs:List Int):List UInt8:=vs.flatMap fun v=>encN (clampN v)
theorem encF_same:∀ (f g n:Nat),n<128 ^ (f+1)→n<128 ^ (g+1)→encF f n=encF g n
 | 0,0,_,_,_=>rfl
 | 0,g+1,n,h,_=>by have h:n<128:=by simpa using h
                   simp [encF,h]
 | f+1,0,n,_,h=>by have h:n<128:=by simpa using h
                   simp [encF,h]
 | f+1,g+1,n,h,k=>by
  simp only [encF]
  split
  ·rfl
  ·rw [encF_same f g (n / 128) (by rw [Nat.div_lt_iff_lt_mul (by omega)];rwa [Nat.pow_succ] at h) (by rw [Nat.div_lt_iff_lt_mul (by omega)];rwa [Nat.pow_succ] at k)]
theorem encN_small {n:Nat} (h:n<128):encN n=[UInt8.ofNat n]:=by simp [encN,encF,h]
theorem encN_big {n:Nat} (h:¬n<128) (hn:n≤4611686018427387904):encN n=UInt8.ofNat (n % 128+128)::encN (n / 128):=by
 unfold encN
 rw [show encF 9 n=UInt8.ofNat (n % 128+128)::encF 8 (n / 128) from by simp [encF,h]]
 rw [encF_same 8 9 (n / 128) (by have:(128:Nat) ^ (8+1)=9223372036854775808:=by decide
                                 omega) (by have:(128:Nat) ^ (9+1)=1180591620717411303424:=by decide
                                            omega)]
theorem encF_length:∀ (f n:Nat),(encF f n).length≤f+1∧0<(encF f n).length
 | 0,_=>by simp [encF]
 | f+1,n=>by
  simp only [encF]
  split
  ·simp
  ·have:=encF_length f (n / 128);simp;omega
theorem encN_length (n:Nat):(encN n).length≤10∧0<(encN n).length:=encF_length 9 n
theorem encs_length (vs:List Int):(encs vs).length≤10 * vs.length:=by
 induction vs with
 | nil=>simp [encs]
 | cons v r ih =>
  have:=(encN_length (clampN v)).1
  simp only [encs,List.flatMap_cons,List.length_append,List.length_cons] at *
  omega
theorem encs_snoc (vs:List Int) (k:Nat) (h:k<vs.length):encs (vs.take (k+1))=encs (vs.take k)++encN (clampN vs[k]):=by
 rw [List.take_succ_eq_append_getElem h];simp only [encs,List.flatMap_append,List.flatMap_cons,List.flatMap_nil,List.append_nil]
end Go.Proofs.YtogamdaomdoapaaGreat
namespace Go.Proofs.YtogamdaomdoapaaGreat
open Go.RowKit
theorem grown_weak {w w':World} {row:Option Nat} (h:w.grownBy w' none):w.grownBy w' row:=⟨h.os,h.tape,h.output,h.size,fun k hk _=>h.block k hk (by simp)⟩
theorem owns_weak {w:World} {b b':Nat} {e:TypeId} {size n:Nat} {v:Value} {xs:List Value} (h:w.ownsRow b e size v n xs) (hb:b'≤b):w.ownsRow b' e size v n xs:=by
 refine ⟨h.1,?_⟩
 rcases h.2 with h | ⟨g,cap,cur,h1,h2,h3⟩
 ·exact .inl h
 ·exact .inr ⟨g,cap,cur,h1,Nat.le_trans hb h2,h3⟩
theorem owns_shape {w:World} {b:Nat} {e:TypeId} {size n:Nat} {v:Value} {xs:List Value} (h:w.ownsRow b e size v n xs):∃ ao cap,v=.slice ao n cap∧∀ g,ao=some g→b≤g.block:=by
 rcases h.2 with ⟨h1,h2⟩ | ⟨g,cap,cur,h1,h2,-⟩
 ·exact ⟨none,0,by rw [h1,h2],fun g hg=>by cases hg⟩
 ·exact ⟨_,cap,h1,fun g' hg=>by simp only [Option.some.injEq] at hg;subst hg;exact h2⟩
theorem wpList_append_foot {P:Program} (w:World) {ops:Array Oper} {rest:List Oper} {o:Oper} {a:Act} {Q:Exit→Act→World→Prop} (hgd:o.guard=none) (s x:Operand) (t:TypeId)
 (ho:o.op=.call { callee:=.builtin .append,args:=#[s,x],argTypes:=#[t,t] })
 (base:Nat) (e:TypeId) (i:TypeInfo) (z:Value) (size bytes:Nat) (ht:P.underlying t=some (.slice e)) (hi:P.info? e=some i) (hz:i.zero=some z)
 (hsize:i.size=size) (hby:i.bytes=bytes) (hzs:z.cells.size=size) (hsz:0<size)
 (ao:Option Addr) (n cap:Nat) (xs:List Value) (hs:a.eval s=.slice ao n cap) (hown:w.ownsRow base e size (.slice ao n cap) n xs)
 (bo:Option Addr) (m c:Nat) (news:List Value) (hx:a.eval x=.slice bo m c) (hnone:bo=none→m=0∧c=0) (hl:news.length=m * size) (hnews:∀ ad,bo=some ad→∀ j u,news[j]?=some u→w.cell? (ad.add j)=some u) (h1:∀ u∈news,u.oneCell'=true)
 (h63:n+m≤maxLen) (hbytes:(n+m) * bytes≤140737488355328) (hbase:base≤w.heap.size)
 (h:∀ co c' w',w'.ownsRow base e size (.slice co (n+m) c') (n+m) (xs++news)→w.grownBy w' (Value.slice ao n cap).ownBlock→(∀ g,co=some g→ao=some g∨w.heap.size≤g.block)→wpList P ops Q rest (a.put o.dst (.slice co (n+m) c')) w'):wpList P ops Q (o::rest) a w:=by
 cases bo with
 | none =>
  obtain ⟨rfl,rfl⟩:=hnone rfl
  have hn:news=[]:=by cases news with
   | nil=>rfl
   | cons y r=>simp at hl
  subst hn
  refine wpList_append_own_none hgd s x t ho base e i size ht hi _ n xs hs hown hx ?_
  exact h ao cap w (by simpa using hown) (World.grownBy.refl _ _) (fun g hg=>.inl hg)
 | some ad =>
  by_cases hfit:n+m≤cap
  ·rcases hown.2 with ⟨hv,h0⟩ | ⟨g,cap',cur,hv,-⟩
   ·simp only [Value.slice.injEq] at hv
    obtain ⟨rfl,rfl,rfl⟩:=hv
    have hm:m=0:=by omega
    subst hm
    refine wpList_append_own w hgd s x t ho base e i z size bytes ht hi hz hsize hby hzs hsz _ 0 xs hs hown ad 0 c news hx hl (hnews ad rfl) h1 h63 hbytes hbase fun v' w' a b ci=>?_
    have hv':=ci.2 ⟨rfl,rfl⟩
    subst hv'
    exact h none 0 w' a b (fun g hg=>by cases hg)
   ·simp only [Value.slice.injEq] at hv
    obtain ⟨rfl,-,rfl⟩:=hv
    exact wpList_append_fits w hgd s x t ho base e i size ht hi hsize g n _ xs hs hown ad m c news hx hl (hnews ad rfl) h1 hfit fun w' a b=>h _ _ w' a b (fun g hg=>.inl hg)
  ·have hnn:ao=none→n=0∧cap=0:=by
    intro e
    subst e
    rcases hown.2 with ⟨hv,h0⟩ | ⟨g,cap',cur,hv,-⟩
    ·simp only [Value.slice.injEq] at hv;exact ⟨h0,hv.2.2⟩
    ·simp at hv
   refine wpList_append_grows w hgd s x t ho e i z size bytes ht hi hz hsize hby hzs hsz ao n cap xs hs hnn hown.1 ?_ ad m c news hx hl (hnews ad rfl) h1 (by omega) h63 hbytes fun v' w' a b=>?_
   ·intro b hb j u hu
    subst hb
    rcases hown.2 with ⟨hv,-⟩ | ⟨g,cap',cur,hv,-⟩
    ·simp at hv
    ·simp only [Value.slice.injEq,Option.some.injEq] at hv
     obtain ⟨rfl,-,rfl⟩:=hv
     have hj:j<n * size:=by rw [←hown.1];exact (List.getElem?_eq_some_iff.1 hu).1
     rw [add_none,Nat.zero_add,hown.cellAt j hj,hu]
   ·obtain ⟨co,c',rfl,hco⟩:=owns_shape a
    exact h co c' w' (owns_weak a hbase) (grown_weak b) (fun g hg=>.inr (hco g hg))
theorem step_append_any {P:Program} (w:World) {ops:Array Oper} {o:Oper} {a:Act} {K:Act→World→Prop} {Q:Exit→Act→World→Prop} {E:Prop} (hgd:o.guard=none) (s x:Operand) (t:TypeId)
 (ho:o.op=.call { callee:=.builtin .append,args:=#[s,x],argTypes:=#[t,t] })
 (base:Nat) (e:TypeId) (i:TypeInfo) (z:Value) (size bytes:Nat) (ht:P.underlying t=some (.slice e)) (hi:P.info? e=some i) (hz:i.zero=some z)
 (hsize:i.size=size) (hby:i.bytes=bytes) (hzs:z.cells.size=size) (hsz:0<size)
 (v:Value) (n:Nat) (xs:List Value) (hs:a.eval s=v) (hown:w.ownsRow base e size v n xs)
 (ao:Option Addr) (m c:Nat) (news:List Value) (hx:a.eval x=.slice ao m c) (hnone:ao=none→m=0∧c=0) (hl:news.length=m * size) (hnews:∀ ad,ao=some ad→∀ j u,news[j]?=some u→w.cell? (ad.add j)=some u) (h1:∀ u∈news,u.oneCell'=true)
 (h63:n+m≤maxLen) (hbytes:(n+m) * bytes≤140737488355328) (hbase:base≤w.heap.size)
 (h:∀ v' w',w'.ownsRow base e size v' (n+m) (xs++news)→w.grownBy w' v.ownBlock→K (a.put o.dst v') w') :
 if Region.wanted o (yielded ops a.tmps)=true then Oper.wp P o a w K Q else E:=by
 have hw:Region.wanted o (yielded ops a.tmps)=true:=by simp [Region.wanted,hgd]
 rw [if_pos hw]
 cases ao with
 | none =>
  obtain ⟨rfl,rfl⟩:=hnone rfl
  have hn:news=[]:=by cases news with
   | nil=>rfl
   | cons y r=>simp at hl
  subst hn
  have hrun:=run_append_owned_none (P:=P) (w:=w) base t o.type e i size ht hi v n xs hown
  unfold Oper.wp execOp
  simp only [ho,resolve,invoke,builtin,Sem.run_bind,Sem.run_pure,Result.andThen_ok,List.map_toArray,List.map_cons,List.map_nil,hs,hx,hrun]
  exact h v w (by simpa using hown) ⟨rfl,rfl,rfl,Nat.le_refl _,fun _ _ _=>rfl⟩
 | some ad =>
  exact wp_append_own w s x t ho base e i z size bytes ht hi hz hsize hby hzs hsz v n xs hs hown ad m c news hx hl (hnews ad rfl) h1 h63 hbytes hbase fun v' w' a b _=>h v' w' a b
end Go.Proofs.YtogamdaomdoapaaGreat
namespace Go.Proofs.YtogamdaomdoapaaGreat
open Go.RowKit
set_option maxRecDepth 20000
def WrAt (w:World) (p base:Nat) (l:List UInt8) (o:Option Nat):Prop:=∃ ao cap,w.heap[p]?=some (.cells #[.slice ao l.length cap] 134 (0,0))∧OwnB w base ao cap l∧o=(Value.slice ao l.length cap).ownBlock∧o≠some p
def Foot (p:Nat) (o:Option Nat):Nat→Prop:=fun x=>x=p∨o=some x
def WInv (w wr:World) (p base:Nat) (o:Option Nat) (full rest:List UInt8):Prop:=∃ cur o',WrAt wr p base cur o'∧cur++rest=full∧Keeps w wr (Foot p o)∧(∀ g,o'=some g→o=some g∨w.heap.size≤g)
theorem WrAt.lt {w:World} {p base:Nat} {l:List UInt8} {o:Option Nat} (h:WrAt w p base l o):p<w.heap.size:=by
 obtain ⟨ao,cap,h1,-⟩:=h
 exact lt_of_block h1
theorem WrAt.own_lt {w:World} {p base:Nat} {l:List UInt8} {o:Option Nat} (h:WrAt w p base l o):∀ g,o=some g→g<w.heap.size∧base≤g:=by
 obtain ⟨ao,cap,-,h2,h3,-⟩:=h
 intro g hg
 rw [h3] at hg
 rcases h2.2 with ⟨hv,-⟩ | ⟨g',c,cur,hv,hb,hh,-⟩
 ·rw [hv] at hg;simp [Value.ownBlock] at hg
 ·rw [hv] at hg
  simp only [Value.ownBlock,Option.some.injEq] at hg
  subst hg
  exact ⟨lt_of_block hh,hb⟩
theorem WInv.start {w:World} {p base:Nat} {o:Option Nat} {l rest:List UInt8} (h:WrAt w p base l o):WInv w w p base o (l++rest) rest:=⟨l,o,h,rfl,Keeps.refl _ _,fun _ hg=>.inl hg⟩
theorem WInv.more {w wr:World} {p base:Nat} {o:Option Nat} {full rest more:List UInt8} (h:WInv w wr p base o full rest):WInv w wr p base o (full++more) (rest++more):=by
 obtain ⟨cur,o',h1,h2,h3⟩:=h
 exact ⟨cur,o',h1,by rw [←List.append_assoc,h2],h3⟩
theorem WInv.step {w wr wx w1:World} {p base:Nat} {o:Option Nat} {cur news rest full:List UInt8} {ao co:Option Addr} {cap c':Nat}
 (hp:wr.heap[p]?=some (.cells #[.slice ao cur.length cap] 134 (0,0))) (hne:(Value.slice ao cur.length cap).ownBlock≠some p) (hfull:cur++(news++rest)=full) (hk:Keeps w wr (Foot p o))
 (ho:∀ g,(Value.slice ao cur.length cap).ownBlock=some g→o=some g∨w.heap.size≤g) (hx:Keeps wr wx (fun _=>False))
 (hown:w1.ownsRow base 5 1 (.slice co (cur.length+news.length) c') (cur.length+news.length) (bytV cur++bytV news)) (hg:wx.grownBy w1 (Value.slice ao cur.length cap).ownBlock)
 (hco:∀ g,co=some g→ao=some g∨wx.heap.size≤g.block) :
 WInv w (w1.setCell ⟨p,0,none⟩ (.slice co (cur.length+news.length) c')) p base o full rest∧w1.cell? ⟨p,0,none⟩=some (.slice ao cur.length cap)∧w1.frozen? ⟨p,0,none⟩=false:=by
 have hlt:=lt_of_block hp
 have hpx:wx.heap[p]?=some (.cells #[.slice ao cur.length cap] 134 (0,0)):=(hx.block p hlt (fun h=>h)).trans hp
 have hp1:w1.heap[p]?=some (.cells #[.slice ao cur.length cap] 134 (0,0)):=(hg.block p (lt_of_block hpx) (fun h=>hne h.symm)).trans hpx
 refine ⟨?_,cell_of_one hp1,free_of_one hp1⟩
 have hcne:(Value.slice co (cur.length+news.length) c').ownBlock≠some p:=by
  intro h
  cases co with
  | none=>simp [Value.ownBlock] at h
  | some g =>
   simp only [Value.ownBlock,Option.some.injEq] at h
   rcases hco g rfl with h1 | h1
   ·subst h1;exact hne (by simp [Value.ownBlock,h])
   ·have:=hx.size;omega
 have hs:=hx.size
 have hs1:=hg.size
 refine ⟨cur++news,(Value.slice co (cur.length+news.length) c').ownBlock,⟨co,c',?_,?_,?_,hcne⟩,by rw [List.append_assoc];exact hfull,?_,?_⟩
 ·rw [List.length_append];exact one_setCell hp1
 ·unfold OwnB
  rw [List.length_append,←bytV_append]
  exact ownsRow_setCell_other hown hcne _
 ·rw [List.length_append]
 ·refine ⟨hg.os.trans (hx.os.trans hk.os),hg.tape.trans (hx.tape.trans hk.tape),hg.output.trans (hx.output.trans hk.output),by have:=hk.size;simp [World.setCell];omega,fun k hk1 hn=>?_⟩
  have hk2:=hk.size
  rw [Below.heap_setCell _ _ _ _ (fun e=>hn (.inl e))]
  rw [hg.block k (by omega) (fun e=>?_),hx.block k (by omega) (fun h=>h),hk.block k hk1 hn]
  rcases ho k e.symm with h | h
  ·exact hn (.inr h)
  ·omega
 ·intro g hgg
  cases co with
  | none=>simp [Value.ownBlock] at hgg
  | some a =>
   simp only [Value.ownBlock,Option.some.injEq] at hgg
   rcases hco a rfl with h | h
   ·exact ho g (by rw [h];simp [Value.ownBlock,hgg])
   ·right;have:=hk.size;omega
end Go.Proofs.YtogamdaomdoapaaGreat
namespace Go.Proofs.YtogamdaomdoapaaGreat
open Go.RowKit
set_option maxRecDepth 20000
def IRow (w:World) (b off:Nat) (l:List Int):Prop:=∀ i,(h:i<l.length)→w.cell? ⟨b,off+i,none⟩=some (.int .i64 l[i])
theorem bits_more_all:∀ m:Fin 256,bits BinOp.or IntKind.u8 ((m.val:Nat):Int) 128=((m.val % 128+128:Nat):Int):=by decide +kernel
theorem bits_more (q:Nat):bits BinOp.or IntKind.u8 ((q:Int) % 256) 128=((UInt8.ofNat (q % 128+128)).toNat:Int):=by
 have h:=bits_more_all ⟨q % 256,by omega⟩
 simp only at h
 rw [show ((q % 256:Nat):Int)=(q:Int) % 256 from by omega] at h
 rw [h]
 simp
 omega
set_option maxHeartbeats 4000000 in
theorem nums_some (p base:Nat) (l:List UInt8) (o:Option Nat) (b off cv:Nat) (vs:List Int) (w:World) (hw:WrAt w p base l o) (hr:IRow w b off vs) (hb:b<w.heap.size) (hbp:b≠p) (hbo:o≠some b) (hbase:base≤w.heap.size) (hm:l.length+10 * vs.length≤140737488351232) :
 Calls Tryz.prog 70 #[.pointer (some ⟨p,0,none⟩),.slice (some ⟨b,off,none⟩) vs.length cv] w fun e w'=>e=.returned (.tuple #[])∧WInv w w' p base o (l++encs vs) []:=by
 have Hw:=Lib.hid hw
 have Hr:=Lib.hid hr
 have Hbo:=Lib.hid hbo
 clear hw hr hbo
 obtain ⟨i0,hi,hz0,hz1,hz2⟩:=info_parts byteInfo
 go_enter Tryz.func70,Tryz.ntmps70
 go_wp2_with fail
 go_loopw [11] (fun i wr=>∃ k:Nat,k≤vs.length∧i=.int .i64 k∧Hid (WInv w wr p base o (l++encs (vs.take k)) [])) (fun i _=>vs.length - (intOf i).toNat)
 case atStart=>exact ⟨0,Nat.zero_le _,rfl,(by have:=WInv.start (rest:=[]) Hw.out;simpa [encs,Hid] using this)⟩
 case round =>
  obtain ⟨k,hk,rfl,hst⟩:=hrel
  obtain ⟨wo,rfl⟩:∃ wo:World,wo=wr:=⟨_,rfl⟩
  by_cases hlt:k<vs.length
  ·have hcv:wo.cell? ⟨b,off+k,none⟩=some (.int .i64 vs[k]):=by
    obtain ⟨-,-,-,-,hkp,-⟩:=hst.out
    exact (hkp.cell (p:=⟨b,_,none⟩) hb (fun h=>h.elim hbp (fun h=>Hbo.out h))).trans (Hr.out k hlt)
   obtain ⟨v,hv⟩:∃ v,v=vs[k]:=⟨_,rfl⟩
   rw [←hv] at hcv
   have Hv:=Lib.hid hv
   clear hv
   obtain ⟨u,hu⟩:∃ u,u=clampN v:=⟨_,rfl⟩
   have hmm:=clampN_eq v
   have hule:=clampN_le v
   rw [←hu] at hmm hule
   have Hu:=Lib.hid hu
   clear hu
   go_wp2_with fail
   go_loopw [6] (fun s6 wr=>∃ q:Nat,s6=.int .u64 q∧q≤4611686018427387904∧Hid (WInv w wr p base o (l++encs (vs.take k)++encN u) (encN q))) (fun s6 _=>(intOf s6).toNat)
   case atStart=>exact ⟨u,rfl,hule,by have:=hst.out.more (more:=encN u);simpa [Hid] using this⟩
   case round =>
    obtain ⟨q,rfl,hq62,hsi⟩:=hrel
    obtain ⟨cur,o1,⟨ao,cap,hheap,hown,ho1,hne⟩,hfull,hkp,hfr⟩:=hsi.out
    have hcell:=cell_of_one hheap
    have hfree:=free_of_one hheap
    have hlen:cur.length+1≤140737488351232:=by
     have h1:=congrArg List.length hfull
     have h2:=encs_length (vs.take k)
     have h3:=(encN_length u).1
     have h4:=(encN_length q).2
     have h5:(vs.take k).length≤k:=List.length_take_le _ _
     simp only [List.length_append] at h1
     omega
    have Hheap:=Lib.hid hheap
    have Hown:=Lib.hid hown
    have Ho1:=Lib.hid ho1
    have Hne:=Lib.hid hne
    have Hfull:=Lib.hid hfull
    have Hfr:=Lib.hid hfr
    have Hkp:=Lib.hid hkp
    clear hheap hown ho1 hne hfull hfr hkp
    by_cases hq:(128:Int)≤q
    ·obtain ⟨c,hc⟩:∃ c:UInt8,c=UInt8.ofNat (q % 128+128):=⟨_,rfl⟩
     have hbits:=bits_more q
     rw [←hc] at hbits
     have Hc:=Lib.hid hc
     clear hc
     go_wp2_with (at_builtin;go_must (refine wpList_append_foot _ rfl (.tmp 27) (.tmp 31) 47 rfl base 5 i0 (.int .u8 0) 1 1 Tryz.underlying47 hi hz0 hz1 hz2 rfl (by decide) ao cur.length cap (bytV cur) rfl (Hown.out.alloc _) (some ⟨wr.heap.size,0,none⟩) 1 1 (bytV [c]) rfl (fun h=>by cases h) rfl (one_cell _ _ _ _ rfl) (bytV_one [c]) (by unfold maxLen;omega) (by omega) (by have:=Hkp.out.size;simp;omega) ?_))
     intro co c' w1 hown1 hgrow1 hco1
     have hstep:=WInv.step (full:=l++encs (vs.take k)++encN u) (news:=[c]) (rest:=encN (q / 128)) Hheap.out (by rw [←Ho1.out];exact Hne.out) (by rw [←Hfull.out,encN_big (n:=q) (by omega) hq62,←Hc.out];rfl) Hkp.out (by rw [←Ho1.out];exact Hfr.out) (Keeps.of_grown ((Below.refl _ _).alloc (Nat.le_refl _) _) (Nat.le_refl _) _) hown1 hgrow1 (by simpa using hco1)
     obtain ⟨hinv,hc1,hf1⟩:=hstep
     have Hinv:=Lib.hid hinv
     clear hown1 hgrow1 hco1 hinv hcell hfree
     go_wp2_with fail
     go_roundw
     case rel=>exact ⟨q / 128,rfl,by omega,Hinv.out⟩
     case measure=>simp [intOf];omega
    ·obtain ⟨c,hc⟩:∃ c:UInt8,c=UInt8.ofNat q:=⟨_,rfl⟩
     have hcq:(q:Int)=(c.toNat:Int):=by rw [hc];simp;omega
     have Hc:=Lib.hid hc
     have Hcq:=Lib.hid hcq
     clear hc hcq
     go_wp2_with (at_builtin;go_must (refine wpList_append_foot _ rfl (.tmp 39) (.tmp 42) 47 rfl base 5 i0 (.int .u8 0) 1 1 Tryz.underlying47 hi hz0 hz1 hz2 rfl (by decide) ao cur.length cap (bytV cur) rfl (Hown.out.alloc _) (some ⟨wr.heap.size,0,none⟩) 1 1 (bytV [c]) rfl (fun h=>by cases h) rfl (one_cell _ _ _ _ Hcq.out) (bytV_one [c]) (by unfold maxLen;omega) (by omega) (by have:=Hkp.out.size;simp;omega) ?_))
     intro co c' w1 hown1 hgrow1 hco1
     have hstep:=WInv.step (full:=l++encs (vs.take k)++encN u) (news:=[c]) (rest:=[]) Hheap.out (by rw [←Ho1.out];exact Hne.out) (by rw [←Hfull.out,encN_small (n:=q) (by omega),←Hc.out];rfl) Hkp.out (by rw [←Ho1.out];exact Hfr.out) (Keeps.of_grown ((Below.refl _ _).alloc (Nat.le_refl _) _) (Nat.le_refl _) _) hown1 hgrow1 (by simpa using hco1)
     obtain ⟨hinv,hc1,hf1⟩:=hstep
     have Hinv:=Lib.hid hinv
     clear hown1 hgrow1 hco1 hinv hcell hfree
     go_wp2_with fail
     go_roundw
     case rel=>exact ⟨k+1,by omega,by go_num,by have:=Hinv.out;rw [Hu.out,Hv.out,List.append_assoc,←encs_snoc vs k hlt] at this;exact this⟩
     case measure=>simp [intOf];omega
  ·go_wp2_with fail
   go_end0
   exact ⟨rfl,by have:=hst.out;rwa [List.take_of_length_le (by omega)] at this⟩
end Go.Proofs.YtogamdaomdoapaaGreat
namespace Go.Proofs.YtogamdaomdoapaaGreat
open Go.RowKit
set_option maxRecDepth 20000
theorem WrAt.open {w:World} {p base:Nat} {l:List UInt8} {o:Option Nat} (h:WrAt w p base l o):∃ ao cap,w.heap[p]?=some (.cells #[.slice ao l.length cap] 134 (0,0))∧OwnB w base ao cap l∧o=(Value.slice ao l.length cap).ownBlock∧(Value.slice ao l.length cap).ownBlock≠some p:=by
 obtain ⟨ao,cap,h1,h2,h3,h4⟩:=h
 exact ⟨ao,cap,h1,h2,h3,h3▸h4⟩
set_option maxHeartbeats 4000000 in
theorem raw_any (p base:Nat) (l:List UInt8) (o:Option Nat) (bo:Option Addr) (cb:Nat) (bs:List UInt8) (w:World) (hw:WrAt w p base l o) (h0:bo=none→bs.length=0∧cb=0) (hb:BAt w bo bs) (hbase:base≤w.heap.size) (hm:l.length+bs.length≤140737488351232) :
 Calls Tryz.prog 114 #[.pointer (some ⟨p,0,none⟩),.slice bo bs.length cb] w fun e w'=>e=.returned (.tuple #[])∧WInv w w' p base o (l++bs) []:=by
 obtain ⟨ao,cap,hheap,hown,ho1,hne⟩:=hw.open
 have hcell:=cell_of_one hheap
 have hfree:=free_of_one hheap
 have Hheap:=Lib.hid hheap
 have Hown:=Lib.hid hown
 have Ho1:=Lib.hid ho1
 have Hne:=Lib.hid hne
 have Hb:=Lib.hid hb
 have H0:=Lib.hid h0
 clear hheap hown ho1 hne hw hb h0
 obtain ⟨i0,hi,hz0,hz1,hz2⟩:=info_parts byteInfo
 go_enter Tryz.func114,Tryz.ntmps114
 go_wp2_with (at_builtin;go_must (refine wpList_append_foot _ rfl (.tmp 10) (.tmp 11) 47 rfl base 5 i0 (.int .u8 0) 1 1 Tryz.underlying47 hi hz0 hz1 hz2 rfl (by decide) ao l.length cap (bytV l) rfl Hown.out bo bs.length cb (bytV bs) rfl H0.out (by rw [bytV_length,Nat.mul_one]) Hb.out.cells (bytV_one bs) (by unfold maxLen;omega) (by omega) hbase ?_))
 intro co c' w1 hown1 hgrow1 hco1
 have hstep:=WInv.step (full:=l++bs) (o:=o) (news:=bs) (rest:=[]) Hheap.out Hne.out (by simp) (Keeps.refl w _) (by rw [←Ho1.out];exact fun g hg=>.inl hg) (Keeps.refl w _) hown1 hgrow1 hco1
 obtain ⟨hinv,hc1,hf1⟩:=hstep
 have Hinv:=Lib.hid hinv
 clear hown1 hgrow1 hco1 hinv hcell hfree
 go_wp2_with fail
 go_end0
 exact ⟨rfl,Hinv.out⟩
theorem out_any (p base:Nat) (l:List UInt8) (o:Option Nat) (w:World) (hw:WrAt w p base l o) (hm:l.length≤140737488351232) :
 Calls Tryz.prog 78 #[.pointer (some ⟨p,0,none⟩)] w (FreshB w l):=by
 obtain ⟨ao,cap,hheap,hown,ho1,hne⟩:=hw.open
 have hcell:=cell_of_one hheap
 have Hown:=Lib.hid hown
 clear hheap hown ho1 hne hw
 go_enter Tryz.func78,Tryz.ntmps78
 go_wp2_with fail
 refine (clone_any ao cap l _ Hown.out.none Hown.out.at hm).mono ?_
 rintro e w1 ⟨bo,c,rfl,ho,hb⟩
 go_wp2_with fail
 go_ret
 exact ⟨bo,c,rfl,ho,hb⟩
end Go.Proofs.YtogamdaomdoapaaGreat