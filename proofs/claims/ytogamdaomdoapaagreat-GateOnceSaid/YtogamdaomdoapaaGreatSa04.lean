/- Texts put together: Ths, Rd, RdRaw, Take, RdNum, RdBytes, Obj, Perm. -/
import Derived.Test.YtogamdaomdoapaaGreatSa02
import Derived.Test.YtogamdaomdoapaaGreatSa03
import Derived.Laws.Bits64b
import Derived.Laws.Entries
namespace Go.Proofs.YtogamdaomdoapaaGreat
open Go.RowKit
structure Th where
 T:World→Prop
 F:Nat→Prop
 stay:∀ {w w':World} {S:Nat→Prop},T w→Keeps w w' S→(∀ x,F x→¬S x)→T w'
 lt:∀ {w:World} {x:Nat},T w→F x→x<w.heap.size
def Ths (B:Nat) (w:World):List Th→Prop
 | []=>True
 | t::r=>t.T w∧(∀ x,t.F x→B≤x)∧(∀ u∈r,∀ x,t.F x→¬u.F x)∧Ths B w r
theorem Ths.keep {B:Nat} {w w':World} {S:Nat→Prop}:∀ {L:List Th},Ths B w L→Keeps w w' S→(∀ t∈L,∀ x,t.F x→¬S x)→Ths B w' L
 | [],_,_,_=>trivial
 | t::r,h,k,hS=>⟨t.stay h.1 k (hS t (by simp)),h.2.1,h.2.2.1,Ths.keep h.2.2.2 k fun u hu=>hS u (by simp [hu])⟩
theorem Ths.lts {B:Nat} {w:World}:∀ {L:List Th},Ths B w L→∀ t∈L,∀ x,t.F x→x<w.heap.size∧B≤x
 | [],_,t,ht,_,_=>by simp at ht
 | u::r,h,t,ht,x,hx=>by
  rcases List.mem_cons.1 ht with e | e
  ·subst e;exact ⟨t.lt h.1 hx,h.2.1 x hx⟩
  ·exact Ths.lts h.2.2.2 t e x hx
theorem Ths.pull {B:Nat} {w:World} {t:Th} {R:List Th}:∀ {A:List Th},Ths B w (A++t::R)→Ths B w (t::(A++R))
 | [],h=>h
 | a::A,h=>by
  have ih:=Ths.pull h.2.2.2
  refine ⟨ih.1,ih.2.1,fun u hu x hx=>?_,h.1,h.2.1,fun u hu=>h.2.2.1 u (by simp at hu ⊢;rcases hu with e | e;exact .inl e;exact .inr (.inr e)),ih.2.2.2⟩
  rcases List.mem_cons.1 hu with e | e
  ·subst e;exact fun ha=>h.2.2.1 t (by simp) x ha hx
  ·exact ih.2.2.1 u e x hx
structure St (W w:World) (L:List Th):Prop where
 b:Below W.heap.size W w
 t:Ths W.heap.size w L
theorem keeps_same0 {w w':World} (h:Below w.heap.size w w') (S:Nat→Prop):Keeps w w' S:=Keeps.of_grown h (Nat.le_refl _) S
theorem St.start (W:World):St W W []:=⟨Below.refl _ _,trivial⟩
theorem St.grow {W w w':World} {L:List Th} (h:St W w L) (b:Below w.heap.size w w'):St W w' L:=⟨h.b.trans (b.mono h.b.size),h.t.keep (keeps_same0 b (fun _=>False)) (fun _ _ _ _ h=>h)⟩
theorem St.new {W w w':World} {L:List Th} (h:St W w L) (b:Below w.heap.size w w') (t:Th) (ht:t.T w') (hF:∀ x,t.F x→w.heap.size≤x):St W w' (t::L) :=
 ⟨(h.grow b).b,ht,fun x hx=>Nat.le_trans h.b.size (hF x hx),fun u hu x hx hux=>by have:=(h.t.lts u hu x hux).1;have:=hF x hx;omega,(h.grow b).t⟩
theorem St.step {W w w':World} {t:Th} {L:List Th} (h:St W w (t::L)) (k:Keeps w w' t.F) (t':Th) (ht:t'.T w') (hF:∀ x,t'.F x→t.F x∨w.heap.size≤x):St W w' (t'::L) :=
 ⟨h.b.trans (k.below (fun x hx=>h.t.2.1 x hx) h.b.size),ht,fun x hx=>(hF x hx).elim (h.t.2.1 x) (fun h1=>Nat.le_trans h.b.size h1),fun u hu x hx hux=>(hF x hx).elim (fun h1=>h.t.2.2.1 u hu x h1 hux) (fun h1=>by have:=(h.t.2.2.2.lts u hu x hux).1;omega),h.t.2.2.2.keep k (fun u hu x hx hs=>h.t.2.2.1 u hu x hs hx)⟩
theorem St.pull {W w:World} {A R:List Th} {t:Th} (h:St W w (A++t::R)):St W w (t::(A++R)):=⟨h.b,h.t.pull⟩
theorem St.drop {W w:World} {t:Th} {L:List Th} (h:St W w (t::L)):St W w L:=⟨h.b,h.t.2.2.2⟩
theorem St.head {W w:World} {t:Th} {L:List Th} (h:St W w (t::L)):t.T w:=h.t.1
theorem own_keeps {w w':World} {base:Nat} {ao:Option Addr} {cap:Nat} {l:List UInt8} {S:Nat→Prop} (h:OwnB w base ao cap l) (k:Keeps w w' S) (hn:∀ g,(Value.slice ao l.length cap).ownBlock=some g→¬S g):OwnB w' base ao cap l:=by
 refine ⟨h.1,?_⟩
 rcases h.2 with h2 | ⟨g,c,cur,hv,hg,hh,r⟩
 ·exact .inl h2
 ·exact .inr ⟨g,c,cur,hv,hg,(k.block g (Array.getElem?_eq_some_iff.1 hh).1 (hn g (by rw [hv];rfl))).trans hh,r⟩
theorem own_grow {w w':World} {base:Nat} {ao:Option Addr} {cap:Nat} {l:List UInt8} (h:OwnB w base ao cap l) (b:Below w.heap.size w w'):OwnB w' base ao cap l:=own_keeps h (keeps_same0 b (fun _=>False)) (fun _ _ h=>h)
theorem own_lt {w:World} {base:Nat} {ao:Option Addr} {cap:Nat} {l:List UInt8} (h:OwnB w base ao cap l):∀ g,(Value.slice ao l.length cap).ownBlock=some g→g<w.heap.size∧base≤g:=by
 intro g hg
 rcases h.2 with ⟨hv,-⟩ | ⟨g',c,cur,hv,hb,hh,-⟩
 ·rw [hv] at hg;simp [Value.ownBlock] at hg
 ·rw [hv] at hg
  simp only [Value.ownBlock,Option.some.injEq] at hg
  subst hg
  exact ⟨lt_of_block hh,hb⟩
theorem ownBlock_of {ao:Option Addr} {n c g:Nat} (h:(Value.slice ao n c).ownBlock=some g):∃ a,ao=some a∧a.block=g:=by
 cases ao with
 | none=>simp [Value.ownBlock] at h
 | some a=>exact ⟨a,rfl,by simpa [Value.ownBlock] using h⟩
def thOwn (base:Nat) (ao:Option Addr) (cap:Nat) (l:List UInt8):Th where
 T w:=OwnB w base ao cap l
 F x:=∃ a,ao=some a∧a.block=x
 stay h k hS:=own_keeps h k (fun g hg=>hS g (ownBlock_of hg))
 lt h hx:=by
  obtain ⟨a,rfl,rfl⟩:=hx
  exact (own_lt h a.block rfl).1
theorem St.own {W w w':World} {L:List Th} {ao:Option Addr} {cap:Nat} {l:List UInt8} (h:St W w L) (b:Below w.heap.size w w') (ho:OwnB w' w.heap.size ao cap l):St W w' (thOwn w.heap.size ao cap l::L) :=
 h.new b _ ho (fun x hx=>by
  obtain ⟨a,rfl,rfl⟩:=hx
  exact (own_lt ho a.block rfl).2)
def thRow (base:Nat) (e:TypeId) (size:Nat) (ao:Option Addr) (n cap:Nat) (xs:List Value):Th where
 T w:=w.ownsRow base e size (.slice ao n cap) n xs
 F x:=∃ a,ao=some a∧a.block=x
 stay h k hS:=by
  refine ⟨h.1,?_⟩
  rcases h.2 with h2 | ⟨g,c,cur,hv,hg,hh,r⟩
  ·exact .inl h2
  ·exact .inr ⟨g,c,cur,hv,hg,(k.block g (Array.getElem?_eq_some_iff.1 hh).1 (hS g (by simp only [Value.slice.injEq] at hv;exact ⟨_,hv.1,rfl⟩))).trans hh,r⟩
 lt h hx:=by
  obtain ⟨a,rfl,rfl⟩:=hx
  exact (h.lt a.block rfl).2
theorem St.nilRow {W w:World} {L:List Th} (h:St W w L) (e:TypeId) (size:Nat):St W w (thRow W.heap.size e size none 0 0 []::L) :=
 ⟨h.b,World.ownsRow_nil _ _ _ _,fun x hx=>(by obtain ⟨a,e,-⟩:=hx;cases e),fun u _ x hx=>(by obtain ⟨a,e,-⟩:=hx;cases e),h.t⟩
theorem St.appendedRow {W w w':World} {L:List Th} {ao co:Option Addr} {e:TypeId} {size n m cap c':Nat} {xs news:List Value} (h:St W w (thRow W.heap.size e size ao n cap xs::L)) (hown:w'.ownsRow W.heap.size e size (.slice co (n+m) c') (n+m) (xs++news)) (hg:w.grownBy w' (Value.slice ao n cap).ownBlock) (hco:∀ g,co=some g→ao=some g∨w.heap.size≤g.block):St W w' (thRow W.heap.size e size co (n+m) c' (xs++news)::L):=by
 refine h.step ((Keeps.grown hg).weak (fun i _ e=>ownBlock_of e.symm)) _ hown (fun x hx=>?_)
 obtain ⟨a,rfl,rfl⟩:=hx
 rcases hco a rfl with h1 | h1
 ·exact .inl ⟨a,h1,rfl⟩
 ·exact .inr h1
theorem St.appended {W w w':World} {L:List Th} {ao co:Option Addr} {cap c':Nat} {l news:List UInt8} (h:St W w (thOwn W.heap.size ao cap l::L)) (hown:w'.ownsRow W.heap.size 5 1 (.slice co (l.length+news.length) c') (l.length+news.length) (bytV l++bytV news)) (hg:w.grownBy w' (Value.slice ao l.length cap).ownBlock) (hco:∀ g,co=some g→ao=some g∨w.heap.size≤g.block):St W w' (thOwn W.heap.size co c' (l++news)::L):=by
 refine h.step ((Keeps.grown hg).weak (fun i _ e=>ownBlock_of e.symm)) _ (show OwnB w' W.heap.size co c' (l++news) by unfold OwnB;rw [←bytV_append,List.length_append];exact hown) (fun x hx=>?_)
 obtain ⟨a,rfl,rfl⟩:=hx
 rcases hco a rfl with h1 | h1
 ·exact .inl ⟨a,h1,rfl⟩
 ·exact .inr h1
theorem St.nil {W w:World} {L:List Th} (h:St W w L):St W w (thOwn W.heap.size none 0 []::L) :=
 ⟨h.b,⟨rfl,.inl ⟨rfl,rfl⟩⟩,fun x hx=>(by obtain ⟨a,e,-⟩:=hx;cases e),fun u _ x hx=>(by obtain ⟨a,e,-⟩:=hx;cases e),h.t⟩
end Go.Proofs.YtogamdaomdoapaaGreat
namespace Go.Proofs.YtogamdaomdoapaaGreat
open Go.RowKit
set_option maxRecDepth 20000
def RdAt (w:World) (p g:Nat) (rest:List UInt8) (bad:Bool):Prop:=∃ ao cap,w.heap[p]?=some (.cells #[.slice ao rest.length cap,.bool bad] 141 (0,0))∧rest.length≤cap∧cap≤9223372036854775807∧(ao=none→rest.length=0∧cap=0)∧g≠p∧(0<rest.length→∃ off,ao=some ⟨g,off,none⟩∧g<w.heap.size∧BRow w g off rest)
theorem cell_of_two {w:World} {b:Nat} {u v:Value} {t:TypeId} (h:w.heap[b]?=some (.cells #[u,v] t (0,0))):w.cell? ⟨b,0,none⟩=some u∧w.cell? ⟨b,1,none⟩=some v∧w.frozen? ⟨b,0,none⟩=false∧w.frozen? ⟨b,1,none⟩=false:=by
 simp [World.cell?,World.frozen?,h]
theorem set_two_fst {w:World} {b:Nat} {u v x:Value} {t:TypeId} (h:w.heap[b]?=some (.cells #[u,v] t (0,0))):(w.setCell ⟨b,0,none⟩ x).heap[b]?=some (.cells #[x,v] t (0,0)):=by
 simp [World.setCell,Array.getElem?_modify,h]
theorem set_two_snd {w:World} {b:Nat} {u v x:Value} {t:TypeId} (h:w.heap[b]?=some (.cells #[u,v] t (0,0))):(w.setCell ⟨b,1,none⟩ x).heap[b]?=some (.cells #[u,x] t (0,0)):=by
 simp [World.setCell,Array.getElem?_modify,h]
theorem RdAt.keeps {w w':World} {p g:Nat} {rest:List UInt8} {bad:Bool} {S:Nat→Prop} (h:RdAt w p g rest bad) (k:Keeps w w' S) (hp:¬S p) (hg:¬S g):RdAt w' p g rest bad:=by
 obtain ⟨ao,cap,h1,h2,h3,h4,h5,h6⟩:=h
 refine ⟨ao,cap,(k.block p (lt_of_block h1) hp).trans h1,h2,h3,h4,h5,fun hl=>?_⟩
 obtain ⟨off,e,hlt,hr⟩:=h6 hl
 exact ⟨off,e,Nat.lt_of_lt_of_le hlt k.size,hr.keeps hlt k hg⟩
theorem bad_any (p g:Nat) (rest:List UInt8) (bad:Bool) (w:World) (h:RdAt w p g rest bad) :
 Calls Tryz.prog 124 #[.pointer (some ⟨p,0,none⟩)] w fun e w'=>e=.returned (.tuple #[])∧RdAt w' p g [] true∧Keeps w w' (fun x=>x=p):=by
 obtain ⟨ao,cap,hh,-,-,-,hgp,-⟩:=h
 obtain ⟨c0,c1,f0,f1⟩:=cell_of_two hh
 have Hh:=Lib.hid hh
 clear hh
 go_enter Tryz.func124,Tryz.ntmps124
 go_wp2_with fail
 go_end0
 exact ⟨rfl,⟨none,0,set_two_snd (set_two_fst Hh.out),Nat.le_refl _,by omega,fun _=>⟨rfl,rfl⟩,hgp,fun h=>by simp at h⟩,(Keeps.set w _ _).trans (Keeps.set _ _ _) (fun _ h=>h) (fun _ _ h=>h)⟩
theorem good_any (p g:Nat) (rest:List UInt8) (bad:Bool) (w:World) (h:RdAt w p g rest bad) :
 Calls Tryz.prog 83 #[.pointer (some ⟨p,0,none⟩)] w fun e w'=>e=.returned (.bool !bad)∧w=w':=by
 obtain ⟨ao,cap,hh,-⟩:=h
 obtain ⟨c0,c1,f0,f1⟩:=cell_of_two hh
 clear hh
 go_enter Tryz.func83,Tryz.ntmps83
 go_wp2_with fail
 go_ret
 exact ⟨rfl,rfl⟩
theorem whole_any (p g:Nat) (rest:List UInt8) (bad:Bool) (w:World) (h:RdAt w p g rest bad) (hm:rest.length≤140737488351232) :
 Calls Tryz.prog 51 #[.pointer (some ⟨p,0,none⟩)] w fun e w'=>e=.returned (.bool (!bad&&rest.isEmpty))∧w=w':=by
 have hgood:=good_any p g rest bad w h
 have Hgood:=Lib.hid hgood
 obtain ⟨ao,cap,hh,-⟩:=h
 obtain ⟨c0,c1,f0,f1⟩:=cell_of_two hh
 clear hh hgood
 cases bad
 ·go_enter Tryz.func51,Tryz.ntmps51
  go_wp2_with fail
  refine Hgood.out.mono ?_
  rintro e w1 ⟨rfl,rfl⟩
  go_wp2_with fail
  go_ret
  refine ⟨?_,rfl⟩
  cases rest with
  | nil=>simp
  | cons x r=>simp;omega
 ·go_enter Tryz.func51,Tryz.ntmps51
  go_wp2_with fail
  refine Hgood.out.mono ?_
  rintro e w1 ⟨rfl,rfl⟩
  go_wp2_with fail
  go_ret
  exact ⟨rfl,rfl⟩
end Go.Proofs.YtogamdaomdoapaaGreat
namespace Go.Proofs.YtogamdaomdoapaaGreat
open Go.RowKit
set_option maxRecDepth 20000
theorem newReader_any (ao:Option Addr) (cap:Nat) (bs:List UInt8) (w:World) (h0:ao=none→bs.length=0∧cap=0) (ha:BAt w ao bs) (hm:bs.length≤140737488351232) :
 Calls Tryz.prog 48 #[.slice ao bs.length cap] w fun e w'=>∃ p g,e=.returned (.pointer (some ⟨p,0,none⟩))∧RdAt w' p g bs false∧Below w.heap.size w w'∧w.heap.size≤p∧w.heap.size≤g:=by
 go_enter Tryz.func48,Tryz.ntmps48
 go_wp2_with fail
 refine (clone_any ao cap bs _ h0 ha hm).mono ?_
 rintro e w1 ⟨bo,c,rfl,ho,hb⟩
 go_wp2_with fail
 go_ret
 have hs:=hb.size
 have hrd:∃ g,RdAt (w1.alloc (.cells #[.slice bo bs.length c,.bool false] 141)) w1.heap.size g bs false∧w.heap.size≤g:=by
  by_cases hp:0<bs.length
  ·obtain ⟨g,e,hbg,hlt,hr⟩:=ho.row hp
   exact ⟨g,⟨bo,c,heap_new _ _,ho.le.1,ho.le.2,ho.none,by omega,fun _=>⟨0,e,by simp;omega,hr.below hlt ((Below.refl _ _).alloc (Nat.le_refl _) _)⟩⟩,hbg⟩
  ·exact ⟨w1.heap.size+1,⟨bo,c,heap_new _ _,ho.le.1,ho.le.2,ho.none,by omega,fun h=>absurd h hp⟩,by omega⟩
 obtain ⟨g,hg1,hg2⟩:=hrd
 exact ⟨w1.heap.size,g,rfl,hg1,hb.alloc hs _,hs,hg2⟩
set_option maxHeartbeats 1000000 in
theorem rdraw_no (p g:Nat) (rest:List UInt8) (bad:Bool) (n:Int) (w:World) (h:RdAt w p g rest bad) (hn:n<0∨(rest.length:Int)<n) :
 Calls Tryz.prog 82 #[.pointer (some ⟨p,0,none⟩),.int .i64 n] w fun e w'=>e=.returned (.slice none 0 0)∧RdAt w' p g [] true∧Keeps w w' (fun x=>x=p):=by
 have hbad:=bad_any p g rest bad w h
 have Hbad:=Lib.hid hbad
 obtain ⟨ao,cap,hh,-⟩:=h
 obtain ⟨c0,c1,f0,f1⟩:=cell_of_two hh
 clear hh hbad
 by_cases h1:n<0
 all_goals
  go_enter Tryz.func82,Tryz.ntmps82
  go_wp2_with fail
  all_goals first | (exfalso;omega) | skip
  refine Hbad.out.mono ?_
  rintro e w1 ⟨rfl,hr,hk⟩
  go_wp2_with fail
  go_ret
  exact ⟨rfl,hr,hk⟩
theorem own_set {w:World} {base:Nat} {ao:Option Addr} {cap:Nat} {l:List UInt8} (h:OwnB w base ao cap l) (a:Addr) (v:Value) (ha:a.block<base):OwnB (w.setCell a v) base ao cap l :=
 ownsRow_setCell_other h (fun e=>by
  rcases h.2 with ⟨hv,-⟩ | ⟨g,c,cur,hv,hb,-⟩
  ·simp only [Value.slice.injEq] at hv
   rw [hv.1] at e
   simp [Value.ownBlock] at e
  ·simp only [Value.slice.injEq] at hv
   rw [hv.1] at e
   simp only [Value.ownBlock,Option.some.injEq] at e
   omega) v
theorem rd_cut {w w1:World} {p g n cap:Nat} {rest:List UInt8} {bad:Bool} {ao ao':Option Addr} {cap':Nat} (hw:w1.heap[p]?=some (.cells #[.slice ao rest.length cap,.bool bad] 141 (0,0))) (hn:n≤rest.length) (hlc:rest.length≤cap) (hcm:cap≤9223372036854775807) (hgp:g≠p)
 (hrow:0<rest.length→∃ off,ao=some ⟨g,off,none⟩∧g<w.heap.size∧BRow w g off rest) (hb:Below w.heap.size w w1) (hc:cap'=cap - n) (h0:ao'=none→rest.length - n=0∧cap'=0) (hao:n<rest.length→ao'=ao.map fun x=>x.add n) :
 RdAt (w1.setCell ⟨p,0,none⟩ (.slice ao' (rest.length - n) cap')) p g (rest.drop n) bad:=by
 have hln:rest.length - n=(rest.drop n).length:=by rw [List.length_drop]
 rw [hln]
 refine ⟨ao',cap',set_two_fst hw,by rw [List.length_drop];omega,by omega,fun h=>by rw [List.length_drop];exact h0 h,hgp,fun hp=>?_⟩
 rw [List.length_drop] at hp
 obtain ⟨off,e,hlt,hr⟩:=hrow (by omega)
 refine ⟨off+n,by rw [hao (by omega),e];simp only [Option.map_some,add_none],by simp only [World.setCell,Array.size_modify];exact Nat.lt_of_lt_of_le hlt hb.size,fun i hi=>?_⟩
 rw [World.cell?_of_block (w:=w1) (Below.heap_setCell _ _ _ _ hgp)]
 rw [List.length_drop] at hi
 have:=(hr.below hlt hb) (n+i) (by omega)
 rw [List.getElem_drop,Nat.add_assoc]
 exact this
set_option maxHeartbeats 1000000 in
theorem rdraw_yes (p g:Nat) (rest:List UInt8) (bad:Bool) (n:Nat) (w:World) (h:RdAt w p g rest bad) (hn:n≤rest.length) (hm:rest.length≤140737488351232) :
 Calls Tryz.prog 82 #[.pointer (some ⟨p,0,none⟩),.int .i64 n] w fun e w'=>∃ ao cap,e=.returned (.slice ao n cap)∧OwnB w' w.heap.size ao cap (rest.take n)∧RdAt w' p g (rest.drop n) bad∧Keeps w w' (fun x=>x=p):=by
 obtain ⟨ao,cap,hh,hlc,hcm,hnone,hgp,hrow⟩:=h
 obtain ⟨c0,c1,f0,f1⟩:=cell_of_two hh
 have Hh:=Lib.hid hh
 have Hnone:=Lib.hid hnone
 have Hrow:=Lib.hid hrow
 clear hh hnone hrow
 have h1:¬(n:Int)<0:=by omega
 have h2:¬(rest.length:Int)<n:=by omega
 go_enter Tryz.func82,Tryz.ntmps82
 go_wp2_with fail
 have hcl:Calls Tryz.prog 80 #[.slice ao n cap] w fun e w'=>∃ bo c,e=.returned (.slice bo n c)∧OwnB w' w.heap.size bo c (rest.take n)∧Below w.heap.size w w':=by
  have hl:(rest.take n).length=n:=by rw [List.length_take,Nat.min_eq_left hn]
  have:=clone_any ao cap (rest.take n) w (fun h=>by have:=Hnone.out h;omega) (fun hp=>by
   obtain ⟨off,e,hlt,hr⟩:=Hrow.out (by omega)
   exact ⟨g,off,e,hlt,fun i hi=>by rw [List.getElem_take];exact hr i (by omega)⟩) (by omega)
  unfold FreshB at this
  rw [hl] at this
  exact this
 refine hcl.mono ?_
 rintro e w1 ⟨bo,c,rfl,ho,hb⟩
 have hh1:w1.heap[p]?=some (.cells #[.slice ao rest.length cap,.bool bad] 141 (0,0)):=(hb.block p (lt_of_block Hh.out)).trans Hh.out
 obtain ⟨d0,d1,e0,e1⟩:=cell_of_two hh1
 have Ho:=Lib.hid ho
 have Hh1:=Lib.hid hh1
 have Hb:=Lib.hid hb
 clear ho hh1 hb hcl c0 c1 f0 f1
 go_wp2_with fail
 ·go_ret
  have hrn:rest.length=n:=by omega
  refine ⟨bo,c,rfl,own_set Ho.out _ _ (lt_of_block Hh.out),?_,(Keeps.of_grown Hb.out (Nat.le_refl _) (fun _=>False)).trans (Keeps.set _ _ _) (fun _ h=>h.elim) (fun _ _ h=>h)⟩
  exact rd_cut Hh1.out hn hlc hcm hgp Hrow.out Hb.out (by omega) (fun _=>⟨by omega,rfl⟩) (fun h=>by omega)
 ·go_ret
  refine ⟨bo,c,rfl,own_set Ho.out _ _ (lt_of_block Hh.out),?_,(Keeps.of_grown Hb.out (Nat.le_refl _) (fun _=>False)).trans (Keeps.set _ _ _) (fun _ h=>h.elim) (fun _ _ h=>h)⟩
  exact rd_cut Hh1.out hn hlc hcm hgp Hrow.out Hb.out rfl (fun h=>by
   rw [Option.map_eq_none_iff] at h
   have:=Hnone.out h
   omega) (fun _=>rfl)
end Go.Proofs.YtogamdaomdoapaaGreat
namespace Go.Proofs.YtogamdaomdoapaaGreat
def numR (i u:Nat):List UInt8→Option (Nat × List UInt8)
 | []=>none
 | c::r=>if 9≤i∨(0<i∧c=0) then none else
  if c.toNat<128 then (if 4611686018427387904<u+c.toNat * 128 ^ i then none else some (u+c.toNat * 128 ^ i,r))
  else numR (i+1) (u+(c.toNat % 128) * 128 ^ i) r
def numOf (l:List UInt8):Option (Nat × List UInt8):=numR 0 0 l
theorem bits_seven_all:∀ m:Fin 256,bits BinOp.and IntKind.u8 ((m.val:Nat):Int) 127=((m.val % 128:Nat):Int):=by decide +kernel
theorem bits_seven (c:UInt8):bits BinOp.and IntKind.u8 (c.toNat:Int) 127=((c.toNat % 128:Nat):Int):=bits_seven_all ⟨c.toNat,c.toNat_lt⟩
theorem pow_seven (i:Nat):(2:Nat) ^ (7 * i)=128 ^ i:=by rw [Nat.pow_mul]
theorem bits_digit (i u:Nat) (c:UInt8) (hi:i<9) (hu:u<128 ^ i):bits BinOp.or IntKind.u64 (u:Int) (IntKind.u64.wrap ((c.toNat:Int) % 128 * 2 ^ (7 * i)))=((u+c.toNat % 128 * 128 ^ i:Nat):Int):=by
 have h9:(128:Nat) ^ i≤128 ^ 8:=Nat.pow_le_pow_right (by omega) (by omega)
 have h8:(128:Nat) ^ 8=72057594037927936:=by decide
 obtain ⟨d,hde⟩:∃ d,d=c.toNat % 128:=⟨_,rfl⟩
 have hd:d<128:=by omega
 have hdm:d * 128 ^ i≤127 * 72057594037927936:=Nat.mul_le_mul (by omega) (by omega)
 have e2:(2:Int) ^ (7 * i)=((128 ^ i:Nat):Int):=by rw [←pow_seven];push_cast;rfl
 rw [←hde,show (c.toNat:Int) % 128=(d:Int) from by omega,e2,←Int.natCast_mul,IntKind.wrap_u64,Int.emod_eq_of_lt (by omega) (by omega),bits_or_u64_nat _ _ (by omega) (by omega)]
 congr 1
 rw [Nat.mul_comm d,←pow_seven] at *
 rw [Nat.or_comm,←Nat.two_pow_add_eq_or_of_lt hu,Nat.add_comm]
theorem digit_lt (i u d:Nat) (hu:u<128 ^ i) (hd:d<128):u+d * 128 ^ i<128 ^ (i+1):=by
 have:d * 128 ^ i≤127 * 128 ^ i:=Nat.mul_le_mul_right _ (by omega)
 rw [Nat.pow_succ];omega
theorem numR_left:∀ (l:List UInt8) (i u:Nat) (n:Nat) (r:List UInt8),numR i u l=some (n,r)→n≤4611686018427387904∧∃ k,0<k∧k≤l.length∧r=l.drop k
 | [],_,_,_,_,h=>by simp [numR] at h
 | c::t,i,u,n,r,h=>by
  simp only [numR] at h
  split at h
  ·simp at h
  ·split at h
   ·split at h
    ·simp at h
    ·simp only [Option.some.injEq,Prod.mk.injEq] at h
     obtain ⟨rfl,rfl⟩:=h
     exact ⟨by omega,1,by omega,by simp,rfl⟩
   ·obtain ⟨h1,k,hk,hl,e⟩:=numR_left t _ _ _ _ h
    exact ⟨h1,k+1,by omega,by simp;omega,by rw [e];rfl⟩
end Go.Proofs.YtogamdaomdoapaaGreat
namespace Go.Proofs.YtogamdaomdoapaaGreat
open Go.RowKit
set_option maxRecDepth 20000
set_option maxRecDepth 8000 in
set_option maxHeartbeats 4000000 in
theorem rdnum_any (p g:Nat) (rest:List UInt8) (bad:Bool) (w:World) (h:RdAt w p g rest bad) (hm:rest.length≤140737488351232) :
 Calls Tryz.prog 81 #[.pointer (some ⟨p,0,none⟩)] w fun e w'=>(∀ n r,numOf rest=some (n,r)→e=.returned (.int .i64 (n:Nat))∧RdAt w' p g r bad)∧(numOf rest=none→e=.returned (.int .i64 0)∧RdAt w' p g [] true)∧Keeps w w' (fun x=>x=p):=by
 have Hbad:=Lib.hid (bad_any p g rest bad w h)
 obtain ⟨ao,cap,hh,hlc,hcm,hnone,hgp,hrow⟩:=h
 obtain ⟨c0,c1,f0,f1⟩:=cell_of_two hh
 have Hh:=Lib.hid hh
 have Hnone:=Lib.hid hnone
 have Hrow:=Lib.hid hrow
 clear hh hnone hrow
 go_enter Tryz.func81,Tryz.ntmps81
 go_wp2_with fail
 go_loopw [13,3] (fun s13 s3 wr=>wr=w∧∃ k u:Nat,k≤rest.length∧k≤9∧s13=.int .i64 k∧s3=.int .u64 u∧u<128 ^ k∧Hid (numR k u (rest.drop k)=numOf rest)) (fun s13 _ _=>rest.length - (intOf s13).toNat)
 case atStart=>exact ⟨rfl,0,0,by omega,by omega,rfl,rfl,by decide,rfl⟩
 case round =>
  obtain ⟨rfl,k,u,hk,hk9,rfl,rfl,hu,hst⟩:=hrel
  by_cases hlt:k<rest.length
  ·obtain ⟨off,rfl,hglt,hr⟩:=Hrow.out (by omega)
   have hcv:=hr k hlt
   obtain ⟨c,hc⟩:∃ c,c=rest[k]:=⟨_,rfl⟩
   have hdrop:rest.drop k=c::rest.drop (k+1):=by rw [hc];exact List.drop_eq_getElem_cons hlt
   rw [←hc] at hcv
   have Hdrop:=Lib.hid hdrop
   have Hr:=Lib.hid hr
   have Hu:=Lib.hid hu
   clear hc hdrop hr hu
   by_cases h9:(9:Int)≤k
   ·have Hno:Hid (numOf rest=none):=by
     have:=hst.out
     rw [Hdrop.out] at this
     rw [Hid,←this]
     simp only [numR]
     rw [if_pos (.inl (by omega))]
    (go_wp2_with fail);(refine Hbad.out.mono ?_);(rintro e w1 ⟨rfl,hr,hk⟩);(go_wp2_with fail);go_ret;exact ⟨fun n r h=>(nomatch (Hno.out.symm.trans h)),fun _=>⟨rfl,hr⟩,hk⟩
   ·have hbd:=bits_digit k u c (by omega) Hu.out
    by_cases hz:0<k∧c=0
    ·have Hno:Hid (numOf rest=none):=by
      have:=hst.out
      rw [Hdrop.out] at this
      rw [Hid,←this]
      simp only [numR]
      rw [if_pos (.inr hz)]
     obtain ⟨h0,rfl⟩:=hz
     have hc0:((0:UInt8).toNat:Int)=0:=rfl
     (go_wp2_with fail);(refine Hbad.out.mono ?_);(rintro e w1 ⟨rfl,hr,hk⟩);(go_wp2_with fail);go_ret;exact ⟨fun n r h=>(nomatch (Hno.out.symm.trans h)),fun _=>⟨rfl,hr⟩,hk⟩
    ·have hgo:¬(9≤k∨(0<k∧c=0)):=by
      rintro (h | h)
      ·omega
      ·exact hz h
     have Hgo:=Lib.hid hgo
     have hc0:0<k→¬(c.toNat:Int)=0:=fun h e=>hz ⟨h,UInt8.toNat_inj.1 (by rw [UInt8.toNat_zero];omega)⟩
     clear hgo hz
     have hbs:bits BinOp.and IntKind.u8 (c.toNat:Int) 127=(c.toNat:Int) % 128:=by rw [bits_seven];omega
     obtain ⟨q,hq⟩:∃ q,q=u+c.toNat % 128 * 128 ^ k:=⟨_,rfl⟩
     rw [←hq] at hbd
     have Hq:=Lib.hid hq
     clear hq
     have hstep:¬c.toNat<128→numR (k+1) q (rest.drop (k+1))=numOf rest∧q<128 ^ (k+1):=fun h=>by
      have h1:=hst.out
      rw [Hdrop.out] at h1
      simp only [numR] at h1
      rw [if_neg Hgo.out,if_neg h,←Hq.out] at h1
      exact ⟨h1,by rw [Hq.out];exact digit_lt k u _ Hu.out (by omega)⟩
     have hend:c.toNat<128→numOf rest=if 4611686018427387904<q then none else some (q,rest.drop (k+1)):=fun h=>by
      have h1:=hst.out
      rw [Hdrop.out] at h1
      simp only [numR] at h1
      rw [if_neg Hgo.out,if_pos h] at h1
      rw [Hq.out,Nat.mod_eq_of_lt h]
      exact h1.symm
     have Hstep:=Lib.hid hstep
     have Hend:=Lib.hid hend
     clear hstep hend
     by_cases h0:(0:Int)<k
     all_goals (try have hc0:=hc0 (by omega))
     all_goals by_cases hc128:(c.toNat:Int)<128
     ·by_cases hbig:(4611686018427387904:Int)<q
      ·have Hno:Hid (numOf rest=none):=by rw [Hid,Hend.out (by omega),if_pos (by omega)]
       (go_wp2_with fail);(refine Hbad.out.mono ?_);(rintro e w1 ⟨rfl,hr,hk⟩);(go_wp2_with fail);go_ret;exact ⟨fun n r h=>(nomatch (Hno.out.symm.trans h)),fun _=>⟨rfl,hr⟩,hk⟩
      ·(go_wp2_with fail)
       all_goals go_ret
       all_goals have hy:numOf rest=some (q,rest.drop (k+1)):=by rw [Hend.out (by omega),if_neg (by omega)]
       all_goals refine ⟨fun n r h=>?_,fun h=>(nomatch (hy.symm.trans h)),Keeps.set _ _ _⟩
       all_goals (rw [hy] at h;simp only [Option.some.injEq,Prod.mk.injEq] at h;obtain ⟨rfl,rfl⟩:=h;refine ⟨rfl,?_⟩)
       all_goals exact rd_cut (n:=k+1) Hh.out (by omega) hlc hcm hgp Hrow.out (Below.refl _ _) (by omega) (fun h=>(nomatch h)) (fun h=>by first | omega | simp [Addr.add])
     ·go_wp2_with fail
      go_roundw
      case rel=>exact ⟨trivial,k+1,q,by omega,by omega,by go_num,rfl,(Hstep.out (by omega)).2,(Hstep.out (by omega)).1⟩
      case measure=>simp [intOf];omega
     ·by_cases hbig:(4611686018427387904:Int)<q
      ·have Hno:Hid (numOf rest=none):=by rw [Hid,Hend.out (by omega),if_pos (by omega)]
       (go_wp2_with fail);(refine Hbad.out.mono ?_);(rintro e w1 ⟨rfl,hr,hk⟩);(go_wp2_with fail);go_ret;exact ⟨fun n r h=>(nomatch (Hno.out.symm.trans h)),fun _=>⟨rfl,hr⟩,hk⟩
      ·(go_wp2_with fail)
       all_goals go_ret
       all_goals have hy:numOf rest=some (q,rest.drop (k+1)):=by rw [Hend.out (by omega),if_neg (by omega)]
       all_goals refine ⟨fun n r h=>?_,fun h=>(nomatch (hy.symm.trans h)),Keeps.set _ _ _⟩
       all_goals (rw [hy] at h;simp only [Option.some.injEq,Prod.mk.injEq] at h;obtain ⟨rfl,rfl⟩:=h;refine ⟨rfl,?_⟩)
       all_goals exact rd_cut (n:=k+1) Hh.out (by omega) hlc hcm hgp Hrow.out (Below.refl _ _) (by omega) (fun h=>(nomatch h)) (fun h=>by first | omega | simp [Addr.add])
     ·go_wp2_with fail
      go_roundw
      case rel=>exact ⟨trivial,k+1,q,by omega,by omega,by go_num,rfl,(Hstep.out (by omega)).2,(Hstep.out (by omega)).1⟩
      case measure=>simp [intOf];omega
  ·have Hno:Hid (numOf rest=none):=by
    have:=hst.out
    rw [List.drop_eq_nil_of_le (by omega)] at this
    rw [Hid,←this]
    rfl
   (go_wp2_with fail);(refine Hbad.out.mono ?_);(rintro e w1 ⟨rfl,hr,hk⟩);(go_wp2_with fail);go_ret;exact ⟨fun n r h=>(nomatch (Hno.out.symm.trans h)),fun _=>⟨rfl,hr⟩,hk⟩
end Go.Proofs.YtogamdaomdoapaaGreat
namespace Go.Proofs.YtogamdaomdoapaaGreat
open Go.RowKit
set_option maxRecDepth 20000
def bytesOf (l:List UInt8):Option (List UInt8 × List UInt8):=match numOf l with
 | none=>none
 | some (n,r)=>if n≤r.length then some (r.take n,r.drop n) else none
def tookOf (rest:List UInt8) (bad:Bool):List UInt8 × List UInt8 × Bool:=match bytesOf rest with
 | some (x,r)=>(x,r,bad)
 | none=>([],[],true)
theorem own_nothing (w:World) (base:Nat):OwnB w base none 0 []:=⟨rfl,.inl ⟨rfl,rfl⟩⟩
theorem RdAt.lt {w:World} {p g:Nat} {rest:List UInt8} {bad:Bool} (h:RdAt w p g rest bad):p<w.heap.size:=by
 obtain ⟨ao,cap,h1,-⟩:=h
 exact lt_of_block h1
theorem numOf_left {l:List UInt8} {n:Nat} {r:List UInt8} (h:numOf l=some (n,r)):r.length≤l.length∧n≤4611686018427387904:=by
 obtain ⟨h1,k,-,-,e⟩:=numR_left l 0 0 n r h
 exact ⟨by rw [e,List.length_drop];omega,h1⟩
set_option maxHeartbeats 1000000 in
theorem rdbytes_any (p g:Nat) (rest:List UInt8) (bad:Bool) (w:World) (h:RdAt w p g rest bad) (hm:rest.length≤140737488351232) :
 Calls Tryz.prog 50 #[.pointer (some ⟨p,0,none⟩)] w fun e w'=>∃ x r' b' ao cap,(x,r',b')=tookOf rest bad∧e=.returned (.slice ao x.length cap)∧OwnB w' w.heap.size ao cap x∧RdAt w' p g r' b'∧Keeps w w' (fun x=>x=p):=by
 have Hnum:=Lib.hid (rdnum_any p g rest bad w h hm)
 have hlt:=h.lt
 clear h
 have Htook:Hid (tookOf rest bad=match numOf rest with | none=>([],[],true) | some (n,r)=>if n≤r.length then (r.take n,r.drop n,bad) else ([],[],true)):=by
  unfold Hid tookOf bytesOf
  cases numOf rest with
  | none=>rfl
  | some o=>obtain ⟨n,r⟩:=o;simp only;by_cases hc:n≤r.length<;>simp only [hc,if_true,if_false]
 go_enter Tryz.func50,Tryz.ntmps50
 go_wp2_with fail
 refine Hnum.out.mono ?_
 rintro e w1 ⟨hy,hn,hk⟩
 have hs:=hk.size
 cases ho:numOf rest with
 | none =>
  obtain ⟨rfl,hr⟩:=hn ho
  have htook:=Htook.out
  rw [ho] at htook
  have Ht:=Lib.hid htook
  have Hraw:=Lib.hid (rdraw_yes p g [] true 0 w1 hr (Nat.le_refl _) (by simp))
  clear hy hn hr ho htook
  go_wp2_with fail
  refine Hraw.out.mono ?_
  rintro e w2 ⟨ao,cap,rfl,hown,hr2,hk2⟩
  go_wp2_with fail
  go_ret
  exact ⟨[],[],true,ao,cap,Ht.out.symm,rfl,own_weak hown hs,hr2,hk.trans hk2 (fun _ h=>h) (fun _ _ h=>h)⟩
 | some o =>
  obtain ⟨n,r⟩:=o
  obtain ⟨rfl,hr⟩:=hy n r ho
  obtain ⟨hl,hnle⟩:=numOf_left ho
  have htook:=Htook.out
  rw [ho] at htook
  simp only at htook
  by_cases hnr:n≤r.length
  ·rw [if_pos hnr] at htook
   have Ht:=Lib.hid htook
   have Hraw:=Lib.hid (rdraw_yes p g r bad n w1 hr hnr (by omega))
   clear hy hn hr ho htook
   go_wp2_with fail
   refine Hraw.out.mono ?_
   rintro e w2 ⟨ao,cap,rfl,hown,hr2,hk2⟩
   go_wp2_with fail
   go_ret
   refine ⟨r.take n,r.drop n,bad,ao,cap,Ht.out.symm,?_,own_weak hown hs,hr2,hk.trans hk2 (fun _ h=>h) (fun _ _ h=>h)⟩
   rw [List.length_take,Nat.min_eq_left hnr];rfl
  ·rw [if_neg hnr] at htook
   have Ht:=Lib.hid htook
   have Hraw:=Lib.hid (rdraw_no p g r bad n w1 hr (.inr (by omega)))
   clear hy hn hr ho htook
   go_wp2_with fail
   refine Hraw.out.mono ?_
   rintro e w2 ⟨rfl,hr2,hk2⟩
   go_wp2_with fail
   go_ret
   exact ⟨[],[],true,none,0,Ht.out.symm,rfl,own_nothing _ _,hr2,hk.trans hk2 (fun _ h=>h) (fun _ _ h=>h)⟩
end Go.Proofs.YtogamdaomdoapaaGreat
namespace Go.Proofs.YtogamdaomdoapaaGreat
open Go.RowKit Go.Joins
set_option maxRecDepth 20000
def thWr (p base:Nat) (l:List UInt8) (o:Option Nat):Th where
 T w:=WrAt w p base l o
 F:=Foot p o
 stay h k hS:=h.keeps k (hS _ (.inl rfl)) (fun g hg=>hS g (.inr hg))
 lt h hx:=by
  rcases hx with rfl | hx
  ·exact h.lt
  ·exact (h.own_lt _ hx).1
theorem RdAt.stay {w w':World} {p g:Nat} {rest:List UInt8} {bad:Bool} {S:Nat→Prop} (h:RdAt w p g rest bad) (k:Keeps w w' S) (hp:¬S p) (hg:0<rest.length→¬S g):RdAt w' p g rest bad:=by
 obtain ⟨ao,cap,h1,h2,h3,h4,h5,h6⟩:=h
 refine ⟨ao,cap,(k.block p (lt_of_block h1) hp).trans h1,h2,h3,h4,h5,fun hl=>?_⟩
 obtain ⟨off,e,hlt,hr⟩:=h6 hl
 exact ⟨off,e,Nat.lt_of_lt_of_le hlt k.size,hr.keeps hlt k (hg hl)⟩
theorem RdAt.glt {w:World} {p g:Nat} {rest:List UInt8} {bad:Bool} (h:RdAt w p g rest bad) (hl:0<rest.length):g<w.heap.size:=by
 obtain ⟨ao,cap,-,-,-,-,-,h6⟩:=h
 obtain ⟨off,e,hlt,-⟩:=h6 hl
 exact hlt
def thRd (p g:Nat) (rest:List UInt8) (bad:Bool):Th where
 T w:=RdAt w p g rest bad
 F x:=x=p∨(x=g∧0<rest.length)
 stay h k hS:=h.stay k (hS _ (.inl rfl)) (fun hl=>hS _ (.inr ⟨rfl,hl⟩))
 lt h hx:=by
  rcases hx with rfl | ⟨rfl,hx⟩
  ·exact h.lt
  ·exact h.glt hx
theorem St.wrote {W w w':World} {L:List Th} {p base:Nat} {l full:List UInt8} {o:Option Nat} (h:St W w (thWr p base l o::L)) (hi:WInv w w' p base o full []):∃ o',St W w' (thWr p base full o'::L):=by
 obtain ⟨o',h1,h2,h3⟩:=hi.done
 refine ⟨o',h.step h2 (thWr p base full o') h1 (fun x hx=>?_)⟩
 rcases hx with hx | hx
 ·exact .inl (.inl hx)
 ·rcases h3 x hx with h4 | h4
  ·exact .inl (.inr h4)
  ·exact .inr h4
theorem St.newWr {W w:World} {L:List Th} (h:St W w L) (n:Nat) (hn:n=w.heap.size) (base:Nat):St W (w.alloc (.cells #[.slice none 0 0] 134)) (thWr n base [] none::L) :=
 h.new (below_alloc _ _) _ (wr_new w base n hn) (fun x hx=>by
  rcases hx with hx | hx
  ·omega
  ·cases hx)
theorem St.read {W w w':World} {L:List Th} {p g:Nat} {rest rest':List UInt8} {bad bad':Bool} (h:St W w (thRd p g rest bad::L)) (hr:RdAt w' p g rest' bad') (k:Keeps w w' (fun x=>x=p)) (hl:rest'.length≤rest.length):St W w' (thRd p g rest' bad'::L) :=
 h.step (k.weak (fun _ _ h=>.inl h)) _ hr (fun x hx=>by
  rcases hx with hx | ⟨hx,h1⟩
  ·exact .inl (.inl hx)
  ·exact .inl (.inr ⟨hx,by omega⟩))
theorem St.newRd {W w w':World} {L:List Th} {p g:Nat} {rest:List UInt8} (h:St W w L) (hr:RdAt w' p g rest false) (hb:Below w.heap.size w w') (hp:w.heap.size≤p) (hg:w.heap.size≤g):St W w' (thRd p g rest false::L) :=
 h.new hb _ hr (fun x hx=>by
  rcases hx with hx | ⟨hx,-⟩<;>omega)
end Go.Proofs.YtogamdaomdoapaaGreat
namespace Go.Proofs.YtogamdaomdoapaaGreat
open Go.RowKit
theorem Ths.perm {B:Nat} {w:World} {L L':List Th} (h:L.Perm L'):Ths B w L→Ths B w L':=by
 induction h with
 | nil=>exact id
 | cons t hp ih=>exact fun hl=>⟨hl.1,hl.2.1,fun u hu=>hl.2.2.1 u (hp.mem_iff.2 hu),ih hl.2.2.2⟩
 | swap t u r =>
  intro hl
  obtain ⟨h1,h2,h3,h4,h5,h6,h7⟩:=hl
  refine ⟨h4,h5,fun v hv x hx=>?_,h1,h2,fun v hv=>h3 v (by simp [hv]),h7⟩
  rcases List.mem_cons.1 hv with e | e
  ·subst e;exact fun hux=>h3 t (by simp) x hux hx
  ·exact h6 v e x hx
 | trans _ _ ih1 ih2=>exact fun hl=>ih2 (ih1 hl)
theorem St.perm {W w:World} {L L':List Th} (h:St W w L) (p:L.Perm L'):St W w L':=⟨h.b,h.t.perm p⟩
theorem St.mem {W w:World} {L:List Th} (h:St W w L) {t:Th} (ht:t∈L):t.T w:=by
 obtain ⟨A,R,rfl⟩:=List.append_of_mem ht
 exact (h.pull).head
end Go.Proofs.YtogamdaomdoapaaGreat