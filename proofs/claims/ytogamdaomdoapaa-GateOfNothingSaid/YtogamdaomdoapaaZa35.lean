/- Texts put together: FrHead. -/
import Derived.Test.YtogamdaomdoapaaZa34
namespace Go.Proofs.Ytogamdaomdoapaa.F
set_option maxRecDepth 20000
open Go.RowKit
structure Sl (w:World) (ao:Option Addr) (cap:Nat) (l:List UInt8):Prop where
 le:l.length≤cap
 cm:cap≤9223372036854775807
 n0:ao=none→l.length=0∧cap=0
 at_:BAt w ao l
theorem Sl.grow {w w':World} {ao:Option Addr} {cap:Nat} {l:List UInt8} (h:Sl w ao cap l) (b:Below w.heap.size w w'):Sl w' ao cap l:=⟨h.le,h.cm,h.n0,h.at_.below b⟩
theorem _root_.Go.Proofs.Ytogamdaomdoapaa.OwnB.sl {w:World} {base:Nat} {ao:Option Addr} {cap:Nat} {l:List UInt8} (h:OwnB w base ao cap l):Sl w ao cap l:=⟨h.le.1,h.le.2,h.none,h.at⟩
theorem _root_.Go.Proofs.Ytogamdaomdoapaa.OwnC.sl {w:World} {base:Nat} {ao:Option Addr} {cap:Nat} {l:List UInt8} (h:OwnC w base ao cap l):Sl w ao cap l:=⟨h.le.1,h.le.2,h.none,h.at⟩
theorem below_allocF (w:World) (o:Obj):Below w.heap.size w (w.alloc o):=(Below.refl _ _).alloc (Nat.le_refl _) _
theorem Sl.rat {w w':World} {ao:Option Addr} {cap b o:Nat} {l:List UInt8} (h:Sl w ao cap l) (k:Below w.heap.size w w') (hc:w'.cell? ⟨b,o,none⟩=some (.slice ao l.length cap)):RAt w' (fun _=>True) b o ⟨ao,cap,l⟩ :=
 ⟨hc,h.le,h.cm,h.n0,fun hp=>let ⟨b,off,e,hb,hr⟩:=(h.at_.below k) hp;⟨b,off,e,hb,trivial,hr⟩⟩
theorem rs_one {w:World} {a:Option Addr} {c:Nat} {l:List UInt8} (h:Sl w a c l) (t:TypeId) (n:Nat) (hn:n=w.heap.size):RsAt (w.alloc (.cells #[.slice a l.length c] t)) (fun _=>True) (some ⟨n,0,none⟩) [⟨a,c,l⟩]:=fun _=>by
 subst hn
 refine ⟨w.heap.size,0,rfl,by simp,trivial,fun i hi=>?_⟩
 match i,hi with
 | 0,_=>exact h.rat (below_allocF _ _) (by go_simp)
theorem rs_two {w:World} {a b:Option Addr} {c d:Nat} {l m:List UInt8} (h:Sl w a c l) (k:Sl w b d m) (t:TypeId) (n:Nat) (hn:n=w.heap.size):RsAt (w.alloc (.cells #[.slice a l.length c,.slice b m.length d] t)) (fun _=>True) (some ⟨n,0,none⟩) [⟨a,c,l⟩,⟨b,d,m⟩]:=fun _=>by
 subst hn
 refine ⟨w.heap.size,0,rfl,by simp,trivial,fun i hi=>?_⟩
 match i,hi with
 | 0,_=>exact h.rat (below_allocF _ _) (by go_simp)
 | 1,_=>exact k.rat (below_allocF _ _) (by go_simp)
theorem ownC_weak {w:World} {b b':Nat} {ao:Option Addr} {cap:Nat} {l:List UInt8} (h:OwnC w b ao cap l) (hb:b'≤b):OwnC w b' ao cap l:=by
 rcases h with h | ⟨g,zs,h1,h2,r⟩
 ·exact .inl h
 ·exact .inr ⟨g,zs,h1,Nat.le_trans hb h2,r⟩
theorem flat_one1 (a:Option Addr) (c:Nat) (l:List UInt8):flatR [⟨a,c,l⟩]=l:=by simp [flatR]
theorem flat_two2 (a b:Option Addr) (c d:Nat) (l m:List UInt8):flatR [⟨a,c,l⟩,⟨b,d,m⟩]=l++m:=by simp [flatR]
theorem sum_one {w:World} {a:Option Addr} {c:Nat} {l:List UInt8} (h:Sl w a c l) (t:TypeId) (n:Nat) (hn:n=w.heap.size) :
 Calls Try.prog 68 #[.slice (some ⟨n,0,none⟩) 1 1] (w.alloc (.cells #[.slice a l.length c] t)) fun e w'=>e=.returned (.int .u32 (sumOf l:Nat))∧w'=w.alloc (.cells #[.slice a l.length c] t):=by
 have:=sum_any (some ⟨n,0,none⟩) 1 [⟨a,c,l⟩] _ _ (rs_one h t n hn) (by simp)
 rw [flat_one1] at this
 exact this
theorem join_two {w:World} {a b:Option Addr} {c d:Nat} {l m:List UInt8} (h:Sl w a c l) (k:Sl w b d m) (t:TypeId) (n:Nat) (hn:n=w.heap.size) (hl:l.length+m.length≤140737488351232) :
 Calls Try.prog 65 #[.slice (some ⟨n,0,none⟩) 2 2] (w.alloc (.cells #[.slice a l.length c,.slice b m.length d] t)) fun e w'=>∃ ao cap,e=.returned (.slice ao (l++m).length cap)∧OwnC w' w.heap.size ao cap (l++m)∧Below w.heap.size w w':=by
 have:=join_any (some ⟨n,0,none⟩) 2 [⟨a,c,l⟩,⟨b,d,m⟩] _ _ (rs_two h k t n hn) (by simp) (by simp) (by rw [flat_two2,List.length_append];exact hl)
 rw [flat_two2] at this
 refine this.mono ?_
 rintro e w' ⟨ao,cap,rfl,ho,hb⟩
 exact ⟨ao,cap,rfl,ownC_weak ho (by simp),(below_allocF _ _).trans (hb.mono (by simp))⟩
set_option maxHeartbeats 1000000 in
theorem headOf_any (n:Nat) (w:World) (hn:n<4294967296):Calls Try.prog 66 #[.int .u32 n] w (FreshC w (headB n)):=by
 have hsl:=sumOf_lt (fourB n)
 go_enter Try.func66,Try.ntmps66
 go_wp2_with fail
 refine (qframe.four_any n _ hn).mono ?_
 rintro e w1 ⟨rfl,h1,b1⟩
 have H1:=Lib.hid h1.sl
 have B1:=Lib.hid b1
 have s1:=b1.size
 clear h1 b1
 go_wp2_with fail
 refine (qframe.four_any n _ hn).mono ?_
 rintro e w2 ⟨rfl,h2,b2⟩
 have H2:=Lib.hid h2.sl
 have B2:=Lib.hid (B1.out.trans (b2.mono s1))
 have H12:=Lib.hid (H1.out.grow b2)
 have s2:=B2.out.size
 clear h2 b2 H1 B1
 go_wp2_with fail
 refine (sum_one H2.out 36 _ rfl).mono ?_
 rintro e w3 ⟨rfl,rfl⟩
 go_wp2_with fail
 refine (qframe.four_any _ _ hsl).mono ?_
 rintro e w3 ⟨rfl,h3,b3⟩
 simp only [World.alloc,Array.size_push] at h3
 have H3:=Lib.hid h3.sl
 have B3:=Lib.hid (B2.out.trans (((below_allocF _ _).trans (b3.mono (by simp))).mono s2))
 have H13:=Lib.hid (H12.out.grow ((below_allocF _ _).trans (b3.mono (by simp))))
 have s3:=B3.out.size
 clear h3 b3 H2 B2 H12
 go_wp2_with fail
 refine (join_two H13.out H3.out 36 _ rfl (by simp only [fourB_length];omega)).mono ?_
 rintro e w4 ⟨ao,cap,rfl,ho,hb⟩
 go_wp2_with fail
 go_ret
 exact ⟨ao,cap,rfl,ownC_weak ho s3,B3.out.trans (hb.mono s3)⟩
end Go.Proofs.Ytogamdaomdoapaa.F