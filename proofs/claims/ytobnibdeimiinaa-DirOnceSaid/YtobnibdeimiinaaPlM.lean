/- What a script of changes comes to, in plain Lean; things in memory that are swapped; cells of a change. -/
import Derived.Test.YtobnibdeimiinaaRWo
import Derived.Test.YtobnibdeimiinaaHv
import Derived.Test.YtobnibdeimiinaaTwo
import Derived.Test.YtobnibdeimiinaaDMaps
namespace Go.Proofs.Ytobnibdeimiinaa
open Go.RowKit

def stepM (hosts : List Int) (m : Mp) (c : Ch) : Mp := (applyM hosts m c).getD m
def playM (hosts : List Int) (l : List Ch) : Mp := (l.take 100).foldl (stepM hosts) (firstM (hosts.getD 0 0))
theorem step_inv {hosts : List Int} (hh : ∀ n ∈ hosts, 1 ≤ n ∧ n ≤ 1048576) {m : Mp} (h : Inv m) (c : Ch) : Inv (stepM hosts m c) := by
  unfold stepM
  cases hm : applyM hosts m c with
  | none => exact h
  | some m' => exact apply_inv hh h hm
theorem fold_inv {hosts : List Int} (hh : ∀ n ∈ hosts, 1 ≤ n ∧ n ≤ 1048576) : ∀ (l : List Ch) {m : Mp}, Inv m → Inv (l.foldl (stepM hosts) m)
  | [], _, h => h
  | c :: l, _, h => fold_inv hh l (step_inv hh h c)
theorem first_ok {hosts : List Int} (h : hostsB hosts = true) : Inv (firstM (hosts.getD 0 0)) := by
  obtain ⟨h1, h2, h3⟩ := hostsB_in h
  have : hosts.getD 0 0 ∈ hosts := by
    rw [List.getD_eq_getElem?_getD, List.getElem?_eq_getElem (show 0 < hosts.length by omega)]
    exact List.getElem_mem _
  exact first_inv (h1 _ this).1 (h1 _ this).2
theorem play_inv {hosts : List Int} (h : hostsB hosts = true) (l : List Ch) : Inv (playM hosts l) := fold_inv (hostsB_in h).1 _ (first_ok h)
theorem fold_next {α β : Type} (f : β → α → β) (l : List α) (b : β) (i : Nat) (h : i < l.length) : (l.take (i + 1)).foldl f b = f ((l.take i).foldl f b) l[i] := by
  rw [List.take_succ_eq_append_getElem h, List.foldl_append]; rfl
theorem fold_end {α β : Type} (f : β → α → β) (l : List α) (b : β) (i : Nat) (h : i ≤ l.length) (h1 : i ≤ 100) (h2 : i < l.length → 100 ≤ i) : (l.take i).foldl f b = (l.take 100).foldl f b := by
  by_cases e : i < l.length
  · rw [show i = 100 by have := h2 e; omega]
  · rw [List.take_of_length_le (by omega), List.take_of_length_le (by omega)]
theorem St.swap2 {W w : World} {L : List Th} {a b c d : Th} (h : St W w (a :: b :: c :: d :: L)) : St W w (c :: d :: a :: b :: L) :=
  ((h.pull (A := [_, _])).pull (A := [_, _, _])).pull (A := [_])
def ChCells (w : World) (b off i : Nat) (c : Ch) : Prop := w.cell? ⟨b, off + i * 5, none⟩ = some (.int .i64 c.kind) ∧ w.cell? ⟨b, off + i * 5 + 1, none⟩ = some (.int .i64 c.zone) ∧ w.cell? ⟨b, off + i * 5 + 2, none⟩ = some (.int .i64 c.epoch) ∧ w.cell? ⟨b, off + i * 5 + 3, none⟩ = some (.int .i64 c.tt) ∧ w.cell? ⟨b, off + i * 5 + 4, none⟩ = some (.string c.key)
theorem ChCells.grow {w w' : World} {b off i : Nat} {c : Ch} (h : ChCells w b off i c) (hb : b < w.heap.size) (k : Below w.heap.size w w') : ChCells w' b off i c := by
  obtain ⟨h0, h1, h2, h3, h4⟩ := h
  obtain ⟨xc, -⟩ := bcell k
  exact ⟨(xc _ _ hb).trans h0, (xc _ _ hb).trans h1, (xc _ _ hb).trans h2, (xc _ _ hb).trans h3, (xc _ _ hb).trans h4⟩
theorem mapsB_same (m : Mp) : mapsB m.ver m.next m.ver m.next m.zs m.zs = true := by unfold mapsB; simp
theorem maps_same (m : Mp) {g1 g2 k1 k2 : Nat} {w : World} (h1 : ZnAt w g1 m.zs) (h2 : ZnAt w g2 m.zs) (hm : m.zs.length ≤ 16) :
    Calls Try.prog 16 #[.agg #[.int .i64 m.ver, .int .i64 m.next, .slice (some ⟨g1, 0, none⟩) m.zs.length k1], .agg #[.int .i64 m.ver, .int .i64 m.next, .slice (some ⟨g2, 0, none⟩) m.zs.length k2]] w fun e w' => e = .returned (.bool true) ∧ Below w.heap.size w w' := by
  have := maps_any (k1 := k1) (k2 := k2) h1 h2 (Nat.le_trans hm (by decide)) m.ver m.next m.ver m.next
  rw [mapsB_same] at this
  exact this
/-- Two directories, the program's and the document's, of one map. -/
abbrev Two (W : World) (p g zc : Nat) (b c' : Nat) (p2 g2 zc2 b2 c2' : Nat) (hosts : List Int) (m mx : Mp) : List Th := [thDir 76 W.heap.size p g zc m (some ⟨b, 0, none⟩) hosts.length c', thInts W.heap.size b c' hosts, thDir 49 W.heap.size p2 g2 zc2 mx (some ⟨b2, 0, none⟩) hosts.length c2', thInts W.heap.size b2 c2' hosts]
/-- What played leaves. -/
def PlayPost (W : World) (hosts : List Int) (l : List Ch) (e : Ending) (w' : World) : Prop :=
  if hostsB hosts = true then ∃ p g zc b c' p2 g2 zc2 b2 c2', e = .returned (.tuple #[.pointer (some ⟨p, 0, none⟩), .pointer (some ⟨p2, 0, none⟩), .bool true]) ∧ St W w' (Two W p g zc b c' p2 g2 zc2 b2 c2' hosts (playM hosts l) (playM hosts l))
  else e = .returned (.tuple #[.pointer none, .pointer none, .bool true]) ∧ Below W.heap.size W w'
theorem newPost_yes {ty : TypeId} {W : World} {L : List Th} {l : List Int} {err : Int} {e : Ending} {w' : World} (h : NewPost ty W L l err e w') (hb : true = hostsB l) : ∃ p g zc b c', e = .returned (.tuple #[.pointer (some ⟨p, 0, none⟩), .int .i64 0]) ∧ St W w' (thDir ty W.heap.size p g zc (firstM (l.getD 0 0)) (some ⟨b, 0, none⟩) l.length c' :: thInts W.heap.size b c' l :: L) := by
  unfold NewPost at h; rw [if_pos hb.symm] at h; exact h
theorem newPost_no {ty : TypeId} {W : World} {L : List Th} {l : List Int} {err : Int} {e : Ending} {w' : World} (h : NewPost ty W L l err e w') (hb : false = hostsB l) : e = .returned (.tuple #[.pointer none, .int .i64 err]) ∧ St W w' L := by
  unfold NewPost at h; rw [if_neg (by rw [← hb]; decide)] at h; exact h
theorem ints_any {w : World} {base : Nat} {v : Value} {l : List Int} (h : w.ownsRow base 3 1 v l.length (l.map (.int .i64))) : ∃ ao c, v = .slice ao l.length c ∧ IAtD w ao l := by
  obtain ⟨ao, c, hv, -⟩ := owns_shape h
  refine ⟨ao, c, hv, fun hp => ?_⟩
  obtain ⟨b, c2, cur, hv2, ht, -, -⟩ := ints_shape h rfl hp
  rw [hv] at hv2
  simp only [Value.slice.injEq, true_and] at hv2
  rw [hv2.1]
  exact thInts.at ht hp
/-- What holds while the program's map is handed out and the document's is loaded. -/
structure MI (W : World) (T : List Th) (m : Mp) (g9 zc9 : Nat) (vM vL : Option Value) (w : World) : Prop where
  s : St W w T
  mp : ∀ x, vM = some x → ∃ ga ca, x = (.agg #[.int .i64 m.ver, .int .i64 m.next, .slice (some ⟨ga, 0, none⟩) m.zs.length ca]) ∧ ZnAt w ga m.zs
  ld : ∀ y, vL = some y → y = (.agg #[.int .i64 m.ver, .int .i64 m.next, .slice (some ⟨g9, 0, none⟩) m.zs.length zc9])
theorem MI.start {W w : World} {T : List Th} {m : Mp} {g9 zc9 : Nat} (h : St W w T) : MI W T m g9 zc9 none none w := ⟨h, (fun _ e => nomatch e), (fun _ e => nomatch e)⟩
theorem MI.map {W w w' : World} {T : List Th} {m : Mp} {g9 zc9 : Nat} {vL : Option Value} (h : MI W T m g9 zc9 none vL w) {ga ca : Nat} (ho : OwnZ w' w.heap.size ga ca m.zs) (b : Below w.heap.size w w') : MI W T m g9 zc9 (some (.agg #[.int .i64 m.ver, .int .i64 m.next, .slice (some ⟨ga, 0, none⟩) m.zs.length ca])) vL w' :=
  ⟨h.s.grow b, fun _ e => ⟨ga, ca, (Option.some.inj e).symm, ho.at⟩, h.ld⟩
theorem MI.load {W w : World} {T : List Th} {m : Mp} {g9 zc9 : Nat} {vM : Option Value} (h : MI W T m g9 zc9 vM none w) : MI W T m g9 zc9 vM (some (.agg #[.int .i64 m.ver, .int .i64 m.next, .slice (some ⟨g9, 0, none⟩) m.zs.length zc9])) w :=
  ⟨h.s, h.mp, fun _ e => (Option.some.inj e).symm⟩
section
variable {W w : World} {p g zc b c' p2 g2 zc2 b2 c2' : Nat} {hosts : List Int} {m mx : Mp}
theorem two_would (h : St W w (Two W p g zc b c' p2 g2 zc2 b2 c2' hosts m mx)) (hI : Inv mx) (hhm : hosts.length ≤ 1000) (hhi : ∀ n ∈ hosts, 1 ≤ n ∧ n ≤ 1048576) (c : Ch) (s : Bool) (hs : s = (applyM hosts mx c).isSome) :
    Calls Try.prog 46 #[.pointer (some ⟨p2, 0, none⟩), .agg #[.int .i64 c.kind, .int .i64 c.zone, .int .i64 c.epoch, .int .i64 c.tt, .string c.key]] w fun e w' => e = .returned (.bool s) ∧ St W w' (Two W p g zc b c' p2 g2 zc2 b2 c2' hosts m mx) := by
  subst hs
  refine (rwould_any h.swap2 hI hhm hhi c).mono ?_
  rintro e w' ⟨rfl, hS⟩
  exact ⟨rfl, hS.swap2⟩
theorem two_apply (h : St W w (Two W p g zc b c' p2 g2 zc2 b2 c2' hosts m mx)) (hI : Inv m) (hhm : hosts.length ≤ 1000) (c : Ch) (s : Bool) (hs : s = (applyM hosts m c).isSome) :
    Calls Try.prog 15 #[.pointer (some ⟨p, 0, none⟩), .agg #[.int .i64 c.kind, .int .i64 c.zone, .int .i64 c.epoch, .int .i64 c.tt, .string c.key]] w fun e w' => e = .returned (.bool s) ∧ ∃ g zc, St W w' (Two W p g zc b c' p2 g2 zc2 b2 c2' hosts (stepM hosts m c) mx) := by
  subst hs
  refine (apply_at h hI hhm c _ rfl).mono ?_
  rintro e w' ⟨g, zc, rfl, hS⟩
  exact ⟨rfl, g, zc, hS⟩
theorem two_rapply (h : St W w (Two W p g zc b c' p2 g2 zc2 b2 c2' hosts m mx)) (hI : Inv mx) (hhm : hosts.length ≤ 1000) (hhi : ∀ n ∈ hosts, 1 ≤ n ∧ n ≤ 1048576) (c : Ch) (s : Bool) (hs : s = (applyM hosts mx c).isSome) :
    Calls Try.prog 20 #[.pointer (some ⟨p2, 0, none⟩), .agg #[.int .i64 c.kind, .int .i64 c.zone, .int .i64 c.epoch, .int .i64 c.tt, .string c.key]] w fun e w' => e = .returned (.bool s) ∧ ∃ g' zc', St W w' (Two W p g zc b c' p2 g' zc' b2 c2' hosts m (stepM hosts mx c)) := by
  subst hs
  refine (rapply_any h.swap2 hI h.swap2.iat hhm hhi c).mono ?_
  rintro e w' ⟨g', zc', rfl, hS⟩
  exact ⟨rfl, g', zc', hS.swap2⟩
end
end Go.Proofs.Ytobnibdeimiinaa
