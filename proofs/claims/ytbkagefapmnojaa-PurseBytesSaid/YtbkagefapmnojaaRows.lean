/-
  No cell of these rows narrows 'for every input' (looked for: loops, veiled, ifaces, maps, wideKeys, modest, calm, conditions, laid).
  DERIVED. THE GIVEN ROWS OF THIS SEAT. 7 by the template 'for every input the law returns true; each argument reads behind the call as it read before'; 0 by the template 'total and deterministic' (their statements: YtbkagefapmnojaaTotals.lean).
  GIVEN WITH THE SEED: the statements are not yours to turn. If you find one false, say at which input.
  Laid BY PROGRAM, IN A SANDBOX (cutbox-rows.mjs): the forced cells as the released guide's own fill.sh prints them over the translation 8e3944bfc9ef102c… (all of the seat's roots in one cut). By AI agents, Wed Nov 11 2026. No macro, syntax, notation, axiom, sorry.
-/
import Derived.Test.YtbkagefapmnojaaChecked
import GoSem.Claim
import GoSem.ClaimJoined
import GoSem.ClaimMapViews
import Derived.JoinedTies
import Derived.KernelRfl
namespace Go.Proofs.Ytbkagefapmnojaa
/- THE CELL 'sum', in the pinned program and in every row, IS THE sha256 OF THE DUMP (.gsa) THAT YtbkagefapmnojaaProg.lean LOADS. Nothing in Lean hashes anything: it is a label: what it is worth is what the hold of that sum in a sandbox is worth. -/
noncomputable def Try.pinned : Pinned := { name := "ytbkagefapmnojaa", sum := "8e3944bfc9ef102c22d918a6c57fb17915707781cde384993c35db9665db383d", checked := Try.checked }
namespace Rows
def none {H : Type} : Left H := { results := [], args := [] }

/-- 'satrapylaw8.PurseSubs': WHATEVER THE INPUT: true; the input reads as it did. -/
def purseSubsSpec : ChangeSpec := { name := "purseSubs", fn := fun _ => fun
  | [d1, d2] => { results := [.lit (.bool true)], args := [d1, d2] }
  | _ => none }
def purseSubsRow : OpenClaim := { program := "ytbkagefapmnojaa", sum := "8e3944bfc9ef102c22d918a6c57fb17915707781cde384993c35db9665db383d", func := "satrapy/satrapylaw8.PurseSubs", spec := "purseSubs", apart := false }
def PurseSubsSaid : Prop := purseSubsRow.holds Try.pinned (OpenSpec.ofChange purseSubsSpec)

/-- ITS FALSE NEIGHBOUR: 'it returns false'. Refute it at one input. -/
def purseSubsWrong : ChangeSpec := { name := "purseSubs", fn := fun _ => fun
  | [d1, d2] => { results := [.lit (.bool false)], args := [d1, d2] }
  | _ => none }
def PurseSubsWrongFalsely : Prop := purseSubsRow.holds Try.pinned (OpenSpec.ofChange purseSubsWrong)

/-- 'satrapylaw8.PurseLess': WHATEVER THE INPUT: true; the input reads as it did. -/
def purseLessSpec : ChangeSpec := { name := "purseLess", fn := fun _ => fun
  | [d1, d2] => { results := [.lit (.bool true)], args := [d1, d2] }
  | _ => none }
def purseLessRow : OpenClaim := { program := "ytbkagefapmnojaa", sum := "8e3944bfc9ef102c22d918a6c57fb17915707781cde384993c35db9665db383d", func := "satrapy/satrapylaw8.PurseLess", spec := "purseLess", apart := false }
def PurseLessSaid : Prop := purseLessRow.holds Try.pinned (OpenSpec.ofChange purseLessSpec)

/-- ITS FALSE NEIGHBOUR: 'it returns false'. Refute it at one input. -/
def purseLessWrong : ChangeSpec := { name := "purseLess", fn := fun _ => fun
  | [d1, d2] => { results := [.lit (.bool false)], args := [d1, d2] }
  | _ => none }
def PurseLessWrongFalsely : Prop := purseLessRow.holds Try.pinned (OpenSpec.ofChange purseLessWrong)

/-- 'satrapylaw8.PurseOne': WHATEVER THE INPUT: true; the input reads as it did. -/
def purseOneSpec : ChangeSpec := { name := "purseOne", fn := fun _ => fun
  | [d1, d2, d3] => { results := [.lit (.bool true)], args := [d1, d2, d3] }
  | _ => none }
def purseOneRow : OpenClaim := { program := "ytbkagefapmnojaa", sum := "8e3944bfc9ef102c22d918a6c57fb17915707781cde384993c35db9665db383d", func := "satrapy/satrapylaw8.PurseOne", spec := "purseOne", apart := false }
def PurseOneSaid : Prop := purseOneRow.holds Try.pinned (OpenSpec.ofChange purseOneSpec)

/-- ITS FALSE NEIGHBOUR: 'it returns false'. Refute it at one input. -/
def purseOneWrong : ChangeSpec := { name := "purseOne", fn := fun _ => fun
  | [d1, d2, d3] => { results := [.lit (.bool false)], args := [d1, d2, d3] }
  | _ => none }
def PurseOneWrongFalsely : Prop := purseOneRow.holds Try.pinned (OpenSpec.ofChange purseOneWrong)

/-- 'satrapylaw8.PurseAdds': WHATEVER THE INPUT: true; the input reads as it did. -/
def purseAddsSpec : ChangeSpec := { name := "purseAdds", fn := fun _ => fun
  | [d] => { results := [.lit (.bool true)], args := [d] }
  | _ => none }
def purseAddsRow : OpenClaim := { program := "ytbkagefapmnojaa", sum := "8e3944bfc9ef102c22d918a6c57fb17915707781cde384993c35db9665db383d", func := "satrapy/satrapylaw8.PurseAdds", spec := "purseAdds", apart := false }
def PurseAddsSaid : Prop := purseAddsRow.holds Try.pinned (OpenSpec.ofChange purseAddsSpec)

/-- ITS FALSE NEIGHBOUR: 'it returns false'. Refute it at one input. -/
def purseAddsWrong : ChangeSpec := { name := "purseAdds", fn := fun _ => fun
  | [d] => { results := [.lit (.bool false)], args := [d] }
  | _ => none }
def PurseAddsWrongFalsely : Prop := purseAddsRow.holds Try.pinned (OpenSpec.ofChange purseAddsWrong)

/-- 'satrapylaw8.PurseBack': WHATEVER THE INPUT: true; the input reads as it did. -/
def purseBackSpec : ChangeSpec := { name := "purseBack", fn := fun _ => fun
  | [d1, d2] => { results := [.lit (.bool true)], args := [d1, d2] }
  | _ => none }
def purseBackRow : OpenClaim := { program := "ytbkagefapmnojaa", sum := "8e3944bfc9ef102c22d918a6c57fb17915707781cde384993c35db9665db383d", func := "satrapy/satrapylaw8.PurseBack", spec := "purseBack", apart := false }
def PurseBackSaid : Prop := purseBackRow.holds Try.pinned (OpenSpec.ofChange purseBackSpec)

/-- ITS FALSE NEIGHBOUR: 'it returns false'. Refute it at one input. -/
def purseBackWrong : ChangeSpec := { name := "purseBack", fn := fun _ => fun
  | [d1, d2] => { results := [.lit (.bool false)], args := [d1, d2] }
  | _ => none }
def PurseBackWrongFalsely : Prop := purseBackRow.holds Try.pinned (OpenSpec.ofChange purseBackWrong)

/-- 'satrapylaw8.PurseRows': WHATEVER THE INPUT: true; the input reads as it did. -/
def purseRowsSpec : ChangeSpec := { name := "purseRows", fn := fun _ => fun
  | [d1, d2] => { results := [.lit (.bool true)], args := [d1, d2] }
  | _ => none }
def purseRowsRow : OpenClaim := { program := "ytbkagefapmnojaa", sum := "8e3944bfc9ef102c22d918a6c57fb17915707781cde384993c35db9665db383d", func := "satrapy/satrapylaw8.PurseRows", spec := "purseRows", apart := false }
def PurseRowsSaid : Prop := purseRowsRow.holds Try.pinned (OpenSpec.ofChange purseRowsSpec)

/-- ITS FALSE NEIGHBOUR: 'it returns false'. Refute it at one input. -/
def purseRowsWrong : ChangeSpec := { name := "purseRows", fn := fun _ => fun
  | [d1, d2] => { results := [.lit (.bool false)], args := [d1, d2] }
  | _ => none }
def PurseRowsWrongFalsely : Prop := purseRowsRow.holds Try.pinned (OpenSpec.ofChange purseRowsWrong)

/-- 'satrapylaw8.PurseBytes': WHATEVER THE INPUT: true; the input reads as it did. -/
def purseBytesSpec : ChangeSpec := { name := "purseBytes", fn := fun _ => fun
  | [d1, d2] => { results := [.lit (.bool true)], args := [d1, d2] }
  | _ => none }
def purseBytesRow : OpenClaim := { program := "ytbkagefapmnojaa", sum := "8e3944bfc9ef102c22d918a6c57fb17915707781cde384993c35db9665db383d", func := "satrapy/satrapylaw8.PurseBytes", spec := "purseBytes", apart := false }
def PurseBytesSaid : Prop := purseBytesRow.holds Try.pinned (OpenSpec.ofChange purseBytesSpec)

/-- ITS FALSE NEIGHBOUR: 'it returns false'. Refute it at one input. -/
def purseBytesWrong : ChangeSpec := { name := "purseBytes", fn := fun _ => fun
  | [d1, d2] => { results := [.lit (.bool false)], args := [d1, d2] }
  | _ => none }
def PurseBytesWrongFalsely : Prop := purseBytesRow.holds Try.pinned (OpenSpec.ofChange purseBytesWrong)

/- THE SECOND FORM. 'bulk': how many values and letters a reading holds, each counted each time it is reached (what is shared counts as often as it is met; a slice's spare places count too). A statement '..UptoSaid' is the law's where the arguments, and the package variables that the reading takes, are together of bulk at most 1048576: NARROWER than '..Said'. Prove '..Said' where nothing that the law and all that it calls make is longer than what came in: it says more and counts as full. Else prove '..UptoSaid'. A law counts once. -/
mutual
def uptoBulk {H : Type} : DataW H → Nat
  | .lit (.string bytes) => bytes.length + 1
  | .lit _ => 1
  | .nil => 1
  | .ptr d => uptoBulk d + 1
  | .slice elems spare => uptoBulkAll elems + uptoBulkAll spare + 1
  | .agg parts => uptoBulkAll parts + 1
  | .iface _ d => uptoBulk d + 1
  | .map entries => uptoBulkEntries entries + 1
  | .held _ => 1
def uptoBulkAll {H : Type} : List (DataW H) → Nat
  | [] => 0
  | d :: r => uptoBulk d + uptoBulkAll r
def uptoBulkEntries {H : Type} : List (Lit × DataW H) → Nat
  | [] => 0
  | x :: r => uptoBulkEntry x + uptoBulkEntries r
def uptoBulkEntry {H : Type} : Lit × DataW H → Nat
  | (.string bytes, d) => bytes.length + uptoBulk d + 1
  | (_, d) => uptoBulk d + 1
 end
def uptoSmall : (H : Type) → List (DataW H) → Bool := fun _ ds => decide (uptoBulkAll ds ≤ 1048576)
def OpenSpec.upto (s : _root_.Go.ChangeSpec) : _root_.Go.OpenSpec := { _root_.Go.OpenSpec.ofChange s with cond := some uptoSmall }

/-- 'satrapylaw8.PurseSubs', WHERE WHAT IT READS IS OF BULK AT MOST 1048576: true; the input reads as it did. -/
def purseSubsUptoRow : OpenClaim := { program := "ytbkagefapmnojaa", sum := "8e3944bfc9ef102c22d918a6c57fb17915707781cde384993c35db9665db383d", func := "satrapy/satrapylaw8.PurseSubs", spec := "purseSubs", apart := false, narrowed := true }
def PurseSubsUptoSaid : Prop := purseSubsUptoRow.holds Try.pinned (OpenSpec.upto purseSubsSpec)

/-- 'satrapylaw8.PurseLess', WHERE WHAT IT READS IS OF BULK AT MOST 1048576: true; the input reads as it did. -/
def purseLessUptoRow : OpenClaim := { program := "ytbkagefapmnojaa", sum := "8e3944bfc9ef102c22d918a6c57fb17915707781cde384993c35db9665db383d", func := "satrapy/satrapylaw8.PurseLess", spec := "purseLess", apart := false, narrowed := true }
def PurseLessUptoSaid : Prop := purseLessUptoRow.holds Try.pinned (OpenSpec.upto purseLessSpec)

/-- 'satrapylaw8.PurseOne', WHERE WHAT IT READS IS OF BULK AT MOST 1048576: true; the input reads as it did. -/
def purseOneUptoRow : OpenClaim := { program := "ytbkagefapmnojaa", sum := "8e3944bfc9ef102c22d918a6c57fb17915707781cde384993c35db9665db383d", func := "satrapy/satrapylaw8.PurseOne", spec := "purseOne", apart := false, narrowed := true }
def PurseOneUptoSaid : Prop := purseOneUptoRow.holds Try.pinned (OpenSpec.upto purseOneSpec)

/-- 'satrapylaw8.PurseAdds', WHERE WHAT IT READS IS OF BULK AT MOST 1048576: true; the input reads as it did. -/
def purseAddsUptoRow : OpenClaim := { program := "ytbkagefapmnojaa", sum := "8e3944bfc9ef102c22d918a6c57fb17915707781cde384993c35db9665db383d", func := "satrapy/satrapylaw8.PurseAdds", spec := "purseAdds", apart := false, narrowed := true }
def PurseAddsUptoSaid : Prop := purseAddsUptoRow.holds Try.pinned (OpenSpec.upto purseAddsSpec)

/-- 'satrapylaw8.PurseBack', WHERE WHAT IT READS IS OF BULK AT MOST 1048576: true; the input reads as it did. -/
def purseBackUptoRow : OpenClaim := { program := "ytbkagefapmnojaa", sum := "8e3944bfc9ef102c22d918a6c57fb17915707781cde384993c35db9665db383d", func := "satrapy/satrapylaw8.PurseBack", spec := "purseBack", apart := false, narrowed := true }
def PurseBackUptoSaid : Prop := purseBackUptoRow.holds Try.pinned (OpenSpec.upto purseBackSpec)

/-- 'satrapylaw8.PurseRows', WHERE WHAT IT READS IS OF BULK AT MOST 1048576: true; the input reads as it did. -/
def purseRowsUptoRow : OpenClaim := { program := "ytbkagefapmnojaa", sum := "8e3944bfc9ef102c22d918a6c57fb17915707781cde384993c35db9665db383d", func := "satrapy/satrapylaw8.PurseRows", spec := "purseRows", apart := false, narrowed := true }
def PurseRowsUptoSaid : Prop := purseRowsUptoRow.holds Try.pinned (OpenSpec.upto purseRowsSpec)

/-- 'satrapylaw8.PurseBytes', WHERE WHAT IT READS IS OF BULK AT MOST 1048576: true; the input reads as it did. -/
def purseBytesUptoRow : OpenClaim := { program := "ytbkagefapmnojaa", sum := "8e3944bfc9ef102c22d918a6c57fb17915707781cde384993c35db9665db383d", func := "satrapy/satrapylaw8.PurseBytes", spec := "purseBytes", apart := false, narrowed := true }
def PurseBytesUptoSaid : Prop := purseBytesUptoRow.holds Try.pinned (OpenSpec.upto purseBytesSpec)

end Rows
end Go.Proofs.Ytbkagefapmnojaa
