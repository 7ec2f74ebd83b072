/-
  No cell of these rows narrows 'for every input' (looked for: loops, veiled, ifaces, maps, wideKeys, modest, calm, conditions, laid).
  DERIVED. THE GIVEN ROWS OF THIS SEAT. 9 by the template 'for every input the law returns true; each argument reads behind the call as it read before'; 0 by the template 'total and deterministic' (their statements: YtobnibdeimiinaaTotals.lean).
  GIVEN WITH THE SEED: the statements are not yours to turn. If you find one false, say at which input.
  Laid BY PROGRAM, IN A SANDBOX (cutbox-rows.mjs): the forced cells as the released guide's own fill.sh prints them over the translation f5ac853f87d247f3… (all of the seat's roots in one cut). By AI agents, Wed Nov 11 2026. No macro, syntax, notation, axiom, sorry.
-/
import Derived.Test.YtobnibdeimiinaaChecked
import GoSem.Claim
import GoSem.ClaimJoined
import GoSem.ClaimMapViews
import Derived.JoinedTies
import Derived.KernelRfl
namespace Go.Proofs.Ytobnibdeimiinaa
/- THE CELL 'sum', in the pinned program and in every row, IS THE sha256 OF THE DUMP (.gsa) THAT YtobnibdeimiinaaProg.lean LOADS. Nothing in Lean hashes anything: it is a label: what it is worth is what the hold of that sum in a sandbox is worth. -/
noncomputable def Try.pinned : Pinned := { name := "ytobnibdeimiinaa", sum := "f5ac853f87d247f30759cf84166ca06016be1d52f8b2912ca229733fee3f0b18", checked := Try.checked }
namespace Rows
def none {H : Type} : Left H := { results := [], args := [] }

/-- 'satrapylaw16.DirEpochs': WHATEVER THE INPUT: true; the input reads as it did. -/
def dirEpochsSpec : ChangeSpec := { name := "dirEpochs", fn := fun _ => fun
  | [d] => { results := [.lit (.bool true)], args := [d] }
  | _ => none }
def dirEpochsRow : OpenClaim := { program := "ytobnibdeimiinaa", sum := "f5ac853f87d247f30759cf84166ca06016be1d52f8b2912ca229733fee3f0b18", func := "satrapy/satrapylaw16.DirEpochs", spec := "dirEpochs", inPlace := ["slices.overlaps[satrapy/api.Zone]"], unfollowed := true, recurses := true, apart := false }
def DirEpochsSaid : Prop := dirEpochsRow.holds Try.pinned (OpenSpec.ofChange dirEpochsSpec)

/-- ITS FALSE NEIGHBOUR: 'it returns false'. Refute it at one input. -/
def dirEpochsWrong : ChangeSpec := { name := "dirEpochs", fn := fun _ => fun
  | [d] => { results := [.lit (.bool false)], args := [d] }
  | _ => none }
def DirEpochsWrongFalsely : Prop := dirEpochsRow.holds Try.pinned (OpenSpec.ofChange dirEpochsWrong)

/-- 'satrapylaw16.DirBack': WHATEVER THE INPUT: true; the input reads as it did. -/
def dirBackSpec : ChangeSpec := { name := "dirBack", fn := fun _ => fun
  | [d] => { results := [.lit (.bool true)], args := [d] }
  | _ => none }
def dirBackRow : OpenClaim := { program := "ytobnibdeimiinaa", sum := "f5ac853f87d247f30759cf84166ca06016be1d52f8b2912ca229733fee3f0b18", func := "satrapy/satrapylaw16.DirBack", spec := "dirBack", inPlace := ["slices.overlaps[satrapy/api.Zone]"], unfollowed := true, recurses := true, apart := false }
def DirBackSaid : Prop := dirBackRow.holds Try.pinned (OpenSpec.ofChange dirBackSpec)

/-- ITS FALSE NEIGHBOUR: 'it returns false'. Refute it at one input. -/
def dirBackWrong : ChangeSpec := { name := "dirBack", fn := fun _ => fun
  | [d] => { results := [.lit (.bool false)], args := [d] }
  | _ => none }
def DirBackWrongFalsely : Prop := dirBackRow.holds Try.pinned (OpenSpec.ofChange dirBackWrong)

/-- 'satrapylaw16.DirPlays': WHATEVER THE INPUT: true; the input reads as it did. -/
def dirPlaysSpec : ChangeSpec := { name := "dirPlays", fn := fun _ => fun
  | [d1, d2] => { results := [.lit (.bool true)], args := [d1, d2] }
  | _ => none }
def dirPlaysRow : OpenClaim := { program := "ytobnibdeimiinaa", sum := "f5ac853f87d247f30759cf84166ca06016be1d52f8b2912ca229733fee3f0b18", func := "satrapy/satrapylaw16.DirPlays", spec := "dirPlays", inPlace := ["slices.overlaps[satrapy/api.Zone]"], unfollowed := true, recurses := true, apart := false }
def DirPlaysSaid : Prop := dirPlaysRow.holds Try.pinned (OpenSpec.ofChange dirPlaysSpec)

/-- ITS FALSE NEIGHBOUR: 'it returns false'. Refute it at one input. -/
def dirPlaysWrong : ChangeSpec := { name := "dirPlays", fn := fun _ => fun
  | [d1, d2] => { results := [.lit (.bool false)], args := [d1, d2] }
  | _ => none }
def DirPlaysWrongFalsely : Prop := dirPlaysRow.holds Try.pinned (OpenSpec.ofChange dirPlaysWrong)

/-- 'satrapylaw16.DirOnce': WHATEVER THE INPUT: true; the input reads as it did. -/
def dirOnceSpec : ChangeSpec := { name := "dirOnce", fn := fun _ => fun
  | [d1, d2] => { results := [.lit (.bool true)], args := [d1, d2] }
  | _ => none }
def dirOnceRow : OpenClaim := { program := "ytobnibdeimiinaa", sum := "f5ac853f87d247f30759cf84166ca06016be1d52f8b2912ca229733fee3f0b18", func := "satrapy/satrapylaw16.DirOnce", spec := "dirOnce", inPlace := ["slices.overlaps[satrapy/api.Zone]"], unfollowed := true, recurses := true, apart := false }
def DirOnceSaid : Prop := dirOnceRow.holds Try.pinned (OpenSpec.ofChange dirOnceSpec)

/-- ITS FALSE NEIGHBOUR: 'it returns false'. Refute it at one input. -/
def dirOnceWrong : ChangeSpec := { name := "dirOnce", fn := fun _ => fun
  | [d1, d2] => { results := [.lit (.bool false)], args := [d1, d2] }
  | _ => none }
def DirOnceWrongFalsely : Prop := dirOnceRow.holds Try.pinned (OpenSpec.ofChange dirOnceWrong)

/-- 'satrapylaw16.DirMoves': WHATEVER THE INPUT: true; the input reads as it did. -/
def dirMovesSpec : ChangeSpec := { name := "dirMoves", fn := fun _ => fun
  | [d] => { results := [.lit (.bool true)], args := [d] }
  | _ => none }
def dirMovesRow : OpenClaim := { program := "ytobnibdeimiinaa", sum := "f5ac853f87d247f30759cf84166ca06016be1d52f8b2912ca229733fee3f0b18", func := "satrapy/satrapylaw16.DirMoves", spec := "dirMoves", inPlace := ["slices.overlaps[satrapy/api.Zone]"], unfollowed := true, recurses := true, apart := false }
def DirMovesSaid : Prop := dirMovesRow.holds Try.pinned (OpenSpec.ofChange dirMovesSpec)

/-- ITS FALSE NEIGHBOUR: 'it returns false'. Refute it at one input. -/
def dirMovesWrong : ChangeSpec := { name := "dirMoves", fn := fun _ => fun
  | [d] => { results := [.lit (.bool false)], args := [d] }
  | _ => none }
def DirMovesWrongFalsely : Prop := dirMovesRow.holds Try.pinned (OpenSpec.ofChange dirMovesWrong)

/-- 'satrapylaw16.DirAborts': WHATEVER THE INPUT: true; the input reads as it did. -/
def dirAbortsSpec : ChangeSpec := { name := "dirAborts", fn := fun _ => fun
  | [d1, d2] => { results := [.lit (.bool true)], args := [d1, d2] }
  | _ => none }
def dirAbortsRow : OpenClaim := { program := "ytobnibdeimiinaa", sum := "f5ac853f87d247f30759cf84166ca06016be1d52f8b2912ca229733fee3f0b18", func := "satrapy/satrapylaw16.DirAborts", spec := "dirAborts", inPlace := ["slices.overlaps[satrapy/api.Zone]"], unfollowed := true, recurses := true, apart := false }
def DirAbortsSaid : Prop := dirAbortsRow.holds Try.pinned (OpenSpec.ofChange dirAbortsSpec)

/-- ITS FALSE NEIGHBOUR: 'it returns false'. Refute it at one input. -/
def dirAbortsWrong : ChangeSpec := { name := "dirAborts", fn := fun _ => fun
  | [d1, d2] => { results := [.lit (.bool false)], args := [d1, d2] }
  | _ => none }
def DirAbortsWrongFalsely : Prop := dirAbortsRow.holds Try.pinned (OpenSpec.ofChange dirAbortsWrong)

/-- 'satrapylaw16.DirParts': WHATEVER THE INPUT: true; the input reads as it did. -/
def dirPartsSpec : ChangeSpec := { name := "dirParts", fn := fun _ => fun
  | [d1, d2] => { results := [.lit (.bool true)], args := [d1, d2] }
  | _ => none }
def dirPartsRow : OpenClaim := { program := "ytobnibdeimiinaa", sum := "f5ac853f87d247f30759cf84166ca06016be1d52f8b2912ca229733fee3f0b18", func := "satrapy/satrapylaw16.DirParts", spec := "dirParts", inPlace := ["slices.overlaps[satrapy/api.Zone]"], unfollowed := true, recurses := true, apart := false }
def DirPartsSaid : Prop := dirPartsRow.holds Try.pinned (OpenSpec.ofChange dirPartsSpec)

/-- ITS FALSE NEIGHBOUR: 'it returns false'. Refute it at one input. -/
def dirPartsWrong : ChangeSpec := { name := "dirParts", fn := fun _ => fun
  | [d1, d2] => { results := [.lit (.bool false)], args := [d1, d2] }
  | _ => none }
def DirPartsWrongFalsely : Prop := dirPartsRow.holds Try.pinned (OpenSpec.ofChange dirPartsWrong)

/-- 'satrapylaw16.DirOfNothing': WHATEVER THE INPUT: true; the input reads as it did. -/
def dirOfNothingSpec : ChangeSpec := { name := "dirOfNothing", fn := fun _ => fun
  | [d1, d2] => { results := [.lit (.bool true)], args := [d1, d2] }
  | _ => none }
def dirOfNothingRow : OpenClaim := { program := "ytobnibdeimiinaa", sum := "f5ac853f87d247f30759cf84166ca06016be1d52f8b2912ca229733fee3f0b18", func := "satrapy/satrapylaw16.DirOfNothing", spec := "dirOfNothing", inPlace := ["slices.overlaps[satrapy/api.Zone]"], unfollowed := true, recurses := true, apart := false }
def DirOfNothingSaid : Prop := dirOfNothingRow.holds Try.pinned (OpenSpec.ofChange dirOfNothingSpec)

/-- ITS FALSE NEIGHBOUR: 'it returns false'. Refute it at one input. -/
def dirOfNothingWrong : ChangeSpec := { name := "dirOfNothing", fn := fun _ => fun
  | [d1, d2] => { results := [.lit (.bool false)], args := [d1, d2] }
  | _ => none }
def DirOfNothingWrongFalsely : Prop := dirOfNothingRow.holds Try.pinned (OpenSpec.ofChange dirOfNothingWrong)

/-- 'satrapylaw16.DirBytes': WHATEVER THE INPUT: true; the input reads as it did. -/
def dirBytesSpec : ChangeSpec := { name := "dirBytes", fn := fun _ => fun
  | [d1, d2, d3] => { results := [.lit (.bool true)], args := [d1, d2, d3] }
  | _ => none }
def dirBytesRow : OpenClaim := { program := "ytobnibdeimiinaa", sum := "f5ac853f87d247f30759cf84166ca06016be1d52f8b2912ca229733fee3f0b18", func := "satrapy/satrapylaw16.DirBytes", spec := "dirBytes", inPlace := ["slices.overlaps[satrapy/api.Zone]"], unfollowed := true, recurses := true, apart := false }
def DirBytesSaid : Prop := dirBytesRow.holds Try.pinned (OpenSpec.ofChange dirBytesSpec)

/-- ITS FALSE NEIGHBOUR: 'it returns false'. Refute it at one input. -/
def dirBytesWrong : ChangeSpec := { name := "dirBytes", fn := fun _ => fun
  | [d1, d2, d3] => { results := [.lit (.bool false)], args := [d1, d2, d3] }
  | _ => none }
def DirBytesWrongFalsely : Prop := dirBytesRow.holds Try.pinned (OpenSpec.ofChange dirBytesWrong)

/- THE SECOND FORM. 'bulk': how many values and letters a reading holds, each counted each time it is reached (what is shared counts as often as it is met; a slice's spare places count too). A statement '..UptoSaid' is the law's where the arguments, and the package variables that the reading takes, are together of bulk at most 1048576: NARROWER than '..Said'. Prove '..Said' where nothing that the law and all that it calls make is longer than what came in: it says more and counts as full. Else prove '..UptoSaid'. A law counts once. -/
mutual
def uptoBulk {H : Type} : DataW H → Nat
  | .lit (.string bytes) => bytes.length + 1
  | .lit _ => 1
  | .nil => 1
  | .ptr d => uptoBulk d + 1
  | .slice elems spare => uptoBulkAll elems + uptoBulkAll spare + 1
  | .agg parts => uptoBulkAll parts + 1
  | .iface _ d => uptoBulk d + 1
  | .map entries => uptoBulkEntries entries + 1
  | .held _ => 1
def uptoBulkAll {H : Type} : List (DataW H) → Nat
  | [] => 0
  | d :: r => uptoBulk d + uptoBulkAll r
def uptoBulkEntries {H : Type} : List (Lit × DataW H) → Nat
  | [] => 0
  | x :: r => uptoBulkEntry x + uptoBulkEntries r
def uptoBulkEntry {H : Type} : Lit × DataW H → Nat
  | (.string bytes, d) => bytes.length + uptoBulk d + 1
  | (_, d) => uptoBulk d + 1
 end
def uptoSmall : (H : Type) → List (DataW H) → Bool := fun _ ds => decide (uptoBulkAll ds ≤ 1048576)
def OpenSpec.upto (s : _root_.Go.ChangeSpec) : _root_.Go.OpenSpec := { _root_.Go.OpenSpec.ofChange s with cond := some uptoSmall }

/-- 'satrapylaw16.DirEpochs', WHERE WHAT IT READS IS OF BULK AT MOST 1048576: true; the input reads as it did. -/
def dirEpochsUptoRow : OpenClaim := { program := "ytobnibdeimiinaa", sum := "f5ac853f87d247f30759cf84166ca06016be1d52f8b2912ca229733fee3f0b18", func := "satrapy/satrapylaw16.DirEpochs", spec := "dirEpochs", inPlace := ["slices.overlaps[satrapy/api.Zone]"], unfollowed := true, recurses := true, apart := false, narrowed := true }
def DirEpochsUptoSaid : Prop := dirEpochsUptoRow.holds Try.pinned (OpenSpec.upto dirEpochsSpec)

/-- 'satrapylaw16.DirBack', WHERE WHAT IT READS IS OF BULK AT MOST 1048576: true; the input reads as it did. -/
def dirBackUptoRow : OpenClaim := { program := "ytobnibdeimiinaa", sum := "f5ac853f87d247f30759cf84166ca06016be1d52f8b2912ca229733fee3f0b18", func := "satrapy/satrapylaw16.DirBack", spec := "dirBack", inPlace := ["slices.overlaps[satrapy/api.Zone]"], unfollowed := true, recurses := true, apart := false, narrowed := true }
def DirBackUptoSaid : Prop := dirBackUptoRow.holds Try.pinned (OpenSpec.upto dirBackSpec)

/-- 'satrapylaw16.DirPlays', WHERE WHAT IT READS IS OF BULK AT MOST 1048576: true; the input reads as it did. -/
def dirPlaysUptoRow : OpenClaim := { program := "ytobnibdeimiinaa", sum := "f5ac853f87d247f30759cf84166ca06016be1d52f8b2912ca229733fee3f0b18", func := "satrapy/satrapylaw16.DirPlays", spec := "dirPlays", inPlace := ["slices.overlaps[satrapy/api.Zone]"], unfollowed := true, recurses := true, apart := false, narrowed := true }
def DirPlaysUptoSaid : Prop := dirPlaysUptoRow.holds Try.pinned (OpenSpec.upto dirPlaysSpec)

/-- 'satrapylaw16.DirOnce', WHERE WHAT IT READS IS OF BULK AT MOST 1048576: true; the input reads as it did. -/
def dirOnceUptoRow : OpenClaim := { program := "ytobnibdeimiinaa", sum := "f5ac853f87d247f30759cf84166ca06016be1d52f8b2912ca229733fee3f0b18", func := "satrapy/satrapylaw16.DirOnce", spec := "dirOnce", inPlace := ["slices.overlaps[satrapy/api.Zone]"], unfollowed := true, recurses := true, apart := false, narrowed := true }
def DirOnceUptoSaid : Prop := dirOnceUptoRow.holds Try.pinned (OpenSpec.upto dirOnceSpec)

/-- 'satrapylaw16.DirMoves', WHERE WHAT IT READS IS OF BULK AT MOST 1048576: true; the input reads as it did. -/
def dirMovesUptoRow : OpenClaim := { program := "ytobnibdeimiinaa", sum := "f5ac853f87d247f30759cf84166ca06016be1d52f8b2912ca229733fee3f0b18", func := "satrapy/satrapylaw16.DirMoves", spec := "dirMoves", inPlace := ["slices.overlaps[satrapy/api.Zone]"], unfollowed := true, recurses := true, apart := false, narrowed := true }
def DirMovesUptoSaid : Prop := dirMovesUptoRow.holds Try.pinned (OpenSpec.upto dirMovesSpec)

/-- 'satrapylaw16.DirAborts', WHERE WHAT IT READS IS OF BULK AT MOST 1048576: true; the input reads as it did. -/
def dirAbortsUptoRow : OpenClaim := { program := "ytobnibdeimiinaa", sum := "f5ac853f87d247f30759cf84166ca06016be1d52f8b2912ca229733fee3f0b18", func := "satrapy/satrapylaw16.DirAborts", spec := "dirAborts", inPlace := ["slices.overlaps[satrapy/api.Zone]"], unfollowed := true, recurses := true, apart := false, narrowed := true }
def DirAbortsUptoSaid : Prop := dirAbortsUptoRow.holds Try.pinned (OpenSpec.upto dirAbortsSpec)

/-- 'satrapylaw16.DirParts', WHERE WHAT IT READS IS OF BULK AT MOST 1048576: true; the input reads as it did. -/
def dirPartsUptoRow : OpenClaim := { program := "ytobnibdeimiinaa", sum := "f5ac853f87d247f30759cf84166ca06016be1d52f8b2912ca229733fee3f0b18", func := "satrapy/satrapylaw16.DirParts", spec := "dirParts", inPlace := ["slices.overlaps[satrapy/api.Zone]"], unfollowed := true, recurses := true, apart := false, narrowed := true }
def DirPartsUptoSaid : Prop := dirPartsUptoRow.holds Try.pinned (OpenSpec.upto dirPartsSpec)

/-- 'satrapylaw16.DirOfNothing', WHERE WHAT IT READS IS OF BULK AT MOST 1048576: true; the input reads as it did. -/
def dirOfNothingUptoRow : OpenClaim := { program := "ytobnibdeimiinaa", sum := "f5ac853f87d247f30759cf84166ca06016be1d52f8b2912ca229733fee3f0b18", func := "satrapy/satrapylaw16.DirOfNothing", spec := "dirOfNothing", inPlace := ["slices.overlaps[satrapy/api.Zone]"], unfollowed := true, recurses := true, apart := false, narrowed := true }
def DirOfNothingUptoSaid : Prop := dirOfNothingUptoRow.holds Try.pinned (OpenSpec.upto dirOfNothingSpec)

/-- 'satrapylaw16.DirBytes', WHERE WHAT IT READS IS OF BULK AT MOST 1048576: true; the input reads as it did. -/
def dirBytesUptoRow : OpenClaim := { program := "ytobnibdeimiinaa", sum := "f5ac853f87d247f30759cf84166ca06016be1d52f8b2912ca229733fee3f0b18", func := "satrapy/satrapylaw16.DirBytes", spec := "dirBytes", inPlace := ["slices.overlaps[satrapy/api.Zone]"], unfollowed := true, recurses := true, apart := false, narrowed := true }
def DirBytesUptoSaid : Prop := dirBytesUptoRow.holds Try.pinned (OpenSpec.upto dirBytesSpec)

end Rows
end Go.Proofs.Ytobnibdeimiinaa
