/-
  No cell of these rows narrows 'for every input' (looked for: loops, veiled, ifaces, maps, wideKeys, modest, calm, conditions, laid).
  DERIVED. THE GIVEN ROWS OF THIS SEAT. 5 by the template 'for every input the law returns true; each argument reads behind the call as it read before'; 0 by the template 'total and deterministic' (their statements: YtgbhbhmjolihnaaTotals.lean).
  GIVEN WITH THE SEED: the statements are not yours to turn. If you find one false, say at which input.
  Laid BY PROGRAM, IN A SANDBOX (cutbox-rows.mjs): the forced cells as the released guide's own fill.sh prints them over the translation 74b40d9489e304c9… (all of the seat's roots in one cut). By AI agents, Wed Nov 11 2026. No macro, syntax, notation, axiom, sorry.
-/
import Derived.Test.YtgbhbhmjolihnaaChecked
import GoSem.Claim
import GoSem.ClaimJoined
import GoSem.ClaimMapViews
import Derived.JoinedTies
import Derived.KernelRfl
namespace Go.Proofs.Ytgbhbhmjolihnaa
/- THE CELL 'sum', in the pinned program and in every row, IS THE sha256 OF THE DUMP (.gsa) THAT YtgbhbhmjolihnaaProg.lean LOADS. Nothing in Lean hashes anything: it is a label: what it is worth is what the hold of that sum in a sandbox is worth. -/
noncomputable def Try.pinned : Pinned := { name := "ytgbhbhmjolihnaa", sum := "74b40d9489e304c966331f25930f82a315a484de00c29b3d90f12cf2866fdb29", checked := Try.checked }
namespace Rows
def none {H : Type} : Left H := { results := [], args := [] }

/-- 'satrapylaw2.FrameSees': WHATEVER THE INPUT: true; the input reads as it did. -/
def frameSeesSpec : ChangeSpec := { name := "frameSees", fn := fun _ => fun
  | [d1, d2, d3, d4] => { results := [.lit (.bool true)], args := [d1, d2, d3, d4] }
  | _ => none }
def frameSeesRow : OpenClaim := { program := "ytgbhbhmjolihnaa", sum := "74b40d9489e304c966331f25930f82a315a484de00c29b3d90f12cf2866fdb29", func := "satrapy/satrapylaw2.FrameSees", spec := "frameSees", inPlace := ["internal/bytealg.MakeNoZero"], apart := false }
def FrameSeesSaid : Prop := frameSeesRow.holds Try.pinned (OpenSpec.ofChange frameSeesSpec)

/-- ITS FALSE NEIGHBOUR: 'it returns false'. Refute it at one input. -/
def frameSeesWrong : ChangeSpec := { name := "frameSees", fn := fun _ => fun
  | [d1, d2, d3, d4] => { results := [.lit (.bool false)], args := [d1, d2, d3, d4] }
  | _ => none }
def FrameSeesWrongFalsely : Prop := frameSeesRow.holds Try.pinned (OpenSpec.ofChange frameSeesWrong)

/-- 'satrapylaw2.FrameEncodes': WHATEVER THE INPUT: true; the input reads as it did. -/
def frameEncodesSpec : ChangeSpec := { name := "frameEncodes", fn := fun _ => fun
  | [d1, d2] => { results := [.lit (.bool true)], args := [d1, d2] }
  | _ => none }
def frameEncodesRow : OpenClaim := { program := "ytgbhbhmjolihnaa", sum := "74b40d9489e304c966331f25930f82a315a484de00c29b3d90f12cf2866fdb29", func := "satrapy/satrapylaw2.FrameEncodes", spec := "frameEncodes", inPlace := ["internal/bytealg.MakeNoZero"], apart := false }
def FrameEncodesSaid : Prop := frameEncodesRow.holds Try.pinned (OpenSpec.ofChange frameEncodesSpec)

/-- ITS FALSE NEIGHBOUR: 'it returns false'. Refute it at one input. -/
def frameEncodesWrong : ChangeSpec := { name := "frameEncodes", fn := fun _ => fun
  | [d1, d2] => { results := [.lit (.bool false)], args := [d1, d2] }
  | _ => none }
def FrameEncodesWrongFalsely : Prop := frameEncodesRow.holds Try.pinned (OpenSpec.ofChange frameEncodesWrong)

/-- 'satrapylaw2.FrameTears': WHATEVER THE INPUT: true; the input reads as it did. -/
def frameTearsSpec : ChangeSpec := { name := "frameTears", fn := fun _ => fun
  | [d1, d2] => { results := [.lit (.bool true)], args := [d1, d2] }
  | _ => none }
def frameTearsRow : OpenClaim := { program := "ytgbhbhmjolihnaa", sum := "74b40d9489e304c966331f25930f82a315a484de00c29b3d90f12cf2866fdb29", func := "satrapy/satrapylaw2.FrameTears", spec := "frameTears", inPlace := ["internal/bytealg.MakeNoZero"], apart := false }
def FrameTearsSaid : Prop := frameTearsRow.holds Try.pinned (OpenSpec.ofChange frameTearsSpec)

/-- ITS FALSE NEIGHBOUR: 'it returns false'. Refute it at one input. -/
def frameTearsWrong : ChangeSpec := { name := "frameTears", fn := fun _ => fun
  | [d1, d2] => { results := [.lit (.bool false)], args := [d1, d2] }
  | _ => none }
def FrameTearsWrongFalsely : Prop := frameTearsRow.holds Try.pinned (OpenSpec.ofChange frameTearsWrong)

/-- 'satrapylaw2.FrameRows': WHATEVER THE INPUT: true; the input reads as it did. -/
def frameRowsSpec : ChangeSpec := { name := "frameRows", fn := fun _ => fun
  | [d1, d2] => { results := [.lit (.bool true)], args := [d1, d2] }
  | _ => none }
def frameRowsRow : OpenClaim := { program := "ytgbhbhmjolihnaa", sum := "74b40d9489e304c966331f25930f82a315a484de00c29b3d90f12cf2866fdb29", func := "satrapy/satrapylaw2.FrameRows", spec := "frameRows", inPlace := ["internal/bytealg.MakeNoZero"], apart := false }
def FrameRowsSaid : Prop := frameRowsRow.holds Try.pinned (OpenSpec.ofChange frameRowsSpec)

/-- ITS FALSE NEIGHBOUR: 'it returns false'. Refute it at one input. -/
def frameRowsWrong : ChangeSpec := { name := "frameRows", fn := fun _ => fun
  | [d1, d2] => { results := [.lit (.bool false)], args := [d1, d2] }
  | _ => none }
def FrameRowsWrongFalsely : Prop := frameRowsRow.holds Try.pinned (OpenSpec.ofChange frameRowsWrong)

/-- 'satrapylaw2.FrameDecodes': WHATEVER THE INPUT: true; the input reads as it did. -/
def frameDecodesSpec : ChangeSpec := { name := "frameDecodes", fn := fun _ => fun
  | [d] => { results := [.lit (.bool true)], args := [d] }
  | _ => none }
def frameDecodesRow : OpenClaim := { program := "ytgbhbhmjolihnaa", sum := "74b40d9489e304c966331f25930f82a315a484de00c29b3d90f12cf2866fdb29", func := "satrapy/satrapylaw2.FrameDecodes", spec := "frameDecodes", inPlace := ["internal/bytealg.MakeNoZero"], apart := false }
def FrameDecodesSaid : Prop := frameDecodesRow.holds Try.pinned (OpenSpec.ofChange frameDecodesSpec)

/-- ITS FALSE NEIGHBOUR: 'it returns false'. Refute it at one input. -/
def frameDecodesWrong : ChangeSpec := { name := "frameDecodes", fn := fun _ => fun
  | [d] => { results := [.lit (.bool false)], args := [d] }
  | _ => none }
def FrameDecodesWrongFalsely : Prop := frameDecodesRow.holds Try.pinned (OpenSpec.ofChange frameDecodesWrong)

/- THE SECOND FORM. 'bulk': how many values and letters a reading holds, each counted each time it is reached (what is shared counts as often as it is met; a slice's spare places count too). A statement '..UptoSaid' is the law's where the arguments, and the package variables that the reading takes, are together of bulk at most 1048576: NARROWER than '..Said'. Prove '..Said' where nothing that the law and all that it calls make is longer than what came in: it says more and counts as full. Else prove '..UptoSaid'. A law counts once. -/
mutual
def uptoBulk {H : Type} : DataW H → Nat
  | .lit (.string bytes) => bytes.length + 1
  | .lit _ => 1
  | .nil => 1
  | .ptr d => uptoBulk d + 1
  | .slice elems spare => uptoBulkAll elems + uptoBulkAll spare + 1
  | .agg parts => uptoBulkAll parts + 1
  | .iface _ d => uptoBulk d + 1
  | .map entries => uptoBulkEntries entries + 1
  | .held _ => 1
def uptoBulkAll {H : Type} : List (DataW H) → Nat
  | [] => 0
  | d :: r => uptoBulk d + uptoBulkAll r
def uptoBulkEntries {H : Type} : List (Lit × DataW H) → Nat
  | [] => 0
  | x :: r => uptoBulkEntry x + uptoBulkEntries r
def uptoBulkEntry {H : Type} : Lit × DataW H → Nat
  | (.string bytes, d) => bytes.length + uptoBulk d + 1
  | (_, d) => uptoBulk d + 1
 end
def uptoSmall : (H : Type) → List (DataW H) → Bool := fun _ ds => decide (uptoBulkAll ds ≤ 1048576)
def OpenSpec.upto (s : _root_.Go.ChangeSpec) : _root_.Go.OpenSpec := { _root_.Go.OpenSpec.ofChange s with cond := some uptoSmall }

/-- 'satrapylaw2.FrameSees', WHERE WHAT IT READS IS OF BULK AT MOST 1048576: true; the input reads as it did. -/
def frameSeesUptoRow : OpenClaim := { program := "ytgbhbhmjolihnaa", sum := "74b40d9489e304c966331f25930f82a315a484de00c29b3d90f12cf2866fdb29", func := "satrapy/satrapylaw2.FrameSees", spec := "frameSees", inPlace := ["internal/bytealg.MakeNoZero"], apart := false, narrowed := true }
def FrameSeesUptoSaid : Prop := frameSeesUptoRow.holds Try.pinned (OpenSpec.upto frameSeesSpec)

/-- 'satrapylaw2.FrameEncodes', WHERE WHAT IT READS IS OF BULK AT MOST 1048576: true; the input reads as it did. -/
def frameEncodesUptoRow : OpenClaim := { program := "ytgbhbhmjolihnaa", sum := "74b40d9489e304c966331f25930f82a315a484de00c29b3d90f12cf2866fdb29", func := "satrapy/satrapylaw2.FrameEncodes", spec := "frameEncodes", inPlace := ["internal/bytealg.MakeNoZero"], apart := false, narrowed := true }
def FrameEncodesUptoSaid : Prop := frameEncodesUptoRow.holds Try.pinned (OpenSpec.upto frameEncodesSpec)

/-- 'satrapylaw2.FrameTears', WHERE WHAT IT READS IS OF BULK AT MOST 1048576: true; the input reads as it did. -/
def frameTearsUptoRow : OpenClaim := { program := "ytgbhbhmjolihnaa", sum := "74b40d9489e304c966331f25930f82a315a484de00c29b3d90f12cf2866fdb29", func := "satrapy/satrapylaw2.FrameTears", spec := "frameTears", inPlace := ["internal/bytealg.MakeNoZero"], apart := false, narrowed := true }
def FrameTearsUptoSaid : Prop := frameTearsUptoRow.holds Try.pinned (OpenSpec.upto frameTearsSpec)

/-- 'satrapylaw2.FrameRows', WHERE WHAT IT READS IS OF BULK AT MOST 1048576: true; the input reads as it did. -/
def frameRowsUptoRow : OpenClaim := { program := "ytgbhbhmjolihnaa", sum := "74b40d9489e304c966331f25930f82a315a484de00c29b3d90f12cf2866fdb29", func := "satrapy/satrapylaw2.FrameRows", spec := "frameRows", inPlace := ["internal/bytealg.MakeNoZero"], apart := false, narrowed := true }
def FrameRowsUptoSaid : Prop := frameRowsUptoRow.holds Try.pinned (OpenSpec.upto frameRowsSpec)

/-- 'satrapylaw2.FrameDecodes', WHERE WHAT IT READS IS OF BULK AT MOST 1048576: true; the input reads as it did. -/
def frameDecodesUptoRow : OpenClaim := { program := "ytgbhbhmjolihnaa", sum := "74b40d9489e304c966331f25930f82a315a484de00c29b3d90f12cf2866fdb29", func := "satrapy/satrapylaw2.FrameDecodes", spec := "frameDecodes", inPlace := ["internal/bytealg.MakeNoZero"], apart := false, narrowed := true }
def FrameDecodesUptoSaid : Prop := frameDecodesUptoRow.holds Try.pinned (OpenSpec.upto frameDecodesSpec)

end Rows
end Go.Proofs.Ytgbhbhmjolihnaa
