/- bytes.Join: the library's contract at this program's numbers. -/
import Derived.Test.YtgbhbhmjolihnaaRws
import Derived.Test.YtgbhbhmjolihnaaThs
import Derived.Shelf.Bytes.SlJoin
namespace Go.Proofs.Ytgbhbhmjolihnaa
open Go.RowKit Go.Shelf

/-- The numbers of bytes.Join's functions and types here. -/
def renJ : Ren := ⟨fun n => if n = 14 then 32 else if n = 15 then 33 else 0,
  fun n => if n = 3 then 3 else if n = 4 then 4 else if n = 5 then 5 else if n = 9 then 9 else if n = 20 then 20 else if n = 22 then 22 else if n = 26 then 30 else 0, fun n => n⟩
set_option maxRecDepth 100000 in
theorem laysJ : SlLaysJ.n14 Try.prog renJ where
  mixed := by kernel_rfl
  f14 := by kernel_rfl
  f15 := by kernel_rfl
  t0 := by kernel_rfl
  a0 := fun _ => by kernel_rfl
  z0 := fun _ => by kernel_rfl
  v0 := fun _ => by kernel_rfl
  t3 := by kernel_rfl
  a3 := fun _ => by kernel_rfl
  z3 := fun _ => by kernel_rfl
  v3 := fun _ => by kernel_rfl
  t4 := by kernel_rfl
  a4 := fun _ => by kernel_rfl
  z4 := fun _ => by kernel_rfl
  v4 := fun _ => by kernel_rfl
  t9 := by kernel_rfl
  a9 := fun _ => by kernel_rfl
  z9 := fun _ => by kernel_rfl
  v9 := fun _ => by kernel_rfl
  t20 := by kernel_rfl
  a20 := fun _ => by kernel_rfl
  z20 := fun _ => by kernel_rfl
  v20 := fun _ => by kernel_rfl
  t22 := by kernel_rfl
  a22 := fun _ => by kernel_rfl
  z22 := fun _ => by kernel_rfl
  v22 := fun _ => by kernel_rfl
  t26 := by kernel_rfl
  a26 := fun _ => by kernel_rfl
  z26 := fun _ => by kernel_rfl
  v26 := fun _ => by kernel_rfl
  t5 := by kernel_rfl
  z5 := fun _ => by kernel_rfl
  i5 := by kernel_rfl
end Go.Proofs.Ytgbhbhmjolihnaa
