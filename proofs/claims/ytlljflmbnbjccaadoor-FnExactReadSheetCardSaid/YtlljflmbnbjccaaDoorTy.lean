/- What the rules ask of this program's types, as closed facts; no condition. -/
import Derived.Test.YtlljflmbnbjccaaDoorProg
import Derived.Test.YtlljflmbnbjccaaDoorKit
import Derived.Test.YtlljflmbnbjccaaDoorFr
import Derived.KernelRfl
namespace Go.Proofs.YtlljflmbnbjccaaDoor
open Go.RowKit

/-- A frame's cells. -/
def frv (f : List Nat) : List Value := f.map fun (n : Nat) => Value.int .u16 (n : Int)
theorem frv_length (f : List Nat) : (frv f).length = f.length := by simp [frv]
theorem frv_get (f : List Nat) (k : Nat) (h : k < f.length) : (frv f)[k]? = some (.int .u16 (ro f k : Nat)) := by
  rw [ro_get f k h]; simp [frv, List.getElem?_eq_getElem h]
theorem frv_set (f : List Nat) (k n : Nat) : (frv f).set k (.int .u16 (n : Int)) = frv (f.set k n) := by simp [frv, List.map_set]
theorem frv_one (f : List Nat) : ∀ v ∈ frv f, v.oneCell' = true := by
  intro v hv; simp only [frv, List.mem_map] at hv; obtain ⟨n, _, rfl⟩ := hv; rfl
theorem frv_zero : List.replicate 12 (Value.int .u16 0) = frv zf := rfl
theorem frv_append (f g : List Nat) : frv (f ++ g) = frv f ++ frv g := by simp [frv]
/-- A frame as a value. -/
def frV (f : List Nat) : Value := .agg (frv f).toArray

theorem tI64 : OneT Tryd.prog 2 (.int .i64 0) := oneT_of Tryd.underlying2 rfl (by kernel_rfl) rfl
theorem tInt : OneT Tryd.prog 3 (.int .i64 0) := oneT_of Tryd.underlying3 rfl (by kernel_rfl) rfl
theorem tI8 : OneT Tryd.prog 35 (.int .i8 0) := oneT_of Tryd.underlying35 rfl (by kernel_rfl) rfl
theorem tBool : OneT Tryd.prog 4 (.bool false) := oneT_of Tryd.underlying4 rfl (by kernel_rfl) rfl
theorem tStr : OneT Tryd.prog 9 (.string ⟨#[]⟩) := oneT_of Tryd.underlying9 rfl (by kernel_rfl) rfl
theorem tStrS : SlcT Tryd.prog 42 9 1 16 [.string ⟨#[]⟩] := slcT_of Tryd.underlying42 (.string ⟨#[]⟩) (by kernel_rfl) rfl (by decide) rfl
end Go.Proofs.YtlljflmbnbjccaaDoor
