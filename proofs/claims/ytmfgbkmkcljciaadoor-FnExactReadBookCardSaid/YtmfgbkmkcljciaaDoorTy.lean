/- What the rules ask of this program's types, as closed facts; no condition. -/
import Derived.Test.YtmfgbkmkcljciaaDoorProg
import Derived.Test.YtmfgbkmkcljciaaDoorKit
import Derived.Test.YtmfgbkmkcljciaaDoorFr
import Derived.KernelRfl
namespace Go.Proofs.YtmfgbkmkcljciaaDoor
open Go.RowKit

/-- A frame's cells. -/
def frv (f : List Nat) : List Value := f.map fun (n : Nat) => Value.int .u16 (n : Int)
theorem frv_length (f : List Nat) : (frv f).length = f.length := by simp [frv]
theorem frv_get (f : List Nat) (k : Nat) (h : k < f.length) : (frv f)[k]? = some (.int .u16 (ro f k : Nat)) := by
  rw [ro_get f k h]; simp [frv, List.getElem?_eq_getElem h]
theorem frv_set (f : List Nat) (k n : Nat) : (frv f).set k (.int .u16 (n : Int)) = frv (f.set k n) := by simp [frv, List.map_set]
theorem frv_one (f : List Nat) : ∀ v ∈ frv f, v.oneCell' = true := by
  intro v hv; simp only [frv, List.mem_map] at hv; obtain ⟨n, _, rfl⟩ := hv; rfl
theorem frv_zero : List.replicate 12 (Value.int .u16 0) = frv zf := rfl
theorem frv_append (f g : List Nat) : frv (f ++ g) = frv f ++ frv g := by simp [frv]
/-- A frame as a value. -/
def frV (f : List Nat) : Value := .agg (frv f).toArray

theorem tU16 : OneT Tryd.prog 31 (.int .u16 0) := oneT_of Tryd.underlying31 rfl (by kernel_rfl) rfl
theorem tI64 : OneT Tryd.prog 2 (.int .i64 0) := oneT_of Tryd.underlying2 rfl (by kernel_rfl) rfl
theorem tInt : OneT Tryd.prog 3 (.int .i64 0) := oneT_of Tryd.underlying3 rfl (by kernel_rfl) rfl
theorem tBool : OneT Tryd.prog 4 (.bool false) := oneT_of Tryd.underlying4 rfl (by kernel_rfl) rfl
theorem tStr : OneT Tryd.prog 9 (.string ⟨#[]⟩) := oneT_of Tryd.underlying9 rfl (by kernel_rfl) rfl
theorem tFr : ArrT Tryd.prog 33 31 12 (.int .u16 0) := arrT_of Tryd.underlying33 (by kernel_rfl) tU16
theorem tRaw : ArrT Tryd.prog 32 31 12 (.int .u16 0) := arrT_of Tryd.underlying32 (by kernel_rfl) tU16
theorem tFrB : Tryd.prog.built 33 [] = some (frv zf).toArray := by kernel_rfl
theorem tFrS : SlcT Tryd.prog 22 33 12 24 (frv zf) := slcT_of Tryd.underlying22 (.agg (frv zf).toArray) (by kernel_rfl) rfl (by decide) rfl
theorem tU16S : SlcT Tryd.prog 80 31 1 2 [.int .u16 0] := slcT_of Tryd.underlying80 (.int .u16 0) (by kernel_rfl) rfl (by decide) rfl
theorem tStrS : SlcT Tryd.prog 29 9 1 16 [.string ⟨#[]⟩] := slcT_of Tryd.underlying29 (.string ⟨#[]⟩) (by kernel_rfl) rfl (by decide) rfl
end Go.Proofs.YtmfgbkmkcljciaaDoor
