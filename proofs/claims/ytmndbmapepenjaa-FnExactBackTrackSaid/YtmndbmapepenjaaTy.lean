/- What the rules ask of this program's types, as closed facts; no condition. -/
import Derived.Test.YtmndbmapepenjaaProg
import Derived.Test.YtmndbmapepenjaaKit
import Derived.Test.YtmndbmapepenjaaFr
import Derived.KernelRfl
namespace Go.Proofs.Ytmndbmapepenjaa
open Go.RowKit

/-- A frame's cells. -/
def frv (f : List Nat) : List Value := f.map fun (n : Nat) => Value.int .u16 (n : Int)
theorem frv_length (f : List Nat) : (frv f).length = f.length := by simp [frv]
theorem frv_get (f : List Nat) (k : Nat) (h : k < f.length) : (frv f)[k]? = some (.int .u16 (ro f k : Nat)) := by
  rw [ro_get f k h]; simp [frv, List.getElem?_eq_getElem h]
theorem frv_set (f : List Nat) (k n : Nat) : (frv f).set k (.int .u16 (n : Int)) = frv (f.set k n) := by simp [frv, List.map_set]
theorem frv_one (f : List Nat) : ∀ v ∈ frv f, v.oneCell' = true := by
  intro v hv; simp only [frv, List.mem_map] at hv; obtain ⟨n, _, rfl⟩ := hv; rfl
theorem frv_zero : List.replicate 12 (Value.int .u16 0) = frv zf := rfl
theorem frv_append (f g : List Nat) : frv (f ++ g) = frv f ++ frv g := by simp [frv]
/-- A frame as a value. -/
def frV (f : List Nat) : Value := .agg (frv f).toArray

theorem tU16 : OneT Try.prog 42 (.int .u16 0) := oneT_of Try.underlying42 rfl (by kernel_rfl) rfl
theorem tI64 : OneT Try.prog 2 (.int .i64 0) := oneT_of Try.underlying2 rfl (by kernel_rfl) rfl
theorem tInt : OneT Try.prog 3 (.int .i64 0) := oneT_of Try.underlying3 rfl (by kernel_rfl) rfl
theorem tI8 : OneT Try.prog 57 (.int .i8 0) := oneT_of Try.underlying57 rfl (by kernel_rfl) rfl
theorem tBool : OneT Try.prog 4 (.bool false) := oneT_of Try.underlying4 rfl (by kernel_rfl) rfl
theorem tStr : OneT Try.prog 9 (.string ⟨#[]⟩) := oneT_of Try.underlying9 rfl (by kernel_rfl) rfl
theorem tFr : ArrT Try.prog 44 42 12 (.int .u16 0) := arrT_of Try.underlying44 (by kernel_rfl) tU16
theorem tRaw : ArrT Try.prog 43 42 12 (.int .u16 0) := arrT_of Try.underlying43 (by kernel_rfl) tU16
theorem tFrB : Try.prog.built 44 [] = some (frv zf).toArray := by kernel_rfl
theorem tDot : AggT Try.prog 107 2 [.int .i8 0, .int .i8 0] := aggT_of Try.underlying107 rfl (by kernel_rfl)
theorem tDotS : SlcT Try.prog 102 107 2 2 [.int .i8 0, .int .i8 0] := slcT_of Try.underlying102 (.agg #[.int .i8 0, .int .i8 0]) (by kernel_rfl) rfl (by decide) rfl
theorem tFrS : SlcT Try.prog 50 44 12 24 (frv zf) := slcT_of Try.underlying50 (.agg (frv zf).toArray) (by kernel_rfl) rfl (by decide) rfl
theorem tU16S : SlcT Try.prog 109 42 1 2 [.int .u16 0] := slcT_of Try.underlying109 (.int .u16 0) (by kernel_rfl) rfl (by decide) rfl
end Go.Proofs.Ytmndbmapepenjaa
