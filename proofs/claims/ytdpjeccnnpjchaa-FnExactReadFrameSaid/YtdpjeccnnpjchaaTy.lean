/- What the rules ask of this program's types, as closed facts; no condition. -/
import Derived.Test.YtdpjeccnnpjchaaProg
import Derived.Test.YtdpjeccnnpjchaaKit
import Derived.Test.YtdpjeccnnpjchaaFr
import Derived.KernelRfl
namespace Go.Proofs.Ytdpjeccnnpjchaa
open Go.RowKit

/-- A frame's cells. -/
def frv (f : List Nat) : List Value := f.map fun (n : Nat) => Value.int .u16 (n : Int)
theorem frv_length (f : List Nat) : (frv f).length = f.length := by simp [frv]
theorem frv_get (f : List Nat) (k : Nat) (h : k < f.length) : (frv f)[k]? = some (.int .u16 (ro f k : Nat)) := by
  rw [ro_get f k h]; simp [frv, List.getElem?_eq_getElem h]
theorem frv_set (f : List Nat) (k n : Nat) : (frv f).set k (.int .u16 (n : Int)) = frv (f.set k n) := by simp [frv, List.map_set]
theorem frv_one (f : List Nat) : ∀ v ∈ frv f, v.oneCell' = true := by
  intro v hv; simp only [frv, List.mem_map] at hv; obtain ⟨n, _, rfl⟩ := hv; rfl
theorem frv_zero : List.replicate 12 (Value.int .u16 0) = frv zf := rfl
theorem frv_append (f g : List Nat) : frv (f ++ g) = frv f ++ frv g := by simp [frv]
/-- A frame as a value. -/
def frV (f : List Nat) : Value := .agg (frv f).toArray

theorem tU16 : OneT Try.prog 22 (.int .u16 0) := oneT_of Try.underlying22 rfl (by kernel_rfl) rfl
theorem tI64 : OneT Try.prog 2 (.int .i64 0) := oneT_of Try.underlying2 rfl (by kernel_rfl) rfl
theorem tInt : OneT Try.prog 3 (.int .i64 0) := oneT_of Try.underlying3 rfl (by kernel_rfl) rfl
theorem tI8 : OneT Try.prog 44 (.int .i8 0) := oneT_of Try.underlying44 rfl (by kernel_rfl) rfl
theorem tBool : OneT Try.prog 4 (.bool false) := oneT_of Try.underlying4 rfl (by kernel_rfl) rfl
theorem tStr : OneT Try.prog 9 (.string ⟨#[]⟩) := oneT_of Try.underlying9 rfl (by kernel_rfl) rfl
theorem tFr : ArrT Try.prog 25 22 12 (.int .u16 0) := arrT_of Try.underlying25 (by kernel_rfl) tU16
theorem tRaw : ArrT Try.prog 23 22 12 (.int .u16 0) := arrT_of Try.underlying23 (by kernel_rfl) tU16
theorem tFrB : Try.prog.built 25 [] = some (frv zf).toArray := by kernel_rfl
theorem tDot : AggT Try.prog 46 2 [.int .i8 0, .int .i8 0] := aggT_of Try.underlying46 rfl (by kernel_rfl)
theorem tLDot : AggT Try.prog 50 2 [.int .i8 0, .int .i8 0] := aggT_of Try.underlying50 rfl (by kernel_rfl)
theorem tDotS : SlcT Try.prog 32 46 2 2 [.int .i8 0, .int .i8 0] := slcT_of Try.underlying32 (.agg #[.int .i8 0, .int .i8 0]) (by kernel_rfl) rfl (by decide) rfl
theorem tLDotS : SlcT Try.prog 28 50 2 2 [.int .i8 0, .int .i8 0] := slcT_of Try.underlying28 (.agg #[.int .i8 0, .int .i8 0]) (by kernel_rfl) rfl (by decide) rfl
theorem tU16S : SlcT Try.prog 60 22 1 2 [.int .u16 0] := slcT_of Try.underlying60 (.int .u16 0) (by kernel_rfl) rfl (by decide) rfl
theorem tStrS : SlcT Try.prog 53 9 1 16 [.string ⟨#[]⟩] := slcT_of Try.underlying53 (.string ⟨#[]⟩) (by kernel_rfl) rfl (by decide) rfl
end Go.Proofs.Ytdpjeccnnpjchaa
