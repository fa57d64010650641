/- Strings letter by letter and in parts: rules of the walk; no condition. -/
import Derived.Test.YtmfgbkmkcljciaaDoorAuto
import Derived.Laws.Strings2
import Derived.Laws.Strings3
import Derived.Laws.Strings
namespace Go.Proofs.YtmfgbkmkcljciaaDoor
open Go.RowKit
set_option linter.unusedSimpArgs false
set_option linter.unusedVariables false
theorem bytes_ext {a b : ByteArray} (h : a.data = b.data) : a = b := by cases a; cases b; simp at h; rw [h]
theorem ext_l (l : List UInt8) (a b : Nat) : (⟨l.toArray⟩ : ByteArray).extract a b = ⟨((l.drop a).take (b - a)).toArray⟩ := by
  apply bytes_ext
  rw [ByteArray.data_extract]
  simp [List.extract_eq_take_drop]
theorem size_l (l : List UInt8) : (⟨l.toArray⟩ : ByteArray).size = l.length := rfl
section
variable {P : Program} {ops : Array Oper} {rest : List Oper} {o : Oper} {a : Act} {w : World} {Q : Exit → Act → World → Prop} {T : TypeId} {x ix il ih : Operand} {l : List UInt8} {K K' : IntKind} {k i j : Nat}
theorem gate_ind {i : Operand} (_ho : o.op = .index T x i) (h : wpList P ops Q (o :: rest) a w) : wpList P ops Q (o :: rest) a w := h
theorem gate_scut {l h m : Option Operand} (_ho : o.op = .slice T x l h m) (hh : wpList P ops Q (o :: rest) a w) : wpList P ops Q (o :: rest) a w := hh
theorem index_l (hu : P.underlying T = some .string) (hk : k < l.length) (w : World) : (Instr.index T (.string ⟨l.toArray⟩) (.int K k)).run P w = .ok (.int .u8 ((l.getD k 0).toNat : Nat)) w := by
  have hk' : ((k : Nat) : Int) < ((⟨l.toArray⟩ : ByteArray).size : Nat) := by rw [size_l]; omega
  rw [run_index_string w T ⟨l.toArray⟩ K k hu, dif_pos ⟨by omega, hk'⟩]
  have e : (⟨l.toArray⟩ : ByteArray)[((k : Nat) : Int).toNat]'(by rw [Int.toNat_natCast]; exact hk) = l.getD k 0 := by
    rw [List.getD_eq_getElem?_getD, List.getElem?_eq_getElem hk]
    rfl
  rw [e]
theorem ia_sidx (hgd : o.guard = none) (ho : o.op = .index T x ix) (hx : a.eval x = .string ⟨l.toArray⟩) (hi : a.eval ix = .int K k) (hu : P.underlying T = some .string) (hk : k < l.length)
    (h : wpList P ops Q rest (a.put o.dst (.int .u8 ((l.getD k 0).toNat : Nat))) w) : wpList P ops Q (o :: rest) a w :=
  wpl_val hgd _ (by
    unfold execOp
    simp only [ho, hx, hi, Sem.run_bind, Sem.run_pure, Result.andThen_ok, index_l hu hk]) h
theorem ia_scut (hgd : o.guard = none) (ho : o.op = .slice T x (some il) (some ih) none) (hx : a.eval x = .string ⟨l.toArray⟩) (hil : a.eval il = .int K i) (hih : a.eval ih = .int K' j) (hu : P.underlying T = some .string) (h1 : i ≤ j) (h2 : j ≤ l.length)
    (h : wpList P ops Q rest (a.put o.dst (.string ⟨((l.drop i).take (j - i)).toArray⟩)) w) : wpList P ops Q (o :: rest) a w := by
  have hr := run_slice_string (P := P) (w := w) T ⟨l.toArray⟩ K K' (i : Nat) (j : Nat) hu (by omega) (by omega) (by rw [size_l]; omega)
  rw [Int.toNat_natCast, Int.toNat_natCast, ext_l] at hr
  exact wpl_val hgd _ (by
    unfold execOp
    simp only [ho, hx, hil, hih, Instr.sliceAt, Sem.run_bind, Sem.run_pure, Result.andThen_ok, Option.map_some, Option.map_none, run_underlying hu, hr]) h
theorem ia_scutF (hgd : o.guard = none) (ho : o.op = .slice T x (some il) none none) (hx : a.eval x = .string ⟨l.toArray⟩) (hil : a.eval il = .int K i) (hu : P.underlying T = some .string) (h1 : i ≤ l.length)
    (h : wpList P ops Q rest (a.put o.dst (.string ⟨(l.drop i).toArray⟩)) w) : wpList P ops Q (o :: rest) a w := by
  have hr := run_slice_string_from_if (P := P) (w := w) T ⟨l.toArray⟩ K (i : Nat) hu
  rw [if_pos ⟨by omega, by rw [size_l]; omega⟩, Int.toNat_natCast, ext_l, size_l, List.take_of_length_le (by rw [List.length_drop]; omega)] at hr
  exact wpl_val hgd _ (by
    unfold execOp
    simp only [ho, hx, hil, Instr.sliceAt, Sem.run_bind, Sem.run_pure, Result.andThen_ok, Option.map_some, Option.map_none, run_underlying hu, hr]) h
end
end Go.Proofs.YtmfgbkmkcljciaaDoor
