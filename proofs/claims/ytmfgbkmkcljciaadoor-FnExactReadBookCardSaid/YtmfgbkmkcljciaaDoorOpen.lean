/- How the arguments of a law are read: arrays of numbers, and slices of arrays and structs; no condition. -/
import Derived.Test.YtmfgbkmkcljciaaDoorTy
import Derived.ProofKit
import Derived.OpenShut
import Derived.SizedLaws
namespace Go.Proofs.YtmfgbkmkcljciaaDoor
open Go.RowKit Go.ChangeShapes Go.WideShapes

theorem okWide_array {P : Program} {w : World} {r : Reach} {base : Nat} {t e : TypeId} {n : Nat} {v : Value} (ht : P.underlying t = some (.array n e)) (h : Value.okWide P w r base t v) : ∃ cs, v = .agg cs ∧ cs.size = P.cellsOf t := by
  simp only [Value.okWide, ht] at h
  obtain ⟨cs, h1, h2, _⟩ := h
  exact ⟨cs, h1, h2⟩
section
variable {H : Type} {enc : TypeId × Value → H} {P : Program} {w : World} {base : Nat} {spare : Nat → Bool} {held : Bool} {t e : TypeId}
theorem u16_of_wf {n : Int} (h : (Lit.int .u16 n).wf = true) : 0 ≤ n ∧ n < 65536 := by
  simp [Lit.wf, IntKind.min, IntKind.max, IntKind.signed, IntKind.bits] at h; omega
/-- Twelve cells of 16 bits. -/
theorem frame_cells {fuel : Nat} {cs : List Value} {x : DataW H × List MemPlace} (ht : P.underlying t = some (.array 12 e)) (he : P.underlying e = some (.int .u16)) (hce : P.cellsOf e = 1) (hct : P.cellsOf t = 12)
    (h : DataW.trod enc P w base spare held fuel t cs = some x) : ∃ f : List Nat, FrOk f ∧ cs = frv f ∧ x.2 = [] := by
  obtain ⟨xs, m, _, rfl, hl, hxs, hx⟩ := DataW.trod_array ht h
  rw [hct] at hl
  have each : ∀ i, i < 12 → ∃ n : Nat, n < 65536 ∧ cs[i]? = some (.int .u16 (n : Int)) ∧ (xs[i]?.map (·.2)) = some [] := by
    intro i hi
    have h1 := hx i hi
    rw [hce, Nat.mul_one] at h1
    cases hxi : xs[i]? with
    | none => rw [List.getElem?_eq_none_iff] at hxi; omega
    | some y =>
      rw [hxi] at h1
      obtain ⟨n, e0, hy, wn⟩ := DataW.trod_int he h1
      have hb := u16_of_wf wn
      have hlt : i < cs.length := by omega
      rw [List.drop_eq_getElem_cons hlt] at e0
      simp only [List.take_succ_cons, List.take_zero, List.cons.injEq, and_true] at e0
      refine ⟨n.toNat, by omega, ?_, ?_⟩
      · rw [List.getElem?_eq_getElem hlt, e0, Int.toNat_of_nonneg hb.1]
      · subst hy; rfl
  have hex : ∃ f : List Nat, f.length = 12 ∧ ∀ i, i < 12 → ∃ n : Nat, f[i]? = some n ∧ n < 65536 ∧ cs[i]? = some (.int .u16 (n : Int)) := by
    refine ⟨(List.range 12).map fun i => if h : i < 12 then (each i h).choose else 0, by simp, fun i hi => ?_⟩
    refine ⟨(each i hi).choose, ?_, (each i hi).choose_spec.1, (each i hi).choose_spec.2.1⟩
    rw [List.getElem?_map, List.getElem?_range hi]
    simp [hi]
  obtain ⟨f, hfl, hf⟩ := hex
  refine ⟨f, ⟨hfl, fun x hx => ?_⟩, ?_, ?_⟩
  · obtain ⟨i, hi, rfl⟩ := List.mem_iff_getElem.1 hx
    obtain ⟨n, e1, h2, _⟩ := hf i (by omega)
    rw [List.getElem?_eq_getElem hi] at e1
    injection e1 with e1; rw [e1]; exact h2
  · apply List.ext_getElem?
    intro i
    by_cases hi : i < 12
    · obtain ⟨n, e1, _, e2⟩ := hf i hi
      rw [e2, frv, List.getElem?_map, e1]; rfl
    · rw [List.getElem?_eq_none (by omega), List.getElem?_eq_none (by rw [frv_length]; omega)]
  · simp only
    rw [List.flatMap_eq_nil_iff]
    intro y hy
    obtain ⟨i, hi, rfl⟩ := List.mem_iff_getElem.1 hy
    obtain ⟨n, _, _, e3⟩ := each i (by omega)
    rw [List.getElem?_eq_getElem hi] at e3
    simpa using e3
theorem open_frame {r : Reach} {b0 : Nat} {v : Value} {d : DataW H} {ps : List MemPlace} (ht : P.underlying t = some (.array 12 e)) (he : P.underlying e = some (.int .u16)) (hce : P.cellsOf e = 1) (hct : P.cellsOf t = 12)
    (hval : Value.okWide P w r b0 t v) (hd : DataW.Trod enc P w base spare held t v d ps) : ∃ f : List Nat, FrOk f ∧ v = .agg (frv f).toArray ∧ ps = [] := by
  obtain ⟨cs, rfl, hs⟩ := okWide_array ht hval
  obtain ⟨fuel, hf⟩ := hd
  obtain ⟨f, hok, e1, e2⟩ := frame_cells ht he hce hct hf
  refine ⟨f, hok, ?_, e2⟩
  simp only [Value.cells] at e1
  rw [← e1]
end
end Go.Proofs.YtmfgbkmkcljciaaDoor
