/- Frames with some dots turned over, by plain mathematics; no condition. -/
import Derived.Test.YtmndbmapepenjaaB10
namespace Go.Proofs.Ytmndbmapepenjaa
open Go.RowKit
set_option linter.unusedSimpArgs false
set_option linter.unusedVariables false
/-- One place is turned over. -/
def tog (f : List Nat) (d : Nat × Nat) : List Nat := f.set d.2 (ro f d.2 ^^^ 2 ^ d.1)
/-- Some are. -/
def togs (f : List Nat) (l : List (Nat × Nat)) : List Nat := l.foldl tog f
theorem togs_snoc (f : List Nat) (l : List (Nat × Nat)) (d : Nat × Nat) : togs f (l ++ [d]) = tog (togs f l) d := by simp [togs]
theorem tog_ok {f : List Nat} (ok : FrOk f) {d : Nat × Nat} (h : d.1 < 12) : FrOk (tog f d) := by
  refine ⟨by simp [tog, ok.len], fun x hx => ?_⟩
  unfold tog at hx
  rcases List.mem_or_eq_of_mem_set hx with hx | rfl
  · exact ok.lt x hx
  · exact Nat.xor_lt_two_pow (n := 16) (ok.ro_lt _) (two_pow_lt h)
theorem togs_ok {f : List Nat} (ok : FrOk f) : ∀ {l : List (Nat × Nat)}, (∀ d ∈ l, d.1 < 12) → FrOk (togs f l) := by
  intro l
  induction l generalizing f with
  | nil => intro _; exact ok
  | cons d l ih => intro h; exact ih (tog_ok ok (h d (by simp))) (fun d' hd => h d' (by simp [hd]))
theorem hasD_tog {f : List Nat} (hl : f.length = 12) {d : Nat × Nat} {x y : Nat} (hx : x < 12) (hy : y < 12) (hd : d.2 < 12) (h : d ≠ (x, y)) : hasD (tog f d) x y = hasD f x y := by
  rw [hasD_in _ hx hy, hasD_in _ hx hy, tog, ro_set _ _ _ _ (by omega)]
  by_cases e : y = d.2
  · rw [if_pos e, ← e, Nat.testBit_xor, Nat.testBit_two_pow]
    have : d.1 ≠ x := fun e1 => h (Prod.ext e1 e.symm)
    simp [this]
  · rw [if_neg e]
theorem hasD_togs {f : List Nat} (ok : FrOk f) {x y : Nat} (hx : x < 12) (hy : y < 12) : ∀ {l : List (Nat × Nat)}, (∀ d ∈ l, d.1 < 12 ∧ d.2 < 12) → (x, y) ∉ l → hasD (togs f l) x y = hasD f x y := by
  intro l
  induction l generalizing f with
  | nil => intro _ _; rfl
  | cons d l ih =>
    intro h hn
    have h0 := h d (by simp)
    simp only [List.mem_cons, not_or] at hn
    exact (ih (tog_ok ok h0.1) (fun d' hd => h d' (by simp [hd])) hn.2).trans (hasD_tog ok.len hx hy h0.2 (fun e => hn.1 e.symm))
theorem hasD_xor {f g : List Nat} {x y : Nat} (hx : x < 12) (hy : y < 12) : hasD (mixR (fun a b => a ^^^ b) f g) x y = (hasD f x y != hasD g x y) := by
  rw [hasD_in _ hx hy, hasD_in _ hx hy, hasD_in _ hx hy]
  unfold mixR
  rw [ro_rowsOf _ _ hy, Nat.testBit_xor]
theorem dotsTo_mem {f : List Nat} {n : Nat} (hn : n ≤ 144) {d : Nat × Nat} (h : d ∈ dotsTo f n) : (d.1 < 12 ∧ d.2 < 12) ∧ 12 * d.2 + d.1 < n := by
  unfold dotsTo at h
  obtain ⟨i, hi, rfl⟩ := List.mem_map.1 h
  have := List.mem_range.1 (List.mem_filter.1 hi).1
  refine ⟨⟨by simp only; omega, by simp only; omega⟩, by simp only; omega⟩
theorem dotsTo_pre (f : List Nat) {a b : Nat} (h : a ≤ b) : ∃ l, dotsTo f b = dotsTo f a ++ l := by
  refine ⟨(((List.range (b - a)).map (a + ·)).filter fun i => hasD f (i % 12) (i / 12)).map fun i => (i % 12, i / 12), ?_⟩
  unfold dotsTo
  rw [← List.map_append, ← List.filter_append]
  congr 2
  rw [show b = a + (b - a) by omega, List.range_add]; simp
theorem dotsTo_take (f : List Nat) {a b L : Nat} (h : a ≤ b) (hL : L ≤ (dotsTo f a).length) : (dotsTo f b).take L = (dotsTo f a).take L := by
  obtain ⟨l, e⟩ := dotsTo_pre f h
  rw [e, List.take_append_of_le_length hL]
/-- What stands when the cells below c have been looked at, with L to be turned over at most. -/
def mst (f d : List Nat) (L c : Nat) : List Nat := togs f ((dotsTo d c).take L)
theorem mst_ok {f : List Nat} (ok : FrOk f) (d : List Nat) (L : Nat) {c : Nat} (hc : c ≤ 144) : FrOk (mst f d L c) :=
  togs_ok ok fun e he => (dotsTo_mem hc (List.mem_of_mem_take he)).1.1
theorem mst_0 (f d : List Nat) (L : Nat) : mst f d L 0 = f := by simp [mst, dotsTo, togs]
theorem mst_hasD {f : List Nat} (ok : FrOk f) (d : List Nat) (L : Nat) {x y : Nat} (hx : x < 12) (hy : y < 12) : hasD (mst f d L (12 * y + x)) x y = hasD f x y := by
  refine hasD_togs ok hx hy (fun e he => (dotsTo_mem (by omega) (List.mem_of_mem_take he)).1) fun h => ?_
  have := (dotsTo_mem (f := d) (n := 12 * y + x) (by omega) (List.mem_of_mem_take h)).2
  simp only at this
  omega
theorem mst_hit (f : List Nat) {d : List Nat} {L x y : Nat} (hx : x < 12) (hL : (dotsTo d (12 * y + x)).length < L) (h : hasD d x y = true) : mst f d L (12 * y + (x + 1)) = tog (mst f d L (12 * y + x)) (x, y) := by
  unfold mst
  rw [dotsTo_hit d hx h, List.take_of_length_le (by rw [List.length_append]; simp; omega), List.take_of_length_le (by omega), togs_snoc]
theorem mst_miss (f : List Nat) {d : List Nat} {L x y : Nat} (hx : x < 12) (h : hasD d x y = false) : mst f d L (12 * y + (x + 1)) = mst f d L (12 * y + x) := by
  unfold mst
  rw [dotsTo_miss d hx h]
theorem mst_end (f : List Nat) {d : List Nat} {L a b : Nat} (h : a ≤ b) (hL : L ≤ (dotsTo d a).length) : mst f d L b = mst f d L a := by
  unfold mst
  rw [dotsTo_take d h hL]
theorem mst_all (f d : List Nat) (L : Nat) : mst f d L 144 = togs f ((dots d).take L) := rfl
theorem take_snocD {l : List (Nat × Nat)} {k : Nat} (hk : k < l.length) : l.take (k + 1) = l.take k ++ [l.getD k (0, 0)] := by
  rw [List.take_succ_eq_append_getElem hk, List.getD_eq_getElem?_getD, List.getElem?_eq_getElem hk]; rfl
end Go.Proofs.Ytmndbmapepenjaa
