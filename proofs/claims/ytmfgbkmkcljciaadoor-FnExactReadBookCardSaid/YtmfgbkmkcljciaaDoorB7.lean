/- Dots carried over: mirrored, turned, rolled; no condition. -/
import Derived.Test.YtmfgbkmkcljciaaDoorB3
import Derived.Test.YtmfgbkmkcljciaaDoorB5
namespace Go.Proofs.YtmfgbkmkcljciaaDoor
open Go.RowKit
set_option linter.unusedSimpArgs false
set_option linter.unusedVariables false

/-! ### Numbers and fields -/
section
variable {P : Program} {T : TypeId}
theorem run_sub64 {a b : Int} (h0 : -9223372036854775808 ≤ a - b) (h1 : a - b ≤ 9223372036854775807) (w : World) : (binOp .sub T (.int .i64 a) (.int .i64 b)).run P w = .ok (.int .i64 (a - b)) w := by
  have e := IntWalk.i64_in (a - b) ⟨h0, h1⟩
  go_simp
theorem run_add64 {a b : Int} (h0 : -9223372036854775808 ≤ a + b) (h1 : a + b ≤ 9223372036854775807) (w : World) : (binOp .add T (.int .i64 a) (.int .i64 b)).run P w = .ok (.int .i64 (a + b)) w := by
  have e := IntWalk.i64_in (a + b) ⟨h0, h1⟩
  go_simp
end
/-! ### Dots, one after the other -/
theorem dot_mem {f : List Nat} {i : Nat} (hi : i < (dots f).length) : ((dots f).getD i (0, 0)).1 < 12 ∧ ((dots f).getD i (0, 0)).2 < 12 := by
  have h : (dots f).getD i (0, 0) ∈ dots f := by
    rw [List.getD_eq_getElem?_getD, List.getElem?_eq_getElem hi]; exact List.getElem_mem hi
  have := mem_dots.1 h
  exact ⟨this.1, this.2.1⟩
theorem dots_length (f : List Nat) : (dots f).length ≤ 144 := dotsTo_length f 144
theorem dot_get0 {l : List (Nat × Nat)} {spare : List Value} {i : Nat} (hi : i < l.length) : (dtv l ++ spare)[0 + i * 2 + 0]? = some (.int .i8 ((l.getD i (0, 0)).1 : Int)) := by
  rw [Nat.zero_add, Nat.add_zero, List.getElem?_append_left (by rw [dtv_length]; omega)]; exact (dtv_get l i hi).1
theorem dot_get1 {l : List (Nat × Nat)} {spare : List Value} {i : Nat} (hi : i < l.length) : (dtv l ++ spare)[0 + i * 2 + 1]? = some (.int .i8 ((l.getD i (0, 0)).2 : Int)) := by
  rw [Nat.zero_add, List.getElem?_append_left (by rw [dtv_length]; omega)]; exact (dtv_get l i hi).2
theorem putAll_frOk (l : List (Int × Int)) : FrOk (putAll l) := mk_frOk _
theorem putAll_length (l : List (Int × Int)) : (putAll l).length = 12 := mk_length _
theorem putI_putAll (l : List (Int × Int)) (x y : Int) : putI (putAll l) x y = putAll (l ++ [(x, y)]) := by
  unfold putI
  by_cases hp : placeB x y = true
  · rw [if_pos hp]
    obtain ⟨h1, h2, h3, h4⟩ := placeB_iff.1 hp
    rw [putAll_in l (by omega) (by omega), Int.toNat_of_nonneg h1, Int.toNat_of_nonneg h3]
  · rw [if_neg hp]
    exact putAll_out l fun h => hp (placeB_iff.2 h)
/-- The first k dots, carried over by t. -/
def over (t : Nat × Nat → Int × Int) (f : List Nat) (k : Nat) : List Nat := putAll (((dots f).take k).map t)
theorem over_zero (t : Nat × Nat → Int × Int) (f : List Nat) : over t f 0 = zf := putAll_nil
theorem over_frOk (t : Nat × Nat → Int × Int) (f : List Nat) (k : Nat) : FrOk (over t f k) := putAll_frOk _
theorem over_length (t : Nat × Nat → Int × Int) (f : List Nat) (k : Nat) : (over t f k).length = 12 := by unfold over putAll; exact mk_length _
theorem over_step (t : Nat × Nat → Int × Int) (f : List Nat) {k : Nat} (hk : k < (dots f).length) : putI (over t f k) (t ((dots f).getD k (0, 0))).1 (t ((dots f).getD k (0, 0))).2 = over t f (k + 1) := by
  unfold over
  rw [putI_putAll, List.take_succ_eq_append_getElem hk, List.map_append, List.getD_eq_getElem?_getD, List.getElem?_eq_getElem hk]
  rfl
theorem over_all (t : Nat × Nat → Int × Int) (f : List Nat) (p : Nat → Nat → Bool) (h : ∀ x y, x < 12 → y < 12 → (p x y = true ↔ ∃ x' y', x' < 12 ∧ y' < 12 ∧ hasD f x' y' = true ∧ t (x', y') = ((x : Int), (y : Int)))) : over t f (dots f).length = mk p := by
  unfold over putAll
  rw [List.take_of_length_le (Nat.le_refl _)]
  refine mk_congr fun x y hx hy => ?_
  rw [Bool.eq_iff_iff, List.any_map, any_dots, h x y hx hy]
  constructor
  · rintro ⟨x', y', h1, h2, h3, h4⟩
    exact ⟨x', y', h1, h2, h3, by simp at h4; exact Prod.ext h4.1 h4.2⟩
  · rintro ⟨x', y', h1, h2, h3, h4⟩
    exact ⟨x', y', h1, h2, h3, by simp [h4]⟩

theorem dot_at {f : List Nat} {k : Nat} (hk : k < (dots f).length) : ∃ dx dy : Nat, dx < 12 ∧ dy < 12 ∧ (∀ spare : List Value, (dtv (dots f) ++ spare)[0 + k * 2 + 0]? = some (.int .i8 (dx : Int))) ∧
    (∀ spare : List Value, (dtv (dots f) ++ spare)[0 + k * 2 + 1]? = some (.int .i8 (dy : Int))) ∧ ∀ t : Nat × Nat → Int × Int, putI (over t f k) (t (dx, dy)).1 (t (dx, dy)).2 = over t f (k + 1) :=
  ⟨((dots f).getD k (0, 0)).1, ((dots f).getD k (0, 0)).2, (dot_mem hk).1, (dot_mem hk).2, fun _ => dot_get0 hk, fun _ => dot_get1 hk, fun t => over_step t f hk⟩
/-! ### Mirrored and turned -/
def mirP (f : List Nat) (x y : Nat) : Bool := hasI f (11 - (x : Int)) y
def trnP (f : List Nat) (x y : Nat) : Bool := hasI f y (11 - (x : Int))
def mirT (d : Nat × Nat) : Int × Int := (11 - (d.1 : Int), d.2)
def trnT (d : Nat × Nat) : Int × Int := (11 - (d.2 : Int), d.1)
theorem hasI_in {f : List Nat} {x y : Int} : hasI f x y = true ↔ 0 ≤ x ∧ x < 12 ∧ 0 ≤ y ∧ y < 12 ∧ hasD f x.toNat y.toNat = true := by
  constructor
  · intro h
    have hp : placeB x y = true := by
      rcases Bool.eq_false_or_eq_true (placeB x y) with hp | hp
      · exact hp
      · rw [hasI_no f hp] at h; cases h
    obtain ⟨h1, h2, h3, h4⟩ := placeB_iff.1 hp
    refine ⟨h1, h2, h3, h4, ?_⟩
    rw [← hasI_nat, Int.toNat_of_nonneg h1, Int.toNat_of_nonneg h3]; exact h
  · rintro ⟨h1, h2, h3, h4, h5⟩
    rw [← hasI_nat, Int.toNat_of_nonneg h1, Int.toNat_of_nonneg h3] at h5; exact h5
theorem mir_all (f : List Nat) : over mirT f (dots f).length = mk (mirP f) := over_all _ _ _ fun x y hx hy => by
  unfold mirP
  rw [hasI_in]
  constructor
  · rintro ⟨h1, h2, h3, h4, h5⟩
    exact ⟨_, _, by omega, by omega, h5, by simp [mirT]; omega⟩
  · rintro ⟨x', y', h1, h2, h3, h4⟩
    simp only [mirT, Prod.mk.injEq] at h4
    obtain ⟨h4, h5⟩ := h4
    refine ⟨by omega, by omega, by omega, by omega, ?_⟩
    rw [show (11 - (x : Int)).toNat = x' by omega, show ((y : Int)).toNat = y' by omega]; exact h3
theorem trn_all (f : List Nat) : over trnT f (dots f).length = mk (trnP f) := over_all _ _ _ fun x y hx hy => by
  unfold trnP
  rw [hasI_in]
  constructor
  · rintro ⟨h1, h2, h3, h4, h5⟩
    exact ⟨_, _, by omega, by omega, h5, by simp [trnT]; omega⟩
  · rintro ⟨x', y', h1, h2, h3, h4⟩
    simp only [trnT, Prod.mk.injEq] at h4
    obtain ⟨h4, h5⟩ := h4
    refine ⟨by omega, by omega, by omega, by omega, ?_⟩
    rw [show (11 - (x : Int)).toNat = y' by omega, show ((y : Int)).toNat = x' by omega]; exact h3
/-- What a function on one frame answers that carries its dots over. -/
def ovR (p : List Nat → Nat → Nat → Bool) (f : List Nat) : List Nat := if okB f = true then mk (p f) else zf
theorem ovR_ok {p : List Nat → Nat → Nat → Bool} {f : List Nat} (ok : FrOk f) : FrOk (ovR p f) := by
  unfold ovR
  split
  · exact mk_frOk _
  · exact zf_ok

end Go.Proofs.YtmfgbkmkcljciaaDoor
