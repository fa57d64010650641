/- Frames of dots as lists of twelve numbers, by plain mathematics; no condition. -/
import Derived.WalkKit
import Derived.Laws.BitsLemmas
namespace Go.Proofs.YtmfgbkmkcljciaaDoor
open Go.RowKit

/-- Row y. -/
def ro (f : List Nat) (y : Nat) : Nat := f.getD y 0
theorem ro_get (f : List Nat) (k : Nat) (h : k < f.length) : ro f k = f[k] := by simp [ro, h]
theorem ro_some (f : List Nat) (k : Nat) (h : k < f.length) : f[k]? = some (ro f k) := by rw [ro_get f k h, List.getElem?_eq_getElem h]
/-- The empty frame. -/
def zf : List Nat := List.replicate 12 0
theorem zf_length : zf.length = 12 := rfl
/-- A list of twelve numbers of 16 bits. -/
structure FrOk (f : List Nat) : Prop where
  len : f.length = 12
  lt : ∀ x ∈ f, x < 65536
theorem FrOk.ro_lt {f : List Nat} (h : FrOk f) (y : Nat) : ro f y < 65536 := by
  unfold ro
  rw [List.getD_eq_getElem?_getD]
  by_cases hy : y < f.length
  · rw [List.getElem?_eq_getElem hy]; exact h.lt _ (List.getElem_mem hy)
  · rw [List.getElem?_eq_none (by omega)]; decide
/-- The frame is valid. -/
def okB (f : List Nat) : Bool := f.all fun r => decide (r ≤ 4095)
theorem okB_ro {f : List Nat} (h : okB f = true) (y : Nat) : ro f y < 4096 := by
  unfold ro
  rw [List.getD_eq_getElem?_getD]
  by_cases hy : y < f.length
  · rw [List.getElem?_eq_getElem hy]
    have := List.all_eq_true.1 h _ (List.getElem_mem hy)
    simp at this ⊢; omega
  · rw [List.getElem?_eq_none (by omega)]; decide
theorem okB_of {f : List Nat} (h : ∀ y, y < f.length → ro f y ≤ 4095) : okB f = true := by
  unfold okB
  rw [List.all_eq_true]
  intro x hx
  obtain ⟨i, hi, rfl⟩ := List.mem_iff_getElem.1 hx
  have := h i hi
  rw [ro_get f i hi] at this
  simpa using this
theorem okB_not {f : List Nat} {y : Nat} (h : 4095 < ro f y) : okB f = false := by
  rw [Bool.eq_false_iff]
  intro hb
  have := okB_ro hb y
  omega

theorem fr_ext {f g : List Nat} (hf : f.length = 12) (hg : g.length = 12) (h : ∀ y, y < 12 → ro f y = ro g y) : f = g := by
  apply List.ext_getElem (by omega)
  intro i h1 h2
  have := h i (by omega)
  rwa [ro_get f i h1, ro_get g i h2] at this
theorem ro_set (f : List Nat) (k n y : Nat) (hk : k < f.length) : ro (f.set k n) y = if y = k then n else ro f y := by
  unfold ro
  simp only [List.getD_eq_getElem?_getD, List.getElem?_set]
  by_cases e : y = k
  · subst e; simp [hk]
  · rw [if_neg (fun h => e h.symm), if_neg e]

/-- The row of a test: its bits below n. -/
def rowOf (q : Nat → Bool) : Nat → Nat
  | 0 => 0
  | n + 1 => rowOf q n ||| (if q n then 2 ^ n else 0)
theorem testBit_rowOf (q : Nat → Bool) (n x : Nat) : (rowOf q n).testBit x = (decide (x < n) && q x) := by
  induction n with
  | zero => simp [rowOf]
  | succ n ih =>
    rw [rowOf, Nat.testBit_or, ih]
    by_cases hx : x = n
    · subst hx
      by_cases hq : q x <;> simp [hq]
    · by_cases hq : q n
      · rw [if_pos hq, Nat.testBit_two_pow]
        by_cases h1 : x < n
        · simp [h1, show x < n + 1 by omega, show ¬ n = x by omega]
        · simp [h1, show ¬ x < n + 1 by omega]; omega
      · simp only [hq, Bool.false_eq_true, if_false, Nat.zero_testBit, Bool.or_false]
        by_cases h1 : x < n
        · simp [h1, show x < n + 1 by omega]
        · simp [h1, show ¬ x < n + 1 by omega]
theorem rowOf_lt (q : Nat → Bool) (n : Nat) : rowOf q n < 2 ^ n := by
  apply Nat.lt_pow_two_of_testBit
  intro i hi
  rw [testBit_rowOf]
  simp; omega
/-- The frame that has a dot wherever p is true. -/
def mk (p : Nat → Nat → Bool) : List Nat := (List.range 12).map fun y => rowOf (fun x => p x y) 12
theorem mk_length (p : Nat → Nat → Bool) : (mk p).length = 12 := by simp [mk]
theorem ro_mk (p : Nat → Nat → Bool) (y : Nat) (hy : y < 12) : ro (mk p) y = rowOf (fun x => p x y) 12 := by
  rw [ro_get _ _ (by rw [mk_length]; exact hy)]; simp [mk]
theorem mk_ok (p : Nat → Nat → Bool) : okB (mk p) = true := by
  apply okB_of
  intro y hy
  rw [mk_length] at hy
  rw [ro_mk p y hy]
  have := rowOf_lt (fun x => p x y) 12
  omega
theorem mk_frOk (p : Nat → Nat → Bool) : FrOk (mk p) := ⟨mk_length p, fun x hx => by
  obtain ⟨y, _, rfl⟩ := List.mem_map.1 hx
  have := rowOf_lt (fun x => p x y) 12
  omega⟩
theorem row_ext {a b : Nat} (ha : a < 4096) (hb : b < 4096) (h : ∀ x, x < 12 → a.testBit x = b.testBit x) : a = b := by
  apply Nat.eq_of_testBit_eq
  intro i
  by_cases hi : i < 12
  · exact h i hi
  · have e : 2 ^ 12 ≤ 2 ^ i := Nat.pow_le_pow_right (by omega) (by omega)
    rw [Nat.testBit_lt_two_pow (by omega), Nat.testBit_lt_two_pow (by omega)]
theorem mk_congr {p q : Nat → Nat → Bool} (h : ∀ x y, x < 12 → y < 12 → p x y = q x y) : mk p = mk q := by
  refine fr_ext (mk_length p) (mk_length q) fun y hy => ?_
  rw [ro_mk p y hy, ro_mk q y hy]
  refine row_ext (rowOf_lt _ 12) (rowOf_lt _ 12) fun x hx => ?_
  rw [testBit_rowOf, testBit_rowOf, h x y hx hy]

/-- There is a dot at x, y. -/
def hasD (f : List Nat) (x y : Nat) : Bool := decide (x < 12) && decide (y < 12) && (ro f y).testBit x
def hasI (f : List Nat) (x y : Int) : Bool := decide (0 ≤ x ∧ x < 12 ∧ 0 ≤ y ∧ y < 12) && (ro f y.toNat).testBit x.toNat
theorem hasI_nat (f : List Nat) (x y : Nat) : hasI f x y = hasD f x y := by
  unfold hasI hasD
  simp only [Int.toNat_natCast]
  congr 1
  by_cases h1 : x < 12 <;> by_cases h2 : y < 12 <;> simp [h1, h2] <;> omega
theorem hasD_in (f : List Nat) {x y : Nat} (hx : x < 12) (hy : y < 12) : hasD f x y = (ro f y).testBit x := by simp [hasD, hx, hy]
theorem hasD_mk (p : Nat → Nat → Bool) {x y : Nat} (hx : x < 12) (hy : y < 12) : hasD (mk p) x y = p x y := by
  rw [hasD_in _ hx hy, ro_mk p y hy, testBit_rowOf]; simp [hx]
theorem mk_hasD {f : List Nat} (hl : f.length = 12) (hf : okB f = true) : mk (hasD f) = f := by
  refine fr_ext (mk_length _) hl fun y hy => ?_
  rw [ro_mk _ y hy]
  refine row_ext (rowOf_lt _ 12) (okB_ro hf y) fun x hx => ?_
  rw [testBit_rowOf]; simp [hasD, hx, hy]
theorem fr_eq_mk {f : List Nat} {p : Nat → Nat → Bool} (hl : f.length = 12) (hf : okB f = true) (h : ∀ x y, x < 12 → y < 12 → hasD f x y = p x y) : f = mk p := by
  rw [← mk_hasD hl hf]; exact mk_congr h

/-- A dot is put. -/
def withD (f : List Nat) (x y : Nat) : List Nat := f.set y (ro f y ||| 2 ^ x)
theorem withD_length (f : List Nat) (x y : Nat) : (withD f x y).length = f.length := by simp [withD]
theorem hasD_withD (f : List Nat) (hl : f.length = 12) {x y x' y' : Nat} (hy : y < 12) (hx' : x' < 12) (hy' : y' < 12) :
    hasD (withD f x y) x' y' = (hasD f x' y' || (decide (x' = x) && decide (y' = y))) := by
  rw [hasD_in _ hx' hy', hasD_in _ hx' hy', withD, ro_set _ _ _ _ (by omega)]
  by_cases e : y' = y
  · subst e
    rw [if_pos rfl, Nat.testBit_or, Nat.testBit_two_pow]
    by_cases e2 : x' = x
    · simp [e2]
    · simp [e2]; omega
  · simp [e]
theorem withD_ok {f : List Nat} (hl : f.length = 12) (hf : okB f = true) {x y : Nat} (hx : x < 12) (hy : y < 12) : okB (withD f x y) = true := by
  apply okB_of
  intro k hk
  rw [withD, ro_set _ _ _ _ (by omega)]
  have h1 := okB_ro hf y
  have h2 := okB_ro hf k
  have h3 : ro f y ||| 2 ^ x < 2 ^ 12 := Nat.or_lt_two_pow (by omega) (Nat.pow_lt_pow_right (by omega) hx)
  split <;> omega
theorem withD_mk (p : Nat → Nat → Bool) {x y : Nat} (hx : x < 12) (hy : y < 12) : withD (mk p) x y = mk fun x' y' => p x' y' || (decide (x' = x) && decide (y' = y)) := by
  refine fr_eq_mk (by rw [withD_length, mk_length]) (withD_ok (mk_length p) (mk_ok p) hx hy) fun x' y' hx' hy' => ?_
  rw [hasD_withD _ (mk_length p) hy hx' hy', hasD_mk p hx' hy']

/-- The dots of p among the first n places (row by row). -/
def upTo (p : Nat → Nat → Bool) (n : Nat) : Nat → Nat → Bool := fun x y => decide (12 * y + x < n) && p x y
theorem upTo_zero (p : Nat → Nat → Bool) : mk (upTo p 0) = zf := by
  rw [show zf = mk fun _ _ => false by decide]
  exact mk_congr fun x y _ _ => by simp [upTo]
theorem upTo_all (p : Nat → Nat → Bool) : mk (upTo p 144) = mk p := mk_congr fun x y hx hy => by simp [upTo]; intro _; omega
theorem upTo_hit (p : Nat → Nat → Bool) {x y : Nat} (hx : x < 12) (hy : y < 12) (h : p x y = true) : withD (mk (upTo p (12 * y + x))) x y = mk (upTo p (12 * y + (x + 1))) := by
  rw [withD_mk _ hx hy]
  refine mk_congr fun x' y' hx' hy' => ?_
  unfold upTo
  by_cases e : x' = x ∧ y' = y
  · obtain ⟨rfl, rfl⟩ := e
    simp [h]
  · have e' : (decide (x' = x) && decide (y' = y)) = false := by
      simp only [Bool.and_eq_false_iff, decide_eq_false_iff_not]
      by_cases e1 : x' = x
      · exact Or.inr fun e2 => e ⟨e1, e2⟩
      · exact Or.inl e1
    rw [e', Bool.or_false]
    congr 1
    by_cases e1 : 12 * y' + x' < 12 * y + x
    · simp [e1, show 12 * y' + x' < 12 * y + (x + 1) by omega]
    · have : ¬ 12 * y' + x' < 12 * y + (x + 1) := by
        intro h2; apply e; omega
      simp [e1, this]
theorem upTo_miss (p : Nat → Nat → Bool) {x y : Nat} (hx : x < 12) (hy : y < 12) (h : p x y = false) : mk (upTo p (12 * y + x)) = mk (upTo p (12 * y + (x + 1))) := by
  refine mk_congr fun x' y' hx' hy' => ?_
  unfold upTo
  by_cases e : x' = x ∧ y' = y
  · obtain ⟨rfl, rfl⟩ := e
    simp [h]
  · congr 1
    by_cases e1 : 12 * y' + x' < 12 * y + x
    · simp [e1, show 12 * y' + x' < 12 * y + (x + 1) by omega]
    · have : ¬ 12 * y' + x' < 12 * y + (x + 1) := by
        intro h2; apply e; omega
      simp [e1, this]

/-- The dots among the first n places. -/
def dotsTo (f : List Nat) (n : Nat) : List (Nat × Nat) := ((List.range n).filter fun i => hasD f (i % 12) (i / 12)).map fun i => (i % 12, i / 12)
def dots (f : List Nat) : List (Nat × Nat) := dotsTo f 144
theorem dotsTo_hit (f : List Nat) {x y : Nat} (hx : x < 12) (h : hasD f x y = true) : dotsTo f (12 * y + (x + 1)) = dotsTo f (12 * y + x) ++ [(x, y)] := by
  have e1 : (12 * y + x) % 12 = x := by omega
  have e2 : (12 * y + x) / 12 = y := by omega
  unfold dotsTo
  rw [show 12 * y + (x + 1) = (12 * y + x) + 1 by omega, List.range_succ, List.filter_append, List.map_append]
  simp [e1, e2, h]
theorem dotsTo_miss (f : List Nat) {x y : Nat} (hx : x < 12) (h : hasD f x y = false) : dotsTo f (12 * y + (x + 1)) = dotsTo f (12 * y + x) := by
  have e1 : (12 * y + x) % 12 = x := by omega
  have e2 : (12 * y + x) / 12 = y := by omega
  unfold dotsTo
  rw [show 12 * y + (x + 1) = (12 * y + x) + 1 by omega, List.range_succ, List.filter_append, List.map_append]
  simp [e1, e2, h]
theorem dotsTo_length (f : List Nat) (n : Nat) : (dotsTo f n).length ≤ n := by
  unfold dotsTo
  rw [List.length_map]
  exact Nat.le_trans (List.length_filter_le _ _) (by simp)
theorem mem_dots {f : List Nat} {d : Nat × Nat} : d ∈ dots f ↔ d.1 < 12 ∧ d.2 < 12 ∧ hasD f d.1 d.2 = true := by
  unfold dots dotsTo
  simp only [List.mem_map, List.mem_filter, List.mem_range]
  constructor
  · rintro ⟨i, ⟨h1, h2⟩, rfl⟩
    exact ⟨by simp only; omega, by simp only; omega, h2⟩
  · rintro ⟨h1, h2, h3⟩
    refine ⟨12 * d.2 + d.1, ⟨by omega, ?_⟩, ?_⟩
    · rw [show (12 * d.2 + d.1) % 12 = d.1 by omega, show (12 * d.2 + d.1) / 12 = d.2 by omega]; exact h3
    · rw [show (12 * d.2 + d.1) % 12 = d.1 by omega, show (12 * d.2 + d.1) / 12 = d.2 by omega]
theorem any_dots (f : List Nat) (P : Nat × Nat → Bool) : (dots f).any P = true ↔ ∃ x y, x < 12 ∧ y < 12 ∧ hasD f x y = true ∧ P (x, y) = true := by
  rw [List.any_eq_true]
  constructor
  · rintro ⟨d, hd, hP⟩
    obtain ⟨h1, h2, h3⟩ := mem_dots.1 hd
    exact ⟨d.1, d.2, h1, h2, h3, hP⟩
  · rintro ⟨x, y, h1, h2, h3, hP⟩
    exact ⟨(x, y), mem_dots.2 ⟨h1, h2, h3⟩, hP⟩
/-- The frame of some places: those that lie in it. -/
def putAll (l : List (Int × Int)) : List Nat := mk fun x y => l.any fun d => decide (d.1 = x ∧ d.2 = y)
theorem putAll_nil : putAll [] = zf := by
  rw [show zf = mk fun _ _ => false by decide]; rfl
theorem putAll_in (l : List (Int × Int)) {x y : Nat} (hx : x < 12) (hy : y < 12) : withD (putAll l) x y = putAll (l ++ [((x : Int), (y : Int))]) := by
  unfold putAll
  rw [withD_mk _ hx hy]
  refine mk_congr fun x' y' _ _ => ?_
  rw [List.any_append]
  congr 1
  simp only [List.any_cons, List.any_nil, Bool.or_false]
  by_cases e1 : x' = x <;> by_cases e2 : y' = y <;> simp [e1, e2] <;> omega
theorem putAll_out (l : List (Int × Int)) {x y : Int} (h : ¬ (0 ≤ x ∧ x < 12 ∧ 0 ≤ y ∧ y < 12)) : putAll l = putAll (l ++ [(x, y)]) := by
  unfold putAll
  refine mk_congr fun x' y' _ _ => ?_
  rw [List.any_append]
  rw [List.any_cons, show decide (x = (x' : Int) ∧ y = (y' : Int)) = false by rw [decide_eq_false_iff_not]; intro e; apply h; omega]
  simp

/-- The rows that h tells, the first y of them written over base. -/
def part (h : Nat → Nat) (base : List Nat) (y : Nat) : List Nat := (List.range 12).map fun k => if k < y then h k else ro base k
def rowsOf (h : Nat → Nat) : List Nat := (List.range 12).map h
theorem part_length (h : Nat → Nat) (base : List Nat) (y : Nat) : (part h base y).length = 12 := by simp [part]
theorem rowsOf_length (h : Nat → Nat) : (rowsOf h).length = 12 := by simp [rowsOf]
theorem ro_part (h : Nat → Nat) (base : List Nat) (y k : Nat) (hk : k < 12) : ro (part h base y) k = if k < y then h k else ro base k := by
  rw [ro_get _ _ (by rw [part_length]; exact hk)]; simp [part]
theorem ro_rowsOf (h : Nat → Nat) (k : Nat) (hk : k < 12) : ro (rowsOf h) k = h k := by
  rw [ro_get _ _ (by rw [rowsOf_length]; exact hk)]; simp [rowsOf]
theorem part_zero (h : Nat → Nat) (base : List Nat) (hl : base.length = 12) : part h base 0 = base :=
  fr_ext (part_length _ _ _) hl fun y hy => by rw [ro_part _ _ _ _ hy]; simp
theorem part_set (h : Nat → Nat) (base : List Nat) (y : Nat) (hy : y < 12) : (part h base y).set y (h y) = part h base (y + 1) := by
  refine fr_ext (by rw [List.length_set, part_length]) (part_length _ _ _) fun k hk => ?_
  rw [ro_set _ _ _ _ (by rw [part_length]; exact hy), ro_part _ _ _ _ hk, ro_part _ _ _ _ hk]
  by_cases e : k = y
  · subst e; simp
  · rw [if_neg e]
    by_cases h1 : k < y
    · rw [if_pos h1, if_pos (by omega)]
    · rw [if_neg h1, if_neg (by omega)]
theorem part_all (h : Nat → Nat) (base : List Nat) : part h base 12 = rowsOf h :=
  fr_ext (part_length _ _ _) (rowsOf_length _) fun k hk => by rw [ro_part _ _ _ _ hk, ro_rowsOf _ _ hk, if_pos hk]
theorem rowsOf_congr {h g : Nat → Nat} (e : ∀ y, y < 12 → h y = g y) : rowsOf h = rowsOf g :=
  fr_ext (rowsOf_length _) (rowsOf_length _) fun k hk => by rw [ro_rowsOf _ _ hk, ro_rowsOf _ _ hk, e k hk]
theorem rowsOf_ok {h : Nat → Nat} (e : ∀ y, y < 12 → h y < 65536) : FrOk (rowsOf h) := ⟨rowsOf_length _, fun x hx => by
  obtain ⟨y, hy, rfl⟩ := List.mem_map.1 hx
  exact e y (List.mem_range.1 hy)⟩
theorem part_ok {h : Nat → Nat} {base : List Nat} (e : ∀ y, y < 12 → h y < 65536) (hb : FrOk base) (y : Nat) : FrOk (part h base y) := ⟨part_length _ _ _, fun x hx => by
  obtain ⟨k, hk, rfl⟩ := List.mem_map.1 hx
  split
  · exact e k (List.mem_range.1 hk)
  · exact hb.ro_lt k⟩
theorem zf_ok : FrOk zf := ⟨rfl, by decide⟩
theorem inv_row {a : Nat} (ha : a ≤ 4095) : 4095 &&& (65535 - a) = 4095 - a := by
  apply Nat.eq_of_testBit_eq
  intro i
  rw [Nat.testBit_and]
  have h1 := Nat.testBit_two_pow_sub_succ (x := a) (n := 16) (by omega) i
  have h2 := Nat.testBit_two_pow_sub_succ (x := a) (n := 12) (by omega) i
  rw [show (2 : Nat) ^ 16 - (a + 1) = 65535 - a by omega] at h1
  rw [show (2 : Nat) ^ 12 - (a + 1) = 4095 - a by omega] at h2
  have h3 : Nat.testBit 4095 i = decide (i < 12) := by
    have := Nat.testBit_two_pow_sub_one 12 i
    simpa using this
  rw [h1, h2, h3]
  by_cases hi : i < 12
  · simp [hi, show i < 16 by omega]
  · simp [hi]
end Go.Proofs.YtmfgbkmkcljciaaDoor
