/- Texts read as frames, by plain mathematics: lines, and when the two ways agree; no condition. -/
import Derived.Test.YtmfgbkmkcljciaaDoorFText
namespace Go.Proofs.YtmfgbkmkcljciaaDoor
open Go.RowKit
set_option linter.unusedSimpArgs false
set_option linter.unusedVariables false
/-- Where the line begins in which letter i stands. -/
def spB (l : List UInt8) : Nat → Nat
  | 0 => 0
  | i + 1 => if l.getD i 0 = 10 then i + 1 else spB l i
/-- The lines that have ended below letter i. -/
def spL (l : List UInt8) : Nat → List (List UInt8)
  | 0 => []
  | i + 1 => if l.getD i 0 = 10 then spL l i ++ [(l.drop (spB l i)).take (i - spB l i)] else spL l i
theorem spB_le (l : List UInt8) : ∀ i, spB l i ≤ i
  | 0 => Nat.le_refl _
  | i + 1 => by have := spB_le l i; unfold spB; split <;> omega
theorem spL_le (l : List UInt8) : ∀ i, (spL l i).length ≤ i
  | 0 => Nat.le_refl _
  | i + 1 => by
    have := spL_le l i
    unfold spL
    split
    · rw [List.length_append, List.length_singleton]; omega
    · omega
def flat10 (A : List (List UInt8)) : List UInt8 := A.flatMap (· ++ [10])
theorem flat10_cons (x : List UInt8) (A : List (List UInt8)) : flat10 (x :: A) = x ++ 10 :: flat10 A := by simp [flat10]
theorem flat10_app (A B : List (List UInt8)) : flat10 (A ++ B) = flat10 A ++ flat10 B := by simp [flat10]
def lines (l : List UInt8) : List (List UInt8) := spL l l.length ++ [l.drop (spB l l.length)]
theorem mem_seg {l : List UInt8} {b n : Nat} {c : UInt8} (h : c ∈ (l.drop b).take n) : ∃ j, b ≤ j ∧ j < b + n ∧ j < l.length ∧ l.getD j 0 = c := by
  obtain ⟨i, hi, e⟩ := List.mem_iff_getElem.1 h
  rw [List.length_take, List.length_drop] at hi
  rw [List.getElem_take, List.getElem_drop] at e
  refine ⟨b + i, by omega, by omega, by omega, ?_⟩
  rw [List.getD_eq_getElem?_getD, List.getElem?_eq_getElem (by omega)]
  exact e
theorem spl_inv (l : List UInt8) : ∀ i, i ≤ l.length → l.take (spB l i) = flat10 (spL l i) ∧ (∀ x ∈ spL l i, (10 : UInt8) ∉ x) ∧ ∀ j, spB l i ≤ j → j < i → l.getD j 0 ≠ 10
  | 0, _ => ⟨by simp [spB, spL, flat10], by simp [spL], fun j _ h => by omega⟩
  | i + 1, hi => by
    obtain ⟨h1, h2, h3⟩ := spl_inv l i (by omega)
    have hb := spB_le l i
    unfold spB spL
    by_cases h : l.getD i 0 = 10
    · rw [if_pos h, if_pos h]
      refine ⟨?_, ?_, fun j a b => by omega⟩
      · rw [flat10_app, ← h1, flat10_cons]
        have e : l.take (i + 1) = l.take i ++ [10] := by
          rw [List.take_succ_eq_append_getElem (by omega)]
          have : l[i] = 10 := by rw [List.getD_eq_getElem?_getD, List.getElem?_eq_getElem (by omega)] at h; exact h
          rw [this]
        have e2 : l.take i = l.take (spB l i) ++ (l.drop (spB l i)).take (i - spB l i) := by
          rw [← List.take_add, show spB l i + (i - spB l i) = i by omega]
        rw [e, e2, List.append_assoc]
        rfl
      · intro x hx
        rcases List.mem_append.1 hx with hx | hx
        · exact h2 x hx
        · rw [List.mem_singleton] at hx
          subst hx
          intro hm
          obtain ⟨j, j1, j2, _, j4⟩ := mem_seg hm
          exact h3 j j1 (by omega) j4
    · rw [if_neg h, if_neg h]
      refine ⟨h1, h2, fun j a b => ?_⟩
      by_cases e : j = i
      · subst e; exact h
      · exact h3 j a (by omega)
/-- A text is its ended lines and what stands behind them. -/
theorem lines_inv (l : List UInt8) : l = flat10 (spL l l.length) ++ l.drop (spB l l.length) ∧ (∀ x ∈ spL l l.length, (10 : UInt8) ∉ x) ∧ (10 : UInt8) ∉ l.drop (spB l l.length) := by
  obtain ⟨h1, h2, h3⟩ := spl_inv l l.length (Nat.le_refl _)
  refine ⟨by rw [← h1, List.take_append_drop], h2, fun h => ?_⟩
  obtain ⟨j, j1, _, j3, j4⟩ := mem_seg (l := l) (b := spB l l.length) (n := l.length) (c := 10) (by rw [List.take_of_length_le (by rw [List.length_drop]; omega)]; exact h)
  exact h3 j j1 j3 j4
theorem cut10 {x y r s : List UInt8} (hx : (10 : UInt8) ∉ x) (hy : (10 : UInt8) ∉ y) (h : x ++ 10 :: r = y ++ 10 :: s) : x = y ∧ r = s := by
  induction x generalizing y with
  | nil =>
    cases y with
    | nil => simp at h; exact ⟨rfl, h⟩
    | cons c y => simp at h; exact absurd h.1 (fun e => hy (by rw [e]; simp))
  | cons c x ih =>
    cases y with
    | nil => simp at h; exact absurd h.1 (fun e => hx (by rw [e]; simp))
    | cons d y =>
      simp only [List.cons_append, List.cons.injEq] at h
      obtain ⟨e1, e2⟩ := ih (fun hm => hx (List.mem_cons_of_mem _ hm)) (fun hm => hy (List.mem_cons_of_mem _ hm)) h.2
      exact ⟨by rw [h.1, e1], e2⟩
theorem flat_inj {A B : List (List UInt8)} {a b : List UInt8} (hA : ∀ x ∈ A, (10 : UInt8) ∉ x) (hB : ∀ x ∈ B, (10 : UInt8) ∉ x) (ha : (10 : UInt8) ∉ a) (hb : (10 : UInt8) ∉ b) (h : flat10 A ++ a = flat10 B ++ b) : A = B ∧ a = b := by
  induction A generalizing B with
  | nil =>
    cases B with
    | nil => exact ⟨rfl, by simpa [flat10] using h⟩
    | cons y B =>
      rw [flat10_cons] at h
      exact absurd (show (10 : UInt8) ∈ a by rw [show a = y ++ 10 :: flat10 B ++ b by simpa [flat10] using h]; simp) ha
  | cons x A ih =>
    cases B with
    | nil =>
      rw [flat10_cons] at h
      exact absurd (show (10 : UInt8) ∈ b by rw [show b = x ++ 10 :: flat10 A ++ a by simpa [flat10] using h.symm]; simp) hb
    | cons y B =>
      rw [flat10_cons, flat10_cons, List.append_assoc, List.append_assoc] at h
      obtain ⟨e1, e2⟩ := cut10 (hA x (by simp)) (hB y (by simp)) h
      obtain ⟨e3, e4⟩ := ih (fun z hz => hA z (by simp [hz])) (fun z hz => hB z (by simp [hz])) e2
      exact ⟨by rw [e1, e3], e4⟩
/-- The letter at x of row y. -/
def chR (R : List (List UInt8)) (y x : Nat) : UInt8 := (R.getD y []).getD x 0
def goodC (c : UInt8) : Bool := decide (c = 35) || decide (c = 46)
def goodR (r : List UInt8) : Bool := decide (r.length = 12) && (List.range 12).all fun x => goodC (r.getD x 0)
def rdB (R : List (List UInt8)) : Bool := decide (R.length = 12) && (List.range 12).all fun y => goodR (R.getD y [])
def rdP (R : List (List UInt8)) (x y : Nat) : Bool := decide (chR R y x = 35)
def rdF (R : List (List UInt8)) : List Nat := if rdB R = true then mk (rdP R) else zf
/-- What the reference reads. -/
def rsB (l : List UInt8) : Bool := rdB (spL l l.length) && decide (l.drop (spB l l.length) = [])
def rsF (l : List UInt8) : List Nat := if rsB l = true then mk (rdP (spL l l.length)) else zf
/-- What the program reads. -/
def riP (l : List UInt8) (x y : Nat) : Bool := decide (l.getD (y * 13 + x) 0 = 35)
def riB (l : List UInt8) : Bool := decide (l.length = 156) && decide (txt (mk (riP l)) = l)
def riF (l : List UInt8) : List Nat := if riB l = true then mk (riP l) else zf
theorem txt_flat (f : List Nat) : txt f = flat10 ((List.range 12).map fun (y : Nat) => (List.range 12).map fun (x : Nat) => chB (hasI f x y)) := by
  unfold txt flat10 rowT
  rw [List.flatMap_map]
theorem chB_ne (b : Bool) : chB b ≠ 10 ∧ goodC (chB b) = true := by cases b <;> decide
theorem txt_no (f : List Nat) : ∀ r ∈ ((List.range 12).map fun (y : Nat) => (List.range 12).map fun (x : Nat) => chB (hasI f x y)), (10 : UInt8) ∉ r := by
  intro r hr hm
  obtain ⟨y, _, rfl⟩ := List.mem_map.1 hr
  obtain ⟨x, _, e⟩ := List.mem_map.1 hm
  exact (chB_ne _).1 e
theorem row_get {g : Nat → Nat → UInt8} {y x : Nat} (hy : y < 12) (hx : x < 12) : chR ((List.range 12).map fun y => (List.range 12).map fun x => g y x) y x = g y x := by
  unfold chR
  simp only [List.getD_eq_getElem?_getD, List.getElem?_map]
  rw [List.getElem?_range hy]
  simp only [Option.map_some, Option.getD_some, List.getElem?_map]
  rw [List.getElem?_range hx]
  rfl
theorem rdB_txt (f : List Nat) : rdB ((List.range 12).map fun (y : Nat) => (List.range 12).map fun (x : Nat) => chB (hasI f x y)) = true := by
  unfold rdB
  rw [Bool.and_eq_true, List.all_eq_true]
  refine ⟨by simp, fun y hy => ?_⟩
  have hy' := List.mem_range.1 hy
  have e : ((List.range 12).map fun (y : Nat) => (List.range 12).map fun (x : Nat) => chB (hasI f x y)).getD y [] = (List.range 12).map fun (x : Nat) => chB (hasI f x y) := by
    rw [List.getD_eq_getElem?_getD, List.getElem?_map, List.getElem?_range hy']; rfl
  rw [e]
  unfold goodR
  rw [Bool.and_eq_true, List.all_eq_true]
  refine ⟨by simp, fun x hx => ?_⟩
  have hx' := List.mem_range.1 hx
  rw [List.getD_eq_getElem?_getD, List.getElem?_map, List.getElem?_range hx']
  exact (chB_ne _).2
theorem flat_len {A : List (List UInt8)} (h : ∀ r ∈ A, r.length = 12) : (flat10 A).length = A.length * 13 := by
  induction A with
  | nil => rfl
  | cons r A ih =>
    rw [flat10_cons, List.length_append, List.length_cons, ih (fun r' hr => h r' (by simp [hr])), h r (by simp), List.length_cons]
    omega
theorem flat_get {A : List (List UInt8)} (h : ∀ r ∈ A, r.length = 12) : ∀ (y x : Nat), x < 12 → y < A.length → (flat10 A).getD (y * 13 + x) 0 = (A.getD y []).getD x 0 := by
  induction A with
  | nil => intro y x _ hy; simp at hy
  | cons r A ih =>
    intro y x hx hy
    have hr := h r (by simp)
    rw [flat10_cons, List.getD_eq_getElem?_getD]
    cases y with
    | zero =>
      rw [List.getElem?_append_left (by omega)]
      simp [List.getD_eq_getElem?_getD]
    | succ y =>
      rw [List.getElem?_append_right (by omega), hr, show (y + 1) * 13 + x - 12 = (y * 13 + x) + 1 by omega, List.getElem?_cons_succ, ← List.getD_eq_getElem?_getD,
        ih (fun r' hr => h r' (by simp [hr])) y x hx (by simpa using hy)]
      simp [List.getD_eq_getElem?_getD]
theorem rdB_row {R : List (List UInt8)} (h : rdB R = true) : R.length = 12 ∧ (∀ r ∈ R, r.length = 12) ∧ ∀ y x, y < 12 → x < 12 → chR R y x = 35 ∨ chR R y x = 46 := by
  unfold rdB at h
  rw [Bool.and_eq_true, List.all_eq_true] at h
  have hl : R.length = 12 := by simpa using h.1
  have hg : ∀ y, y < 12 → goodR (R.getD y []) = true := fun y hy => h.2 y (List.mem_range.2 hy)
  refine ⟨hl, fun r hr => ?_, fun y x hy hx => ?_⟩
  · obtain ⟨y, hy, rfl⟩ := List.mem_iff_getElem.1 hr
    have := hg y (by omega)
    unfold goodR at this
    rw [Bool.and_eq_true, List.getD_eq_getElem?_getD, List.getElem?_eq_getElem hy] at this
    simpa using this.1
  · have := hg y hy
    unfold goodR at this
    rw [Bool.and_eq_true, List.all_eq_true] at this
    have h2 := this.2 x (List.mem_range.2 hx)
    unfold goodC at h2
    rw [Bool.or_eq_true] at h2
    exact h2.imp (fun e => of_decide_eq_true e) (fun e => of_decide_eq_true e)
/-- The two ways agree. -/
theorem read_same (l : List UInt8) : rsB l = riB l ∧ rsF l = riF l := by
  obtain ⟨h1, h2, h3⟩ := lines_inv l
  have key : rsB l = true → riB l = true ∧ mk (rdP (spL l l.length)) = mk (riP l) := by
    intro h
    unfold rsB at h
    rw [Bool.and_eq_true] at h
    obtain ⟨ha, hb⟩ := h
    have hb := of_decide_eq_true hb
    obtain ⟨r1, r2, r3⟩ := rdB_row ha
    rw [hb, List.append_nil] at h1
    have hl : l.length = 156 := by rw [h1, flat_len r2, r1]
    have hg : ∀ y x, y < 12 → x < 12 → l.getD (y * 13 + x) 0 = chR (spL l l.length) y x := fun y x hy hx => by
      conv => lhs; rw [h1]
      exact flat_get r2 y x hx (by omega)
    have hp : mk (rdP (spL l l.length)) = mk (riP l) := mk_congr fun x y hx hy => by unfold rdP riP; rw [hg y x hy hx]
    refine ⟨?_, hp⟩
    unfold riB
    rw [Bool.and_eq_true]
    refine ⟨by simpa using hl, ?_⟩
    rw [decide_eq_true_eq, ← hp, txt_flat]
    conv => rhs; rw [h1]
    congr 1
    apply List.ext_getElem (by simp [r1])
    intro y y1 y2
    have hy : y < 12 := by simpa using y1
    rw [List.getElem_map, List.getElem_range]
    apply List.ext_getElem (by rw [r2 _ (List.getElem_mem y2)]; simp)
    intro x x1 x2
    have hx : x < 12 := by simpa using x1
    rw [List.getElem_map, List.getElem_range, hasI_nat, hasD_mk _ hx hy]
    have e : chR (spL l l.length) y x = (spL l l.length)[y][x] := by
      unfold chR
      rw [List.getD_eq_getElem?_getD (i := y), List.getElem?_eq_getElem y2]
      simp only [Option.getD_some]
      rw [List.getD_eq_getElem?_getD, List.getElem?_eq_getElem x2]; rfl
    unfold rdP
    rw [← e]
    rcases r3 y x hy hx with q | q <;> rw [q] <;> rfl
  have back : riB l = true → rsB l = true := by
    intro h
    unfold riB at h
    rw [Bool.and_eq_true] at h
    have ht := of_decide_eq_true h.2
    have e : flat10 (spL l l.length) ++ l.drop (spB l l.length) = flat10 ((List.range 12).map fun (y : Nat) => (List.range 12).map fun (x : Nat) => chB (hasI (mk (riP l)) x y)) ++ [] := by
      rw [← h1, List.append_nil, ← txt_flat, ht]
    obtain ⟨e1, e2⟩ := flat_inj h2 (txt_no _) h3 (by simp) e
    unfold rsB
    rw [e1, e2, rdB_txt]
    rfl
  have hB : rsB l = riB l := by
    rcases Bool.eq_false_or_eq_true (rsB l) with q | q
    · rw [q, (key q).1]
    · rcases Bool.eq_false_or_eq_true (riB l) with q2 | q2
      · rw [back q2] at q; cases q
      · rw [q, q2]
  refine ⟨hB, ?_⟩
  unfold rsF riF
  rw [← hB]
  split
  · rename_i q; exact (key q).2
  · rfl
end Go.Proofs.YtmfgbkmkcljciaaDoor
