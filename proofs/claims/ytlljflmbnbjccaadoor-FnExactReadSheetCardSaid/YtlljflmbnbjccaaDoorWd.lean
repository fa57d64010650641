/- Texts cut at a letter, numbers below a hundred, words of sheets: plain mathematics; no condition. -/
import Derived.Test.YtlljflmbnbjccaaDoorDec
import Derived.Lib.Split
import Derived.Lib.SplitLaws
namespace Go.Proofs.YtlljflmbnbjccaaDoor
open Go.RowKit
set_option linter.unusedSimpArgs false
set_option linter.unusedVariables false
def consH (b : UInt8) : List (List UInt8) → List (List UInt8)
  | [] => [[b]]
  | x :: r => (b :: x) :: r
/-- A text cut at each letter c. -/
def wds (c : UInt8) : List UInt8 → List (List UInt8)
  | [] => [[]]
  | b :: l => if b = c then [] :: wds c l else consH b (wds c l)
theorem wds_ne (c : UInt8) (l : List UInt8) : wds c l ≠ [] := by
  cases l with
  | nil => simp [wds]
  | cons b l =>
    unfold wds
    split
    · simp
    · cases wds c l <;> simp [consH]
theorem index_one (b c : UInt8) (l : List UInt8) : Lib.index (b :: l) [c] = if b = c then 0 else if Lib.index l [c] == -1 then -1 else Lib.index l [c] + 1 := by
  rw [Lib.index]
  by_cases h : b = c
  · subst h; simp [List.isPrefixOf]
  · have h2 : (c == b) = false := by rw [beq_eq_false_iff_ne]; exact fun e => h e.symm
    simp [List.isPrefixOf, h2, h]
theorem split_wds (c : UInt8) : ∀ l, Lib.splitK [c] 0 (Lib.count l [c]) l = wds c l
  | [] => by
    have : Lib.count [] [c] = 0 := by rw [Lib.count_one]; rfl
    rw [this]; rfl
  | b :: l => by
    have ih := split_wds c l
    unfold wds
    by_cases h : b = c
    · subst h
      rw [if_pos rfl, Lib.count_cons_eq, Nat.add_comm, Lib.splitK, index_one, if_pos rfl, if_neg (by decide), ← ih]
      simp
    · rw [if_neg h, Lib.count_cons_ne _ _ _ h, ← ih]
      cases hk : Lib.count l [c] with
      | zero => rfl
      | succ k =>
        rw [Lib.splitK, Lib.splitK, index_one, if_neg h]
        by_cases hi : (Lib.index l [c] == -1) = true
        · rw [if_pos hi, if_pos hi]; rfl
        · rw [if_neg hi, if_neg hi]
          have hge := Lib.index_ge l [c]
          have hne : Lib.index l [c] ≠ -1 := fun e => hi (by rw [e]; rfl)
          obtain ⟨i, e⟩ := Int.eq_ofNat_of_zero_le (show 0 ≤ Lib.index l [c] by omega)
          rw [e, if_neg (by intro e2; have := beq_iff_eq.1 e2; omega)]
          have e3 : ((i : Int) + 1).toNat = i + 1 := by omega
          rw [e3]
          simp [consH]
/-- Cut at the first. -/
theorem cut_wds (c : UInt8) : ∀ l, (∃ p q, Lib.cut l [c] = (p, q, true) ∧ wds c l = p :: wds c q ∧ l = p ++ c :: q ∧ c ∉ p) ∨ (Lib.cut l [c] = (l, [], false) ∧ wds c l = [l] ∧ c ∉ l)
  | [] => Or.inr ⟨rfl, rfl, by simp⟩
  | b :: l => by
    by_cases h : b = c
    · subst h
      refine Or.inl ⟨[], l, ?_, ?_, rfl, by simp⟩
      · unfold Lib.cut; rw [index_one, if_pos rfl]; simp
      · rw [wds, if_pos rfl]
    · rcases cut_wds c l with ⟨p, q, h1, h2, h3, h4⟩ | ⟨h1, h2, h3⟩
      · refine Or.inl ⟨b :: p, q, ?_, ?_, by rw [h3]; rfl, by simp [h4]; exact fun e => h e.symm⟩
        · unfold Lib.cut at h1 ⊢
          have hge := Lib.index_ge l [c]
          by_cases h0 : 0 ≤ Lib.index l [c]
          · rw [if_pos h0] at h1
            obtain ⟨i, e⟩ := Int.eq_ofNat_of_zero_le h0
            have e1 : Lib.index (b :: l) [c] = (i : Int) + 1 := by rw [index_one, if_neg h, e]; exact if_neg (by intro e2; have := beq_iff_eq.1 e2; omega)
            rw [e1, if_pos (by omega)]
            rw [e] at h1
            have e3 : ((i : Int) + 1).toNat = i + 1 := by omega
            rw [e3]
            simp only [Prod.mk.injEq] at h1 ⊢
            rw [← h1.1, ← h1.2.1]
            simp [Nat.add_right_comm]
          · rw [if_neg h0] at h1; simp at h1
        · rw [wds, if_neg h, h2]; rfl
      · refine Or.inr ⟨?_, by rw [wds, if_neg h, h2]; rfl, by simp [h3]; exact fun e => h e.symm⟩
        unfold Lib.cut at h1 ⊢
        have hge := Lib.index_ge l [c]
        by_cases h0 : 0 ≤ Lib.index l [c]
        · rw [if_pos h0] at h1; simp at h1
        · have e : Lib.index l [c] = -1 := by omega
          rw [index_one, if_neg h, e]; rfl
/-- Where the piece begins in which letter i stands; the pieces that have ended below letter i. -/
def pcB (c : UInt8) (l : List UInt8) : Nat → Nat
  | 0 => 0
  | i + 1 => if l.getD i 0 = c then i + 1 else pcB c l i
def pcL (c : UInt8) (l : List UInt8) : Nat → List (List UInt8)
  | 0 => []
  | i + 1 => if l.getD i 0 = c then pcL c l i ++ [(l.drop (pcB c l i)).take (i - pcB c l i)] else pcL c l i
theorem pcB_le (c : UInt8) (l : List UInt8) : ∀ i, pcB c l i ≤ i
  | 0 => Nat.le_refl _
  | i + 1 => by have := pcB_le c l i; unfold pcB; split <;> omega
theorem pcL_le (c : UInt8) (l : List UInt8) : ∀ i, (pcL c l i).length ≤ i
  | 0 => Nat.le_refl _
  | i + 1 => by
    have := pcL_le c l i
    unfold pcL
    split
    · rw [List.length_append, List.length_singleton]; omega
    · omega
def consP (x : List UInt8) : List (List UInt8) → List (List UInt8)
  | [] => [x]
  | y :: r => (x ++ y) :: r
theorem pc_inv (c : UInt8) (l : List UInt8) : ∀ k, k ≤ l.length → wds c l = pcL c l k ++ consP ((l.drop (pcB c l k)).take (k - pcB c l k)) (wds c (l.drop k))
  | 0, _ => by
    simp only [pcL, pcB, List.nil_append, List.drop_zero, Nat.sub_self, List.take_zero]
    cases h : wds c l with
    | nil => exact absurd h (wds_ne c l)
    | cons y r => rfl
  | k + 1, hk => by
    have ih := pc_inv c l k (by omega)
    have hb := pcB_le c l k
    have e0 : l.drop k = l[k] :: l.drop (k + 1) := (List.drop_eq_getElem_cons (by omega))
    have eg : l.getD k 0 = l[k] := by rw [List.getD_eq_getElem?_getD, List.getElem?_eq_getElem (by omega)]; rfl
    rw [e0] at ih
    rw [show wds c (l[k] :: l.drop (k + 1)) = if l[k] = c then [] :: wds c (l.drop (k + 1)) else consH l[k] (wds c (l.drop (k + 1))) from rfl] at ih
    rw [show pcL c l (k + 1) = if l.getD k 0 = c then pcL c l k ++ [(l.drop (pcB c l k)).take (k - pcB c l k)] else pcL c l k from rfl, show pcB c l (k + 1) = if l.getD k 0 = c then k + 1 else pcB c l k from rfl]
    rw [eg]
    by_cases h : l[k] = c
    · rw [if_pos h] at ih
      rw [if_pos h, if_pos h, ih]
      rw [Nat.sub_self, List.take_zero]
      cases hw : wds c (l.drop (k + 1)) with
      | nil => exact absurd hw (wds_ne c _)
      | cons y r => simp [consP]
    · rw [if_neg h] at ih
      rw [if_neg h, if_neg h, ih]
      have e2 : (l.drop (pcB c l k)).take (k + 1 - pcB c l k) = (l.drop (pcB c l k)).take (k - pcB c l k) ++ [l[k]] := by
        rw [show k + 1 - pcB c l k = (k - pcB c l k) + 1 by omega, List.take_succ_eq_append_getElem (by rw [List.length_drop]; omega), List.getElem_drop]
        simp only [show pcB c l k + (k - pcB c l k) = k by omega]
      rw [e2]
      cases hw : wds c (l.drop (k + 1)) with
      | nil => exact absurd hw (wds_ne c _)
      | cons y r => simp [consP, consH]
theorem pc_wds (c : UInt8) (l : List UInt8) : pcL c l l.length ++ [l.drop (pcB c l l.length)] = wds c l := by
  have hb := pcB_le c l l.length
  rw [pc_inv c l l.length (Nat.le_refl _), List.drop_length]
  have e : (l.drop (pcB c l l.length)).take (l.length - pcB c l l.length) = l.drop (pcB c l l.length) := List.take_of_length_le (by rw [List.length_drop]; omega)
  rw [e]
  simp [wds, consP]
theorem pcL_step {c : UInt8} {l : List UInt8} {k : Nat} (h : l.getD k 0 = c) : pcB c l (k + 1) = k + 1 ∧ pcL c l (k + 1) = pcL c l k ++ [(l.drop (pcB c l k)).take (k - pcB c l k)] := by
  rw [pcB, pcL, if_pos h, if_pos h]; exact ⟨rfl, rfl⟩
theorem pcL_stay {c : UInt8} {l : List UInt8} {k : Nat} (h : l.getD k 0 ≠ c) : pcB c l (k + 1) = pcB c l k ∧ pcL c l (k + 1) = pcL c l k := by
  rw [pcB, pcL, if_neg h, if_neg h]; exact ⟨rfl, rfl⟩
/-! Numbers below a hundred. -/
def und (s : List UInt8) : Option Nat := (List.range 100).find? fun n => decide (dec n = s)
theorem und_dec {n : Nat} (h : n < 100) : und (dec n) = some n := by
  have : ∀ n ∈ List.range 100, und (dec n) = some n := by decide +kernel
  exact this n (List.mem_range.2 h)
theorem und_some {s : List UInt8} {n : Nat} (h : und s = some n) : n < 100 ∧ s = dec n := by
  unfold und at h
  have h1 := List.mem_of_find?_eq_some h
  have h2 := List.find?_some h
  simp at h1 h2
  exact ⟨h1, h2.symm⟩
theorem und_none {s : List UInt8} (h : und s = none) : ∀ n, n < 100 → s ≠ dec n := by
  intro n hn e
  rw [e, und_dec hn] at h
  cases h
theorem dec_no {n : Nat} (h : n < 100) : (120 : UInt8) ∉ dec n := by
  have : ∀ n ∈ List.range 100, (120 : UInt8) ∉ dec n := by decide +kernel
  exact this n (List.mem_range.2 h)
/-- The number that a text of digits spells. -/
def numv (a : Nat) (l : List UInt8) : Nat := l.foldl (fun a c => 10 * a + (c.toNat - 48)) a
theorem numv_nil (a : Nat) : numv a [] = a := rfl
theorem numv_cons (a : Nat) (c : UInt8) (l : List UInt8) : numv a (c :: l) = numv (10 * a + (c.toNat - 48)) l := by unfold numv; rw [List.foldl_cons]
def dig (c : UInt8) : Bool := decide (48 ≤ c.toNat ∧ c.toNat ≤ 57)
theorem numv_ge : ∀ (l : List UInt8) (a : Nat), a * 10 ^ l.length ≤ numv a l
  | [], a => by simp [numv_nil, numv_cons]
  | c :: l, a => by
    have := numv_ge l (10 * a + (c.toNat - 48))
    rw [numv_cons, List.length_cons, Nat.pow_succ]
    refine Nat.le_trans ?_ this
    rw [← Nat.mul_assoc, Nat.mul_right_comm]
    exact Nat.mul_le_mul_right _ (by omega)
theorem numv_lt : ∀ (l : List UInt8) (a : Nat), (∀ c ∈ l, dig c = true) → numv a l < (a + 1) * 10 ^ l.length
  | [], a, _ => by simp [numv_nil, numv_cons]
  | c :: l, a, h => by
    have := numv_lt l (10 * a + (c.toNat - 48)) (fun x hx => h x (List.mem_cons_of_mem _ hx))
    have hc := h c List.mem_cons_self
    unfold dig at hc
    simp at hc
    rw [numv_cons, List.length_cons, Nat.pow_succ]
    refine Nat.lt_of_lt_of_le this ?_
    rw [Nat.mul_comm (10 ^ l.length) 10, ← Nat.mul_assoc]
    exact Nat.mul_le_mul_right _ (by omega)
/-- A number's text, as the reference reads one. -/
def numok (s : List UInt8) : Bool := !(decide (s = []) || decide (10 < s.length) || (decide (s.getD 0 0 = 48) && decide (1 < s.length))) && s.all dig
theorem num_und {s : List UInt8} (h : numok s = true) : (numv 0 s < 100 → s = dec (numv 0 s)) ∧ numv 0 s < 100000000000 := by
  unfold numok at h
  simp at h
  obtain ⟨⟨⟨h1, h2⟩, h3⟩, h4⟩ := h
  constructor
  · intro hv
    match s, h1, h2, h3, h4 with
    | [c], _, _, _, h4 =>
      have hc := h4 c (by simp)
      unfold dig at hc
      simp at hc
      have e : numv 0 [c] = c.toNat - 48 := by simp [numv_nil, numv_cons]
      rw [e]
      have hlt : c.toNat - 48 < 10 := by omega
      unfold dec
      rw [if_pos hlt]
      congr 1
      apply UInt8.toNat_inj.1
      rw [UInt8.toNat_ofNat']
      omega
    | [c, d], _, _, h3, h4 =>
      have hc := h4 c (by simp)
      have hd := h4 d (by simp)
      unfold dig at hc hd
      simp at hc hd h3
      have hc0 : c.toNat ≠ 48 := fun e => h3 (UInt8.toNat_inj.1 e)
      have e : numv 0 [c, d] = 10 * (c.toNat - 48) + (d.toNat - 48) := by simp [numv_nil, numv_cons]
      rw [e]
      unfold dec
      rw [if_neg (by omega)]
      have e1 : UInt8.ofNat (48 + (10 * (c.toNat - 48) + (d.toNat - 48)) / 10) = c := by
        apply UInt8.toNat_inj.1
        rw [UInt8.toNat_ofNat']
        omega
      have e2 : UInt8.ofNat (48 + (10 * (c.toNat - 48) + (d.toNat - 48)) % 10) = d := by
        apply UInt8.toNat_inj.1
        rw [UInt8.toNat_ofNat']
        omega
      rw [e1, e2]
    | c :: d :: f :: r, _, _, h3, h4 =>
      exfalso
      have hc := h4 c (by simp)
      unfold dig at hc
      simp at hc h3
      have hc0 : c.toNat ≠ 48 := fun e => h3 (UInt8.toNat_inj.1 e)
      have := numv_ge (d :: f :: r) (10 * 0 + (c.toNat - 48))
      rw [numv_cons] at hv
      have e : 10 ^ (d :: f :: r).length = 10 ^ r.length * 100 := by simp [Nat.pow_succ]; omega
      have p : 1 ≤ 10 ^ r.length := Nat.one_le_pow _ _ (by decide)
      rw [e] at this
      have : 1 * (1 * 100) ≤ (10 * 0 + (c.toNat - 48)) * (10 ^ r.length * 100) := Nat.mul_le_mul (by omega) (Nat.mul_le_mul_right _ p)
      omega
  · have := numv_lt s 0 h4
    have h5 : 10 ^ s.length ≤ 10 ^ 10 := Nat.pow_le_pow_right (by decide) h2
    omega
theorem num_no {s : List UInt8} (h : numok s = false) : und s = none := by
  cases hu : und s with
  | none => rfl
  | some n =>
    obtain ⟨h1, rfl⟩ := und_some hu
    have : ∀ n ∈ List.range 100, numok (dec n) = true := by decide +kernel
    rw [this n (List.mem_range.2 h1)] at h
    cases h
theorem num_dec {n : Nat} (h : n < 100) : numok (dec n) = true ∧ numv 0 (dec n) = n := by
  have : ∀ n ∈ List.range 100, numok (dec n) = true ∧ numv 0 (dec n) = n := by decide +kernel
  exact this n (List.mem_range.2 h)
end Go.Proofs.YtlljflmbnbjccaaDoor
