/- Texts cut at a letter: plain mathematics; no condition. -/
import Derived.Test.YtmfgbkmkcljciaaDoorKit
import Derived.Lib.Split
import Derived.Lib.SplitLaws
namespace Go.Proofs.YtmfgbkmkcljciaaDoor
open Go.RowKit
set_option linter.unusedSimpArgs false
set_option linter.unusedVariables false
def consH (b : UInt8) : List (List UInt8) → List (List UInt8)
  | [] => [[b]]
  | x :: r => (b :: x) :: r
/-- A text cut at each letter c. -/
def wds (c : UInt8) : List UInt8 → List (List UInt8)
  | [] => [[]]
  | b :: l => if b = c then [] :: wds c l else consH b (wds c l)
theorem wds_ne (c : UInt8) (l : List UInt8) : wds c l ≠ [] := by
  cases l with
  | nil => simp [wds]
  | cons b l =>
    unfold wds
    split
    · simp
    · cases wds c l <;> simp [consH]
theorem index_one (b c : UInt8) (l : List UInt8) : Lib.index (b :: l) [c] = if b = c then 0 else if Lib.index l [c] == -1 then -1 else Lib.index l [c] + 1 := by
  rw [Lib.index]
  by_cases h : b = c
  · subst h; simp [List.isPrefixOf]
  · have h2 : (c == b) = false := by rw [beq_eq_false_iff_ne]; exact fun e => h e.symm
    simp [List.isPrefixOf, h2, h]
theorem split_wds (c : UInt8) : ∀ l, Lib.splitK [c] 0 (Lib.count l [c]) l = wds c l
  | [] => by
    have : Lib.count [] [c] = 0 := by rw [Lib.count_one]; rfl
    rw [this]; rfl
  | b :: l => by
    have ih := split_wds c l
    unfold wds
    by_cases h : b = c
    · subst h
      rw [if_pos rfl, Lib.count_cons_eq, Nat.add_comm, Lib.splitK, index_one, if_pos rfl, if_neg (by decide), ← ih]
      simp
    · rw [if_neg h, Lib.count_cons_ne _ _ _ h, ← ih]
      cases hk : Lib.count l [c] with
      | zero => rfl
      | succ k =>
        rw [Lib.splitK, Lib.splitK, index_one, if_neg h]
        by_cases hi : (Lib.index l [c] == -1) = true
        · rw [if_pos hi, if_pos hi]; rfl
        · rw [if_neg hi, if_neg hi]
          have hge := Lib.index_ge l [c]
          have hne : Lib.index l [c] ≠ -1 := fun e => hi (by rw [e]; rfl)
          obtain ⟨i, e⟩ := Int.eq_ofNat_of_zero_le (show 0 ≤ Lib.index l [c] by omega)
          rw [e, if_neg (by intro e2; have := beq_iff_eq.1 e2; omega)]
          have e3 : ((i : Int) + 1).toNat = i + 1 := by omega
          rw [e3]
          simp [consH]
/-- Cut at the first. -/
theorem cut_wds (c : UInt8) : ∀ l, (∃ p q, Lib.cut l [c] = (p, q, true) ∧ wds c l = p :: wds c q ∧ l = p ++ c :: q ∧ c ∉ p) ∨ (Lib.cut l [c] = (l, [], false) ∧ wds c l = [l] ∧ c ∉ l)
  | [] => Or.inr ⟨rfl, rfl, by simp⟩
  | b :: l => by
    by_cases h : b = c
    · subst h
      refine Or.inl ⟨[], l, ?_, ?_, rfl, by simp⟩
      · unfold Lib.cut; rw [index_one, if_pos rfl]; simp
      · rw [wds, if_pos rfl]
    · rcases cut_wds c l with ⟨p, q, h1, h2, h3, h4⟩ | ⟨h1, h2, h3⟩
      · refine Or.inl ⟨b :: p, q, ?_, ?_, by rw [h3]; rfl, by simp [h4]; exact fun e => h e.symm⟩
        · unfold Lib.cut at h1 ⊢
          have hge := Lib.index_ge l [c]
          by_cases h0 : 0 ≤ Lib.index l [c]
          · rw [if_pos h0] at h1
            obtain ⟨i, e⟩ := Int.eq_ofNat_of_zero_le h0
            have e1 : Lib.index (b :: l) [c] = (i : Int) + 1 := by rw [index_one, if_neg h, e]; exact if_neg (by intro e2; have := beq_iff_eq.1 e2; omega)
            rw [e1, if_pos (by omega)]
            rw [e] at h1
            have e3 : ((i : Int) + 1).toNat = i + 1 := by omega
            rw [e3]
            simp only [Prod.mk.injEq] at h1 ⊢
            rw [← h1.1, ← h1.2.1]
            simp [Nat.add_right_comm]
          · rw [if_neg h0] at h1; simp at h1
        · rw [wds, if_neg h, h2]; rfl
      · refine Or.inr ⟨?_, by rw [wds, if_neg h, h2]; rfl, by simp [h3]; exact fun e => h e.symm⟩
        unfold Lib.cut at h1 ⊢
        have hge := Lib.index_ge l [c]
        by_cases h0 : 0 ≤ Lib.index l [c]
        · rw [if_pos h0] at h1; simp at h1
        · have e : Lib.index l [c] = -1 := by omega
          rw [index_one, if_neg h, e]; rfl
/-- Where the piece begins in which letter i stands; the pieces that have ended below letter i. -/
def pcB (c : UInt8) (l : List UInt8) : Nat → Nat
  | 0 => 0
  | i + 1 => if l.getD i 0 = c then i + 1 else pcB c l i
def pcL (c : UInt8) (l : List UInt8) : Nat → List (List UInt8)
  | 0 => []
  | i + 1 => if l.getD i 0 = c then pcL c l i ++ [(l.drop (pcB c l i)).take (i - pcB c l i)] else pcL c l i
theorem pcB_le (c : UInt8) (l : List UInt8) : ∀ i, pcB c l i ≤ i
  | 0 => Nat.le_refl _
  | i + 1 => by have := pcB_le c l i; unfold pcB; split <;> omega
theorem pcL_le (c : UInt8) (l : List UInt8) : ∀ i, (pcL c l i).length ≤ i
  | 0 => Nat.le_refl _
  | i + 1 => by
    have := pcL_le c l i
    unfold pcL
    split
    · rw [List.length_append, List.length_singleton]; omega
    · omega
def consP (x : List UInt8) : List (List UInt8) → List (List UInt8)
  | [] => [x]
  | y :: r => (x ++ y) :: r
theorem pc_inv (c : UInt8) (l : List UInt8) : ∀ k, k ≤ l.length → wds c l = pcL c l k ++ consP ((l.drop (pcB c l k)).take (k - pcB c l k)) (wds c (l.drop k))
  | 0, _ => by
    simp only [pcL, pcB, List.nil_append, List.drop_zero, Nat.sub_self, List.take_zero]
    cases h : wds c l with
    | nil => exact absurd h (wds_ne c l)
    | cons y r => rfl
  | k + 1, hk => by
    have ih := pc_inv c l k (by omega)
    have hb := pcB_le c l k
    have e0 : l.drop k = l[k] :: l.drop (k + 1) := (List.drop_eq_getElem_cons (by omega))
    have eg : l.getD k 0 = l[k] := by rw [List.getD_eq_getElem?_getD, List.getElem?_eq_getElem (by omega)]; rfl
    rw [e0] at ih
    rw [show wds c (l[k] :: l.drop (k + 1)) = if l[k] = c then [] :: wds c (l.drop (k + 1)) else consH l[k] (wds c (l.drop (k + 1))) from rfl] at ih
    rw [show pcL c l (k + 1) = if l.getD k 0 = c then pcL c l k ++ [(l.drop (pcB c l k)).take (k - pcB c l k)] else pcL c l k from rfl, show pcB c l (k + 1) = if l.getD k 0 = c then k + 1 else pcB c l k from rfl]
    rw [eg]
    by_cases h : l[k] = c
    · rw [if_pos h] at ih
      rw [if_pos h, if_pos h, ih]
      rw [Nat.sub_self, List.take_zero]
      cases hw : wds c (l.drop (k + 1)) with
      | nil => exact absurd hw (wds_ne c _)
      | cons y r => simp [consP]
    · rw [if_neg h] at ih
      rw [if_neg h, if_neg h, ih]
      have e2 : (l.drop (pcB c l k)).take (k + 1 - pcB c l k) = (l.drop (pcB c l k)).take (k - pcB c l k) ++ [l[k]] := by
        rw [show k + 1 - pcB c l k = (k - pcB c l k) + 1 by omega, List.take_succ_eq_append_getElem (by rw [List.length_drop]; omega), List.getElem_drop]
        simp only [show pcB c l k + (k - pcB c l k) = k by omega]
      rw [e2]
      cases hw : wds c (l.drop (k + 1)) with
      | nil => exact absurd hw (wds_ne c _)
      | cons y r => simp [consP, consH]
theorem pc_wds (c : UInt8) (l : List UInt8) : pcL c l l.length ++ [l.drop (pcB c l l.length)] = wds c l := by
  have hb := pcB_le c l l.length
  rw [pc_inv c l l.length (Nat.le_refl _), List.drop_length]
  have e : (l.drop (pcB c l l.length)).take (l.length - pcB c l l.length) = l.drop (pcB c l l.length) := List.take_of_length_le (by rw [List.length_drop]; omega)
  rw [e]
  simp [wds, consP]
theorem pcL_step {c : UInt8} {l : List UInt8} {k : Nat} (h : l.getD k 0 = c) : pcB c l (k + 1) = k + 1 ∧ pcL c l (k + 1) = pcL c l k ++ [(l.drop (pcB c l k)).take (k - pcB c l k)] := by
  rw [pcB, pcL, if_pos h, if_pos h]; exact ⟨rfl, rfl⟩
theorem pcL_stay {c : UInt8} {l : List UInt8} {k : Nat} (h : l.getD k 0 ≠ c) : pcB c l (k + 1) = pcB c l k ∧ pcL c l (k + 1) = pcL c l k := by
  rw [pcB, pcL, if_neg h, if_neg h]; exact ⟨rfl, rfl⟩
theorem wds_len (c : UInt8) : ∀ l, (wds c l).length ≤ l.length + 1
  | [] => by simp [wds]
  | b :: l => by
    have := wds_len c l
    unfold wds
    split
    · simp; omega
    · cases hw : wds c l with
      | nil => simp [consH]
      | cons x r => rw [hw] at this; simp [consH] at this ⊢; omega
theorem wds_el (c : UInt8) : ∀ l, ∀ x ∈ wds c l, x.length ≤ l.length
  | [] => by simp [wds]
  | b :: l => by
    have ih := wds_el c l
    unfold wds
    split
    · intro x hx
      rcases List.mem_cons.1 hx with rfl | hx
      · simp
      · have := ih x hx; simp; omega
    · cases hw : wds c l with
      | nil => exact absurd hw (wds_ne c l)
      | cons y r =>
        rw [hw] at ih
        intro x hx
        simp only [consH] at hx
        rcases List.mem_cons.1 hx with rfl | hx
        · have := ih y (by simp); simp; omega
        · have := ih x (by simp [hx]); simp; omega
end Go.Proofs.YtmfgbkmkcljciaaDoor
