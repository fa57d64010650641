/- Plain mathematics on lists: first places, distinct elements, greatest numbers, sums; no condition. -/
import Derived.WalkKit
namespace Go.Proofs.YtlljflmbnbjccaaDoor
set_option linter.unusedSimpArgs false
set_option linter.unusedVariables false

section
variable {α : Type} [DecidableEq α]
/-- The first place of x in a list; its length if there is none. -/
def fidx (x : α) : List α → Nat
  | [] => 0
  | y :: l => if x = y then 0 else fidx x l + 1
theorem fidx_le (x : α) : ∀ l : List α, fidx x l ≤ l.length
  | [] => Nat.le_refl _
  | y :: l => by unfold fidx; split <;> simp [fidx_le x l]
theorem fidx_append_mem {x : α} : ∀ {l m : List α}, x ∈ l → fidx x (l ++ m) = fidx x l
  | [], _, h => by cases h
  | y :: l, m, h => by
    rw [List.cons_append]
    unfold fidx
    split
    · rfl
    · rename_i hne
      rw [fidx_append_mem (l := l) (by rcases List.mem_cons.1 h with h | h; exact absurd h hne; exact h)]
theorem fidx_append_not {x : α} : ∀ {l m : List α}, x ∉ l → fidx x (l ++ m) = l.length + fidx x m
  | [], m, _ => by simp
  | y :: l, m, h => by
    have e : fidx x (y :: l ++ m) = fidx x (l ++ m) + 1 := by
      rw [List.cons_append, fidx, if_neg (fun e => h (by rw [e]; exact List.mem_cons_self))]
    rw [e, fidx_append_not (l := l) (fun hm => h (List.mem_cons_of_mem _ hm)), List.length_cons]
    omega
theorem fidx_lt {x : α} : ∀ {l : List α}, x ∈ l → fidx x l < l.length
  | [], h => by cases h
  | y :: l, h => by
    unfold fidx
    split
    · simp
    · rename_i hne
      have := fidx_lt (l := l) (by rcases List.mem_cons.1 h with h | h; exact absurd h hne; exact h)
      simp
      omega
theorem fidx_mem {x : α} {l : List α} (h : fidx x l < l.length) : x ∈ l := by
  induction l with
  | nil => simp at h
  | cons y l ih =>
    unfold fidx at h
    split at h
    · rename_i e; rw [e]; exact List.mem_cons_self
    · exact List.mem_cons_of_mem _ (ih (by simpa using h))
theorem fidx_iff {x : α} {l : List α} : fidx x l < l.length ↔ x ∈ l := ⟨fidx_mem, fidx_lt⟩
theorem fidx_get {x : α} : ∀ {l : List α} (h : fidx x l < l.length), l[fidx x l] = x
  | [], h => by simp at h
  | y :: l, h => by
    have hm : ∀ k, fidx x (y :: l) = k → ∀ hk : k < (y :: l).length, (y :: l)[k] = x := by
      intro k hk hlt
      unfold fidx at hk
      split at hk
      · rename_i e; subst hk; simpa using e.symm
      · subst hk
        simp only [List.getElem_cons_succ]
        exact fidx_get (by simpa using hlt)
    exact hm _ rfl h
theorem fidx_not {x : α} : ∀ {l : List α} {k : Nat} (h : k < l.length), k < fidx x l → x ≠ l[k]
  | [], _, h, _ => by simp at h
  | y :: l, k, h, hk => by
    unfold fidx at hk
    split at hk
    · omega
    · rename_i hne
      cases k with
      | zero => simpa using hne
      | succ k => simp only [List.getElem_cons_succ]; exact fidx_not (by simpa using h) (by omega)
/-- Found at k, and not before. -/
theorem fidx_at {x : α} {l : List α} {k : Nat} (hk : k < l.length) (h : x = l[k]) (h0 : k ≤ fidx x l) : fidx x l = k := by
  rcases Nat.lt_or_ge k (fidx x l) with h1 | h1
  · exact absurd h (fidx_not hk h1)
  · omega
theorem fidx_step {x : α} {l : List α} {k : Nat} (hk : k < l.length) (h : x ≠ l[k]) (h0 : k ≤ fidx x l) : k + 1 ≤ fidx x l := by
  rcases Nat.lt_or_ge k (fidx x l) with h1 | h1
  · exact h1
  · have e : fidx x l = k := by omega
    exact absurd (fidx_get (x := x) (l := l) (by omega)).symm (by simp only [e]; exact h)
theorem fidx_self {l : List α} {k : Nat} (hk : k < l.length) : fidx l[k] l ≤ k := by
  rcases Nat.lt_or_ge k (fidx l[k] l) with h1 | h1
  · exact absurd rfl (fidx_not hk h1)
  · exact h1
theorem fidx_none {x : α} {l : List α} (h : l.length ≤ fidx x l) : fidx x l = l.length := by
  have := fidx_le x l; omega

/-- The first places of all elements. -/
def repN (B : List α) : List Nat := B.map fun x => fidx x B
/-- One more element: the distinct ones so far, and where each is among them. -/
def dstep (s : List α × List Nat) (x : α) : List α × List Nat := (if fidx x s.1 < s.1.length then s.1 else s.1 ++ [x], s.2 ++ [fidx x s.1])
def dst (B : List α) : List α × List Nat := B.foldl dstep ([], [])
theorem dst_snoc (B : List α) (x : α) : dst (B ++ [x]) = dstep (dst B) x := by simp [dst]
theorem dst_take {B : List α} {k : Nat} (hk : k < B.length) : dst (B.take (k + 1)) = dstep (dst (B.take k)) B[k] := by
  rw [List.take_succ_eq_append_getElem hk, dst_snoc]
theorem dst_len (B : List α) : (dst B).2.length = B.length := by
  have : ∀ (B : List α) (s : List α × List Nat), (B.foldl dstep s).2.length = s.2.length + B.length := by
    intro B
    induction B with
    | nil => intro s; simp
    | cons x B ih => intro s; rw [List.foldl_cons, ih]; simp [dstep]; omega
  simpa [dst] using this B ([], [])
theorem dst_le (B : List α) : (dst B).1.length ≤ B.length := by
  have : ∀ (B : List α) (s : List α × List Nat), (B.foldl dstep s).1.length ≤ s.1.length + B.length := by
    intro B
    induction B with
    | nil => intro s; simp
    | cons x B ih =>
      intro s
      rw [List.foldl_cons]
      refine Nat.le_trans (ih _) ?_
      simp only [dstep]
      split <;> simp <;> omega
  simpa [dst] using this B ([], [])
theorem dst_mem {B : List α} {x : α} : x ∈ (dst B).1 ↔ x ∈ B := by
  have : ∀ (B : List α) (s : List α × List Nat), x ∈ (B.foldl dstep s).1 ↔ (x ∈ s.1 ∨ x ∈ B) := by
    intro B
    induction B with
    | nil => intro s; simp
    | cons y B ih =>
      intro s
      rw [List.foldl_cons, ih]
      simp only [dstep]
      split
      · rename_i h
        have hy := fidx_mem h
        constructor
        · rintro (h | h)
          · exact Or.inl h
          · exact Or.inr (List.mem_cons_of_mem _ h)
        · rintro (h | h)
          · exact Or.inl h
          · rcases List.mem_cons.1 h with rfl | h
            · exact Or.inl hy
            · exact Or.inr h
      · rw [List.mem_append, List.mem_singleton, List.mem_cons]
        constructor
        · rintro ((h | h) | h)
          · exact Or.inl h
          · exact Or.inr (Or.inl h)
          · exact Or.inr (Or.inr h)
        · rintro (h | h | h)
          · exact Or.inl (Or.inl h)
          · exact Or.inl (Or.inr h)
          · exact Or.inr h
  simpa [dst] using this B ([], [])
/-- The places so far tell where each element is among the distinct ones. -/
theorem dst_place {B : List α} : ∀ (k : Nat) (hk : k < B.length), (dst B).2[k]? = some (fidx B[k] (dst B).1) := by
  have key : ∀ (B : List α), (∀ k (hk : k < B.length), (dst B).2[k]? = some (fidx B[k] (dst B).1)) := by
    intro B
    have hind : ∀ n, n ≤ B.length → ∀ k (hk : k < B.length), k < n → (dst (B.take n)).2[k]? = some (fidx B[k] (dst (B.take n)).1) := by
      intro n
      induction n with
      | zero => intro _ k _ h; omega
      | succ n ih =>
        intro hn k hk hkn
        have hnl : n < B.length := by omega
        rw [dst_take hnl]
        have hlen : (dst (B.take n)).2.length = n := by rw [dst_len, List.length_take]; omega
        by_cases hkn' : k < n
        · have h := ih (by omega) k hk hkn'
          simp only [dstep]
          rw [List.getElem?_append_left (by omega), h]
          split
          · rfl
          · have hm : B[k] ∈ (dst (B.take n)).1 := by
              rw [dst_mem, List.mem_take_iff_getElem]
              exact ⟨k, by omega, rfl⟩
            rw [fidx_append_mem hm]
        · have e : k = n := by omega
          subst e
          simp only [dstep]
          rw [List.getElem?_append_right (by omega), hlen, Nat.sub_self, List.getElem?_cons_zero]
          congr 1
          split
          · rfl
          · rename_i h
            have hno : B[k] ∉ (dst (B.take k)).1 := fun hm => h (fidx_lt hm)
            rw [fidx_append_not hno]
            have := fidx_le B[k] (dst (B.take k)).1
            simp [fidx]
            omega
    intro k hk
    have := hind B.length (Nat.le_refl _) k hk hk
    rwa [List.take_length] at this
  exact key B
/-- What the reference does with the first places. -/
theorem dst_new {B : List α} {k : Nat} (hk : k < B.length) (h : fidx B[k] B = k) : dst (B.take (k + 1)) = ((dst (B.take k)).1 ++ [B[k]], (dst (B.take k)).2 ++ [(dst (B.take k)).1.length]) := by
  have hno : B[k] ∉ (dst (B.take k)).1 := by
    rw [dst_mem, List.mem_take_iff_getElem]
    rintro ⟨j, hj, e⟩
    have hj2 : j < B.length := by omega
    have := fidx_not (x := B[k]) hj2 (by omega)
    exact this e.symm
  have hf : fidx B[k] (dst (B.take k)).1 = (dst (B.take k)).1.length := fidx_none (by
    rcases Nat.lt_or_ge (fidx B[k] (dst (B.take k)).1) (dst (B.take k)).1.length with h1 | h1
    · exact absurd (fidx_mem h1) hno
    · exact h1)
  rw [dst_take hk]
  simp only [dstep]
  rw [hf, if_neg (Nat.lt_irrefl _)]
theorem dst_old {B : List α} {k : Nat} (hk : k < B.length) (h : fidx B[k] B ≠ k) : fidx B[k] B < k ∧ ∃ p, (dst (B.take k)).2[fidx B[k] B]? = some p ∧ dst (B.take (k + 1)) = ((dst (B.take k)).1, (dst (B.take k)).2 ++ [p]) := by
  have hle := fidx_self hk
  have hlt : fidx B[k] B < k := by omega
  have hfl : fidx B[k] B < B.length := by omega
  have hg := fidx_get hfl
  refine ⟨hlt, fidx B[k] (dst (B.take k)).1, ?_, ?_⟩
  · have := dst_place (B := B.take k) (fidx B[k] B) (by rw [List.length_take]; omega)
    rw [this]
    rw [List.getElem_take, hg]
  · rw [dst_take hk]
    simp only [dstep]
    have hm : B[k] ∈ (dst (B.take k)).1 := by
      rw [dst_mem, List.mem_take_iff_getElem]
      exact ⟨_, by omega, hg⟩
    rw [if_pos (fidx_lt hm)]
end

/-! ### The greatest of some numbers -/
def mxL (m : Int) (l : List Int) : Int := l.foldl (fun a b => max a b) m
theorem mxL_snoc (m : Int) (l : List Int) (x : Int) : mxL m (l ++ [x]) = max (mxL m l) x := by simp [mxL]
/-- a is the first place of the greatest of the first k. -/
def ArgMax (l : List Int) (k a : Nat) : Prop := a < k ∧ (∀ j, j < k → l.getD j 0 ≤ l.getD a 0) ∧ ∀ j, j < a → l.getD j 0 < l.getD a 0
theorem ArgMax.one (l : List Int) : ArgMax l 1 0 := ⟨by omega, fun j hj => by rw [show j = 0 by omega]; exact Int.le_refl _, fun j hj => by omega⟩
theorem ArgMax.up {l : List Int} {k a : Nat} (h : ArgMax l k a) (hx : l.getD a 0 < l.getD k 0) : ArgMax l (k + 1) k := by
  refine ⟨by omega, fun j hj => ?_, fun j hj => ?_⟩
  · by_cases e : j = k
    · subst e; exact Int.le_refl _
    · have := h.2.1 j (by omega); omega
  · have := h.2.1 j (by omega); omega
theorem ArgMax.stay {l : List Int} {k a : Nat} (h : ArgMax l k a) (hx : ¬ l.getD a 0 < l.getD k 0) : ArgMax l (k + 1) a := by
  refine ⟨by have := h.1; omega, fun j hj => ?_, h.2.2⟩
  by_cases e : j = k
  · subst e; omega
  · exact h.2.1 j (by omega)
theorem ArgMax.uniq {l : List Int} {k a b : Nat} (h : ArgMax l k a) (h' : ArgMax l k b) : a = b := by
  rcases Nat.lt_trichotomy a b with h1 | h1 | h1
  · have := h'.2.2 a h1
    have := h.2.1 b h'.1
    omega
  · exact h1
  · have := h.2.2 b h1
    have := h'.2.1 a h.1
    omega
/-- The greatest of the first k. -/
def MaxTo (l : List Int) (k : Nat) (m : Int) : Prop := (∀ j, j < k → l.getD j 0 ≤ m) ∧ ∃ j, j < k ∧ l.getD j 0 = m
theorem MaxTo.one (l : List Int) : MaxTo l 1 (l.getD 0 0) := ⟨fun j hj => by rw [show j = 0 by omega]; exact Int.le_refl _, 0, by omega, rfl⟩
theorem MaxTo.step {l : List Int} {k : Nat} {m : Int} (h : MaxTo l k m) : MaxTo l (k + 1) (max m (l.getD k 0)) := by
  obtain ⟨h1, j, h2, h3⟩ := h
  refine ⟨fun i hi => ?_, ?_⟩
  · by_cases e : i = k
    · subst e; exact Int.le_max_right _ _
    · exact Int.le_trans (h1 i (by omega)) (Int.le_max_left _ _)
  · rcases Int.le_total m (l.getD k 0) with h | h
    · exact ⟨k, by omega, by rw [Int.max_eq_right h]⟩
    · exact ⟨j, by omega, by rw [Int.max_eq_left h, h3]⟩
theorem ArgMax.of_max {l : List Int} {m : Int} (h : MaxTo l l.length m) : ArgMax l l.length (fidx m l) ∧ l.getD (fidx m l) 0 = m := by
  obtain ⟨h1, j, h2, h3⟩ := h
  have hm : m ∈ l := by
    rw [List.getD_eq_getElem?_getD, List.getElem?_eq_getElem h2] at h3
    exact List.mem_iff_getElem.2 ⟨j, h2, h3⟩
  have hlt := fidx_lt hm
  have hg : l.getD (fidx m l) 0 = m := by rw [List.getD_eq_getElem?_getD, List.getElem?_eq_getElem hlt]; exact fidx_get hlt
  refine ⟨⟨hlt, fun i hi => by rw [hg]; exact h1 i hi, fun i hi => ?_⟩, hg⟩
  have h4 := h1 i (by omega)
  have h5 : m ≠ l.getD i 0 := by
    rw [List.getD_eq_getElem?_getD, List.getElem?_eq_getElem (show i < l.length by omega)]
    exact fidx_not (by omega) hi
  rw [hg]
  omega

/-! ### Sums -/
def sumI (l : List Int) : Int := l.foldl (· + ·) 0
theorem sumI_snoc (l : List Int) (x : Int) : sumI (l ++ [x]) = sumI l + x := by simp [sumI]
theorem sumI_take {l : List Int} {k : Nat} (hk : k < l.length) : sumI (l.take (k + 1)) = sumI (l.take k) + l[k] := by rw [List.take_succ_eq_append_getElem hk, sumI_snoc]
theorem sumI_le {l : List Int} {c : Int} (hc : 0 ≤ c) (h : ∀ x ∈ l, 0 ≤ x ∧ x ≤ c) : 0 ≤ sumI l ∧ sumI l ≤ c * l.length := by
  have : ∀ (l : List Int) (s : Int), (∀ x ∈ l, 0 ≤ x ∧ x ≤ c) → s ≤ l.foldl (· + ·) s ∧ l.foldl (· + ·) s ≤ s + c * l.length := by
    intro l
    induction l with
    | nil => intro s _; simp
    | cons x l ih =>
      intro s h
      have hx := h x (List.mem_cons_self)
      have := ih (s + x) (fun y hy => h y (List.mem_cons_of_mem _ hy))
      rw [List.foldl_cons]
      have e : c * ((x :: l).length : Nat) = c * (l.length : Nat) + c := by rw [List.length_cons, Int.natCast_add, Int.mul_add]; simp
      rw [e]
      omega
  have := this l 0 h
  unfold sumI
  omega
end Go.Proofs.YtlljflmbnbjccaaDoor
