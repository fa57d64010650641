/- Plain mathematics on sheets: shots, the pages at all ticks, short sheets, how long pages are shown; no condition. -/
import Derived.Test.YtlljflmbnbjccaaDoorPl
namespace Go.Proofs.YtlljflmbnbjccaaDoor
set_option linter.unusedSimpArgs false
set_option linter.unusedVariables false
abbrev Sh : Type := Int × Int
/-- A shot for a book of n pages. -/
def shB (n : Int) (s : Sh) : Bool := decide (0 ≤ s.1 ∧ s.1 ≤ n - 1) && decide (1 ≤ s.2 ∧ s.2 ≤ 24)
theorem shB_iff {n : Int} {s : Sh} : shB n s = true ↔ (0 ≤ s.1 ∧ s.1 ≤ n - 1) ∧ (1 ≤ s.2 ∧ s.2 ≤ 24) := by simp [shB]
def allSh (n : Int) (S : List Sh) : Bool := S.all (shB n)
theorem allSh_get {n : Int} {S : List Sh} (h : allSh n S = true) {k : Nat} (hk : k < S.length) : shB n S[k] = true := List.all_eq_true.1 h _ (List.getElem_mem hk)
theorem allSh_no {n : Int} {S : List Sh} {k : Nat} (hk : k < S.length) (h : shB n S[k] = false) : allSh n S = false := by
  unfold allSh
  rw [List.all_eq_false]
  exact ⟨S[k], List.getElem_mem hk, by simp [h]⟩
def ShTo (n : Int) (S : List Sh) (k : Nat) : Prop := ∀ j (h1 : j < S.length), j < k → shB n S[j] = true
theorem ShTo.step {n : Int} {S : List Sh} {k : Nat} (h : ShTo n S k) (hk : k < S.length) (e : shB n S[k] = true) : ShTo n S (k + 1) := fun j h1 hj => by
  by_cases hjk : j = k
  · subst hjk; exact e
  · exact h j h1 (by omega)
theorem ShTo.all {n : Int} {S : List Sh} {m : Nat} (h : ShTo n S m) (hm : S.length = m) : allSh n S = true := by
  unfold allSh
  rw [List.all_eq_true]
  intro a ha
  obtain ⟨j, hj, rfl⟩ := List.mem_iff_getElem.1 ha
  exact h j hj (by omega)
/-- The pages at all ticks. -/
def tkS (S : List Sh) : List Int := S.flatMap fun s => List.replicate s.2.toNat s.1
theorem tkS_snoc (S : List Sh) (s : Sh) : tkS (S ++ [s]) = tkS S ++ List.replicate s.2.toNat s.1 := by simp [tkS]
theorem tkS_take {S : List Sh} {k : Nat} (hk : k < S.length) : tkS (S.take (k + 1)) = tkS (S.take k) ++ List.replicate S[k].2.toNat S[k].1 := by rw [List.take_succ_eq_append_getElem hk, tkS_snoc]
theorem tkS_all {S : List Sh} {n : Nat} (hn : S.length = n) : tkS (S.take n) = tkS S := by rw [List.take_of_length_le (by omega)]
theorem tkS_length {n : Int} : ∀ {S : List Sh}, allSh n S = true → (tkS S).length ≤ 24 * S.length
  | [], _ => by simp [tkS]
  | s :: S, h => by
    unfold allSh at h
    rw [List.all_cons, Bool.and_eq_true] at h
    have h1 := (shB_iff.1 h.1).2
    have h2 := tkS_length (n := n) (S := S) h.2
    unfold tkS at h2 ⊢
    rw [List.flatMap_cons, List.length_append, List.length_replicate, List.length_cons]
    omega
theorem allSh_take {n : Int} {S : List Sh} (h : allSh n S = true) (k : Nat) : allSh n (S.take k) = true := by
  unfold allSh at h ⊢
  rw [List.all_eq_true] at h ⊢
  intro x hx
  exact h x (List.mem_of_mem_take hx)
theorem tkS_len_take {n : Int} {S : List Sh} (h : allSh n S = true) (k : Nat) : (tkS (S.take k)).length ≤ 24 * S.length := by
  have h1 := tkS_length (allSh_take h k)
  have h2 : (S.take k).length ≤ S.length := by rw [List.length_take]; omega
  omega
theorem tkS_range {n : Int} {S : List Sh} (h : allSh n S = true) : ∀ x ∈ tkS S, 0 ≤ x ∧ x ≤ n - 1 := by
  intro x hx
  obtain ⟨s, hs, hx2⟩ := List.mem_flatMap.1 hx
  have h1 := (shB_iff.1 (List.all_eq_true.1 h s hs)).1
  obtain ⟨_, rfl⟩ := List.mem_replicate.1 hx2
  exact h1

/-! ### Short sheets -/
def lastS (l : List Sh) : Sh := l.getLastD (0, 0)
theorem lastS_snoc (O : List Sh) (s : Sh) : lastS (O ++ [s]) = s := by simp [lastS]
def bump (l : List Sh) : List Sh := l.dropLast ++ [((lastS l).1, (lastS l).2 + 1)]
theorem bump_snoc (O : List Sh) (p h : Int) : bump (O ++ [(p, h)]) = O ++ [(p, h + 1)] := by simp [bump, lastS_snoc]
/-- One tick more. -/
def shSt (out : List Sh) (page : Int) : List Sh := if out ≠ [] ∧ (lastS out).1 = page ∧ (lastS out).2 < 24 then bump out else out ++ [(page, 1)]
def shortL (T : List Int) : List Sh := T.foldl shSt []
theorem shortL_take {T : List Int} {k : Nat} (hk : k < T.length) : shortL (T.take (k + 1)) = shSt (shortL (T.take k)) T[k] := by
  unfold shortL; rw [List.take_succ_eq_append_getElem hk, List.foldl_append]; rfl
theorem shSt_nil (page : Int) : shSt [] page = [(page, 1)] := by simp [shSt]
theorem shSt_bump {O : List Sh} {p h : Int} (hh : h < 24) : shSt (O ++ [(p, h)]) p = O ++ [(p, h + 1)] := by
  unfold shSt
  rw [if_pos ⟨by simp, by rw [lastS_snoc], by rw [lastS_snoc]; exact hh⟩, bump_snoc]
theorem shSt_new {O : List Sh} {p h page : Int} (hh : p ≠ page ∨ ¬ h < 24) : shSt (O ++ [(p, h)]) page = O ++ [(p, h)] ++ [(page, 1)] := by
  unfold shSt
  rw [if_neg]
  rintro ⟨_, h2, h3⟩
  rw [lastS_snoc] at h2 h3
  rcases hh with hh | hh
  · exact hh h2
  · exact hh h3
/-- What lies behind k ticks. -/
theorem shortL_last {T : List Int} : ∀ {k : Nat}, 0 < k → k ≤ T.length → ∃ O p h, shortL (T.take k) = O ++ [(p, h)] ∧ p = T.getD (k - 1) 0 ∧ 1 ≤ h ∧ h ≤ 24 ∧ O.length + 1 ≤ k := by
  intro k
  induction k with
  | zero => intro h; omega
  | succ k ih =>
    intro _ hk
    have hkl : k < T.length := by omega
    rw [shortL_take hkl]
    have hg : T[k] = T.getD k 0 := by rw [List.getD_eq_getElem?_getD, List.getElem?_eq_getElem hkl]; rfl
    rcases Nat.eq_zero_or_pos k with h0 | hpos
    · subst h0
      rw [List.take_zero]
      refine ⟨[], T[0], 1, ?_, ?_, by omega, by omega, by simp⟩
      · show shSt [] T[0] = _
        rw [shSt_nil]; rfl
      · rw [hg]
    · obtain ⟨O, p, h, e, hp, h1, h2, h3⟩ := ih hpos (by omega)
      rw [e]
      by_cases hc : p = T[k] ∧ h < 24
      · rw [← hc.1, shSt_bump hc.2]
        exact ⟨O, p, h + 1, rfl, by rw [show k + 1 - 1 = k by omega, ← hg, hc.1], by omega, by omega, by omega⟩
      · rw [shSt_new (Decidable.or_iff_not_not_and_not.2 fun hx => hc ⟨Decidable.not_not.1 hx.1, Decidable.not_not.1 hx.2⟩)]
        exact ⟨O ++ [(p, h)], T[k], 1, rfl, by rw [show k + 1 - 1 = k by omega, ← hg], by omega, by omega, by simp; omega⟩
/-- The sheet of some places: none where a hold would be too long. -/
def soSt (o : Option (List Sh)) (page : Int) : Option (List Sh) := o.bind fun out => if out ≠ [] ∧ (lastS out).1 = page then (if (lastS out).2 < 24 then some (bump out) else none) else some (out ++ [(page, 1)])
def soL (T : List Int) : Option (List Sh) := T.foldl soSt (some [])
theorem soL_take {T : List Int} {k : Nat} (hk : k < T.length) : soL (T.take (k + 1)) = soSt (soL (T.take k)) T[k] := by
  unfold soL; rw [List.take_succ_eq_append_getElem hk, List.foldl_append]; rfl
theorem soSt_none (l : List Int) : l.foldl soSt none = none := by induction l with | nil => rfl | cons x l ih => rw [List.foldl_cons]; exact ih
/-- Once it is too long it stays so. -/
theorem soL_none {T : List Int} {k : Nat} (h : soL (T.take k) = none) : soL T = none := by
  have e : T.take k ++ T.drop k = T := List.take_append_drop k T
  unfold soL at h ⊢
  rw [← e, List.foldl_append, h, soSt_none]
theorem soSt_nil (page : Int) : soSt (some []) page = some [(page, 1)] := by simp [soSt]
theorem soSt_bump {O : List Sh} {p h : Int} (hh : h < 24) : soSt (some (O ++ [(p, h)])) p = some (O ++ [(p, h + 1)]) := by
  unfold soSt
  rw [Option.bind_some, if_pos ⟨by simp, by rw [lastS_snoc]⟩, if_pos (by rw [lastS_snoc]; exact hh), bump_snoc]
theorem soSt_full {O : List Sh} {p h : Int} (hh : ¬ h < 24) : soSt (some (O ++ [(p, h)])) p = none := by
  unfold soSt
  rw [Option.bind_some, if_pos ⟨by simp, by rw [lastS_snoc]⟩, if_neg (by rw [lastS_snoc]; exact hh)]
theorem soSt_new {O : List Sh} {p h page : Int} (hh : p ≠ page) : soSt (some (O ++ [(p, h)])) page = some (O ++ [(p, h)] ++ [(page, 1)]) := by
  unfold soSt
  rw [Option.bind_some, if_neg]
  rintro ⟨_, h2⟩
  rw [lastS_snoc] at h2
  exact hh h2
theorem soL_last {T : List Int} : ∀ {k : Nat} {out : List Sh}, 0 < k → k ≤ T.length → soL (T.take k) = some out → ∃ O p h, out = O ++ [(p, h)] ∧ p = T.getD (k - 1) 0 ∧ 1 ≤ h ∧ h ≤ 24 ∧ O.length + 1 ≤ k := by
  intro k
  induction k with
  | zero => intro _ h; omega
  | succ k ih =>
    intro out _ hk ho
    have hkl : k < T.length := by omega
    rw [soL_take hkl] at ho
    have hg : T[k] = T.getD k 0 := by rw [List.getD_eq_getElem?_getD, List.getElem?_eq_getElem hkl]; rfl
    cases hs : soL (T.take k) with
    | none => rw [hs] at ho; cases ho
    | some o =>
      rw [hs] at ho
      rcases Nat.eq_zero_or_pos k with h0 | hpos
      · subst h0
        have : o = [] := by rw [List.take_zero] at hs; simpa [soL] using hs.symm
        subst this
        rw [soSt_nil] at ho
        injection ho with ho
        exact ⟨[], T[0], 1, ho.symm, by rw [hg], by omega, by omega, by simp⟩
      · obtain ⟨O, p, h, e, hp, h1, h2, h3⟩ := ih hpos (by omega) hs
        subst e
        by_cases e1 : p = T[k]
        · rw [← e1] at ho
          by_cases hh : h < 24
          · rw [soSt_bump hh] at ho
            injection ho with ho
            exact ⟨O, p, h + 1, ho.symm, by rw [show k + 1 - 1 = k by omega, ← hg, e1], by omega, by omega, by omega⟩
          · rw [soSt_full hh] at ho; cases ho
        · rw [soSt_new e1] at ho
          injection ho with ho
          exact ⟨O ++ [(p, h)], T[k], 1, ho.symm, by rw [show k + 1 - 1 = k by omega, ← hg], by omega, by omega, by simp; omega⟩

/-! ### How long pages are shown -/
def addAt (l : List Int) (j : Nat) (d : Int) : List Int := l.set j (l.getD j 0 + d)
@[simp] theorem addAt_length (l : List Int) (j : Nat) (d : Int) : (addAt l j d).length = l.length := by simp [addAt]
theorem addAt_zero (l : List Int) (j : Nat) : addAt l j 0 = l := by
  unfold addAt
  apply List.ext_getElem?
  intro i
  rw [List.getElem?_set]
  split
  · rename_i e; subst e
    split
    · rename_i h; rw [List.getD_eq_getElem?_getD, List.getElem?_eq_getElem h]; simp
    · rename_i h; rw [List.getElem?_eq_none (by omega)]
  · rfl
theorem addAt_add {l : List Int} {j : Nat} (hj : j < l.length) (d e : Int) : addAt (addAt l j d) j e = addAt l j (d + e) := by
  unfold addAt
  rw [List.set_set, List.getD_eq_getElem?_getD, List.getElem?_set_self hj]
  simp [Int.add_assoc]
/-- One tick after the other. -/
def shownT (n : Nat) (T : List Int) : List Int := T.foldl (fun l p => addAt l p.toNat 1) (List.replicate n 0)
/-- One shot after the other. -/
def shownS (n : Nat) (S : List Sh) : List Int := S.foldl (fun l s => addAt l s.1.toNat s.2) (List.replicate n 0)
theorem shownT_take {n : Nat} {T : List Int} {k : Nat} (hk : k < T.length) : shownT n (T.take (k + 1)) = addAt (shownT n (T.take k)) T[k].toNat 1 := by
  unfold shownT; rw [List.take_succ_eq_append_getElem hk, List.foldl_append]; rfl
theorem shownS_take {n : Nat} {S : List Sh} {k : Nat} (hk : k < S.length) : shownS n (S.take (k + 1)) = addAt (shownS n (S.take k)) S[k].1.toNat S[k].2 := by
  unfold shownS; rw [List.take_succ_eq_append_getElem hk, List.foldl_append]; rfl
theorem shownT_length (n : Nat) (T : List Int) : (shownT n T).length = n := by
  have : ∀ (T : List Int) (l : List Int), (T.foldl (fun l p => addAt l p.toNat 1) l).length = l.length := by
    intro T
    induction T with
    | nil => intro l; rfl
    | cons x T ih => intro l; rw [List.foldl_cons, ih, addAt_length]
  unfold shownT
  rw [this, List.length_replicate]
theorem shown_rep {l : List Int} {j : Nat} (hj : j < l.length) (p : Int) (hp : p.toNat = j) : ∀ h : Nat, (List.replicate h p).foldl (fun l p => addAt l p.toNat 1) l = addAt l j (h : Nat)
  | 0 => by rw [List.replicate_zero, List.foldl_nil]; exact (addAt_zero l j).symm
  | h + 1 => by
    rw [List.replicate_succ', List.foldl_append, shown_rep hj p hp h, List.foldl_cons, List.foldl_nil, hp, addAt_add hj]
    congr 1
theorem shown_same {n : Nat} {S : List Sh} (h : allSh n S = true) : shownT n (tkS S) = shownS n S := by
  have : ∀ (S : List Sh) (l : List Int), l.length = n → allSh n S = true → (tkS S).foldl (fun l p => addAt l p.toNat 1) l = S.foldl (fun l s => addAt l s.1.toNat s.2) l := by
    intro S
    induction S with
    | nil => intro l _ _; rfl
    | cons s S ih =>
      intro l hl h
      unfold allSh at h
      rw [List.all_cons, Bool.and_eq_true] at h
      obtain ⟨⟨h1, h2⟩, h3, h4⟩ := shB_iff.1 h.1
      have e : tkS (s :: S) = List.replicate s.2.toNat s.1 ++ tkS S := by simp [tkS]
      rw [e, List.foldl_append, shown_rep (j := s.1.toNat) (by omega) s.1 rfl, ih _ (by rw [addAt_length]; exact hl) h.2, List.foldl_cons]
      rw [show ((s.2.toNat : Nat) : Int) = s.2 by omega]
  exact this S _ (by simp) h
/-- Each is at most the number of ticks. -/
theorem shownT_range (n : Nat) (T : List Int) : ∀ x ∈ shownT n T, 0 ≤ x ∧ x ≤ T.length := by
  have : ∀ (T : List Int) (l : List Int) (c : Int), 0 ≤ c → (∀ x ∈ l, 0 ≤ x ∧ x ≤ c) → ∀ x ∈ T.foldl (fun l p => addAt l p.toNat 1) l, 0 ≤ x ∧ x ≤ c + T.length := by
    intro T
    induction T with
    | nil => intro l c hc h x hx; have := h x hx; simp; omega
    | cons p T ih =>
      intro l c hc h x hx
      rw [List.foldl_cons] at hx
      have := ih (addAt l p.toNat 1) (c + 1) (by omega) (fun y hy => by
        unfold addAt at hy
        rcases List.mem_or_eq_of_mem_set hy with hy | hy
        · have := h y hy; omega
        · subst hy
          rcases Nat.lt_or_ge p.toNat l.length with hl | hl
          · have := h _ (List.getElem_mem hl)
            rw [List.getD_eq_getElem?_getD, List.getElem?_eq_getElem hl]
            simp; omega
          · rw [List.getD_eq_getElem?_getD, List.getElem?_eq_none hl]; simp; omega) x hx
      rw [List.length_cons]
      omega
  intro x hx
  have := this T (List.replicate n 0) 0 (by omega) (fun y hy => by obtain ⟨_, rfl⟩ := List.mem_replicate.1 hy; omega) x hx
  omega

/-! ### Stretched -/
def strH (h num den : Int) : Int := max 1 (h * num / den)
end Go.Proofs.YtlljflmbnbjccaaDoor
