/- Two frames: both valid, met, joined, cut out; no condition. -/
import Derived.Test.YtlljflmbnbjccaaDoorB5
namespace Go.Proofs.YtlljflmbnbjccaaDoor
open Go.RowKit
set_option linter.unusedSimpArgs false
set_option linter.unusedVariables false

/-- The code of a question about two frames. -/
def codeG (f g : List Nat) : Int := if okB f = true ∧ okB g = true then 0 else 1
theorem codeG_0 {f g : List Nat} (h : okB f = true) (h' : okB g = true) : codeG f g = 0 := by simp [codeG, h, h']
theorem codeG_1 {f g : List Nat} (h : okB f = false) : codeG f g = 1 := by simp [codeG, h]
theorem codeG_2 {f g : List Nat} (h : okB g = false) : codeG f g = 1 := by simp [codeG, h]
theorem codeG_ok {f g : List Nat} (h : codeG f g = 0) : okB f = true ∧ okB g = true := by
  unfold codeG at h
  split at h
  · assumption
  · cases h
/-! ### Lists of frames in memory -/
def fsv (fs : List (List Nat)) : List Value := fs.flatMap frv
theorem fsv_append (fs gs : List (List Nat)) : fsv (fs ++ gs) = fsv fs ++ fsv gs := by simp [fsv]
theorem fsv_length {fs : List (List Nat)} (hl : ∀ f ∈ fs, f.length = 12) : (fsv fs).length = fs.length * 12 := by
  induction fs with
  | nil => rfl
  | cons f fs ih =>
    have h1 := hl f (by simp)
    have h2 := ih (fun g hg => hl g (by simp [hg]))
    simp only [fsv, List.flatMap_cons, List.length_append, List.length_cons, frv_length] at h2 ⊢
    omega
theorem fsv_get {fs : List (List Nat)} (hl : ∀ f ∈ fs, f.length = 12) : ∀ {k j : Nat}, k < fs.length → j < 12 → (fsv fs)[k * 12 + j]? = (frv (fs.getD k zf))[j]? := by
  induction fs with
  | nil => intro k j hk; simp at hk
  | cons f fs ih =>
    intro k j hk hj
    have h1 := hl f (by simp)
    simp only [fsv, List.flatMap_cons] at ih ⊢
    cases k with
    | zero => rw [List.getElem?_append_left (by rw [frv_length]; omega)]; simp
    | succ k =>
      rw [List.getElem?_append_right (by rw [frv_length]; omega), frv_length, show (k + 1) * 12 + j - f.length = k * 12 + j by omega]
      rw [ih (fun g hg => hl g (by simp [hg])) (by simpa using hk) hj]
      simp
theorem Cl.frame {w : World} {b o : Nat} {fs : List (List Nat)} (h : Cl w b o (fsv fs)) (hl : ∀ f ∈ fs, f.length = 12) {k : Nat} (hk : k < fs.length) : Cl w b (o + k * 12) (frv (fs.getD k zf)) :=
  ⟨h.1, fun j v hj => by
    have hjl : j < 12 := by
      have := (List.getElem?_eq_some_iff.1 hj).1
      rw [frv_length] at this
      have h2 : (fs.getD k zf).length = 12 := by
        rw [List.getD_eq_getElem?_getD, List.getElem?_eq_getElem hk]; exact hl _ (List.getElem_mem hk)
      omega
    rw [Nat.add_assoc]
    exact h.2 _ v (by rw [fsv_get hl hk hjl]; exact hj)⟩
theorem getD_mem {fs : List (List Nat)} {k : Nat} (hk : k < fs.length) : fs.getD k zf ∈ fs := by
  rw [List.getD_eq_getElem?_getD, List.getElem?_eq_getElem hk]; exact List.getElem_mem hk
def allOk (fs : List (List Nat)) : Bool := fs.all okB
def IdxFPost (fs : List (List Nat)) (w : World) (e : Ending) (w' : World) : Prop := ∃ i : Int, e = .returned (.int .i64 i) ∧ (allOk fs = true → i = -1) ∧ (allOk fs = false → 0 ≤ i) ∧ Keep [] w w'
theorem allOk_not {fs : List (List Nat)} {k : Nat} (hk : k < fs.length) (h : okB (fs.getD k zf) = false) : allOk fs = false := by
  rw [Bool.eq_false_iff]
  intro ha
  have := List.all_eq_true.1 ha _ (getD_mem hk)
  rw [h] at this; cases this
theorem allOk_of {fs : List (List Nat)} (h : ∀ k, k < fs.length → okB (fs.getD k zf) = true) : allOk fs = true := by
  unfold allOk
  rw [List.all_eq_true]
  intro x hx
  obtain ⟨i, hi, rfl⟩ := List.mem_iff_getElem.1 hx
  have := h i hi
  rwa [List.getD_eq_getElem?_getD, List.getElem?_eq_getElem hi] at this
/-- What a function on two frames answers. -/
def twoR (k : Nat → Nat → Nat) (f g : List Nat) : List Nat := if codeG f g = 0 then mixR k f g else zf
theorem twoR_len (k : Nat → Nat → Nat) (f g : List Nat) : (twoR k f g).length = 12 := by
  unfold twoR
  split
  · exact mixR_length k f g
  · rfl


end Go.Proofs.YtlljflmbnbjccaaDoor
