/- Lists of elements of several cells, laid one behind the other: plain mathematics; no condition. -/
import Derived.Test.YtmfgbkmkcljciaaDoorTy
namespace Go.Proofs.YtmfgbkmkcljciaaDoor
open Go.RowKit
set_option linter.unusedSimpArgs false

/-- Elements laid one behind the other. -/
def encs {α : Type} (e : α → List Value) (l : List α) : List Value := l.flatMap e
section
variable {α : Type} {e : α → List Value} {s : Nat}
theorem encs_length (hs : ∀ a, (e a).length = s) (l : List α) : (encs e l).length = l.length * s := by
  induction l with
  | nil => simp [encs]
  | cons a l ih => simp only [encs, List.flatMap_cons, List.length_append, hs, List.length_cons] at ih ⊢; rw [ih, Nat.add_mul]; omega
theorem encs_append (l m : List α) : encs e (l ++ m) = encs e l ++ encs e m := by simp [encs]
theorem encs_nil : encs e [] = [] := rfl
theorem encs_one (h1 : ∀ a, ∀ v ∈ e a, v.oneCell' = true) (l : List α) : ∀ v ∈ encs e l, v.oneCell' = true := by
  intro v hv
  obtain ⟨a, _, h⟩ := List.mem_flatMap.1 hv
  exact h1 a v h
theorem encs_get (hs : ∀ a, (e a).length = s) : ∀ (l : List α) (k : Nat) (hk : k < l.length) (j : Nat), j < s → (encs e l)[k * s + j]? = (e l[k])[j]?
  | a :: l, 0, _, j, hj => by
    show (e a ++ encs e l)[0 * s + j]? = _
    rw [Nat.zero_mul, Nat.zero_add, List.getElem?_append_left (by rw [hs]; exact hj)]; rfl
  | a :: l, k + 1, hk, j, hj => by
    show (e a ++ encs e l)[(k + 1) * s + j]? = _
    have h1 : (k + 1) * s = k * s + s := Nat.succ_mul k s
    rw [List.getElem?_append_right (by rw [hs]; omega), hs, show (k + 1) * s + j - s = k * s + j by omega]
    exact encs_get hs l k (by simpa using hk) j hj
theorem encs_getA (hs : ∀ a, (e a).length = s) (l : List α) (sp : List Value) (k : Nat) (hk : k < l.length) (j : Nat) (hj : j < s) : (encs e l ++ sp)[k * s + j]? = (e l[k])[j]? := by
  have h1 : k * s + s ≤ l.length * s := by rw [← Nat.succ_mul]; exact Nat.mul_le_mul_right _ hk
  rw [List.getElem?_append_left (by rw [encs_length hs]; omega)]
  exact encs_get hs l k hk j hj
theorem encs_take (hs : ∀ a, (e a).length = s) : ∀ (l : List α) (k : Nat), (encs e l).take (k * s) = encs e (l.take k)
  | [], k => by simp [encs]
  | a :: l, 0 => by simp [encs]
  | a :: l, k + 1 => by
    show (e a ++ encs e l).take ((k + 1) * s) = e a ++ encs e (l.take k)
    rw [Nat.succ_mul, Nat.add_comm, List.take_append, hs, List.take_of_length_le (by rw [hs]; omega), show s + k * s - s = k * s by omega, encs_take hs l k]
theorem encs_drop (hs : ∀ a, (e a).length = s) : ∀ (l : List α) (k : Nat), (encs e l).drop (k * s) = encs e (l.drop k)
  | [], k => by simp [encs]
  | a :: l, 0 => by simp [encs]
  | a :: l, k + 1 => by
    show (e a ++ encs e l).drop ((k + 1) * s) = encs e (l.drop k)
    rw [Nat.succ_mul, Nat.add_comm, List.drop_append, hs, List.drop_of_length_le (by rw [hs]; omega), show s + k * s - s = k * s by omega, encs_drop hs l k, List.nil_append]
theorem encs_set (hs : ∀ a, (e a).length = s) (l : List α) (k : Nat) (hk : k < l.length) (x : α) : (encs e l).take (k * s) ++ e x ++ (encs e l).drop (k * s + s) = encs e (l.set k x) := by
  rw [show k * s + s = (k + 1) * s by rw [Nat.succ_mul], encs_take hs, encs_drop hs, List.set_eq_take_append_cons_drop, if_pos hk, encs_append]
  simp [encs]
theorem encs_replicate (n : Nat) (x : α) : encs e (List.replicate n x) = (List.replicate n (e x)).flatten := by
  induction n with
  | zero => rfl
  | succ n ih => simp only [encs, List.replicate_succ, List.flatMap_cons, List.flatten_cons] at ih ⊢; rw [ih]
end


/-- A frame. -/
abbrev Fm : Type := { f : List Nat // FrOk f }
def fv (a : Fm) : List Value := frv a.1
@[simp] theorem fv_len (a : Fm) : (fv a).length = 12 := by rw [fv, frv_length, a.2.len]
theorem fv_one (a : Fm) : ∀ v ∈ fv a, v.oneCell' = true := frv_one _
def fz : Fm := ⟨zf, zf_ok⟩
/-- A number. -/
def i1 (n : Int) : List Value := [.int .i64 n]
@[simp] theorem i1_len (n : Int) : (i1 n).length = 1 := rfl
theorem i1_one (n : Int) : ∀ v ∈ i1 n, v.oneCell' = true := by simp [i1, Value.oneCell']
/-- Two numbers of 8 bits. -/
def p8 (d : Int × Int) : List Value := [.int .i8 d.1, .int .i8 d.2]
@[simp] theorem p8_len (d : Int × Int) : (p8 d).length = 2 := rfl
theorem p8_one (d : Int × Int) : ∀ v ∈ p8 d, v.oneCell' = true := by simp [p8, Value.oneCell']
/-- A number of 16 and two of 8 bits. -/
def k3 (d : Int × Int × Int) : List Value := [.int .i16 d.1, .int .i8 d.2.1, .int .i8 d.2.2]
@[simp] theorem k3_len (d : Int × Int × Int) : (k3 d).length = 3 := rfl
theorem k3_one (d : Int × Int × Int) : ∀ v ∈ k3 d, v.oneCell' = true := by simp [k3, Value.oneCell']
@[simp] theorem encs_fv_length (l : List Fm) : (encs fv l).length = l.length * 12 := encs_length fv_len l
@[simp] theorem encs_i1_length (l : List Int) : (encs i1 l).length = l.length := by rw [encs_length i1_len, Nat.mul_one]
@[simp] theorem encs_p8_length (l : List (Int × Int)) : (encs p8 l).length = l.length * 2 := encs_length p8_len l
@[simp] theorem encs_k3_length (l : List (Int × Int × Int)) : (encs k3 l).length = l.length * 3 := encs_length k3_len l
/-- The first m cells marked by V. -/
def marks (V : Nat → Value) (m : Nat) (cs : List Value) : List Value := (List.range m).map V ++ cs.drop m
theorem marks_zero (V : Nat → Value) (cs : List Value) : marks V 0 cs = cs := by simp [marks]
theorem marks_get (V : Nat → Value) (m : Nat) (cs : List Value) (j : Nat) : (marks V m cs)[j]? = if j < m then some (V j) else cs[j]? := by
  unfold marks
  by_cases h : j < m
  · rw [if_pos h, List.getElem?_append_left (by simpa using h), List.getElem?_map, List.getElem?_range h]; rfl
  · rw [if_neg h, List.getElem?_append_right (by simp; omega), List.getElem?_drop]
    congr 1
    simp
    omega
theorem marks_length {V : Nat → Value} {m : Nat} {cs : List Value} (h : m ≤ cs.length) : (marks V m cs).length = cs.length := by simp [marks]; omega
theorem marks_step {V : Nat → Value} {m : Nat} {cs : List Value} (h : m < cs.length) : (marks V m cs).set m (V m) = marks V (m + 1) cs := by
  apply List.ext_getElem?
  intro j
  rw [List.getElem?_set, marks_get, marks_get, marks_length (by omega)]
  by_cases e : m = j
  · subst e; rw [if_pos rfl, if_pos h, if_pos (by omega)]
  · rw [if_neg e]
    by_cases h1 : j < m
    · rw [if_pos h1, if_pos (by omega)]
    · rw [if_neg h1, if_neg (by omega)]
/-- The room that a law's copy leaves behind n elements. -/
def roomN (n : Nat) : Nat := if n % 6 = 5 then 0 else if n % 3 = 0 then 1 else n
theorem roomN_le (n : Nat) : roomN n ≤ n + 1 := by unfold roomN; split <;> (try split) <;> omega
def szN (left : Int) (n : Nat) : Int := if left - n < 0 then -1 else left - n
theorem take_rep {α : Type} (l : List α) (k N : Nat) (z : α) (hk : k < l.length) (hN : l.length ≤ N) : (l.take k ++ List.replicate (N - k) z).set k l[k] = l.take (k + 1) ++ List.replicate (N - (k + 1)) z := by
  have hl : (l.take k).length = k := by rw [List.length_take]; omega
  rw [List.set_append_right _ _ (by omega), hl, Nat.sub_self, show N - k = (N - (k + 1)) + 1 by omega, List.replicate_succ, List.set_cons_zero, List.take_succ_eq_append_getElem hk, List.append_assoc]
  rfl
theorem fill_rep {α : Type} (l : List α) (k N : Nat) (x z : α) (hk : l.length ≤ k) (hN : k < N) : (l ++ List.replicate (k - l.length) x ++ List.replicate (N - k) z).set k x = l ++ List.replicate (k + 1 - l.length) x ++ List.replicate (N - (k + 1)) z := by
  have hl : (l ++ List.replicate (k - l.length) x).length = k := by simp; omega
  rw [List.set_append_right _ _ (by omega), hl, Nat.sub_self, show N - k = (N - (k + 1)) + 1 by omega, List.replicate_succ, List.set_cons_zero, show k + 1 - l.length = (k - l.length) + 1 by omega, List.replicate_succ']
  simp
attribute [simp] frv_length zf_length mk_length withD_length part_length rowsOf_length
end Go.Proofs.YtmfgbkmkcljciaaDoor
