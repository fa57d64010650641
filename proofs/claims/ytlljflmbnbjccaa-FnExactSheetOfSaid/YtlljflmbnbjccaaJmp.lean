/- The jumps of a book: the reference and the program; no condition. -/
import Derived.Test.YtlljflmbnbjccaaCutB
import Derived.Test.YtlljflmbnbjccaaB10
import Derived.Test.YtlljflmbnbjccaaI64
import Derived.Test.YtlljflmbnbjccaaPl
import Derived.Test.YtlljflmbnbjccaaSched
namespace Go.Proofs.Ytlljflmbnbjccaa
open Go.RowKit
set_option linter.unusedSimpArgs false
set_option linter.unusedVariables false

/-- In how many places two frames differ. -/
def jmp (x y : Fm) : Int := ((dots (mixR (fun a b => a ^^^ b) x.1 y.1)).length : Nat)
theorem jmp_range (x y : Fm) : 0 ≤ jmp x y ∧ jmp x y ≤ 144 := by
  have := dots_length (mixR (fun a b => a ^^^ b) x.1 y.1)
  unfold jmp
  omega
/-- The first k jumps. -/
def jmpK (B : List Fm) (k : Nat) : List Int := (List.range k).map fun i => jmp (B.getD i fz) (B.getD (i + 1) fz)
@[simp] theorem jmpK_length (B : List Fm) (k : Nat) : (jmpK B k).length = k := by simp [jmpK]
theorem jmpK_step (B : List Fm) (k : Nat) : jmpK B k ++ [jmp (B.getD k fz) (B.getD (k + 1) fz)] = jmpK B (k + 1) := by simp [jmpK, List.range_succ]
def jmpL (B : List Fm) : List Int := jmpK B (B.length - 1)
theorem jmpL_length (B : List Fm) : (jmpL B).length = B.length - 1 := jmpK_length _ _
theorem jmpL_range (B : List Fm) : ∀ x ∈ jmpL B, 0 ≤ x ∧ x ≤ 144 := by
  intro x hx
  obtain ⟨i, _, rfl⟩ := List.mem_map.1 hx
  exact jmp_range _ _
theorem getD_get {α : Type} {B : List α} {k : Nat} {d : α} (hk : k < B.length) : B.getD k d = B[k] := by
  rw [List.getD_eq_getElem?_getD, List.getElem?_eq_getElem hk]; rfl
theorem okL_get {B : List Fm} (h : okL B = true) {k : Nat} (hk : k < B.length) : okB B[k].1 = true := by
  unfold okL at h
  exact List.all_eq_true.1 h _ (List.getElem_mem hk)
theorem bkB_ok {B : List Fm} (h : bkB B = true) : okL B = true := by unfold bkB at h; simp at h; exact h.1
theorem bkB_len {B : List Fm} (h : bkB B = true) : B.length ≤ 40 := by unfold bkB at h; simp at h; exact h.2
/-- What a maker of lists of numbers answers. -/
def IntsPost (R : List Int) (n : Nat) (w : World) (e : Ending) (w' : World) : Prop := ∃ v, e = .returned v ∧ Gives 2 1 n (encs i1 R) w v w' ∧ Keep [] w w'
theorem encs_snoc {α : Type} (e : α → List Value) (l : List α) (x : α) : encs e (l ++ [x]) = encs e l ++ e x := by rw [encs_append]; simp [encs]
end Go.Proofs.Ytlljflmbnbjccaa
