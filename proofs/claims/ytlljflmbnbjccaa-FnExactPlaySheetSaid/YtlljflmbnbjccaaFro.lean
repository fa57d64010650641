/- Books to and fro, and every so many pages: the reference and the program; no condition. -/
import Derived.Test.YtlljflmbnbjccaaBack
namespace Go.Proofs.Ytlljflmbnbjccaa
open Go.RowKit
set_option linter.unusedSimpArgs false
set_option linter.unusedVariables false

theorem limited_n (n c : Nat) (p : Option Addr) (hn : n ≤ 4000000) (w : World) : Calls Try.prog 59 #[.slice p n c] w fun e w' => e = .returned (if n ≤ 40 then .tuple #[.slice p n c, .int .i64 0] else .tuple #[.slice none 0 0, .int .i64 3]) ∧ Keep [] w w' := by
  have st := St.start w
  by_cases h : n ≤ 40
  · have hd : decide ((40 : Int) < (n : Int)) = false := by simp; omega
    rw [if_pos h]
    go_enter Try.func59, Try.ntmps59
    go_wp2_with fail
    go_ret2
    exact ⟨rfl, st.keep⟩
  · have hd : decide ((40 : Int) < (n : Int)) = true := by simp; omega
    rw [if_neg h]
    go_enter Try.func59, Try.ntmps59
    go_wp2_with fail
    go_ret2
    exact ⟨rfl, st.keep⟩
theorem limited_0 {n c : Nat} {p : Option Addr} (hn : n ≤ 4000000) (h : n ≤ 40) (w : World) : Calls Try.prog 59 #[.slice p n c] w fun e w' => e = .returned (.tuple #[.slice p n c, .int .i64 0]) ∧ Keep [] w w' := by
  have := limited_n n c p hn w
  rwa [if_pos h] at this
theorem limited_3 {n c : Nat} {p : Option Addr} (hn : n ≤ 4000000) (h : ¬ n ≤ 40) (w : World) : Calls Try.prog 59 #[.slice p n c] w fun e w' => e = .returned (.tuple #[.slice none 0 0, .int .i64 3]) ∧ Keep [] w w' := by
  have := limited_n n c p hn w
  rwa [if_neg h] at this
def froL (B : List Fm) (k : Nat) : List Fm := B ++ (B.reverse.drop 1).take k
theorem froL_length (B : List Fm) {n k : Nat} (hn : B.length = n) (hk : k ≤ n - 2) : (froL B k).length = n + k := by
  unfold froL; rw [List.length_append, List.length_take, List.length_drop, List.length_reverse]; omega
theorem froL_zero (B : List Fm) : froL B 0 = B := by simp [froL]
theorem froL_step (B : List Fm) {n k : Nat} (hn : B.length = n) (hk : k < n - 2) : froL B k ++ [B[n - 2 - k]] = froL B (k + 1) := by
  unfold froL
  rw [List.append_assoc]
  congr 1
  rw [List.take_succ_eq_append_getElem (by rw [List.length_drop, List.length_reverse]; omega), List.getElem_drop, List.getElem_reverse]
  congr 2
  congr 1
  omega
def froF (B : List Fm) : List Fm := froL B (B.length - 2)
def froC (B : List Fm) : Int := if bkB B = true then (if (froF B).length ≤ 40 then 0 else 3) else 1
def froR (B : List Fm) : List Fm := if froC B = 0 then froF B else []
theorem froR_len {B : List Fm} {n : Nat} (hB : B.length = n) (hn : n ≤ 1000000) : (froR B).length ≤ 4000000 := by
  unfold froR froF
  split
  · rw [froL_length B hB (by omega)]; omega
  · simp
end Go.Proofs.Ytlljflmbnbjccaa
