/- The laws' own helpers on books: copied, compared, marked and looked at again; no condition. -/
import Derived.Test.YtlljflmbnbjccaaDoorTy2
import Derived.Test.YtlljflmbnbjccaaDoorB1
namespace Go.Proofs.YtlljflmbnbjccaaDoor
open Go.RowKit
set_option linter.unusedSimpArgs false
set_option linter.unusedVariables false

theorem roomBehind_c (n : Nat) (hn : n ≤ 4000000) (w : World) : Calls Tryd.prog 17 #[.int .i64 n] w fun e w' => e = .returned (.int .i64 (roomN n : Nat)) ∧ Keep [] w w' := by
  have st := St.start w
  have h6 : ((n : Int).tmod 6) = ((n % 6 : Nat) : Int) := by rw [Int.tmod_eq_emod_of_nonneg (by omega)]; omega
  have h3 : ((n : Int).tmod 3) = ((n % 3 : Nat) : Int) := by rw [Int.tmod_eq_emod_of_nonneg (by omega)]; omega
  unfold roomN
  by_cases h1 : n % 6 = 5
  · have d1 : decide ((n : Int) % 6 = 5) = true := by simp; omega
    have d2 : ((n : Int) % 6 == 5) = true := by simp; omega
    rw [if_pos h1]
    go_enter Tryd.func17, Tryd.ntmps17
    go_wp2_with fail
    all_goals
      go_ret
      exact ⟨rfl, st.keep⟩
  · have d1 : decide ((n : Int) % 6 = 5) = false := by simp; omega
    have d2 : ((n : Int) % 6 == 5) = false := by simp; omega
    rw [if_neg h1]
    by_cases h2 : n % 3 = 0
    · have d3 : decide ((n : Int) % 3 = 0) = true := by simp; omega
      have d4 : ((n : Int) % 3 == 0) = true := by simp; omega
      rw [if_pos h2]
      go_enter Tryd.func17, Tryd.ntmps17
      go_wp2_with fail
      all_goals
        go_ret
        exact ⟨rfl, st.keep⟩
    · have d3 : decide ((n : Int) % 3 = 0) = false := by simp; omega
      have d4 : ((n : Int) % 3 == 0) = false := by simp; omega
      rw [if_neg h2]
      go_enter Tryd.func17, Tryd.ntmps17
      go_wp2_with fail
      all_goals
        go_ret
        exact ⟨rfl, st.keep⟩
def fil : Fm := ⟨60201 :: List.replicate 11 0, rfl, by simp⟩
/-- A copied book and the room behind it. -/
def bkC (B : List Fm) : List Fm := B ++ List.replicate (roomN B.length) fil
theorem bkC_length (B : List Fm) : (bkC B).length = B.length + roomN B.length := by simp [bkC]
theorem out_of {w w1 : World} {L : List (Nat × List Value × TypeId)} {g : Nat} {cs : List Value} {E : TypeId} (st : St [] w w1 L) (h : At g cs E L) : w.heap.size ≤ g := by
  rcases st.ge _ h.mem with h | h
  · exact h
  · cases h
theorem Rd.bk {w : World} {g n : Nat} {B : List Fm} {T : TypeId} (h : Blk w g (encs fv (bkC B)) T) : Rd w (some ⟨g, 0, none⟩) n (encs fv B) := by
  unfold bkC at h
  rw [encs_append] at h
  exact .of h
end Go.Proofs.YtlljflmbnbjccaaDoor
