/- Texts of this seat, one behind the other: Fb3; no condition. -/
import Derived.Test.YtmfgbkmkcljciaaGreatDoorM9
/- FnBooks: the law for all bytes; no condition but the library's cell. -/
namespace Go.Proofs.YtmfgbkmkcljciaaGreatDoor
open Go.RowKit
set_option linter.unusedSimpArgs false
set_option linter.unusedVariables false
set_option maxRecDepth 100000 in
theorem law_FnBooks (w : World) (A : List Int) (n1 : Nat) (hB1 : A.length = n1) (hn1 : n1 ≤ 9223372036854775807) (p1 : Option Addr) (c1 : Nat) (hr1 : Rd w p1 n1 (encs u1 A)) (hq1 : ∀ x ∈ A, 0 ≤ x ∧ x ≤ 255)
    (B : List Int) (n2 : Nat) (hB2 : B.length = n2) (hn2 : n2 ≤ 9223372036854775807) (p2 : Option Addr) (c2 : Nat) (hr2 : Rd w p2 n2 (encs u1 B)) (hq2 : ∀ x ∈ B, 0 ≤ x ∧ x ≤ 255) (hgm : GlobM w) :
    Calls Tryz.prog 3 #[.slice p1 n1 c1, .slice p2 n2 c2] w fun e w' => e = .returned (.bool true) ∧ Keep [] w w' := by
  by_cases hb : 3000 < n1 ∨ 3000 < n2
  · have st := St.start w
    have HLG : Hid (∀ w', Calls Tryz.prog 4 #[.slice p1 n1 c1, .slice p2 n2 c2] w' fun e w'' => e = .returned (.bool true) ∧ Keep [] w' w'') := hid (fun w' => by
      have := a2Long_c n1 n2 p1 p2 c1 c2 w'
      rw [show (decide (3000 < n1) || decide (3000 < n2)) = true by rw [Bool.or_eq_true, decide_eq_true_eq, decide_eq_true_eq]; exact hb] at this
      exact this)
    clear hr1 hr2 hq1 hq2 hb hgm
    go_enter Tryz.func3, Tryz.ntmps3
    go_wp2_with (first | (go_at_call 4; (refine (HLG.out _).mono ?_; rintro _ _ ⟨rfl, hk⟩; replace st := st.call hk; clear hk)))
    go_ret
    exact ⟨rfl, st.keep⟩
  · exact law_FnBooks1 w A n1 hB1 hq1 p1 c1 hr1 (by omega) B n2 hB2 hq2 p2 c2 hr2 (by omega) hgm
end Go.Proofs.YtmfgbkmkcljciaaGreatDoor
