/- Asked places: HasDot and WithDot; no condition. -/
import Derived.Test.YtdpjeccnnpjchaaB2
import Derived.Test.YtdpjeccnnpjchaaRules
namespace Go.Proofs.Ytdpjeccnnpjchaa
open Go.RowKit
set_option linter.unusedSimpArgs false
set_option linter.unusedVariables false

/-- The code of a question about a place. -/
def askC (f : List Nat) (x y : Int) : Int := if okB f = true then (if placeB x y = true then 0 else 2) else 1
theorem askC_0 {f : List Nat} {x y : Int} (h : okB f = true) (hp : placeB x y = true) : askC f x y = 0 := by simp [askC, h, hp]
theorem askC_1 {f : List Nat} {x y : Int} (h : okB f = false) : askC f x y = 1 := by simp [askC, h]
theorem askC_2 {f : List Nat} {x y : Int} (h : okB f = true) (hp : placeB x y = false) : askC f x y = 2 := by simp [askC, h, hp]
/-- What HasDot answers. -/
def hasR (f : List Nat) (x y : Int) : Bool := if askC f x y = 0 then hasI f x y else false
theorem FrOk.set {f : List Nat} (ok : FrOk f) (y n : Nat) (hn : n < 65536) : FrOk (f.set y n) := ⟨by rw [List.length_set]; exact ok.len, fun x hx => by
  rcases List.mem_or_eq_of_mem_set hx with h | h
  · exact ok.lt x h
  · omega⟩
/-- f without the dot at x, y. -/
def dropD (f : List Nat) (x y : Nat) : List Nat := f.set y (andNot (ro f y) (2 ^ x))
theorem dropD_ok {f : List Nat} (ok : FrOk f) (x y : Nat) : FrOk (dropD f x y) := ok.set _ _ (andNot_lt _ _)
theorem withD_frOk {f : List Nat} (ok : FrOk f) {x y : Nat} (hx : x < 12) : FrOk (withD f x y) := ok.set _ _ (Nat.or_lt_two_pow (n := 16) (ok.ro_lt y) (two_pow_lt hx))
/-- What WithDot answers. -/
def setR (f : List Nat) (x y : Int) (black : Bool) : List Nat := if askC f x y = 0 then (if black then withD (dropD f x.toNat y.toNat) x.toNat y.toNat else dropD f x.toNat y.toNat) else zf
theorem askC_place {f : List Nat} {x y : Int} (h : askC f x y = 0) : okB f = true ∧ placeB x y = true := by
  unfold askC at h
  split at h
  · split at h
    · exact ⟨by assumption, by assumption⟩
    · cases h
  · cases h
theorem setR_ok {f : List Nat} (ok : FrOk f) (x y : Int) (black : Bool) : FrOk (setR f x y black) := by
  unfold setR
  split
  · obtain ⟨_, hp⟩ := askC_place (by assumption)
    have := placeB_iff.1 hp
    cases black
    · exact dropD_ok ok _ _
    · exact withD_frOk (dropD_ok ok _ _) (by omega)
  · exact zf_ok
end Go.Proofs.Ytdpjeccnnpjchaa
