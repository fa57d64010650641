/- Rolled frames; no condition. -/
import Derived.Test.YtmfgbkmkcljciaaDoorB7
namespace Go.Proofs.YtmfgbkmkcljciaaDoor
open Go.RowKit
set_option linter.unusedSimpArgs false
set_option linter.unusedVariables false

theorem gate_int {P : Program} {w : World} {F : FuncId} {n lo hi : Int} {R : Ending → World → Prop} (h : Calls P F #[.int .i64 n, .int .i64 lo, .int .i64 hi] w R) : Calls P F #[.int .i64 n, .int .i64 lo, .int .i64 hi] w R := h
theorem l00In_v {n lo hi : Int} {v : Bool} (h : inB n lo hi = v) (w : World) : Calls Tryd.prog 36 #[.int .i64 n, .int .i64 lo, .int .i64 hi] w fun e w' => e = .returned (.bool v) ∧ Keep [] w w' := by
  subst h; exact l00In_c n lo hi w
theorem inRange_v {n lo hi : Int} {v : Bool} (h : inB n lo hi = v) (w : World) : Calls Tryd.prog 52 #[.int .i64 n, .int .i64 lo, .int .i64 hi] w fun e w' => e = .returned (.bool v) ∧ Keep [] w w' := by
  subst h; exact inRange_c n lo hi w
theorem ValidFrame_v {f : List Nat} {v : Bool} (h : okB f = v) (hf : f.length = 12) (w : World) :
    Calls Tryd.prog 45 #[.agg (frv f).toArray] w fun e w' => e = .returned (.bool v) ∧ Keep [] w w' := by
  subst h; exact ValidFrame_c f hf w
theorem run_rem12 {P : Program} {T : TypeId} {a : Int} (w : World) : (binOp .rem T (.int .i64 a) (.int .i64 12)).run P w = .ok (.int .i64 (a.tmod 12)) w := by
  have e := IntWalk.i64_in (a.tmod 12) (by
    by_cases h : 0 ≤ a
    · rw [Int.tmod_eq_emod_of_nonneg h]; omega
    · have h1 : a.tmod 12 = -((-a).tmod 12) := by rw [Int.neg_tmod]; omega
      rw [h1, Int.tmod_eq_emod_of_nonneg (by omega)]; omega)
  go_simp

/-- The code of a question about a way. -/
def wayC (f : List Nat) (e s : Int) : Int := if okB f = true then (if inB e (-12) 12 = true ∧ inB s (-12) 12 = true then 0 else 2) else 1
theorem wayC_0 {f : List Nat} {e s : Int} (h : okB f = true) (he : inB e (-12) 12 = true) (hs : inB s (-12) 12 = true) : wayC f e s = 0 := by simp [wayC, h, he, hs]
theorem wayC_1 {f : List Nat} {e s : Int} (h : okB f = false) : wayC f e s = 1 := by simp [wayC, h]
theorem wayC_2 {f : List Nat} {e s : Int} (h : okB f = true) (he : inB e (-12) 12 = false) : wayC f e s = 2 := by simp [wayC, h, he]
theorem wayC_3 {f : List Nat} {e s : Int} (h : okB f = true) (hs : inB s (-12) 12 = false) : wayC f e s = 2 := by simp [wayC, h, hs]
theorem wayC_in {f : List Nat} {e s : Int} (h : wayC f e s = 0) : -12 ≤ e ∧ e ≤ 12 ∧ -12 ≤ s ∧ s ≤ 12 := by
  unfold wayC at h
  split at h
  · split at h
    · rename_i h1
      have h2 := h1.1
      have h3 := h1.2
      simp [inB] at h2 h3
      omega
    · cases h
  · cases h
def rolP (e s : Int) (f : List Nat) (x y : Nat) : Bool := hasI f (((x : Int) - e + 24).tmod 12) (((y : Int) - s + 24).tmod 12)
def rolT (e s : Int) (d : Nat × Nat) : Int × Int := (((d.1 : Int) + e + 12).tmod 12, ((d.2 : Int) + s + 12).tmod 12)
theorem rol_all (f : List Nat) {e s : Int} (h : -12 ≤ e ∧ e ≤ 12 ∧ -12 ≤ s ∧ s ≤ 12) : over (rolT e s) f (dots f).length = mk (rolP e s f) := over_all _ _ _ fun x y hx hy => by
  obtain ⟨g1, g2, g3, g4⟩ := h
  unfold rolP
  rw [hasI_in, Int.tmod_eq_emod_of_nonneg (by omega : (0 : Int) ≤ (x : Int) - e + 24), Int.tmod_eq_emod_of_nonneg (by omega : (0 : Int) ≤ (y : Int) - s + 24)]
  constructor
  · rintro ⟨h1, h2, h3, h4, h5⟩
    refine ⟨_, _, by omega, by omega, h5, ?_⟩
    unfold rolT
    simp only [Prod.mk.injEq]
    rw [Int.tmod_eq_emod_of_nonneg (by omega), Int.tmod_eq_emod_of_nonneg (by omega)]
    omega
  · rintro ⟨x', y', h1, h2, h3, h4⟩
    unfold rolT at h4
    simp only [Prod.mk.injEq] at h4
    rw [Int.tmod_eq_emod_of_nonneg (by omega), Int.tmod_eq_emod_of_nonneg (by omega)] at h4
    obtain ⟨h4, h5⟩ := h4
    refine ⟨by omega, by omega, by omega, by omega, ?_⟩
    rw [show (((x : Int) - e + 24) % 12).toNat = x' by omega, show (((y : Int) - s + 24) % 12).toNat = y' by omega]; exact h3
/-- What RollFrame answers. -/
def rolR (e s : Int) (f : List Nat) : List Nat := if wayC f e s = 0 then mk (rolP e s f) else zf
theorem rolR_ok (e s : Int) {f : List Nat} (ok : FrOk f) : FrOk (rolR e s f) := by
  unfold rolR
  split
  · exact mk_frOk _
  · exact zf_ok
end Go.Proofs.YtmfgbkmkcljciaaDoor
