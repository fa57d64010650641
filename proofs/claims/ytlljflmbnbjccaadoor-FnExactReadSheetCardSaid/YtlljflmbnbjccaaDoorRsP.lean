/- Words read as shots: the two ways agree; plain mathematics; no condition. -/
import Derived.Test.YtlljflmbnbjccaaDoorRs
namespace Go.Proofs.YtlljflmbnbjccaaDoor
open Go.RowKit
set_option linter.unusedSimpArgs false
set_option linter.unusedVariables false
/-- As the program reads a word. -/
def pw (x : List UInt8) : Option (Nat × Nat) := match Lib.cut x [120] with
  | (p, q, true) => match rdn 0 39 p, rdn 1 24 q with
    | some i, some j => some (i, j)
    | _, _ => none
  | _ => none
def sh2 (x : Option (Nat × Nat)) : Int × Int := match x with
  | some (i, j) => ((i : Int), (j : Int))
  | none => (0, 0)
def pwx (x : List UInt8) : Int × Int := sh2 (pw x)
def pwOk (x : List UInt8) : Bool := (pw x).isSome
/-- As the reference reads a word. -/
def rwOk (x : List UInt8) : Bool := match wds 120 x with
  | [p, q] => numok p && numok q && decide (numR p < 40) && decide (numR q ≤ 24)
  | _ => false
def rwx (x : List UInt8) : Int × Int := match wds 120 x with
  | [p, q] => ((numR p : Int), (numR q : Int))
  | _ => (0, 0)
theorem rdn_num {lo hi : Nat} (hh : hi < 100) (s : List UInt8) : rdn lo hi s = if numok s = true ∧ lo ≤ numR s ∧ numR s ≤ hi then some (numR s) else none := by
  unfold rdn
  cases hn : numok s with
  | false => rw [num_no hn]; simp
  | true =>
    have e : numR s = numv 0 s := by unfold numR; rw [hn]; rfl
    by_cases h : numv 0 s < 100
    · have h1 := (num_und hn).1 h
      have h2 : und s = some (numv 0 s) := by rw [h1, und_dec h, ← h1]
      rw [h2, e]
      simp
    · rw [if_neg (by rw [e]; omega)]
      cases hu : und s with
      | none => rfl
      | some m =>
        obtain ⟨h1, h2⟩ := und_some hu
        rw [h2, (num_dec h1).2] at h
        exact absurd h1 h
theorem wds_one {c : UInt8} {q : List UInt8} (h : c ∉ q) : wds c q = [q] := by
  rcases cut_wds c q with ⟨p, r, _, _, h3, _⟩ | ⟨_, h2, _⟩
  · exact absurd (by rw [h3]; simp) h
  · exact h2
theorem pw_rw (x : List UInt8) : pwOk x = (rwOk x && decide (1 ≤ (rwx x).2)) ∧ (pwOk x = true → pwx x = rwx x) := by
  unfold pwOk pwx pw rwOk rwx
  rcases cut_wds 120 x with ⟨p, q, h1, h2, h3, h4⟩ | ⟨h1, h2, h3⟩
  · rw [h1, h2]
    simp only
    by_cases hq : (120 : UInt8) ∈ q
    · have e : rdn 1 24 q = none := by
        cases hr : rdn 1 24 q with
        | none => rfl
        | some j =>
          obtain ⟨a, b, _⟩ := rdn_some hr
          rw [b] at hq
          exact absurd hq (dec_no a)
      rw [e]
      rcases cut_wds 120 q with ⟨p2, q2, _, g2, _, _⟩ | ⟨_, _, g3⟩
      · rw [g2]
        cases hw : wds 120 q2 with
        | nil => exact absurd hw (wds_ne _ _)
        | cons y r => cases rdn 0 39 p <;> simp
      · exact absurd hq g3
    · rw [wds_one hq, rdn_num (by decide) p, rdn_num (by decide) q]
      simp only
      by_cases a : numok p = true ∧ 0 ≤ numR p ∧ numR p ≤ 39
      · rw [if_pos a]
        by_cases b : numok q = true ∧ 1 ≤ numR q ∧ numR q ≤ 24
        · rw [if_pos b]
          simp only
          obtain ⟨a1, _, a3⟩ := a
          obtain ⟨b1, b2, b3⟩ := b
          rw [a1, b1]
          refine ⟨?_, fun _ => rfl⟩
          simp
          omega
        · rw [if_neg b]
          refine ⟨?_, fun h => by cases h⟩
          simp only [Option.isSome_none]
          symm
          cases hn : numok q with
          | false => simp
          | true =>
            rw [hn] at b
            simp at b
            simp
            intro _ _ _
            omega
      · rw [if_neg a]
        refine ⟨?_, fun h => by cases h⟩
        simp only [Option.isSome_none]
        symm
        cases hn : numok p with
        | false => simp
        | true =>
          rw [hn] at a
          simp at a
          simp
          intros
          omega
  · rw [h1, h2]
    exact ⟨rfl, fun h => by cases h⟩
/-- The words of a text. -/
def tws (l : List UInt8) : List (List UInt8) := if l = [] then [] else wds 32 l
def shtOk (l : List UInt8) : Bool := (tws l).all pwOk && decide ((tws l).length ≤ 80)
def shtL (l : List UInt8) : List (Int × Int) := if shtOk l = true then (tws l).map pwx else []
def shtC (l : List UInt8) : Int := if shtOk l = true then 0 else 5
theorem rwx_bd {x : List UInt8} (h : rwOk x = true) : (0 ≤ (rwx x).1 ∧ (rwx x).1 ≤ 39) ∧ 0 ≤ (rwx x).2 ∧ (rwx x).2 ≤ 24 := by
  unfold rwOk at h
  unfold rwx
  split at h
  · simp at h ⊢; omega
  · cases h
theorem ref_sheet (W : List (List UInt8)) (h : ∀ x ∈ W, rwOk x = true) : shotsB 40 (W.map rwx) = (W.all pwOk && decide (W.length ≤ 80)) := by
  unfold shotsB allSh
  rw [List.length_map, Bool.and_comm]
  congr 1
  rw [List.all_map]
  induction W with
  | nil => rfl
  | cons x W ih =>
    rw [List.all_cons, List.all_cons, ih fun y hy => h y (List.mem_cons_of_mem _ hy)]
    congr 1
    have hx := h x List.mem_cons_self
    rw [(pw_rw x).1, hx, Bool.true_and]
    have hb := rwx_bd hx
    simp only [Function.comp]
    unfold shB
    rw [show decide (0 ≤ (rwx x).1 ∧ (rwx x).1 ≤ 40 - 1) = true by simp; omega, Bool.true_and]
    simp
    omega
theorem map_same {W : List (List UInt8)} (h : W.all pwOk = true) : W.map rwx = W.map pwx :=
  List.map_congr_left fun x hx => ((pw_rw x).2 (List.all_eq_true.1 h x hx)).symm
theorem rw_no {W : List (List UInt8)} {x : List UInt8} (hx : x ∈ W) (h : rwOk x = false) : W.all pwOk = false := by
  rw [List.all_eq_false]
  refine ⟨x, hx, ?_⟩
  rw [(pw_rw x).1, h]
  simp
theorem pw_no {W : List (List UInt8)} {x : List UInt8} (hx : x ∈ W) (h : pwOk x = false) : W.all pwOk = false := by
  rw [List.all_eq_false]
  exact ⟨x, hx, by rw [h]; decide⟩
theorem sht_no {l : List UInt8} (h : (tws l).all pwOk = false) : shtL l = [] ∧ shtC l = 5 := by
  unfold shtL shtC shtOk
  rw [h]
  exact ⟨rfl, rfl⟩
theorem sht_yes {l : List UInt8} (h : shtOk l = true) : shtL l = (tws l).map pwx ∧ shtC l = 0 := by
  unfold shtL shtC
  rw [h]
  exact ⟨rfl, rfl⟩
theorem sht_bad {l : List UInt8} (h : shtOk l = false) : shtL l = [] ∧ shtC l = 5 := by
  unfold shtL shtC
  rw [h]
  exact ⟨rfl, rfl⟩
end Go.Proofs.YtlljflmbnbjccaaDoor
