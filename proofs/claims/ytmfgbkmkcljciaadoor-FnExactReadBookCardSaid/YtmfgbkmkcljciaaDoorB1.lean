/- The small functions on places and frames: what each answers; no condition. -/
import Derived.Test.YtmfgbkmkcljciaaDoorTy
import Derived.LoopTactic
import Derived.Deep.LoopGhost
import Derived.Deep.QuietTactic
import Derived.BigQuiet
import Derived.Outline
namespace Go.Proofs.YtmfgbkmkcljciaaDoor
open Go.RowKit
set_option linter.unusedSimpArgs false
set_option linter.unusedVariables false

def inB (n lo hi : Int) : Bool := decide (lo ≤ n ∧ n ≤ hi)
theorem inB_yes {n lo hi : Int} (h1 : lo ≤ n) (h2 : n ≤ hi) : inB n lo hi = true := by simp [inB, h1, h2]
theorem inB_no1 {n lo hi : Int} (h1 : ¬ lo ≤ n) : inB n lo hi = false := by simp [inB, h1]
theorem inB_no2 {n lo hi : Int} (h1 : ¬ n ≤ hi) : inB n lo hi = false := by simp [inB, h1]
theorem l00In_c (n lo hi : Int) (w : World) : Calls Tryd.prog 36 #[.int .i64 n, .int .i64 lo, .int .i64 hi] w fun e w' => e = .returned (.bool (inB n lo hi)) ∧ Keep [] w w' := by
  by_cases h1 : lo ≤ n
  · by_cases h2 : n ≤ hi
    · rw [inB_yes h1 h2]
      go_enter Tryd.func36, Tryd.ntmps36
      go_wp2
      go_ret
      exact ⟨by simp [h2], Keep.refl _ _⟩
    · rw [inB_no2 h2]
      go_enter Tryd.func36, Tryd.ntmps36
      go_wp2
      go_ret
      exact ⟨by simp [h2], Keep.refl _ _⟩
  · rw [inB_no1 h1]
    go_enter Tryd.func36, Tryd.ntmps36
    go_wp2
    go_ret
    exact ⟨by simp, Keep.refl _ _⟩
theorem inRange_c (n lo hi : Int) (w : World) : Calls Tryd.prog 52 #[.int .i64 n, .int .i64 lo, .int .i64 hi] w fun e w' => e = .returned (.bool (inB n lo hi)) ∧ Keep [] w w' := by
  by_cases h1 : lo ≤ n
  · by_cases h2 : n ≤ hi
    · rw [inB_yes h1 h2]
      go_enter Tryd.func52, Tryd.ntmps52
      go_wp2
      go_ret
      exact ⟨by simp [h2], Keep.refl _ _⟩
    · rw [inB_no2 h2]
      go_enter Tryd.func52, Tryd.ntmps52
      go_wp2
      go_ret
      exact ⟨by simp [h2], Keep.refl _ _⟩
  · rw [inB_no1 h1]
    go_enter Tryd.func52, Tryd.ntmps52
    go_wp2
    go_ret
    exact ⟨by simp, Keep.refl _ _⟩

/-- x, y is a place. -/
def placeB (x y : Int) : Bool := inB x 0 11 && inB y 0 11
theorem l01Place_c (x y : Int) (w : World) : Calls Tryd.prog 24 #[.int .i64 x, .int .i64 y] w fun e w' => e = .returned (.bool (placeB x y)) ∧ Keep [] w w' := by
  have st := St.start w
  unfold placeB
  by_cases h : inB x 0 11 = true
  · rw [h, Bool.true_and]
    go_enter Tryd.func24, Tryd.ntmps24
    go_wp2_with (first | (go_at_call 36; refine (l00In_c _ _ _ _).mono ?_; rintro _ _ ⟨rfl, hk⟩; replace st := st.call hk; clear hk))
    go_ret
    exact ⟨rfl, st.keep⟩
  · have h' : inB x 0 11 = false := by simpa using h
    rw [h', Bool.false_and]
    clear h
    go_enter Tryd.func24, Tryd.ntmps24
    go_wp2_with (first | (go_at_call 36; refine (l00In_c _ _ _ _).mono ?_; rintro _ _ ⟨rfl, hk⟩; replace st := st.call hk; clear hk))
    go_ret
    exact ⟨rfl, st.keep⟩
theorem isPlace_c (x y : Int) (w : World) : Calls Tryd.prog 41 #[.int .i64 x, .int .i64 y] w fun e w' => e = .returned (.bool (placeB x y)) ∧ Keep [] w w' := by
  have st := St.start w
  unfold placeB
  by_cases h : inB x 0 11 = true
  · rw [h, Bool.true_and]
    go_enter Tryd.func41, Tryd.ntmps41
    go_wp2_with (first | (go_at_call 52; refine (inRange_c _ _ _ _).mono ?_; rintro _ _ ⟨rfl, hk⟩; replace st := st.call hk; clear hk))
    go_ret
    exact ⟨rfl, st.keep⟩
  · have h' : inB x 0 11 = false := by simpa using h
    rw [h', Bool.false_and]
    clear h
    go_enter Tryd.func41, Tryd.ntmps41
    go_wp2_with (first | (go_at_call 52; refine (inRange_c _ _ _ _).mono ?_; rintro _ _ ⟨rfl, hk⟩; replace st := st.call hk; clear hk))
    go_ret
    exact ⟨rfl, st.keep⟩

/-! ### The frame's own tests and copies -/
theorem fill_step (f : List Nat) (hf : f.length = 12) (k : Nat) (hk : k < 12) : (f.take k ++ List.replicate (12 - k) 0).set k (ro f k) = f.take (k + 1) ++ List.replicate (12 - (k + 1)) 0 := by
  have hl : (f.take k).length = k := by rw [List.length_take]; omega
  rw [List.set_append_right _ _ (by omega), hl, Nat.sub_self, show 12 - k = (12 - (k + 1)) + 1 by omega, List.replicate_succ, List.set_cons_zero, List.take_succ_eq_append_getElem (by omega), ro_get _ _ (by omega), List.append_assoc]
  rfl
theorem eqFrame_same (f : List Nat) (hf : f.length = 12) (w : World) :
    Calls Tryd.prog 15 #[.agg (frv f).toArray, .agg (frv f).toArray] w fun e w' => e = .returned (.bool true) ∧ Keep [] w w' := by
  have st := St.start w
  go_enter Tryd.func15, Tryd.ntmps15
  go_wp2_with (first | ((with_reducible refine gate_box rfl ?_); (with_reducible refine gate_dst (N := 2) rfl ?_); refine wpl_box rfl _ _ rfl _ rfl _ rfl st ?_; clear st; intro B1 _ st) | ((with_reducible refine gate_box rfl ?_); (with_reducible refine gate_dst (N := 3) rfl ?_); refine wpl_box rfl _ _ rfl _ rfl _ rfl st ?_; clear st; intro B2 _ st))
  go_loopw [5] (fun i wr => ∃ k : Nat, k ≤ 12 ∧ i = .int .i64 k ∧ St [] w wr [(B2, frv f, 33), (B1, frv f, 33)]) (fun i _ => 12 - (intOf i).toNat)
  case atStart => exact ⟨0, by omega, rfl, st⟩
  case round =>
    clear st
    obtain ⟨k, hk, rfl, st⟩ := hrel
    by_cases hlt : k < 12
    · have c1 := (st.get (.there .here)).cellv (frv_get f k (by omega))
      have c2 := (st.get .here).cellv (frv_get f k (by omega))
      have h1 : ((k : Nat) : Int) < 12 := by omega
      go_wp2_with fail
      go_quiet (fail)
      replace st := st.drewN nq
      go_wp2_with fail
      go_roundw
      case rel => exact ⟨k + 1, by omega, by go_num, st⟩
      case measure => simp [intOf]; omega
    · obtain rfl : k = 12 := by omega
      go_wp2_with fail
      go_ret
      exact ⟨rfl, st.keep⟩

theorem bigRow_c (r : Nat) (w : World) : Calls Tryd.prog 56 #[.int .u16 r] w fun e w' => e = .returned (.bool (decide (4095 < r))) ∧ Keep [] w w' := by
  go_enter Tryd.func56, Tryd.ntmps56
  go_wp2_with fail
  go_ret
  exact ⟨by simp; omega, Keep.refl _ _⟩
def IdxPost (f : List Nat) (w : World) (e : Ending) (w' : World) : Prop := ∃ i : Int, e = .returned (.int .i64 i) ∧ (okB f = true → i = -1) ∧ (okB f = false → 0 ≤ i) ∧ Keep [] w w'
theorem indexFuncRow_c (f : List Nat) (hf : f.length = 12) (b : Nat) (w : World) (hb : Cl w b 0 (frv f)) :
    Calls Tryd.prog 60 #[.slice (some ⟨b, 0, none⟩) 12 12, .func (.func 56) #[] #[]] w (IdxPost f w) := by
  have st := St.start w
  go_enter Tryd.func60, Tryd.ntmps60
  go_wp2_with fail
  go_loopw [8] (fun i wr => ∃ k : Nat, k ≤ 12 ∧ i = .int .i64 k ∧ (∀ y, y < k → ro f y ≤ 4095) ∧ St [] w wr []) (fun i _ => 12 - (intOf i).toNat)
  case atStart => exact ⟨0, by omega, rfl, by omega, st⟩
  case round =>
    clear st
    obtain ⟨k, hk, rfl, hle, st⟩ := hrel
    have HL := hid hle
    clear hle
    by_cases hlt : k < 12
    · by_cases hbig : 4095 < ro f k
      · have hd : decide (4095 < ro f k) = true := by simpa using hbig
        go_wp2_with (first | ((with_reducible refine gate_addr rfl ?_); refine wpl_slcAddr0 rfl _ _ rfl _ _ _ rfl _ _ rfl tU16S k rfl hlt ?_) | ((with_reducible refine gate_load rfl ?_); refine wpl_load1 rfl _ _ rfl _ rfl tU16 _ ((hb.keep st.keep (by simp)).cellv0 (frv_get _ _ (by omega))) ?_) | (go_at_call 56; refine (bigRow_c _ _).mono ?_; rintro _ _ ⟨rfl, hk⟩; replace st := st.call hk; clear hk))
        go_ret
        exact ⟨k, rfl, fun h => (by rw [okB_not hbig] at h; cases h), fun _ => (by omega), st.keep⟩
      · have hd : decide (4095 < ro f k) = false := by simpa using hbig
        go_wp2_with (first | ((with_reducible refine gate_addr rfl ?_); refine wpl_slcAddr0 rfl _ _ rfl _ _ _ rfl _ _ rfl tU16S k rfl hlt ?_) | ((with_reducible refine gate_load rfl ?_); refine wpl_load1 rfl _ _ rfl _ rfl tU16 _ ((hb.keep st.keep (by simp)).cellv0 (frv_get _ _ (by omega))) ?_) | (go_at_call 56; refine (bigRow_c _ _).mono ?_; rintro _ _ ⟨rfl, hk⟩; replace st := st.call hk; clear hk))
        go_roundw
        case rel =>
          refine ⟨k + 1, by omega, by go_num, fun y hy => ?_, st⟩
          by_cases e : y = k
          · subst e; omega
          · exact HL.out y (by omega)
        case measure => simp [intOf]; omega
    · obtain rfl : k = 12 := by omega
      go_wp2_with fail
      go_ret
      exact ⟨-1, rfl, fun _ => rfl, fun h => (by rw [okB_of (fun y hy => HL.out y (by omega))] at h; cases h), st.keep⟩
theorem containsRow_c (f : List Nat) (hf : f.length = 12) (b : Nat) (w : World) (hb : Cl w b 0 (frv f)) :
    Calls Tryd.prog 55 #[.slice (some ⟨b, 0, none⟩) 12 12, .func (.func 56) #[] #[]] w fun e w' => e = .returned (.bool (!okB f)) ∧ Keep [] w w' := by
  have st := St.start w
  by_cases h : okB f = true
  · rw [h]
    go_enter Tryd.func55, Tryd.ntmps55
    go_wp2_with (go_at_call 60; refine (indexFuncRow_c f hf b _ hb).mono ?_; rintro _ _ ⟨i, rfl, h1, h2, hk⟩; replace st := st.call hk; obtain rfl := h1 h; clear h1 h2 hk)
    go_ret
    exact ⟨rfl, st.keep⟩
  · have h' : okB f = false := by simpa using h
    clear h
    rw [h']
    go_enter Tryd.func55, Tryd.ntmps55
    go_wp2_with (go_at_call 60; refine (indexFuncRow_c f hf b _ hb).mono ?_; rintro _ _ ⟨i, rfl, h1, h2, hk⟩; replace st := st.call hk; have h3 := h2 h'; clear h1 h2 hk)
    go_ret
    exact ⟨by simp [*], st.keep⟩
theorem ValidFrame_c (f : List Nat) (hf : f.length = 12) (w : World) :
    Calls Tryd.prog 45 #[.agg (frv f).toArray] w fun e w' => e = .returned (.bool (okB f)) ∧ Keep [] w w' := by
  have st := St.start w
  go_enter Tryd.func45, Tryd.ntmps45
  go_wp2_with (first | ((with_reducible refine gate_box rfl ?_); refine wpl_box rfl _ _ rfl _ rfl _ rfl st ?_; clear st; intro B1 _ st) | (go_at_call 55; refine (containsRow_c f hf _ _ (.of (st.get .here))).mono ?_; rintro _ _ ⟨rfl, hk⟩; replace st := st.call hk; clear hk))
  go_ret
  exact ⟨by simp, st.keep⟩
end Go.Proofs.YtmfgbkmkcljciaaDoor
