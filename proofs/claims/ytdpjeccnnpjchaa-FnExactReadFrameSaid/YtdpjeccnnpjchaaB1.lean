/- The small functions on places and frames: what each answers; no condition. -/
import Derived.Test.YtdpjeccnnpjchaaTy
import Derived.LoopTactic
import Derived.Deep.LoopGhost
import Derived.Deep.QuietTactic
import Derived.BigQuiet
import Derived.Outline
namespace Go.Proofs.Ytdpjeccnnpjchaa
open Go.RowKit
set_option linter.unusedSimpArgs false
set_option linter.unusedVariables false

def inB (n lo hi : Int) : Bool := decide (lo ≤ n ∧ n ≤ hi)
theorem inB_yes {n lo hi : Int} (h1 : lo ≤ n) (h2 : n ≤ hi) : inB n lo hi = true := by simp [inB, h1, h2]
theorem inB_no1 {n lo hi : Int} (h1 : ¬ lo ≤ n) : inB n lo hi = false := by simp [inB, h1]
theorem inB_no2 {n lo hi : Int} (h1 : ¬ n ≤ hi) : inB n lo hi = false := by simp [inB, h1]
theorem l00In_c (n lo hi : Int) (w : World) : Calls Try.prog 39 #[.int .i64 n, .int .i64 lo, .int .i64 hi] w fun e w' => e = .returned (.bool (inB n lo hi)) ∧ Keep [] w w' := by
  by_cases h1 : lo ≤ n
  · by_cases h2 : n ≤ hi
    · rw [inB_yes h1 h2]
      go_enter Try.func39, Try.ntmps39
      go_wp2
      go_ret
      exact ⟨by simp [h2], Keep.refl _ _⟩
    · rw [inB_no2 h2]
      go_enter Try.func39, Try.ntmps39
      go_wp2
      go_ret
      exact ⟨by simp [h2], Keep.refl _ _⟩
  · rw [inB_no1 h1]
    go_enter Try.func39, Try.ntmps39
    go_wp2
    go_ret
    exact ⟨by simp, Keep.refl _ _⟩
theorem inRange_c (n lo hi : Int) (w : World) : Calls Try.prog 40 #[.int .i64 n, .int .i64 lo, .int .i64 hi] w fun e w' => e = .returned (.bool (inB n lo hi)) ∧ Keep [] w w' := by
  by_cases h1 : lo ≤ n
  · by_cases h2 : n ≤ hi
    · rw [inB_yes h1 h2]
      go_enter Try.func40, Try.ntmps40
      go_wp2
      go_ret
      exact ⟨by simp [h2], Keep.refl _ _⟩
    · rw [inB_no2 h2]
      go_enter Try.func40, Try.ntmps40
      go_wp2
      go_ret
      exact ⟨by simp [h2], Keep.refl _ _⟩
  · rw [inB_no1 h1]
    go_enter Try.func40, Try.ntmps40
    go_wp2
    go_ret
    exact ⟨by simp, Keep.refl _ _⟩

/-- x, y is a place. -/
def placeB (x y : Int) : Bool := inB x 0 11 && inB y 0 11
theorem l01Place_c (x y : Int) (w : World) : Calls Try.prog 21 #[.int .i64 x, .int .i64 y] w fun e w' => e = .returned (.bool (placeB x y)) ∧ Keep [] w w' := by
  have st := St.start w
  unfold placeB
  by_cases h : inB x 0 11 = true
  · rw [h, Bool.true_and]
    go_enter Try.func21, Try.ntmps21
    go_wp2_with (first | (go_at_call 39; refine (l00In_c _ _ _ _).mono ?_; rintro _ _ ⟨rfl, hk⟩; replace st := st.call hk; clear hk))
    go_ret
    exact ⟨rfl, st.keep⟩
  · have h' : inB x 0 11 = false := by simpa using h
    rw [h', Bool.false_and]
    clear h
    go_enter Try.func21, Try.ntmps21
    go_wp2_with (first | (go_at_call 39; refine (l00In_c _ _ _ _).mono ?_; rintro _ _ ⟨rfl, hk⟩; replace st := st.call hk; clear hk))
    go_ret
    exact ⟨rfl, st.keep⟩
theorem isPlace_c (x y : Int) (w : World) : Calls Try.prog 26 #[.int .i64 x, .int .i64 y] w fun e w' => e = .returned (.bool (placeB x y)) ∧ Keep [] w w' := by
  have st := St.start w
  unfold placeB
  by_cases h : inB x 0 11 = true
  · rw [h, Bool.true_and]
    go_enter Try.func26, Try.ntmps26
    go_wp2_with (first | (go_at_call 40; refine (inRange_c _ _ _ _).mono ?_; rintro _ _ ⟨rfl, hk⟩; replace st := st.call hk; clear hk))
    go_ret
    exact ⟨rfl, st.keep⟩
  · have h' : inB x 0 11 = false := by simpa using h
    rw [h', Bool.false_and]
    clear h
    go_enter Try.func26, Try.ntmps26
    go_wp2_with (first | (go_at_call 40; refine (inRange_c _ _ _ _).mono ?_; rintro _ _ ⟨rfl, hk⟩; replace st := st.call hk; clear hk))
    go_ret
    exact ⟨rfl, st.keep⟩

/-! ### The frame's own tests and copies -/
theorem l01Ok_c (f : List Nat) (hf : f.length = 12) (b o : Nat) (w : World) (hb : Cl w b o (frv f)) :
    Calls Try.prog 17 #[.pointer (some ⟨b, o, none⟩)] w fun e w' => e = .returned (.bool (okB f)) ∧ Keep [] w w' := by
  have st := St.start w
  go_enter Try.func17, Try.ntmps17
  go_wp2_with fail
  go_loopw [3] (fun i wr => ∃ k : Nat, k ≤ 12 ∧ i = .int .i64 k ∧ (∀ y, y < k → ro f y ≤ 4095) ∧ St [] w wr []) (fun i _ => 12 - (intOf i).toNat)
  case atStart => exact ⟨0, by omega, rfl, by omega, st⟩
  case round =>
    clear st
    obtain ⟨k, hk, rfl, hle, st⟩ := hrel
    have HL := hid hle
    clear hle
    by_cases hlt : k < 12
    · by_cases hbig : 4095 < ro f k
      · go_wp2_with (first | ((with_reducible refine gate_addr rfl ?_); refine wpl_indexAddr rfl _ _ rfl _ _ rfl _ _ rfl tFr k rfl hlt ?_) | ((with_reducible refine gate_load rfl ?_); refine wpl_load1 rfl _ _ rfl _ rfl tU16 _ ((hb.keep st.keep (by simp)).cellv (frv_get _ _ (by omega))) ?_))
        go_ret
        exact ⟨by rw [okB_not hbig]; rfl, st.keep⟩
      · go_wp2_with (first | ((with_reducible refine gate_addr rfl ?_); refine wpl_indexAddr rfl _ _ rfl _ _ rfl _ _ rfl tFr k rfl hlt ?_) | ((with_reducible refine gate_load rfl ?_); refine wpl_load1 rfl _ _ rfl _ rfl tU16 _ ((hb.keep st.keep (by simp)).cellv (frv_get _ _ (by omega))) ?_))
        go_roundw
        case rel =>
          refine ⟨k + 1, by omega, by go_num, fun y hy => ?_, st⟩
          by_cases e : y = k
          · subst e; omega
          · exact HL.out y (by omega)
        case measure => simp [intOf]; omega
    · obtain rfl : k = 12 := by omega
      go_wp2_with fail
      go_ret
      exact ⟨by rw [okB_of (fun y hy => HL.out y (by omega))]; rfl, st.keep⟩

theorem fill_step (f : List Nat) (hf : f.length = 12) (k : Nat) (hk : k < 12) : (f.take k ++ List.replicate (12 - k) 0).set k (ro f k) = f.take (k + 1) ++ List.replicate (12 - (k + 1)) 0 := by
  have hl : (f.take k).length = k := by rw [List.length_take]; omega
  rw [List.set_append_right _ _ (by omega), hl, Nat.sub_self, show 12 - k = (12 - (k + 1)) + 1 by omega, List.replicate_succ, List.set_cons_zero, List.take_succ_eq_append_getElem (by omega), ro_get _ _ (by omega), List.append_assoc]
  rfl
theorem toFrame_c (f : List Nat) (hf : f.length = 12) (w : World) :
    Calls Try.prog 7 #[.agg (frv f).toArray] w fun e w' => e = .returned (.agg (frv f).toArray) ∧ Keep [] w w' := by
  have st := St.start w
  go_enter Try.func7, Try.ntmps7
  go_wp2_with (first | ((with_reducible refine gate_box rfl ?_); refine wpl_box rfl _ _ rfl _ rfl _ rfl st ?_; clear st; intro B1 _ st) | ((with_reducible refine gate_alloc rfl ?_); (with_reducible refine gate_dst (N := 2) rfl ?_); refine wpl_alloc rfl _ rfl tFr.toAggT st ?_; clear st; intro B2 _ st) | ((with_reducible refine gate_alloc rfl ?_); (with_reducible refine gate_dst (N := 3) rfl ?_); refine wpl_alloc rfl _ rfl tFr.toAggT st ?_; clear st; intro B3 _ st))
  rw [frv_zero] at st
  go_loopw [4] (fun i wr => ∃ k : Nat, k ≤ 12 ∧ i = .int .i64 k ∧ St [] w wr [(B3, frv (f.take k ++ List.replicate (12 - k) 0), 25), (B2, frv zf, 25), (B1, frv f, 23)]) (fun i _ => 12 - (intOf i).toNat)
  case atStart => exact ⟨0, by omega, rfl, st⟩
  case round =>
    clear st
    obtain ⟨k, hk, rfl, st⟩ := hrel
    by_cases hlt : k < 12
    · go_wp2_with (first | ((with_reducible refine gate_addr rfl ?_); refine wpl_indexAddr0 rfl _ _ rfl _ rfl _ _ rfl tFr k rfl hlt ?_) | ((with_reducible refine gate_addr rfl ?_); refine wpl_indexAddr0 rfl _ _ rfl _ rfl _ _ rfl tRaw k rfl hlt ?_) | ((with_reducible refine gate_load rfl ?_); refine wpl_load1 rfl _ _ rfl _ rfl tU16 _ ((st.get (by repeat (first | exact At.here | apply At.there))).cellv (frv_get _ _ (by omega))) ?_) | ((with_reducible refine gate_store rfl ?_); refine wpl_store1 rfl _ _ _ rfl _ _ rfl (.int .u16 _) rfl tU16 rfl rfl st _ _ (by repeat (first | exact Upd.here | apply Upd.there)) (by simp [frv_length]; omega) ?_; rw [frv_set, fill_step f hf k hlt];clear st; intro _ st))
      go_roundw
      case rel => exact ⟨k + 1, by omega, by go_num, st⟩
      case measure => simp [intOf]; omega
    · obtain rfl : k = 12 := by omega
      rw [List.take_of_length_le (by omega), Nat.sub_self, List.replicate_zero, List.append_nil] at st
      go_wp2_with (first | ((with_reducible refine gate_load rfl ?_); refine wpl_loadAll rfl _ _ rfl _ rfl tFr.toAggT _ _ (st.get (by repeat (first | exact At.here | apply At.there))) (by simp [frv_length, zf_length, mk_length, withD_length, part_length, rowsOf_length, *]) ?_) | ((with_reducible refine gate_store rfl ?_); refine wpl_storeAll rfl _ _ _ rfl _ rfl _ rfl tFr.toAggT (by simp [frv_length, zf_length, mk_length, withD_length, part_length, rowsOf_length, *]) (frv_one _) st _ _ (by repeat (first | exact Upd.here | apply Upd.there)) (by simp [frv_length, zf_length, mk_length, withD_length, part_length, rowsOf_length, *]) ?_; clear st; intro _ st))
      refine bodyPost_cell rfl tFr.toAggT rfl _ rfl _ _ (st.get (by repeat (first | exact At.here | apply At.there))) (by simp [frv_length, zf_length, mk_length, withD_length, part_length, rowsOf_length, *]) ?_
      exact ⟨rfl, st.keep⟩

theorem eqFrame_same (f : List Nat) (hf : f.length = 12) (w : World) :
    Calls Try.prog 13 #[.agg (frv f).toArray, .agg (frv f).toArray] w fun e w' => e = .returned (.bool true) ∧ Keep [] w w' := by
  have st := St.start w
  go_enter Try.func13, Try.ntmps13
  go_wp2_with (first | ((with_reducible refine gate_box rfl ?_); (with_reducible refine gate_dst (N := 2) rfl ?_); refine wpl_box rfl _ _ rfl _ rfl _ rfl st ?_; clear st; intro B1 _ st) | ((with_reducible refine gate_box rfl ?_); (with_reducible refine gate_dst (N := 3) rfl ?_); refine wpl_box rfl _ _ rfl _ rfl _ rfl st ?_; clear st; intro B2 _ st))
  go_loopw [5] (fun i wr => ∃ k : Nat, k ≤ 12 ∧ i = .int .i64 k ∧ St [] w wr [(B2, frv f, 25), (B1, frv f, 25)]) (fun i _ => 12 - (intOf i).toNat)
  case atStart => exact ⟨0, by omega, rfl, st⟩
  case round =>
    clear st
    obtain ⟨k, hk, rfl, st⟩ := hrel
    by_cases hlt : k < 12
    · have c1 := (st.get (.there .here)).cellv (frv_get f k (by omega))
      have c2 := (st.get .here).cellv (frv_get f k (by omega))
      have h1 : ((k : Nat) : Int) < 12 := by omega
      go_wp2_with fail
      go_quiet (fail)
      replace st := st.drewN nq
      go_wp2_with fail
      go_roundw
      case rel => exact ⟨k + 1, by omega, by go_num, st⟩
      case measure => simp [intOf]; omega
    · obtain rfl : k = 12 := by omega
      go_wp2_with fail
      go_ret
      exact ⟨rfl, st.keep⟩

theorem bigRow_c (r : Nat) (w : World) : Calls Try.prog 35 #[.int .u16 r] w fun e w' => e = .returned (.bool (decide (4095 < r))) ∧ Keep [] w w' := by
  go_enter Try.func35, Try.ntmps35
  go_wp2_with fail
  go_ret
  exact ⟨by simp; omega, Keep.refl _ _⟩
def IdxPost (f : List Nat) (w : World) (e : Ending) (w' : World) : Prop := ∃ i : Int, e = .returned (.int .i64 i) ∧ (okB f = true → i = -1) ∧ (okB f = false → 0 ≤ i) ∧ Keep [] w w'
theorem indexFuncRow_c (f : List Nat) (hf : f.length = 12) (b : Nat) (w : World) (hb : Cl w b 0 (frv f)) :
    Calls Try.prog 42 #[.slice (some ⟨b, 0, none⟩) 12 12, .func (.func 35) #[] #[]] w (IdxPost f w) := by
  have st := St.start w
  go_enter Try.func42, Try.ntmps42
  go_wp2_with fail
  go_loopw [8] (fun i wr => ∃ k : Nat, k ≤ 12 ∧ i = .int .i64 k ∧ (∀ y, y < k → ro f y ≤ 4095) ∧ St [] w wr []) (fun i _ => 12 - (intOf i).toNat)
  case atStart => exact ⟨0, by omega, rfl, by omega, st⟩
  case round =>
    clear st
    obtain ⟨k, hk, rfl, hle, st⟩ := hrel
    have HL := hid hle
    clear hle
    by_cases hlt : k < 12
    · by_cases hbig : 4095 < ro f k
      · have hd : decide (4095 < ro f k) = true := by simpa using hbig
        go_wp2_with (first | ((with_reducible refine gate_addr rfl ?_); refine wpl_slcAddr0 rfl _ _ rfl _ _ _ rfl _ _ rfl tU16S k rfl hlt ?_) | ((with_reducible refine gate_load rfl ?_); refine wpl_load1 rfl _ _ rfl _ rfl tU16 _ ((hb.keep st.keep (by simp)).cellv0 (frv_get _ _ (by omega))) ?_) | (go_at_call 35; refine (bigRow_c _ _).mono ?_; rintro _ _ ⟨rfl, hk⟩; replace st := st.call hk; clear hk))
        go_ret
        exact ⟨k, rfl, fun h => (by rw [okB_not hbig] at h; cases h), fun _ => (by omega), st.keep⟩
      · have hd : decide (4095 < ro f k) = false := by simpa using hbig
        go_wp2_with (first | ((with_reducible refine gate_addr rfl ?_); refine wpl_slcAddr0 rfl _ _ rfl _ _ _ rfl _ _ rfl tU16S k rfl hlt ?_) | ((with_reducible refine gate_load rfl ?_); refine wpl_load1 rfl _ _ rfl _ rfl tU16 _ ((hb.keep st.keep (by simp)).cellv0 (frv_get _ _ (by omega))) ?_) | (go_at_call 35; refine (bigRow_c _ _).mono ?_; rintro _ _ ⟨rfl, hk⟩; replace st := st.call hk; clear hk))
        go_roundw
        case rel =>
          refine ⟨k + 1, by omega, by go_num, fun y hy => ?_, st⟩
          by_cases e : y = k
          · subst e; omega
          · exact HL.out y (by omega)
        case measure => simp [intOf]; omega
    · obtain rfl : k = 12 := by omega
      go_wp2_with fail
      go_ret
      exact ⟨-1, rfl, fun _ => rfl, fun h => (by rw [okB_of (fun y hy => HL.out y (by omega))] at h; cases h), st.keep⟩
theorem containsRow_c (f : List Nat) (hf : f.length = 12) (b : Nat) (w : World) (hb : Cl w b 0 (frv f)) :
    Calls Try.prog 34 #[.slice (some ⟨b, 0, none⟩) 12 12, .func (.func 35) #[] #[]] w fun e w' => e = .returned (.bool (!okB f)) ∧ Keep [] w w' := by
  have st := St.start w
  by_cases h : okB f = true
  · rw [h]
    go_enter Try.func34, Try.ntmps34
    go_wp2_with (go_at_call 42; refine (indexFuncRow_c f hf b _ hb).mono ?_; rintro _ _ ⟨i, rfl, h1, h2, hk⟩; replace st := st.call hk; obtain rfl := h1 h; clear h1 h2 hk)
    go_ret
    exact ⟨rfl, st.keep⟩
  · have h' : okB f = false := by simpa using h
    clear h
    rw [h']
    go_enter Try.func34, Try.ntmps34
    go_wp2_with (go_at_call 42; refine (indexFuncRow_c f hf b _ hb).mono ?_; rintro _ _ ⟨i, rfl, h1, h2, hk⟩; replace st := st.call hk; have h3 := h2 h'; clear h1 h2 hk)
    go_ret
    exact ⟨by simp [*], st.keep⟩
theorem ValidFrame_c (f : List Nat) (hf : f.length = 12) (w : World) :
    Calls Try.prog 19 #[.agg (frv f).toArray] w fun e w' => e = .returned (.bool (okB f)) ∧ Keep [] w w' := by
  have st := St.start w
  go_enter Try.func19, Try.ntmps19
  go_wp2_with (first | ((with_reducible refine gate_box rfl ?_); refine wpl_box rfl _ _ rfl _ rfl _ rfl st ?_; clear st; intro B1 _ st) | (go_at_call 34; refine (containsRow_c f hf _ _ (.of (st.get .here))).mono ?_; rintro _ _ ⟨rfl, hk⟩; replace st := st.call hk; clear hk))
  go_ret
  exact ⟨by simp, st.keep⟩
end Go.Proofs.Ytdpjeccnnpjchaa
