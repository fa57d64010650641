/- Valid sheets: the reference and the program; no condition. -/
import Derived.Test.YtlljflmbnbjccaaDoorShS
import Derived.Test.YtlljflmbnbjccaaDoorPs
import Derived.Test.YtlljflmbnbjccaaDoorCutB
import Derived.Test.YtlljflmbnbjccaaDoorSched
import Derived.Test.YtlljflmbnbjccaaDoorB3
namespace Go.Proofs.YtlljflmbnbjccaaDoor
open Go.RowKit
set_option linter.unusedSimpArgs false
set_option linter.unusedVariables false
/-- Two numbers of 8 bits. -/
def I8 (x : Int × Int) : Prop := (-128 ≤ x.1 ∧ x.1 ≤ 127) ∧ (-128 ≤ x.2 ∧ x.2 ≤ 127)
def R8 (S : List (Int × Int)) : Prop := ∀ s ∈ S, I8 s
theorem R8.get {S : List (Int × Int)} (h : R8 S) {k : Nat} (hk : k < S.length) : I8 S[k] := h _ (List.getElem_mem hk)
theorem shB_inB (n : Int) (a b : Int) : shB n (a, b) = (inB a 0 (n - 1) && inB b 1 24) := rfl
set_option maxRecDepth 100000 in
theorem areShots1_c (a d : Int) (hx : I8 (a, d)) (n : Nat) (hn : n ≤ 4000000) (b : Nat) (T : TypeId) (w : World) (hb0 : Blk w b [.int .i64 n] T) :
    Calls Tryd.prog 32 #[.agg (p8 (a, d)).toArray, .pointer (some ⟨b, 0, none⟩)] w fun e w' => e = .returned (.bool (!shB n (a, d))) ∧ Keep [] w w' := by
  have st := St.start w
  obtain ⟨⟨h1, h2⟩, h3, h4⟩ := hx
  simp only at h1 h2 h3 h4
  rw [shB_inB]
  have HA := hid (inRange_c a 0 ((n : Int) - 1))
  have HD := hid (inRange_c d 1 24)
  have N0 : Hid (([.int .i64 (n : Int)] : List Value)[0]? = some (.int .i64 n)) := hid rfl
  have hb1 := hb0
  rcases Bool.eq_false_or_eq_true (inB a 0 ((n : Int) - 1)) with q1 | q1
  · rcases Bool.eq_false_or_eq_true (inB d 1 24) with q2 | q2
    all_goals
      rw [q1, q2]
      rw [q1] at HA
      rw [q2] at HD
      go_enter Tryd.func32, Tryd.ntmps32
      go_wp2_with (first | (go_at_call 33; (first | (with_reducible refine (HA.out _).mono ?_) | (with_reducible refine (HD.out _).mono ?_)); rintro _ _ ⟨rfl, hk⟩; replace st := st.call hk; clear hk) | ((with_reducible refine gate_lst ?_); (first | ((with_reducible refine' wpl_ung ?_ ?_ ?_); rotate_left 1; (focus exact rfl); (focus exact rfl)) | ((with_reducible refine gate_box rfl ?_); (first | (refine ia_box (sl := 2) st rfl rfl rfl rfl rfl ?_; clear st; intro B2 _ st))) | ((with_reducible refine gate_load rfl ?_); (first | (refine' ia_load1 st rfl rfl rfl ?_ ?_; rotate_left 1; (focus (first | exact N0.out | exact N1.out | exact N2.out | exact N3.out | exact N4.out | exact N5.out | exact G2.out | exact G3.out | exact G4.out | exact G0.out | exact G1.out | (refine frv_get _ _ ?_; (first | omega | (simp; done) | (simp; omega) | (simp [*]; omega))) | exact rfl))) | (refine' ia_load1Z (hb.keep st.keep (by simp)) rfl rfl rfl ?_ ?_; rotate_left 1; (focus exact rfl)) | (refine' ia_load1Z (hb'.keep st.keep (by simp)) rfl rfl rfl ?_ ?_; rotate_left 1; (focus exact rfl)) | (refine' ia_load1C (hb.keep st.keep (by simp)) rfl rfl rfl ?_ ?_; rotate_left 1; (focus (first | exact N0.out | exact N1.out | exact N2.out | exact N3.out | exact N4.out | exact N5.out | exact G2.out | exact G3.out | exact G4.out | exact G0.out | exact G1.out | (refine frv_get _ _ ?_; (first | omega | (simp; done) | (simp; omega) | (simp [*]; omega))) | exact rfl))) | (refine' ia_load1C (hb'.keep st.keep (by simp)) rfl rfl rfl ?_ ?_; rotate_left 1; (focus (first | exact N0.out | exact N1.out | exact N2.out | exact N3.out | exact N4.out | exact N5.out | exact G2.out | exact G3.out | exact G4.out | exact G0.out | exact G1.out | (refine frv_get _ _ ?_; (first | omega | (simp; done) | (simp; omega) | (simp [*]; omega))) | exact rfl))) | (refine' ia_load1B (hb1.keep st.keep (by simp)) rfl rfl rfl ?_ ?_; rotate_left 1; (focus (first | exact N0.out | exact N1.out | exact N2.out | exact N3.out | exact N4.out | exact N5.out | exact G2.out | exact G3.out | exact G4.out | exact G0.out | exact G1.out | (refine frv_get _ _ ?_; (first | omega | (simp; done) | (simp; omega) | (simp [*]; omega))) | exact rfl))) | (refine' ia_load1B (hb2.keep st.keep (by simp)) rfl rfl rfl ?_ ?_; rotate_left 1; (focus (first | exact N0.out | exact N1.out | exact N2.out | exact N3.out | exact N4.out | exact N5.out | exact G2.out | exact G3.out | exact G4.out | exact G0.out | exact G1.out | (refine frv_get _ _ ?_; (first | omega | (simp; done) | (simp; omega) | (simp [*]; omega))) | exact rfl))))))))
      go_ret
      exact ⟨rfl, st.keep⟩
  · rw [q1, Bool.false_and]
    rw [q1] at HA
    go_enter Tryd.func32, Tryd.ntmps32
    go_wp2_with (first | (go_at_call 33; (first | (with_reducible refine (HA.out _).mono ?_) | (with_reducible refine (HD.out _).mono ?_)); rintro _ _ ⟨rfl, hk⟩; replace st := st.call hk; clear hk) | ((with_reducible refine gate_lst ?_); (first | ((with_reducible refine' wpl_ung ?_ ?_ ?_); rotate_left 1; (focus exact rfl); (focus exact rfl)) | ((with_reducible refine gate_box rfl ?_); (first | (refine ia_box (sl := 2) st rfl rfl rfl rfl rfl ?_; clear st; intro B2 _ st))) | ((with_reducible refine gate_load rfl ?_); (first | (refine' ia_load1 st rfl rfl rfl ?_ ?_; rotate_left 1; (focus (first | exact N0.out | exact N1.out | exact N2.out | exact N3.out | exact N4.out | exact N5.out | exact G2.out | exact G3.out | exact G4.out | exact G0.out | exact G1.out | (refine frv_get _ _ ?_; (first | omega | (simp; done) | (simp; omega) | (simp [*]; omega))) | exact rfl))) | (refine' ia_load1Z (hb.keep st.keep (by simp)) rfl rfl rfl ?_ ?_; rotate_left 1; (focus exact rfl)) | (refine' ia_load1Z (hb'.keep st.keep (by simp)) rfl rfl rfl ?_ ?_; rotate_left 1; (focus exact rfl)) | (refine' ia_load1C (hb.keep st.keep (by simp)) rfl rfl rfl ?_ ?_; rotate_left 1; (focus (first | exact N0.out | exact N1.out | exact N2.out | exact N3.out | exact N4.out | exact N5.out | exact G2.out | exact G3.out | exact G4.out | exact G0.out | exact G1.out | (refine frv_get _ _ ?_; (first | omega | (simp; done) | (simp; omega) | (simp [*]; omega))) | exact rfl))) | (refine' ia_load1C (hb'.keep st.keep (by simp)) rfl rfl rfl ?_ ?_; rotate_left 1; (focus (first | exact N0.out | exact N1.out | exact N2.out | exact N3.out | exact N4.out | exact N5.out | exact G2.out | exact G3.out | exact G4.out | exact G0.out | exact G1.out | (refine frv_get _ _ ?_; (first | omega | (simp; done) | (simp; omega) | (simp [*]; omega))) | exact rfl))) | (refine' ia_load1B (hb1.keep st.keep (by simp)) rfl rfl rfl ?_ ?_; rotate_left 1; (focus (first | exact N0.out | exact N1.out | exact N2.out | exact N3.out | exact N4.out | exact N5.out | exact G2.out | exact G3.out | exact G4.out | exact G0.out | exact G1.out | (refine frv_get _ _ ?_; (first | omega | (simp; done) | (simp; omega) | (simp [*]; omega))) | exact rfl))) | (refine' ia_load1B (hb2.keep st.keep (by simp)) rfl rfl rfl ?_ ?_; rotate_left 1; (focus (first | exact N0.out | exact N1.out | exact N2.out | exact N3.out | exact N4.out | exact N5.out | exact G2.out | exact G3.out | exact G4.out | exact G0.out | exact G1.out | (refine frv_get _ _ ?_; (first | omega | (simp; done) | (simp; omega) | (simp [*]; omega))) | exact rfl))))))))
    go_ret
    exact ⟨rfl, st.keep⟩
def IdxSPost (n : Int) (S : List Sh) (w : World) (e : Ending) (w' : World) : Prop := ∃ i : Int, e = .returned (.int .i64 i) ∧ (allSh n S = true → i = -1) ∧ (allSh n S = false → 0 ≤ i) ∧ Keep [] w w'
set_option maxHeartbeats 1000000 in
set_option maxRecDepth 100000 in
theorem indexFuncS_c (S : List Sh) (m : Nat) (hS : S.length = m) (hm : m ≤ 4000000) (h8 : R8 S) (n : Nat) (hn : n ≤ 4000000) (g : Nat) (T : TypeId) (p : Option Addr) (c : Nat) (w : World) (hb0 : Blk w g [.int .i64 n] T) (hr : Rd w p m (encs p8 S)) :
    Calls Tryd.prog 41 #[.slice p m c, .func (.func 32) #[] #[.pointer (some ⟨g, 0, none⟩)]] w (IdxSPost n S w) := by
  have st := St.start w
  have H8 := hid h8
  replace hS := hid hS
  clear h8
  go_enter Tryd.func41, Tryd.ntmps41
  go_wp2_with (first | ((with_reducible refine gate_lst ?_); (first | ((with_reducible refine gate_load rfl ?_); (first | (refine ia_loadAll st rfl rfl rfl ?_ ?_; (focus (first | rfl | (simp; done) | (simp; assumption) | (simp; omega) | (simp [*]; done)))) | (refine ia_loadC (hb.keep st.keep (by simp)) rfl rfl rfl ?_ ?_; (focus (first | rfl | (simp; done) | (simp; assumption) | (simp; omega) | (simp [*]; done)))) | (refine ia_loadC (hb'.keep st.keep (by simp)) rfl rfl rfl ?_ ?_; (focus (first | rfl | (simp; done) | (simp; assumption) | (simp; omega) | (simp [*]; done)))) | (refine ia_loadC (Cl.of (hb1.keep st.keep (by simp))) rfl rfl rfl ?_ ?_; (focus (first | rfl | (simp; done) | (simp; assumption) | (simp; omega) | (simp [*]; done)))) | (refine ia_loadC (Cl.of (hb2.keep st.keep (by simp))) rfl rfl rfl ?_ ?_; (focus (first | rfl | (simp; done) | (simp; assumption) | (simp; omega) | (simp [*]; done)))))) | ((with_reducible refine gate_addr rfl ?_); (first | (refine' ia_slcP HP.out rfl rfl rfl rfl ?_ ?_ ?_) | (refine' ia_slcP HP2.out rfl rfl rfl rfl ?_ ?_ ?_)); rotate_left 1; (focus (first | exact (rfl : (0 : Int) = ((0 : Nat) : Int)) | exact (rfl : (1 : Int) = ((1 : Nat) : Int)) | exact rfl | exact HE1.out | exact HE2.out)); (focus (first | omega | (simp; done) | (simp; omega) | (simp [*]; omega)))))))
  go_loopw [8] (fun i wr => ∃ k : Nat, k ≤ m ∧ i = .int .i64 k ∧ ShTo n S k ∧ St [] w wr []) (fun i _ => m - (intOf i).toNat)
  case atStart => exact ⟨0, by omega, rfl, fun _ _ h => absurd h (by omega), st⟩
  case round =>
    clear st
    obtain ⟨k, hk, rfl, hs, st⟩ := hrel
    replace hs := hid hs
    by_cases hlt : k < m
    · have hd : decide ((k : Int) < (m : Int)) = true := by simpa using hlt
      obtain ⟨b, f, hp, hcl⟩ := hr (by omega)
      have HP := hid hp
      have hkB : k < S.length := by rw [hS.out]; exact hlt
      have hb := hcl.seg p8_len hkB
      have HSS := hid (hs.out.step hkB)
      have HN := hid (allSh_no (n := n) hkB)
      have HX := hid (H8.out.get hkB)
      obtain ⟨x, hx⟩ : ∃ x, S[k] = x := ⟨_, rfl⟩
      rw [hx] at hb HSS HN HX
      clear hx hp hcl hkB
      obtain ⟨x0, x1⟩ := x
      have HC := hid (fun w' (hk : Keep [] w w') => areShots1_c x0 x1 HX.out n hn g T w' (hb0.keep0 hk))
      go_wp2_with (first | (go_at_call 32; refine (Calls.splitB (HC.out _ st.keep)).mono ?_; rintro _ _ (⟨hB_1, rfl, hk⟩ | ⟨hB_1, rfl, hk⟩) <;> (replace st := st.call hk; clear hk)) | ((with_reducible refine gate_lst ?_); (first | ((with_reducible refine gate_load rfl ?_); (first | (refine ia_loadAll st rfl rfl rfl ?_ ?_; (focus (first | rfl | (simp; done) | (simp; assumption) | (simp; omega) | (simp [*]; done)))) | (refine ia_loadC (hb.keep st.keep (by simp)) rfl rfl rfl ?_ ?_; (focus (first | rfl | (simp; done) | (simp; assumption) | (simp; omega) | (simp [*]; done)))) | (refine ia_loadC (hb'.keep st.keep (by simp)) rfl rfl rfl ?_ ?_; (focus (first | rfl | (simp; done) | (simp; assumption) | (simp; omega) | (simp [*]; done)))) | (refine ia_loadC (Cl.of (hb1.keep st.keep (by simp))) rfl rfl rfl ?_ ?_; (focus (first | rfl | (simp; done) | (simp; assumption) | (simp; omega) | (simp [*]; done)))) | (refine ia_loadC (Cl.of (hb2.keep st.keep (by simp))) rfl rfl rfl ?_ ?_; (focus (first | rfl | (simp; done) | (simp; assumption) | (simp; omega) | (simp [*]; done)))))) | ((with_reducible refine gate_addr rfl ?_); (first | (refine' ia_slcP HP.out rfl rfl rfl rfl ?_ ?_ ?_) | (refine' ia_slcP HP2.out rfl rfl rfl rfl ?_ ?_ ?_)); rotate_left 1; (focus (first | exact (rfl : (0 : Int) = ((0 : Nat) : Int)) | exact (rfl : (1 : Int) = ((1 : Nat) : Int)) | exact rfl | exact HE1.out | exact HE2.out)); (focus (first | omega | (simp; done) | (simp; omega) | (simp [*]; omega)))))))
      · go_ret
        exact ⟨k, rfl, fun h => (by rw [HN.out (by simpa using hB_1)] at h; cases h), fun _ => (by omega), st.keep⟩
      · go_roundw
        case rel => exact ⟨k + 1, by omega, by go_num, HSS.out (by simpa using hB_1), st⟩
        case measure => simp [intOf]; omega
    · obtain rfl : k = m := by omega
      have h1 := hid (hs.out.all hS.out)
      go_wp2_with (first | ((with_reducible refine gate_lst ?_); (first | ((with_reducible refine gate_load rfl ?_); (first | (refine ia_loadAll st rfl rfl rfl ?_ ?_; (focus (first | rfl | (simp; done) | (simp; assumption) | (simp; omega) | (simp [*]; done)))) | (refine ia_loadC (hb.keep st.keep (by simp)) rfl rfl rfl ?_ ?_; (focus (first | rfl | (simp; done) | (simp; assumption) | (simp; omega) | (simp [*]; done)))) | (refine ia_loadC (hb'.keep st.keep (by simp)) rfl rfl rfl ?_ ?_; (focus (first | rfl | (simp; done) | (simp; assumption) | (simp; omega) | (simp [*]; done)))) | (refine ia_loadC (Cl.of (hb1.keep st.keep (by simp))) rfl rfl rfl ?_ ?_; (focus (first | rfl | (simp; done) | (simp; assumption) | (simp; omega) | (simp [*]; done)))) | (refine ia_loadC (Cl.of (hb2.keep st.keep (by simp))) rfl rfl rfl ?_ ?_; (focus (first | rfl | (simp; done) | (simp; assumption) | (simp; omega) | (simp [*]; done)))))) | ((with_reducible refine gate_addr rfl ?_); (first | (refine' ia_slcP HP.out rfl rfl rfl rfl ?_ ?_ ?_) | (refine' ia_slcP HP2.out rfl rfl rfl rfl ?_ ?_ ?_)); rotate_left 1; (focus (first | exact (rfl : (0 : Int) = ((0 : Nat) : Int)) | exact (rfl : (1 : Int) = ((1 : Nat) : Int)) | exact rfl | exact HE1.out | exact HE2.out)); (focus (first | omega | (simp; done) | (simp; omega) | (simp [*]; omega)))))))
      go_ret
      exact ⟨-1, rfl, fun _ => rfl, fun h => (by rw [h1.out] at h; cases h), st.keep⟩
theorem containsS_c (S : List Sh) (m : Nat) (hS : S.length = m) (hm : m ≤ 4000000) (h8 : R8 S) (n : Nat) (hn : n ≤ 4000000) (g : Nat) (T : TypeId) (p : Option Addr) (c : Nat) (w : World) (hb0 : Blk w g [.int .i64 n] T) (hr : Rd w p m (encs p8 S)) :
    Calls Tryd.prog 31 #[.slice p m c, .func (.func 32) #[] #[.pointer (some ⟨g, 0, none⟩)]] w fun e w' => e = .returned (.bool (!allSh n S)) ∧ Keep [] w w' := by
  have st := St.start w
  have HI := hid (fun w' (hk : Keep [] w w') => indexFuncS_c S m hS hm h8 n hn g T p c w' (hb0.keep0 hk) (hr.keep hk))
  rcases Bool.eq_false_or_eq_true (allSh n S) with h | h
  · rw [h]
    go_enter Tryd.func31, Tryd.ntmps31
    go_wp2_with (go_at_call 41; refine (HI.out _ st.keep).mono ?_; rintro _ _ ⟨i, rfl, h1, h2, hk⟩; replace st := st.call hk; obtain rfl := h1 h; clear h1 h2 hk)
    go_ret
    exact ⟨rfl, st.keep⟩
  · rw [h]
    go_enter Tryd.func31, Tryd.ntmps31
    go_wp2_with (go_at_call 41; refine (HI.out _ st.keep).mono ?_; rintro _ _ ⟨i, rfl, h1, h2, hk⟩; replace st := st.call hk; have h3 := h2 h; clear h1 h2 hk)
    go_ret
    exact ⟨by simp [*], st.keep⟩
/-- A sheet that has at most 80 shots, each for a book of n pages. -/
def shotsB (n : Int) (S : List Sh) : Bool := decide (S.length ≤ 80) && allSh n S
set_option maxRecDepth 100000 in
theorem areShots_c (S : List Sh) (m : Nat) (hS : S.length = m) (hm : m ≤ 4000000) (h8 : R8 S) (n : Nat) (hn : n ≤ 4000000) (p : Option Addr) (c : Nat) (w : World) (hr : Rd w p m (encs p8 S)) :
    Calls Tryd.prog 20 #[.slice p m c, .int .i64 n] w fun e w' => e = .returned (.bool (shotsB n S)) ∧ Keep [] w w' := by
  have st := St.start w
  unfold shotsB
  rw [hS]
  have HC := hid (fun g T w' hb0 (hk : Keep [] w w') => containsS_c S m hS hm h8 n hn g T p c w' hb0 (hr.keep hk))
  by_cases h : m ≤ 80
  · have h1 : decide ((m : Int) ≤ 80) = true := by simp; omega
    have hd : decide (m ≤ 80) = true := by simpa using h
    rw [hd, Bool.true_and]
    rcases Bool.eq_false_or_eq_true (allSh n S) with q | q
    all_goals
      rw [q]
      rw [q] at HC
      go_enter Tryd.func20, Tryd.ntmps20
      go_wp2_with (first | (go_at_call 31; refine (HC.out _ _ _ (st.get (by repeat (first | exact At.here | apply At.there))) st.keep).mono ?_; rintro _ _ ⟨rfl, hk⟩; replace st := st.call hk; clear hk) | ((with_reducible refine gate_lst ?_); (first | ((with_reducible refine' wpl_ung ?_ ?_ ?_); rotate_left 1; (focus exact rfl); (focus exact rfl)) | ((with_reducible refine gate_box rfl ?_); (first | (refine ia_box (sl := 3) st rfl rfl rfl rfl rfl ?_; clear st; intro B3 _ st))))))
      go_ret
      exact ⟨rfl, st.keep⟩
  · have h1 : decide ((m : Int) ≤ 80) = false := by simp; omega
    have hd : decide (m ≤ 80) = false := by simpa using h
    rw [hd, Bool.false_and]
    go_enter Tryd.func20, Tryd.ntmps20
    go_wp2_with (first | ((with_reducible refine gate_lst ?_); (first | ((with_reducible refine' wpl_ung ?_ ?_ ?_); rotate_left 1; (focus exact rfl); (focus exact rfl)) | ((with_reducible refine gate_box rfl ?_); (first | (refine ia_box (sl := 3) st rfl rfl rfl rfl rfl ?_; clear st; intro B3 _ st))))))
    go_ret
    exact ⟨rfl, st.keep⟩
def shtB (B : List Fm) (S : List Sh) : Bool := bkB B && shotsB B.length S
end Go.Proofs.YtlljflmbnbjccaaDoor
