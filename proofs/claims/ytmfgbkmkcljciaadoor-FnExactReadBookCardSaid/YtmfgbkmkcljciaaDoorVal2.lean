/- Valid books: the reference and the program; no condition. -/
import Derived.Test.YtmfgbkmkcljciaaDoorVal
import Derived.Test.YtmfgbkmkcljciaaDoorB6
namespace Go.Proofs.YtmfgbkmkcljciaaDoor
open Go.RowKit
set_option linter.unusedSimpArgs false
set_option linter.unusedVariables false

def okL (B : List Fm) : Bool := B.all fun a => okB a.1
/-- The book is valid. -/
def bkB (B : List Fm) : Bool := okL B && decide (B.length ≤ 40)
theorem okL_no {B : List Fm} {k : Nat} (hk : k < B.length) (h : okB B[k].1 = false) : okL B = false := by
  unfold okL
  rw [List.all_eq_false]
  exact ⟨B[k], List.getElem_mem hk, by simp [h]⟩
def OkTo (B : List Fm) (k : Nat) : Prop := ∀ j (h1 : j < B.length), j < k → okB B[j].1 = true
theorem OkTo.step {B : List Fm} {k : Nat} (h : OkTo B k) (hk : k < B.length) (e : okB B[k].1 = true) : OkTo B (k + 1) := fun j h1 hj => by
  by_cases hjk : j = k
  · subst hjk; exact e
  · exact h j h1 (by omega)
theorem OkTo.all {B : List Fm} {n : Nat} (h : OkTo B n) (hn : B.length = n) : okL B = true := by
  unfold okL
  rw [List.all_eq_true]
  intro a ha
  obtain ⟨j, hj, rfl⟩ := List.mem_iff_getElem.1 ha
  exact h j hj (by omega)
theorem are1_fm (a : Fm) (w : World) : Calls Tryd.prog 44 #[.agg (fv a).toArray] w fun e w' => e = .returned (.bool (!okB a.1)) ∧ Keep [] w w' := are1_c a.1 a.2.len w
def IdxBPost (B : List Fm) (w : World) (e : Ending) (w' : World) : Prop := ∃ i : Int, e = .returned (.int .i64 i) ∧ (okL B = true → i = -1) ∧ (okL B = false → 0 ≤ i) ∧ Keep [] w w'
set_option maxHeartbeats 1000000 in
set_option maxRecDepth 100000 in
theorem indexFuncB_c (B : List Fm) (n : Nat) (hB : B.length = n) (hn : n ≤ 4000000) (p : Option Addr) (c : Nat) (w : World) (hr : Rd w p n (encs fv B)) :
    Calls Tryd.prog 54 #[.slice p n c, .func (.func 44) #[] #[]] w (IdxBPost B w) := by
  have st := St.start w
  replace hB := hid hB
  go_enter Tryd.func54, Tryd.ntmps54
  go_wp2_with (first | ((with_reducible refine gate_lst ?_); (first | ((with_reducible refine gate_load rfl ?_); (first | (refine ia_loadAll st rfl rfl rfl ?_ ?_; (focus (first | rfl | (simp; done) | (simp; assumption) | (simp; omega) | (simp [*]; done)))) | (refine ia_loadC (hb.keep st.keep (by simp)) rfl rfl rfl ?_ ?_; (focus (first | rfl | (simp; done) | (simp; assumption) | (simp; omega) | (simp [*]; done)))) | (refine ia_loadC (hb'.keep st.keep (by simp)) rfl rfl rfl ?_ ?_; (focus (first | rfl | (simp; done) | (simp; assumption) | (simp; omega) | (simp [*]; done)))) | (refine ia_loadC (Cl.of (hb1.keep st.keep (by simp))) rfl rfl rfl ?_ ?_; (focus (first | rfl | (simp; done) | (simp; assumption) | (simp; omega) | (simp [*]; done)))) | (refine ia_loadC (Cl.of (hb2.keep st.keep (by simp))) rfl rfl rfl ?_ ?_; (focus (first | rfl | (simp; done) | (simp; assumption) | (simp; omega) | (simp [*]; done)))))) | ((with_reducible refine gate_addr rfl ?_); (first | (refine' ia_slcP HP.out rfl rfl rfl rfl ?_ ?_ ?_) | (refine' ia_slcP HP2.out rfl rfl rfl rfl ?_ ?_ ?_)); rotate_left 1; (focus (first | exact (rfl : (0 : Int) = ((0 : Nat) : Int)) | exact (rfl : (1 : Int) = ((1 : Nat) : Int)) | exact rfl | exact HE1.out | exact HE2.out)); (focus (first | omega | (simp; done) | (simp; omega) | (simp [*]; omega)))))))
  go_loopw [8] (fun i wr => ∃ k : Nat, k ≤ n ∧ i = .int .i64 k ∧ OkTo B k ∧ St [] w wr []) (fun i _ => n - (intOf i).toNat)
  case atStart => exact ⟨0, by omega, rfl, fun _ _ h => absurd h (by omega), st⟩
  case round =>
    clear st
    obtain ⟨k, hk, rfl, hs, st⟩ := hrel
    replace hs := hid hs
    by_cases hlt : k < n
    · have hd : decide ((k : Int) < (n : Int)) = true := by simpa using hlt
      obtain ⟨b, f, hp, hcl⟩ := hr (by omega)
      have HP := hid hp
      have hkB : k < B.length := by rw [hB.out]; exact hlt
      have hb := hcl.seg fv_len hkB
      have HS := hid (hs.out.step hkB)
      have HN := hid (okL_no hkB)
      obtain ⟨x, hx⟩ : ∃ x, B[k] = x := ⟨_, rfl⟩
      rw [hx] at hb HS HN
      clear hx hp hcl hkB
      go_wp2_with (first | (go_at_call 44; refine (Calls.splitB (are1_fm x _)).mono ?_; rintro _ _ (⟨hB_1, rfl, hk⟩ | ⟨hB_1, rfl, hk⟩) <;> (replace st := st.call hk; clear hk)) | ((with_reducible refine gate_lst ?_); (first | ((with_reducible refine gate_load rfl ?_); (first | (refine ia_loadAll st rfl rfl rfl ?_ ?_; (focus (first | rfl | (simp; done) | (simp; assumption) | (simp; omega) | (simp [*]; done)))) | (refine ia_loadC (hb.keep st.keep (by simp)) rfl rfl rfl ?_ ?_; (focus (first | rfl | (simp; done) | (simp; assumption) | (simp; omega) | (simp [*]; done)))) | (refine ia_loadC (hb'.keep st.keep (by simp)) rfl rfl rfl ?_ ?_; (focus (first | rfl | (simp; done) | (simp; assumption) | (simp; omega) | (simp [*]; done)))) | (refine ia_loadC (Cl.of (hb1.keep st.keep (by simp))) rfl rfl rfl ?_ ?_; (focus (first | rfl | (simp; done) | (simp; assumption) | (simp; omega) | (simp [*]; done)))) | (refine ia_loadC (Cl.of (hb2.keep st.keep (by simp))) rfl rfl rfl ?_ ?_; (focus (first | rfl | (simp; done) | (simp; assumption) | (simp; omega) | (simp [*]; done)))))) | ((with_reducible refine gate_addr rfl ?_); (first | (refine' ia_slcP HP.out rfl rfl rfl rfl ?_ ?_ ?_) | (refine' ia_slcP HP2.out rfl rfl rfl rfl ?_ ?_ ?_)); rotate_left 1; (focus (first | exact (rfl : (0 : Int) = ((0 : Nat) : Int)) | exact (rfl : (1 : Int) = ((1 : Nat) : Int)) | exact rfl | exact HE1.out | exact HE2.out)); (focus (first | omega | (simp; done) | (simp; omega) | (simp [*]; omega)))))))
      · go_ret
        exact ⟨k, rfl, fun h => (by rw [HN.out (by simpa using hB_1)] at h; cases h), fun _ => (by omega), st.keep⟩
      · go_roundw
        case rel => exact ⟨k + 1, by omega, by go_num, HS.out (by simpa using hB_1), st⟩
        case measure => simp [intOf]; omega
    · obtain rfl : k = n := by omega
      have h1 := hid (hs.out.all hB.out)
      go_wp2_with (first | ((with_reducible refine gate_lst ?_); (first | ((with_reducible refine gate_load rfl ?_); (first | (refine ia_loadAll st rfl rfl rfl ?_ ?_; (focus (first | rfl | (simp; done) | (simp; assumption) | (simp; omega) | (simp [*]; done)))) | (refine ia_loadC (hb.keep st.keep (by simp)) rfl rfl rfl ?_ ?_; (focus (first | rfl | (simp; done) | (simp; assumption) | (simp; omega) | (simp [*]; done)))) | (refine ia_loadC (hb'.keep st.keep (by simp)) rfl rfl rfl ?_ ?_; (focus (first | rfl | (simp; done) | (simp; assumption) | (simp; omega) | (simp [*]; done)))) | (refine ia_loadC (Cl.of (hb1.keep st.keep (by simp))) rfl rfl rfl ?_ ?_; (focus (first | rfl | (simp; done) | (simp; assumption) | (simp; omega) | (simp [*]; done)))) | (refine ia_loadC (Cl.of (hb2.keep st.keep (by simp))) rfl rfl rfl ?_ ?_; (focus (first | rfl | (simp; done) | (simp; assumption) | (simp; omega) | (simp [*]; done)))))) | ((with_reducible refine gate_addr rfl ?_); (first | (refine' ia_slcP HP.out rfl rfl rfl rfl ?_ ?_ ?_) | (refine' ia_slcP HP2.out rfl rfl rfl rfl ?_ ?_ ?_)); rotate_left 1; (focus (first | exact (rfl : (0 : Int) = ((0 : Nat) : Int)) | exact (rfl : (1 : Int) = ((1 : Nat) : Int)) | exact rfl | exact HE1.out | exact HE2.out)); (focus (first | omega | (simp; done) | (simp; omega) | (simp [*]; omega)))))))
      go_ret
      exact ⟨-1, rfl, fun _ => rfl, fun h => (by rw [h1.out] at h; cases h), st.keep⟩
theorem containsB_c (B : List Fm) (n : Nat) (hB : B.length = n) (hn : n ≤ 4000000) (p : Option Addr) (c : Nat) (w : World) (hr : Rd w p n (encs fv B)) :
    Calls Tryd.prog 43 #[.slice p n c, .func (.func 44) #[] #[]] w fun e w' => e = .returned (.bool (!okL B)) ∧ Keep [] w w' := by
  have st := St.start w
  have HI := hid (fun w' hk => indexFuncB_c B n hB hn p c w' (hr.keep (w1 := w') hk))
  rcases Bool.eq_false_or_eq_true (okL B) with h | h
  · rw [h]
    go_enter Tryd.func43, Tryd.ntmps43
    go_wp2_with (go_at_call 54; refine (HI.out _ st.keep).mono ?_; rintro _ _ ⟨i, rfl, h1, h2, hk⟩; replace st := st.call hk; obtain rfl := h1 h; clear h1 h2 hk)
    go_ret
    exact ⟨rfl, st.keep⟩
  · rw [h]
    go_enter Tryd.func43, Tryd.ntmps43
    go_wp2_with (go_at_call 54; refine (HI.out _ st.keep).mono ?_; rintro _ _ ⟨i, rfl, h1, h2, hk⟩; replace st := st.call hk; have h3 := h2 h; clear h1 h2 hk)
    go_ret
    exact ⟨by simp [*], st.keep⟩
theorem areB_c (B : List Fm) (n : Nat) (hB : B.length = n) (hn : n ≤ 4000000) (p : Option Addr) (c : Nat) (w : World) (hr : Rd w p n (encs fv B)) :
    Calls Tryd.prog 33 #[.slice p n c] w fun e w' => e = .returned (.bool (okL B)) ∧ Keep [] w w' := by
  have st := St.start w
  go_enter Tryd.func33, Tryd.ntmps33
  go_wp2_with (first | (go_at_call 43; refine (containsB_c B n hB hn p c _ (hr.keep st.keep)).mono ?_; rintro _ _ ⟨rfl, hk⟩; replace st := st.call hk; clear hk))
  go_ret
  exact ⟨by simp, st.keep⟩
theorem ValidBook_c (B : List Fm) (n : Nat) (hB : B.length = n) (hn : n ≤ 4000000) (p : Option Addr) (c : Nat) (w : World) (hr : Rd w p n (encs fv B)) :
    Calls Tryd.prog 22 #[.slice p n c] w fun e w' => e = .returned (.bool (bkB B)) ∧ Keep [] w w' := by
  have st := St.start w
  have HA := hid (fun w' hk => areB_c B n hB hn p c w' (hr.keep (w1 := w') hk))
  unfold bkB
  rw [hB]
  clear hB
  by_cases h : n ≤ 40
  · have h1 : decide ((n : Int) ≤ 40) = true := by simp; omega
    go_enter Tryd.func22, Tryd.ntmps22
    go_wp2_with (first | (go_at_call 33; refine (HA.out _ st.keep).mono ?_; rintro _ _ ⟨rfl, hk⟩; replace st := st.call hk; clear hk) | ((with_reducible refine gate_lst ?_); (first | ((with_reducible refine' wpl_ung ?_ ?_ ?_); rotate_left 1; (focus exact rfl); (focus exact rfl)))))
    go_ret
    exact ⟨ret_bool (by simp [h]), st.keep⟩
  · have h1 : decide ((n : Int) ≤ 40) = false := by simp; omega
    go_enter Tryd.func22, Tryd.ntmps22
    go_wp2_with (first | ((with_reducible refine gate_lst ?_); (first | ((with_reducible refine' wpl_ung ?_ ?_ ?_); rotate_left 1; (focus exact rfl); (focus exact rfl)))))
    go_ret
    exact ⟨ret_bool (by simp [h]), st.keep⟩
end Go.Proofs.YtmfgbkmkcljciaaDoor
