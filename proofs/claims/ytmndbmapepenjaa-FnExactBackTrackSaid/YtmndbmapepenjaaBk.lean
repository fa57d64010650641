/- The laws' own helpers on books: copied, compared, marked and looked at again; no condition. -/
import Derived.Test.YtmndbmapepenjaaTy2
import Derived.Test.YtmndbmapepenjaaB1
namespace Go.Proofs.Ytmndbmapepenjaa
open Go.RowKit
set_option linter.unusedSimpArgs false
set_option linter.unusedVariables false

theorem roomBehind_c (n : Nat) (hn : n ≤ 4000000) (w : World) : Calls Try.prog 45 #[.int .i64 n] w fun e w' => e = .returned (.int .i64 (roomN n : Nat)) ∧ Keep [] w w' := by
  have st := St.start w
  have h6 : ((n : Int).tmod 6) = ((n % 6 : Nat) : Int) := by rw [Int.tmod_eq_emod_of_nonneg (by omega)]; omega
  have h3 : ((n : Int).tmod 3) = ((n % 3 : Nat) : Int) := by rw [Int.tmod_eq_emod_of_nonneg (by omega)]; omega
  unfold roomN
  by_cases h1 : n % 6 = 5
  · have d1 : decide ((n : Int) % 6 = 5) = true := by simp; omega
    have d2 : ((n : Int) % 6 == 5) = true := by simp; omega
    rw [if_pos h1]
    go_enter Try.func45, Try.ntmps45
    go_wp2_with fail
    all_goals
      go_ret
      exact ⟨rfl, st.keep⟩
  · have d1 : decide ((n : Int) % 6 = 5) = false := by simp; omega
    have d2 : ((n : Int) % 6 == 5) = false := by simp; omega
    rw [if_neg h1]
    by_cases h2 : n % 3 = 0
    · have d3 : decide ((n : Int) % 3 = 0) = true := by simp; omega
      have d4 : ((n : Int) % 3 == 0) = true := by simp; omega
      rw [if_pos h2]
      go_enter Try.func45, Try.ntmps45
      go_wp2_with fail
      all_goals
        go_ret
        exact ⟨rfl, st.keep⟩
    · have d3 : decide ((n : Int) % 3 = 0) = false := by simp; omega
      have d4 : ((n : Int) % 3 == 0) = false := by simp; omega
      rw [if_neg h2]
      go_enter Try.func45, Try.ntmps45
      go_wp2_with fail
      all_goals
        go_ret
        exact ⟨rfl, st.keep⟩
def fil : Fm := ⟨60201 :: List.replicate 11 0, rfl, by simp⟩
theorem built_fil : Try.prog.built 44 [(0, .int .u16 60201)] = some (fv fil).toArray := by kernel_rfl
/-- A copied book and the room behind it. -/
def bkC (B : List Fm) : List Fm := B ++ List.replicate (roomN B.length) fil
theorem bkC_length (B : List Fm) : (bkC B).length = B.length + roomN B.length := by simp [bkC]
/-- What a maker of books hands back: a block of its own. -/
def BkOut (B : List Fm) (n cap : Nat) (w : World) (e : Ending) (w' : World) : Prop := ∃ g, e = .returned (.slice (some ⟨g, 0, none⟩) n cap) ∧ w.heap.size ≤ g ∧ Blk w' g (encs fv B) 44 ∧ Keep [] w w'
theorem toFrame_fm (a : Fm) (w : World) : Calls Try.prog 32 #[.agg (fv a).toArray] w fun e w' => e = .returned (.agg (fv a).toArray) ∧ Keep [] w w' := toFrame_c a.1 a.2.len w
theorem out_of {w w1 : World} {L : List (Nat × List Value × TypeId)} {g : Nat} {cs : List Value} {E : TypeId} (st : St [] w w1 L) (h : At g cs E L) : w.heap.size ≤ g := by
  rcases st.ge _ h.mem with h | h
  · exact h
  · cases h
theorem Rd.bk {w : World} {g n : Nat} {B : List Fm} {T : TypeId} (h : Blk w g (encs fv (bkC B)) T) : Rd w (some ⟨g, 0, none⟩) n (encs fv B) := by
  unfold bkC at h
  rw [encs_append] at h
  exact .of h
theorem eqFrame_fm (a : Fm) (w : World) : Calls Try.prog 34 #[.agg (fv a).toArray, .agg (fv a).toArray] w fun e w' => e = .returned (.bool true) ∧ Keep [] w w' := eqFrame_same a.1 a.2.len w
set_option maxHeartbeats 1000000 in
set_option maxRecDepth 100000 in
theorem eqBook_c (B : List Fm) (n : Nat) (hn : B.length = n) (hn4 : n ≤ 4000000) (p p' : Option Addr) (c c' : Nat) (w : World) (hr : Rd w p n (encs fv B)) (hr' : Rd w p' n (encs fv B)) :
    Calls Try.prog 37 #[.slice p n c, .slice p' n c'] w fun e w' => e = .returned (.bool true) ∧ Keep [] w w' := by
  have st := St.start w
  replace hn := hid hn
  go_enter Try.func37, Try.ntmps37
  go_wp2_with (first | ((with_reducible refine gate_lst ?_); (first | ((with_reducible refine gate_load rfl ?_); (first | (refine ia_loadAll st rfl rfl rfl ?_ ?_; (focus (first | rfl | (simp; done) | (simp; assumption) | (simp; omega) | (simp [*]; done)))) | (refine ia_loadC (hb.keep st.keep (by simp)) rfl rfl rfl ?_ ?_; (focus (first | rfl | (simp; done) | (simp; assumption) | (simp; omega) | (simp [*]; done)))) | (refine ia_loadC (hb'.keep st.keep (by simp)) rfl rfl rfl ?_ ?_; (focus (first | rfl | (simp; done) | (simp; assumption) | (simp; omega) | (simp [*]; done)))) | (refine ia_loadC (Cl.of (hb1.keep st.keep (by simp))) rfl rfl rfl ?_ ?_; (focus (first | rfl | (simp; done) | (simp; assumption) | (simp; omega) | (simp [*]; done)))) | (refine ia_loadC (Cl.of (hb2.keep st.keep (by simp))) rfl rfl rfl ?_ ?_; (focus (first | rfl | (simp; done) | (simp; assumption) | (simp; omega) | (simp [*]; done)))))) | ((with_reducible refine gate_addr rfl ?_); (first | (refine' ia_slcP HP.out rfl rfl rfl rfl ?_ ?_ ?_) | (refine' ia_slcP HP2.out rfl rfl rfl rfl ?_ ?_ ?_)); rotate_left 1; (focus (first | exact (rfl : (0 : Int) = ((0 : Nat) : Int)) | exact (rfl : (1 : Int) = ((1 : Nat) : Int)) | exact rfl | exact HE1.out | exact HE2.out)); (focus (first | omega | (simp; done) | (simp; omega) | (simp [*]; omega)))))) | ((with_reducible refine qgate_nil ?_); refine wpQuiet_nil ?_; (try intro _ st)) | ((with_reducible refine qgate_any ?_); (first | ((first | (with_reducible refine qg_move rfl ?_) | (with_reducible refine qg_un rfl ?_)); refine qa_val (fun _ _ => rfl) rfl ?_) | ((with_reducible refine qgate_load rfl ?_); (first | (refine iq_loadAll rfl rfl rfl ?_ ?_; (focus (first | rfl | (simp; done) | (simp; assumption) | (simp; omega) | (simp [*]; done)))) | (refine iq_loadC hb rfl rfl rfl ?_ ?_; (focus (first | rfl | (simp; done) | (simp; assumption) | (simp; omega) | (simp [*]; done)))) | (refine iq_loadC hb' rfl rfl rfl ?_ ?_; (focus (first | rfl | (simp; done) | (simp; assumption) | (simp; omega) | (simp [*]; done)))))) | ((with_reducible refine qgate_addr rfl ?_); (first | (refine' iq_slc rfl rfl rfl rfl ?_ ?_ ?_) | (refine' iq_slcP HP.out rfl rfl rfl rfl ?_ ?_ ?_) | (refine' iq_slcP HP2.out rfl rfl rfl rfl ?_ ?_ ?_) | (refine' iq_arr rfl rfl rfl rfl ?_ ?_ ?_)); rotate_left 1; (focus (first | exact (rfl : (0 : Int) = ((0 : Nat) : Int)) | exact (rfl : (1 : Int) = ((1 : Nat) : Int)) | exact rfl | exact HE1.out | exact HE2.out)); (focus (first | omega | (simp; done) | (simp; omega) | (simp [*]; omega))))); all_goals (try (simp only [Nat.zero_add, Nat.add_zero, Nat.mul_one, Nat.zero_mul, Act.put, Act.eval, Array.getD_eq_getD_getElem?, List.getElem?_toArray, List.getElem?_cons_succ, List.getElem?_cons_zero, Option.getD_some, List.setIfInBounds_toArray, List.set_cons_succ, List.set_cons_zero, List.getElem_toArray, List.getElem_cons_succ, List.getElem_cons_zero]))) | ((with_reducible refine rgate (id := 6) ?_); refine wp_region_quiet_st (id := 6) st (by kernel_rfl) (by kernel_rfl) ?_; clear st))
  go_loopw [5] (fun i wr => ∃ k : Nat, k ≤ n ∧ i = .int .i64 k ∧ St [] w wr []) (fun i _ => n - (intOf i).toNat)
  case atStart => exact ⟨0, by omega, rfl, st⟩
  case round =>
    clear st
    obtain ⟨k, hk, rfl, st⟩ := hrel
    by_cases hlt : k < n
    · have hd : decide ((k : Int) < (n : Int)) = true := by simpa using hlt
      obtain ⟨b, f, hp, hcl⟩ := hr (by omega)
      obtain ⟨b', f', hp', hcl'⟩ := hr' (by omega)
      have HP := hid hp
      have HP2 := hid hp'
      have hkB : k < B.length := by rw [hn.out]; exact hlt
      have hb := hcl.seg fv_len hkB
      have hb' := hcl'.seg fv_len hkB
      obtain ⟨x, hx⟩ : ∃ x, B[k] = x := ⟨_, rfl⟩
      rw [hx] at hb hb'
      clear hx hp hcl hp' hcl' hkB
      go_wp2_with (first | (go_at_call 34; refine (eqFrame_fm x _).mono ?_; rintro _ _ ⟨rfl, hk⟩; replace st := st.call hk; clear hk) | ((with_reducible refine gate_lst ?_); (first | ((with_reducible refine gate_load rfl ?_); (first | (refine ia_loadAll st rfl rfl rfl ?_ ?_; (focus (first | rfl | (simp; done) | (simp; assumption) | (simp; omega) | (simp [*]; done)))) | (refine ia_loadC (hb.keep st.keep (by simp)) rfl rfl rfl ?_ ?_; (focus (first | rfl | (simp; done) | (simp; assumption) | (simp; omega) | (simp [*]; done)))) | (refine ia_loadC (hb'.keep st.keep (by simp)) rfl rfl rfl ?_ ?_; (focus (first | rfl | (simp; done) | (simp; assumption) | (simp; omega) | (simp [*]; done)))) | (refine ia_loadC (Cl.of (hb1.keep st.keep (by simp))) rfl rfl rfl ?_ ?_; (focus (first | rfl | (simp; done) | (simp; assumption) | (simp; omega) | (simp [*]; done)))) | (refine ia_loadC (Cl.of (hb2.keep st.keep (by simp))) rfl rfl rfl ?_ ?_; (focus (first | rfl | (simp; done) | (simp; assumption) | (simp; omega) | (simp [*]; done)))))) | ((with_reducible refine gate_addr rfl ?_); (first | (refine' ia_slcP HP.out rfl rfl rfl rfl ?_ ?_ ?_) | (refine' ia_slcP HP2.out rfl rfl rfl rfl ?_ ?_ ?_)); rotate_left 1; (focus (first | exact (rfl : (0 : Int) = ((0 : Nat) : Int)) | exact (rfl : (1 : Int) = ((1 : Nat) : Int)) | exact rfl | exact HE1.out | exact HE2.out)); (focus (first | omega | (simp; done) | (simp; omega) | (simp [*]; omega)))))) | ((with_reducible refine qgate_nil ?_); refine wpQuiet_nil ?_; (try intro _ st)) | ((with_reducible refine qgate_any ?_); (first | ((with_reducible refine qgate_call rfl ?_); refine' qa_call (F := 34) Try.func34 (by kernel_rfl) (by kernel_rfl) rfl rfl rfl rfl ?_ ?_ ?_; rotate_left 2; (focus (simp only [Act.eval, Act.put, List.map_toArray, List.map_cons, List.map_nil, Array.empty_append, Array.append_empty, Array.map_empty]; exact rfl)); (focus (intro w1 st; exact qcall st (eqFrame_fm x _)))) | ((first | (with_reducible refine qg_move rfl ?_) | (with_reducible refine qg_un rfl ?_)); refine qa_val (fun _ _ => rfl) rfl ?_) | ((with_reducible refine qgate_load rfl ?_); (first | (refine iq_loadAll rfl rfl rfl ?_ ?_; (focus (first | rfl | (simp; done) | (simp; assumption) | (simp; omega) | (simp [*]; done)))) | (refine iq_loadC hb rfl rfl rfl ?_ ?_; (focus (first | rfl | (simp; done) | (simp; assumption) | (simp; omega) | (simp [*]; done)))) | (refine iq_loadC hb' rfl rfl rfl ?_ ?_; (focus (first | rfl | (simp; done) | (simp; assumption) | (simp; omega) | (simp [*]; done)))))) | ((with_reducible refine qgate_addr rfl ?_); (first | (refine' iq_slc rfl rfl rfl rfl ?_ ?_ ?_) | (refine' iq_slcP HP.out rfl rfl rfl rfl ?_ ?_ ?_) | (refine' iq_slcP HP2.out rfl rfl rfl rfl ?_ ?_ ?_) | (refine' iq_arr rfl rfl rfl rfl ?_ ?_ ?_)); rotate_left 1; (focus (first | exact (rfl : (0 : Int) = ((0 : Nat) : Int)) | exact (rfl : (1 : Int) = ((1 : Nat) : Int)) | exact rfl | exact HE1.out | exact HE2.out)); (focus (first | omega | (simp; done) | (simp; omega) | (simp [*]; omega))))); all_goals (try (simp only [Nat.zero_add, Nat.add_zero, Nat.mul_one, Nat.zero_mul, Act.put, Act.eval, Array.getD_eq_getD_getElem?, List.getElem?_toArray, List.getElem?_cons_succ, List.getElem?_cons_zero, Option.getD_some, List.setIfInBounds_toArray, List.set_cons_succ, List.set_cons_zero, List.getElem_toArray, List.getElem_cons_succ, List.getElem_cons_zero]))) | ((with_reducible refine rgate (id := 6) ?_); refine wp_region_quiet_st (id := 6) st (by kernel_rfl) (by kernel_rfl) ?_; clear st))
      go_roundw
      case rel => exact ⟨k + 1, by omega, by go_num, st⟩
      case measure => simp [intOf]; omega
    · obtain rfl : k = n := by omega
      go_wp2_with (first | ((with_reducible refine gate_lst ?_); (first | ((with_reducible refine gate_load rfl ?_); (first | (refine ia_loadAll st rfl rfl rfl ?_ ?_; (focus (first | rfl | (simp; done) | (simp; assumption) | (simp; omega) | (simp [*]; done)))) | (refine ia_loadC (hb.keep st.keep (by simp)) rfl rfl rfl ?_ ?_; (focus (first | rfl | (simp; done) | (simp; assumption) | (simp; omega) | (simp [*]; done)))) | (refine ia_loadC (hb'.keep st.keep (by simp)) rfl rfl rfl ?_ ?_; (focus (first | rfl | (simp; done) | (simp; assumption) | (simp; omega) | (simp [*]; done)))) | (refine ia_loadC (Cl.of (hb1.keep st.keep (by simp))) rfl rfl rfl ?_ ?_; (focus (first | rfl | (simp; done) | (simp; assumption) | (simp; omega) | (simp [*]; done)))) | (refine ia_loadC (Cl.of (hb2.keep st.keep (by simp))) rfl rfl rfl ?_ ?_; (focus (first | rfl | (simp; done) | (simp; assumption) | (simp; omega) | (simp [*]; done)))))) | ((with_reducible refine gate_addr rfl ?_); (first | (refine' ia_slcP HP.out rfl rfl rfl rfl ?_ ?_ ?_) | (refine' ia_slcP HP2.out rfl rfl rfl rfl ?_ ?_ ?_)); rotate_left 1; (focus (first | exact (rfl : (0 : Int) = ((0 : Nat) : Int)) | exact (rfl : (1 : Int) = ((1 : Nat) : Int)) | exact rfl | exact HE1.out | exact HE2.out)); (focus (first | omega | (simp; done) | (simp; omega) | (simp [*]; omega)))))) | ((with_reducible refine qgate_nil ?_); refine wpQuiet_nil ?_; (try intro _ st)) | ((with_reducible refine qgate_any ?_); (first | ((first | (with_reducible refine qg_move rfl ?_) | (with_reducible refine qg_un rfl ?_)); refine qa_val (fun _ _ => rfl) rfl ?_) | ((with_reducible refine qgate_load rfl ?_); (first | (refine iq_loadAll rfl rfl rfl ?_ ?_; (focus (first | rfl | (simp; done) | (simp; assumption) | (simp; omega) | (simp [*]; done)))) | (refine iq_loadC hb rfl rfl rfl ?_ ?_; (focus (first | rfl | (simp; done) | (simp; assumption) | (simp; omega) | (simp [*]; done)))) | (refine iq_loadC hb' rfl rfl rfl ?_ ?_; (focus (first | rfl | (simp; done) | (simp; assumption) | (simp; omega) | (simp [*]; done)))))) | ((with_reducible refine qgate_addr rfl ?_); (first | (refine' iq_slc rfl rfl rfl rfl ?_ ?_ ?_) | (refine' iq_slcP HP.out rfl rfl rfl rfl ?_ ?_ ?_) | (refine' iq_slcP HP2.out rfl rfl rfl rfl ?_ ?_ ?_) | (refine' iq_arr rfl rfl rfl rfl ?_ ?_ ?_)); rotate_left 1; (focus (first | exact (rfl : (0 : Int) = ((0 : Nat) : Int)) | exact (rfl : (1 : Int) = ((1 : Nat) : Int)) | exact rfl | exact HE1.out | exact HE2.out)); (focus (first | omega | (simp; done) | (simp; omega) | (simp [*]; omega))))); all_goals (try (simp only [Nat.zero_add, Nat.add_zero, Nat.mul_one, Nat.zero_mul, Act.put, Act.eval, Array.getD_eq_getD_getElem?, List.getElem?_toArray, List.getElem?_cons_succ, List.getElem?_cons_zero, Option.getD_some, List.setIfInBounds_toArray, List.set_cons_succ, List.set_cons_zero, List.getElem_toArray, List.getElem_cons_succ, List.getElem_cons_zero]))) | ((with_reducible refine rgate (id := 6) ?_); refine wp_region_quiet_st (id := 6) st (by kernel_rfl) (by kernel_rfl) ?_; clear st))
      go_ret
      exact ⟨rfl, st.keep⟩
theorem eqBook_0 (p p' : Option Addr) (c c' : Nat) (w : World) : Calls Try.prog 37 #[.slice p 0 c, .slice p' 0 c'] w fun e w' => e = .returned (.bool true) ∧ Keep [] w w' :=
  eqBook_c [] 0 rfl (by omega) p p' c c' w .nil .nil
end Go.Proofs.Ytmndbmapepenjaa
