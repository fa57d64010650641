/- Texts of this seat, one behind the other: Pick2, Pick3, A2b, RsP, Rs2, Rs3, RsT, LVal, Fs1, Drw; no condition. -/
import Derived.Test.YtlljflmbnbjccaaGreatDoorM8
import Derived.Laws.BitsLemmas
import Derived.Test.YtlljflmbnbjccaaGreatDoorM2
import Derived.Test.YtlljflmbnbjccaaGreatDoorM4
import Derived.Test.YtlljflmbnbjccaaGreatDoorM5
import Derived.Test.YtlljflmbnbjccaaGreatDoorM6
/- The next number out of given bytes; no condition. -/
namespace Go.Proofs.YtlljflmbnbjccaaGreatDoor
open Go.RowKit
set_option linter.unusedSimpArgs false
set_option linter.unusedVariables false
theorem and255 {x : Int} (h0 : 0 ≤ x) (h1 : x < 18446744073709551616) : 0 ≤ wrap64 (bits .and .u64 x 255) ∧ wrap64 (bits .and .u64 x 255) ≤ 255 := by
  have h := bits_mask .u64 64 (by decide) (fun n a b => IntWalk.u64_in n ⟨a, by omega⟩) 8 (by decide) x h0 h1
  have h' : bits .and .u64 x 255 = x % 256 := h
  rw [h', show wrap64 (x % 256) = x % 256 from IntWalk.wrap64_in _ (by omega)]
  omega
theorem u64_rng (x : Int) : 0 ≤ IntKind.u64.wrap x ∧ IntKind.u64.wrap x < 18446744073709551616 := by unfold IntKind.wrap; simp [IntKind.signed, IntKind.bits]; omega
set_option maxHeartbeats 1000000 in
set_option maxRecDepth 100000 in
theorem next_c (B : List Int) (m : Nat) (hB : B.length = m) (hm : m ≤ 4096) (h8 : ∀ x ∈ B, 0 ≤ x ∧ x ≤ 255) (p : Option Addr) (c g k : Nat) (s : Int) (T : TypeId) (hk : k ≤ 10000) (hs0 : 0 ≤ s) (hs1 : s < 18446744073709551616) (w : World) (hr : Rd w p m (encs u1 B)) (hg : Blk w g (srcC p m c k s) T) (hne : 0 < m → ∀ b f, p = some ⟨b, f, none⟩ → b ≠ g) :
    Calls Tryz.prog 52 #[.pointer (some ⟨g, 0, none⟩)] w fun e w' => ∃ v s' : Int, e = .returned (.int .i64 v) ∧ (0 ≤ v ∧ v ≤ 255) ∧ (0 ≤ s' ∧ s' < 18446744073709551616) ∧ Keep [g] w w' ∧ Blk w' g (srcC p m c (k + 1) s') T := by
  have st := St.start1 hg
  unfold srcC at st ⊢
  have HB := hid hB
  have N0 : Hid (([.slice p m c, .int .i64 k, .int .u64 s] : List Value)[0]? = some (.slice p m c)) := hid rfl
  have N1 : Hid (([.slice p m c, .int .i64 k, .int .u64 s] : List Value)[1]? = some (.int .i64 k)) := hid rfl
  have N2 : Hid (([.slice p m c, .int .i64 k, .int .u64 s] : List Value)[2]? = some (.int .u64 s)) := hid rfl
  by_cases hlt : k < m
  · have hd : decide ((k : Int) < (m : Int)) = true := by simpa using hlt
    obtain ⟨b, f, hp, hcl⟩ := hr (by omega)
    have HP := hid hp
    have hM : b ∉ [g] := by simpa using hne (by omega) b f hp
    have hkB : k < B.length := by rw [hB]; exact hlt
    have hb := hcl.seg u1_len hkB
    have hx := h8 _ (List.getElem_mem hkB)
    obtain ⟨x, hxe⟩ : ∃ x, B[k] = x := ⟨_, rfl⟩
    rw [hxe] at hb hx
    have N3 : Hid ((encs u1 B)[k]? = some (.int .u8 x)) := hid (by have := encs_get u1_len B k hkB 0 (by omega); rw [Nat.mul_one, Nat.add_zero, hxe] at this; exact this)
    obtain ⟨hx0, hx1⟩ := hx
    clear hxe hp hkB hg
    go_enter Tryz.func52, Tryz.ntmps52
    go_wp2_with (first | ((with_reducible refine gate_lst ?_); (first | ((with_reducible refine gate_load rfl ?_); (first | (refine' ia_load1 st rfl rfl rfl ?_ ?_; rotate_left 1; (focus (first | exact N0.out | exact N1.out | exact N2.out | exact N3.out | exact N4.out | exact N5.out | exact G2.out | exact G3.out | exact G4.out | exact G0.out | exact G1.out | (refine frv_get _ _ ?_; (first | omega | (simp; done) | (simp; omega) | (simp [*]; omega))) | exact rfl))) | (refine' ia_load1Z (hb.keep st.keep (by simp)) rfl rfl rfl ?_ ?_; rotate_left 1; (focus exact rfl)) | (refine' ia_load1Z (hb'.keep st.keep (by simp)) rfl rfl rfl ?_ ?_; rotate_left 1; (focus exact rfl)) | (refine' ia_load1C (hb.keep st.keep (by simp)) rfl rfl rfl ?_ ?_; rotate_left 1; (focus (first | exact N0.out | exact N1.out | exact N2.out | exact N3.out | exact N4.out | exact N5.out | exact G2.out | exact G3.out | exact G4.out | exact G0.out | exact G1.out | (refine frv_get _ _ ?_; (first | omega | (simp; done) | (simp; omega) | (simp [*]; omega))) | exact rfl))) | (refine' ia_load1C (hb'.keep st.keep (by simp)) rfl rfl rfl ?_ ?_; rotate_left 1; (focus (first | exact N0.out | exact N1.out | exact N2.out | exact N3.out | exact N4.out | exact N5.out | exact G2.out | exact G3.out | exact G4.out | exact G0.out | exact G1.out | (refine frv_get _ _ ?_; (first | omega | (simp; done) | (simp; omega) | (simp [*]; omega))) | exact rfl))) | (refine' ia_load1B (hb1.keep st.keep (by simp)) rfl rfl rfl ?_ ?_; rotate_left 1; (focus (first | exact N0.out | exact N1.out | exact N2.out | exact N3.out | exact N4.out | exact N5.out | exact G2.out | exact G3.out | exact G4.out | exact G0.out | exact G1.out | (refine frv_get _ _ ?_; (first | omega | (simp; done) | (simp; omega) | (simp [*]; omega))) | exact rfl))) | (refine' ia_load1B (hb2.keep st.keep (by simp)) rfl rfl rfl ?_ ?_; rotate_left 1; (focus (first | exact N0.out | exact N1.out | exact N2.out | exact N3.out | exact N4.out | exact N5.out | exact G2.out | exact G3.out | exact G4.out | exact G0.out | exact G1.out | (refine frv_get _ _ ?_; (first | omega | (simp; done) | (simp; omega) | (simp [*]; omega))) | exact rfl))) | (refine ia_loadAll st rfl rfl rfl ?_ ?_; (focus (first | rfl | (simp; done) | (simp; assumption) | (simp; omega) | (simp [*]; done)))) | (refine ia_loadC (hb.keep st.keep (by simp)) rfl rfl rfl ?_ ?_; (focus (first | rfl | (simp; done) | (simp; assumption) | (simp; omega) | (simp [*]; done)))) | (refine ia_loadC (hb'.keep st.keep (by simp)) rfl rfl rfl ?_ ?_; (focus (first | rfl | (simp; done) | (simp; assumption) | (simp; omega) | (simp [*]; done)))) | (refine ia_loadC (Cl.of (hb1.keep st.keep (by simp))) rfl rfl rfl ?_ ?_; (focus (first | rfl | (simp; done) | (simp; assumption) | (simp; omega) | (simp [*]; done)))) | (refine ia_loadC (Cl.of (hb2.keep st.keep (by simp))) rfl rfl rfl ?_ ?_; (focus (first | rfl | (simp; done) | (simp; assumption) | (simp; omega) | (simp [*]; done)))))) | ((with_reducible refine gate_store rfl ?_); (first | (refine ia_store1 st rfl rfl rfl rfl rfl rfl ?_ ?_; (focus (first | omega | (simp; done) | (simp; omega) | (simp [*]; omega))); clear st; intro _ st; (try simp only [Act.put, Act.eval, Array.getD_eq_getD_getElem?, List.getElem?_toArray, List.getElem?_cons_succ, List.getElem?_cons_zero, Option.getD_some, List.setIfInBounds_toArray, List.getElem_toArray, List.getElem_cons_succ, List.getElem_cons_zero, List.set_cons_zero, List.set_cons_succ] at st)) | (refine ia_storeAll st rfl rfl rfl rfl ?_ ?_ ?_ ?_; (focus (first | rfl | (simp; done) | (simp; assumption) | (simp; omega) | (simp [*]; done))); (focus (first | exact frv_one _ | exact fv_one _ | exact p8_one _ | exact k3_one _ | exact i1_one _ | (simp [Value.oneCell']; done))); (focus (first | rfl | (simp; done) | (simp; assumption) | (simp; omega) | (simp [*]; done))); clear st; intro _ st; (try simp only [List.set_cons_zero, List.set_cons_succ] at st)) | (refine ia_storeSeg st rfl rfl rfl rfl ?_ ?_ ?_ ?_; (focus (first | rfl | (simp; done) | (simp; assumption) | (simp; omega) | (simp [*]; done))); (focus (first | exact frv_one _ | exact fv_one _ | exact p8_one _ | exact k3_one _ | exact i1_one _ | (simp [Value.oneCell']; done))); (focus (first | omega | (simp; done) | (simp; omega) | (simp [*]; omega))); clear st; intro _ st; (try simp only [List.set_cons_zero, List.set_cons_succ] at st)))) | ((with_reducible refine gate_addr rfl ?_); (first | (refine' ia_slcP HP.out rfl rfl rfl rfl ?_ ?_ ?_) | (refine' ia_slcP HP2.out rfl rfl rfl rfl ?_ ?_ ?_)); rotate_left 1; (focus (first | exact (rfl : (0 : Int) = ((0 : Nat) : Int)) | exact (rfl : (1 : Int) = ((1 : Nat) : Int)) | exact rfl | exact HE1.out | exact HE2.out)); (focus (first | omega | (simp; done) | (simp; omega) | (simp [*]; omega)))))) | ((with_reducible refine qgate_nil ?_); refine wpQuiet_nil ?_; (try intro _ st)) | ((with_reducible refine qgate_any ?_); (first | ((with_reducible refine qgate_load rfl ?_); (refine' iq_load1M hcl hM rfl rfl rfl ?_ ?_; rotate_left 1; (focus exact N3.out))) | ((first | (with_reducible refine qg_assign rfl ?_) | (with_reducible refine qg_move rfl ?_) | (with_reducible refine qg_nil rfl ?_)); refine qa_val (fun _ _ => rfl) rfl ?_) | ((with_reducible refine qgate_load rfl ?_); (first | (refine' iq_load1 rfl rfl rfl ?_ ?_; rotate_left 1; (focus (first | exact N0.out | exact N1.out | exact N2.out | exact N3.out | exact N4.out | exact N5.out | exact G2.out | exact G3.out | exact G4.out | exact G0.out | exact G1.out | (refine frv_get _ _ ?_; (first | omega | (simp; done) | (simp; omega) | (simp [*]; omega))) | exact rfl))) | (refine' iq_load1Z hb rfl rfl rfl ?_ ?_; rotate_left 1; (focus exact rfl)) | (refine' iq_load1Z hb' rfl rfl rfl ?_ ?_; rotate_left 1; (focus exact rfl)) | (refine' iq_load1C hb rfl rfl rfl ?_ ?_; rotate_left 1; (focus (first | exact N0.out | exact N1.out | exact N2.out | exact N3.out | exact N4.out | exact N5.out | exact G2.out | exact G3.out | exact G4.out | exact G0.out | exact G1.out | (refine frv_get _ _ ?_; (first | omega | (simp; done) | (simp; omega) | (simp [*]; omega))) | exact rfl))) | (refine' iq_load1C hb' rfl rfl rfl ?_ ?_; rotate_left 1; (focus (first | exact N0.out | exact N1.out | exact N2.out | exact N3.out | exact N4.out | exact N5.out | exact G2.out | exact G3.out | exact G4.out | exact G0.out | exact G1.out | (refine frv_get _ _ ?_; (first | omega | (simp; done) | (simp; omega) | (simp [*]; omega))) | exact rfl))))) | ((with_reducible refine qgate_addr rfl ?_); (first | (refine' iq_slc rfl rfl rfl rfl ?_ ?_ ?_) | (refine' iq_slcP HP.out rfl rfl rfl rfl ?_ ?_ ?_) | (refine' iq_slcP HP2.out rfl rfl rfl rfl ?_ ?_ ?_) | (refine' iq_arr rfl rfl rfl rfl ?_ ?_ ?_)); rotate_left 1; (focus (first | exact (rfl : (0 : Int) = ((0 : Nat) : Int)) | exact (rfl : (1 : Int) = ((1 : Nat) : Int)) | exact rfl | exact HE1.out | exact HE2.out)); (focus (first | omega | (simp; done) | (simp; omega) | (simp [*]; omega)))) | ((with_reducible refine qgate_field rfl ?_); refine iq_field rfl rfl rfl ?_) | ((with_reducible refine qgate_conv rfl ?_); refine' iq_conv rfl rfl rfl ?_ ?_; rotate_left 1; (focus (first | (refine IntWalk.i64_in _ ?_; omega) | (refine i8_wrap ?_ ?_ <;> omega) | exact rfl))) | ((with_reducible refine qgate_bin rfl ?_); refine' qa_bin ?_ rfl rfl rfl rfl ?_; rotate_left 1; (focus (first | exact run_add64 (by omega) (by omega) | exact run_sub64 (by omega) (by omega) | (intro w'; go_simp; exact rfl)))) | ((with_reducible refine qgate_call rfl ?_); refine iq_len rfl rfl rfl ?_)); all_goals (try (simp only [Nat.zero_add, Nat.add_zero, Nat.mul_one, Nat.zero_mul, Act.put, Act.eval, Array.getD_eq_getD_getElem?, List.getElem?_toArray, List.getElem?_cons_succ, List.getElem?_cons_zero, Option.getD_some, List.setIfInBounds_toArray, List.set_cons_succ, List.set_cons_zero, List.getElem_toArray, List.getElem_cons_succ, List.getElem_cons_zero]))) | ((with_reducible refine rgate (id := 2) ?_); refine wp_region_quiet_st (id := 2) st (by kernel_rfl) (by kernel_rfl) ?_; clear st) | ((with_reducible refine rgate (id := 3) ?_); refine wp_region_quiet_st (id := 3) st (by kernel_rfl) (by kernel_rfl) ?_; clear st) | ((with_reducible refine rgate (id := 6) ?_); refine wp_region_quiet_st (id := 6) st (by kernel_rfl) (by kernel_rfl) ?_; clear st))
    go_ret
    exact ⟨x, _, rfl, ⟨hx0, hx1⟩, u64_rng _, st.keep, by simpa using st.get .here⟩
  · have hd : decide ((k : Int) < (m : Int)) = false := by simpa using hlt
    have hd2 : decide ((k : Int) + 1 ≤ (m : Int)) = false := by simp; omega
    clear hg
    go_enter Tryz.func52, Tryz.ntmps52
    go_wp2_with (first | ((with_reducible refine gate_lst ?_); (first | ((with_reducible refine gate_load rfl ?_); (first | (refine' ia_load1 st rfl rfl rfl ?_ ?_; rotate_left 1; (focus (first | exact N0.out | exact N1.out | exact N2.out | exact N3.out | exact N4.out | exact N5.out | exact G2.out | exact G3.out | exact G4.out | exact G0.out | exact G1.out | (refine frv_get _ _ ?_; (first | omega | (simp; done) | (simp; omega) | (simp [*]; omega))) | exact rfl))) | (refine' ia_load1Z (hb.keep st.keep (by simp)) rfl rfl rfl ?_ ?_; rotate_left 1; (focus exact rfl)) | (refine' ia_load1Z (hb'.keep st.keep (by simp)) rfl rfl rfl ?_ ?_; rotate_left 1; (focus exact rfl)) | (refine' ia_load1C (hb.keep st.keep (by simp)) rfl rfl rfl ?_ ?_; rotate_left 1; (focus (first | exact N0.out | exact N1.out | exact N2.out | exact N3.out | exact N4.out | exact N5.out | exact G2.out | exact G3.out | exact G4.out | exact G0.out | exact G1.out | (refine frv_get _ _ ?_; (first | omega | (simp; done) | (simp; omega) | (simp [*]; omega))) | exact rfl))) | (refine' ia_load1C (hb'.keep st.keep (by simp)) rfl rfl rfl ?_ ?_; rotate_left 1; (focus (first | exact N0.out | exact N1.out | exact N2.out | exact N3.out | exact N4.out | exact N5.out | exact G2.out | exact G3.out | exact G4.out | exact G0.out | exact G1.out | (refine frv_get _ _ ?_; (first | omega | (simp; done) | (simp; omega) | (simp [*]; omega))) | exact rfl))) | (refine' ia_load1B (hb1.keep st.keep (by simp)) rfl rfl rfl ?_ ?_; rotate_left 1; (focus (first | exact N0.out | exact N1.out | exact N2.out | exact N3.out | exact N4.out | exact N5.out | exact G2.out | exact G3.out | exact G4.out | exact G0.out | exact G1.out | (refine frv_get _ _ ?_; (first | omega | (simp; done) | (simp; omega) | (simp [*]; omega))) | exact rfl))) | (refine' ia_load1B (hb2.keep st.keep (by simp)) rfl rfl rfl ?_ ?_; rotate_left 1; (focus (first | exact N0.out | exact N1.out | exact N2.out | exact N3.out | exact N4.out | exact N5.out | exact G2.out | exact G3.out | exact G4.out | exact G0.out | exact G1.out | (refine frv_get _ _ ?_; (first | omega | (simp; done) | (simp; omega) | (simp [*]; omega))) | exact rfl))) | (refine ia_loadAll st rfl rfl rfl ?_ ?_; (focus (first | rfl | (simp; done) | (simp; assumption) | (simp; omega) | (simp [*]; done)))) | (refine ia_loadC (hb.keep st.keep (by simp)) rfl rfl rfl ?_ ?_; (focus (first | rfl | (simp; done) | (simp; assumption) | (simp; omega) | (simp [*]; done)))) | (refine ia_loadC (hb'.keep st.keep (by simp)) rfl rfl rfl ?_ ?_; (focus (first | rfl | (simp; done) | (simp; assumption) | (simp; omega) | (simp [*]; done)))) | (refine ia_loadC (Cl.of (hb1.keep st.keep (by simp))) rfl rfl rfl ?_ ?_; (focus (first | rfl | (simp; done) | (simp; assumption) | (simp; omega) | (simp [*]; done)))) | (refine ia_loadC (Cl.of (hb2.keep st.keep (by simp))) rfl rfl rfl ?_ ?_; (focus (first | rfl | (simp; done) | (simp; assumption) | (simp; omega) | (simp [*]; done)))))) | ((with_reducible refine gate_store rfl ?_); (first | (refine ia_store1 st rfl rfl rfl rfl rfl rfl ?_ ?_; (focus (first | omega | (simp; done) | (simp; omega) | (simp [*]; omega))); clear st; intro _ st; (try simp only [Act.put, Act.eval, Array.getD_eq_getD_getElem?, List.getElem?_toArray, List.getElem?_cons_succ, List.getElem?_cons_zero, Option.getD_some, List.setIfInBounds_toArray, List.getElem_toArray, List.getElem_cons_succ, List.getElem_cons_zero, List.set_cons_zero, List.set_cons_succ] at st)) | (refine ia_storeAll st rfl rfl rfl rfl ?_ ?_ ?_ ?_; (focus (first | rfl | (simp; done) | (simp; assumption) | (simp; omega) | (simp [*]; done))); (focus (first | exact frv_one _ | exact fv_one _ | exact p8_one _ | exact k3_one _ | exact i1_one _ | (simp [Value.oneCell']; done))); (focus (first | rfl | (simp; done) | (simp; assumption) | (simp; omega) | (simp [*]; done))); clear st; intro _ st; (try simp only [List.set_cons_zero, List.set_cons_succ] at st)) | (refine ia_storeSeg st rfl rfl rfl rfl ?_ ?_ ?_ ?_; (focus (first | rfl | (simp; done) | (simp; assumption) | (simp; omega) | (simp [*]; done))); (focus (first | exact frv_one _ | exact fv_one _ | exact p8_one _ | exact k3_one _ | exact i1_one _ | (simp [Value.oneCell']; done))); (focus (first | omega | (simp; done) | (simp; omega) | (simp [*]; omega))); clear st; intro _ st; (try simp only [List.set_cons_zero, List.set_cons_succ] at st)))) | ((with_reducible refine gate_addr rfl ?_); (first | (refine' ia_slcP HP.out rfl rfl rfl rfl ?_ ?_ ?_) | (refine' ia_slcP HP2.out rfl rfl rfl rfl ?_ ?_ ?_)); rotate_left 1; (focus (first | exact (rfl : (0 : Int) = ((0 : Nat) : Int)) | exact (rfl : (1 : Int) = ((1 : Nat) : Int)) | exact rfl | exact HE1.out | exact HE2.out)); (focus (first | omega | (simp; done) | (simp; omega) | (simp [*]; omega)))))) | ((with_reducible refine qgate_nil ?_); refine wpQuiet_nil ?_; (try intro _ st)) | ((with_reducible refine qgate_any ?_); (first | ((first | (with_reducible refine qg_assign rfl ?_) | (with_reducible refine qg_move rfl ?_) | (with_reducible refine qg_nil rfl ?_)); refine qa_val (fun _ _ => rfl) rfl ?_) | ((with_reducible refine qgate_load rfl ?_); (first | (refine' iq_load1 rfl rfl rfl ?_ ?_; rotate_left 1; (focus (first | exact N0.out | exact N1.out | exact N2.out | exact N3.out | exact N4.out | exact N5.out | exact G2.out | exact G3.out | exact G4.out | exact G0.out | exact G1.out | (refine frv_get _ _ ?_; (first | omega | (simp; done) | (simp; omega) | (simp [*]; omega))) | exact rfl))) | (refine' iq_load1Z hb rfl rfl rfl ?_ ?_; rotate_left 1; (focus exact rfl)) | (refine' iq_load1Z hb' rfl rfl rfl ?_ ?_; rotate_left 1; (focus exact rfl)) | (refine' iq_load1C hb rfl rfl rfl ?_ ?_; rotate_left 1; (focus (first | exact N0.out | exact N1.out | exact N2.out | exact N3.out | exact N4.out | exact N5.out | exact G2.out | exact G3.out | exact G4.out | exact G0.out | exact G1.out | (refine frv_get _ _ ?_; (first | omega | (simp; done) | (simp; omega) | (simp [*]; omega))) | exact rfl))) | (refine' iq_load1C hb' rfl rfl rfl ?_ ?_; rotate_left 1; (focus (first | exact N0.out | exact N1.out | exact N2.out | exact N3.out | exact N4.out | exact N5.out | exact G2.out | exact G3.out | exact G4.out | exact G0.out | exact G1.out | (refine frv_get _ _ ?_; (first | omega | (simp; done) | (simp; omega) | (simp [*]; omega))) | exact rfl))))) | ((with_reducible refine qgate_addr rfl ?_); (first | (refine' iq_slc rfl rfl rfl rfl ?_ ?_ ?_) | (refine' iq_slcP HP.out rfl rfl rfl rfl ?_ ?_ ?_) | (refine' iq_slcP HP2.out rfl rfl rfl rfl ?_ ?_ ?_) | (refine' iq_arr rfl rfl rfl rfl ?_ ?_ ?_)); rotate_left 1; (focus (first | exact (rfl : (0 : Int) = ((0 : Nat) : Int)) | exact (rfl : (1 : Int) = ((1 : Nat) : Int)) | exact rfl | exact HE1.out | exact HE2.out)); (focus (first | omega | (simp; done) | (simp; omega) | (simp [*]; omega)))) | ((with_reducible refine qgate_field rfl ?_); refine iq_field rfl rfl rfl ?_) | ((with_reducible refine qgate_conv rfl ?_); refine' iq_conv rfl rfl rfl ?_ ?_; rotate_left 1; (focus (first | (refine IntWalk.i64_in _ ?_; omega) | (refine i8_wrap ?_ ?_ <;> omega) | exact rfl))) | ((with_reducible refine qgate_bin rfl ?_); refine' qa_bin ?_ rfl rfl rfl rfl ?_; rotate_left 1; (focus (first | exact run_add64 (by omega) (by omega) | exact run_sub64 (by omega) (by omega) | (intro w'; go_simp; exact rfl)))) | ((with_reducible refine qgate_call rfl ?_); refine iq_len rfl rfl rfl ?_)); all_goals (try (simp only [Nat.zero_add, Nat.add_zero, Nat.mul_one, Nat.zero_mul, Act.put, Act.eval, Array.getD_eq_getD_getElem?, List.getElem?_toArray, List.getElem?_cons_succ, List.getElem?_cons_zero, Option.getD_some, List.setIfInBounds_toArray, List.set_cons_succ, List.set_cons_zero, List.getElem_toArray, List.getElem_cons_succ, List.getElem_cons_zero]))) | ((with_reducible refine rgate (id := 2) ?_); refine wp_region_quiet_st (id := 2) st (by kernel_rfl) (by kernel_rfl) ?_; clear st) | ((with_reducible refine rgate (id := 3) ?_); refine wp_region_quiet_st (id := 3) st (by kernel_rfl) (by kernel_rfl) ?_; clear st) | ((with_reducible refine rgate (id := 6) ?_); refine wp_region_quiet_st (id := 6) st (by kernel_rfl) (by kernel_rfl) ?_; clear st))
    obtain ⟨r0, r1⟩ := and255 (x := IntKind.u64.wrap (IntKind.u64.wrap (IntKind.u64.wrap (s * 6364136223846793005)) + 1442695040888963407) / 1099511627776) (by have := u64_rng (IntKind.u64.wrap (IntKind.u64.wrap (s * 6364136223846793005)) + 1442695040888963407); omega) (by have := u64_rng (IntKind.u64.wrap (IntKind.u64.wrap (s * 6364136223846793005)) + 1442695040888963407); omega)
    go_ret
    exact ⟨_, _, rfl, ⟨r0, r1⟩, u64_rng _, st.keep, by simpa using st.get .here⟩
end Go.Proofs.YtlljflmbnbjccaaGreatDoor
/- A number picked out of given bytes lies below its bound; no condition. -/
namespace Go.Proofs.YtlljflmbnbjccaaGreatDoor
open Go.RowKit
set_option linter.unusedSimpArgs false
set_option linter.unusedVariables false
theorem rem_b {x n : Int} (h0 : 0 ≤ x) (hn : 0 < n) : 0 ≤ x % n ∧ x % n < n := ⟨Int.emod_nonneg _ (by omega), Int.emod_lt_of_pos _ hn⟩
theorem Rd.keepM {w w1 : World} {p : Option Addr} {m g : Nat} {cs : List Value} (h : Rd w p m cs) (hk : Keep [g] w w1) (hne : 0 < m → ∀ b f, p = some ⟨b, f, none⟩ → b ≠ g) : Rd w1 p m cs := fun hn => by
  obtain ⟨b, f, hp, hc⟩ := h hn
  exact ⟨b, f, hp, hc.keep hk (by simpa using hne hn b f hp)⟩
set_option maxRecDepth 100000 in
theorem pick_c (B : List Int) (m : Nat) (hB : B.length = m) (hm : m ≤ 4096) (h8 : ∀ x ∈ B, 0 ≤ x ∧ x ≤ 255) (p : Option Addr) (c g k : Nat) (s : Int) (T : TypeId) (n : Int) (hn : 1 < n) (hn2 : n ≤ 65536) (hk : k ≤ 9998) (hs0 : 0 ≤ s) (hs1 : s < 18446744073709551616) (w : World) (hr : Rd w p m (encs u1 B)) (hg : Blk w g (srcC p m c k s) T) (hne : 0 < m → ∀ b f, p = some ⟨b, f, none⟩ → b ≠ g) :
    Calls Tryz.prog 28 #[.pointer (some ⟨g, 0, none⟩), .int .i64 n] w fun e w' => ∃ (v s' : Int) (k' : Nat), e = .returned (.int .i64 v) ∧ (0 ≤ v ∧ v < n) ∧ (0 ≤ s' ∧ s' < 18446744073709551616) ∧ k' ≤ k + 2 ∧ Keep [g] w w' ∧ Blk w' g (srcC p m c k' s') T := by
  have st := St.start1 hg
  have hd : decide (n ≤ 1) = false := by simp; omega
  have HN := hid (fun (w' : World) (hk : Keep [g] w w') (hb : Blk w' g (srcC p m c k s) T) => next_c B m hB hm h8 p c g k s T (by omega) hs0 hs1 w' (hr.keepM hk hne) hb hne)
  have HN2 := hid (fun (w' : World) (s1 : Int) (hk : Keep [g] w w') (hb : Blk w' g (srcC p m c (k + 1) s1) T) (h1 : 0 ≤ s1) (h2 : s1 < 18446744073709551616) => next_c B m hB hm h8 p c g (k + 1) s1 T (by omega) h1 h2 w' (hr.keepM hk hne) hb hne)
  by_cases h2 : 200 < n
  · have hd2 : decide (200 < n) = true := by simpa using h2
    go_enter Tryz.func28, Tryz.ntmps28
    go_wp2_with (first | (go_at_call 52; (first | (refine (HN.out _ st.keep (st.get .here)).mono ?_; rintro _ _ ⟨v, s1, rfl, ⟨hv0, hv1⟩, ⟨hs2, hs3⟩, hk, hb1⟩) | (refine (HN2.out _ _ st.keep (st.get .here) hs2 hs3).mono ?_; rintro _ _ ⟨v2, s2, rfl, ⟨hv2, hv3⟩, ⟨hs4, hs5⟩, hk, hb1⟩)); replace st := st.wrote .here hk hb1; clear hk hb1))
    obtain ⟨r0, r1⟩ := rem_b (x := v * 256 + v2) (n := n) (by omega) (by omega)
    go_ret
    exact ⟨_, s2, k + 1 + 1, rfl, ⟨r0, r1⟩, ⟨hs4, hs5⟩, by omega, st.keep, st.get .here⟩
  · have hd2 : decide (200 < n) = false := by simpa using h2
    go_enter Tryz.func28, Tryz.ntmps28
    go_wp2_with (first | (go_at_call 52; (refine (HN.out _ st.keep (st.get .here)).mono ?_; rintro _ _ ⟨v, s1, rfl, ⟨hv0, hv1⟩, ⟨hs2, hs3⟩, hk, hb1⟩); replace st := st.wrote .here hk hb1; clear hk hb1))
    obtain ⟨r0, r1⟩ := rem_b (x := v) (n := n) (by omega) (by omega)
    go_ret
    exact ⟨_, s1, k + 1, rfl, ⟨r0, r1⟩, ⟨hs2, hs3⟩, by omega, st.keep, st.get .here⟩
theorem l00From_c (p : Option Addr) (m c : Nat) (w : World) :
    Calls Tryz.prog 27 #[.slice p m c] w fun e w' => ∃ g, e = .returned (.pointer (some ⟨g, 0, none⟩)) ∧ w.heap.size ≤ g ∧ Blk w' g (srcC p m c 0 0) 83 ∧ Keep [] w w' := by
  have st := St.start w
  go_enter Tryz.func27, Tryz.ntmps27
  go_wp2_with (first | ((with_reducible refine gate_lst ?_); (first | ((with_reducible refine gate_box rfl ?_); (first | (refine ia_box (sl := 5) st rfl rfl rfl rfl rfl ?_; clear st; intro B5 _ st))))))
  go_ret
  exact ⟨_, rfl, (by have := st.ge _ (List.Mem.head _); simpa using this), st.get .here, st.keep⟩
end Go.Proofs.YtlljflmbnbjccaaGreatDoor
/- Lists of numbers compared where they are equal; bytes that are too many; a number out of bytes; no condition. -/
namespace Go.Proofs.YtlljflmbnbjccaaGreatDoor
open Go.RowKit
set_option linter.unusedSimpArgs false
set_option linter.unusedVariables false
set_option maxRecDepth 100000
theorem l00Same_c (B : List Int) (n : Nat) (hn : B.length = n) (hn4 : n ≤ 4000000) (p p' : Option Addr) (c c' : Nat) (w : World) (hr : Rd w p n (encs i1 B)) (hr' : Rd w p' n (encs i1 B)) :
    Calls Tryz.prog 41 #[.slice p n c, .slice p' n c'] w fun e w' => e = .returned (.bool true) ∧ Keep [] w w' := by
  have st := St.start w
  have hnn : (((n : Nat) : Int) != ((n : Nat) : Int)) = false := by simp
  replace hn := hid hn
  go_enter Tryz.func41, Tryz.ntmps41
  go_wp2_with (first | ((with_reducible refine gate_lst ?_); (first | ((with_reducible refine gate_load rfl ?_); (first | (refine' ia_load1 st rfl rfl rfl ?_ ?_; rotate_left 1; (focus (first | exact N0.out | exact N1.out | exact N2.out | exact N3.out | exact N4.out | exact N5.out | exact G2.out | exact G3.out | exact G4.out | exact G0.out | exact G1.out | (refine frv_get _ _ ?_; (first | omega | (simp; done) | (simp; omega) | (simp [*]; omega))) | exact rfl))) | (refine' ia_load1Z (hb.keep st.keep (by simp)) rfl rfl rfl ?_ ?_; rotate_left 1; (focus exact rfl)) | (refine' ia_load1Z (hb'.keep st.keep (by simp)) rfl rfl rfl ?_ ?_; rotate_left 1; (focus exact rfl)) | (refine' ia_load1C (hb.keep st.keep (by simp)) rfl rfl rfl ?_ ?_; rotate_left 1; (focus (first | exact N0.out | exact N1.out | exact N2.out | exact N3.out | exact N4.out | exact N5.out | exact G2.out | exact G3.out | exact G4.out | exact G0.out | exact G1.out | (refine frv_get _ _ ?_; (first | omega | (simp; done) | (simp; omega) | (simp [*]; omega))) | exact rfl))) | (refine' ia_load1C (hb'.keep st.keep (by simp)) rfl rfl rfl ?_ ?_; rotate_left 1; (focus (first | exact N0.out | exact N1.out | exact N2.out | exact N3.out | exact N4.out | exact N5.out | exact G2.out | exact G3.out | exact G4.out | exact G0.out | exact G1.out | (refine frv_get _ _ ?_; (first | omega | (simp; done) | (simp; omega) | (simp [*]; omega))) | exact rfl))) | (refine' ia_load1B (hb1.keep st.keep (by simp)) rfl rfl rfl ?_ ?_; rotate_left 1; (focus (first | exact N0.out | exact N1.out | exact N2.out | exact N3.out | exact N4.out | exact N5.out | exact G2.out | exact G3.out | exact G4.out | exact G0.out | exact G1.out | (refine frv_get _ _ ?_; (first | omega | (simp; done) | (simp; omega) | (simp [*]; omega))) | exact rfl))) | (refine' ia_load1B (hb2.keep st.keep (by simp)) rfl rfl rfl ?_ ?_; rotate_left 1; (focus (first | exact N0.out | exact N1.out | exact N2.out | exact N3.out | exact N4.out | exact N5.out | exact G2.out | exact G3.out | exact G4.out | exact G0.out | exact G1.out | (refine frv_get _ _ ?_; (first | omega | (simp; done) | (simp; omega) | (simp [*]; omega))) | exact rfl))))) | ((with_reducible refine gate_addr rfl ?_); (first | (refine' ia_slcP HP.out rfl rfl rfl rfl ?_ ?_ ?_) | (refine' ia_slcP HP2.out rfl rfl rfl rfl ?_ ?_ ?_)); rotate_left 1; (focus (first | exact (rfl : (0 : Int) = ((0 : Nat) : Int)) | exact (rfl : (1 : Int) = ((1 : Nat) : Int)) | exact rfl | exact HE1.out | exact HE2.out)); (focus (first | omega | (simp; done) | (simp; omega) | (simp [*]; omega)))))) | ((with_reducible refine qgate_nil ?_); refine wpQuiet_nil ?_; (try intro _ st)) | ((with_reducible refine qgate_any ?_); (first | ((first | (with_reducible refine qg_move rfl ?_)); refine qa_val (fun _ _ => rfl) rfl ?_) | ((with_reducible refine qgate_load rfl ?_); (first | (refine' iq_load1 rfl rfl rfl ?_ ?_; rotate_left 1; (focus (first | exact N0.out | exact N1.out | exact N2.out | exact N3.out | exact N4.out | exact N5.out | exact G2.out | exact G3.out | exact G4.out | exact G0.out | exact G1.out | (refine frv_get _ _ ?_; (first | omega | (simp; done) | (simp; omega) | (simp [*]; omega))) | exact rfl))) | (refine' iq_load1Z hb rfl rfl rfl ?_ ?_; rotate_left 1; (focus exact rfl)) | (refine' iq_load1Z hb' rfl rfl rfl ?_ ?_; rotate_left 1; (focus exact rfl)) | (refine' iq_load1C hb rfl rfl rfl ?_ ?_; rotate_left 1; (focus (first | exact N0.out | exact N1.out | exact N2.out | exact N3.out | exact N4.out | exact N5.out | exact G2.out | exact G3.out | exact G4.out | exact G0.out | exact G1.out | (refine frv_get _ _ ?_; (first | omega | (simp; done) | (simp; omega) | (simp [*]; omega))) | exact rfl))) | (refine' iq_load1C hb' rfl rfl rfl ?_ ?_; rotate_left 1; (focus (first | exact N0.out | exact N1.out | exact N2.out | exact N3.out | exact N4.out | exact N5.out | exact G2.out | exact G3.out | exact G4.out | exact G0.out | exact G1.out | (refine frv_get _ _ ?_; (first | omega | (simp; done) | (simp; omega) | (simp [*]; omega))) | exact rfl))))) | ((with_reducible refine qgate_addr rfl ?_); (first | (refine' iq_slc rfl rfl rfl rfl ?_ ?_ ?_) | (refine' iq_slcP HP.out rfl rfl rfl rfl ?_ ?_ ?_) | (refine' iq_slcP HP2.out rfl rfl rfl rfl ?_ ?_ ?_) | (refine' iq_arr rfl rfl rfl rfl ?_ ?_ ?_)); rotate_left 1; (focus (first | exact (rfl : (0 : Int) = ((0 : Nat) : Int)) | exact (rfl : (1 : Int) = ((1 : Nat) : Int)) | exact rfl | exact HE1.out | exact HE2.out)); (focus (first | omega | (simp; done) | (simp; omega) | (simp [*]; omega)))) | ((with_reducible refine qgate_bin rfl ?_); refine' qa_bin ?_ rfl rfl rfl rfl ?_; rotate_left 1; (focus (first | exact run_add64 (by omega) (by omega) | exact run_sub64 (by omega) (by omega) | (intro w'; go_simp; exact rfl))))); all_goals (try (simp only [Nat.zero_add, Nat.add_zero, Nat.mul_one, Nat.zero_mul, Act.put, Act.eval, Array.getD_eq_getD_getElem?, List.getElem?_toArray, List.getElem?_cons_succ, List.getElem?_cons_zero, Option.getD_some, List.setIfInBounds_toArray, List.set_cons_succ, List.set_cons_zero, List.getElem_toArray, List.getElem_cons_succ, List.getElem_cons_zero]))) | ((with_reducible refine rgate (id := 6) ?_); refine wp_region_quiet_st (id := 6) st (by kernel_rfl) (by kernel_rfl) ?_; clear st))
  go_loopw [5] (fun i wr => ∃ k : Nat, k ≤ n ∧ i = .int .i64 k ∧ St [] w wr []) (fun i _ => n - (intOf i).toNat)
  case atStart => exact ⟨0, by omega, rfl, st⟩
  case round =>
    clear st
    obtain ⟨k, hk, rfl, st⟩ := hrel
    by_cases hlt : k < n
    · have hd : decide ((k : Int) < (n : Int)) = true := by simpa using hlt
      obtain ⟨b, f, hp, hcl⟩ := hr (by omega)
      obtain ⟨b', f', hp', hcl'⟩ := hr' (by omega)
      have HP := hid hp
      have HP2 := hid hp'
      have hkB : k < B.length := by rw [hn.out]; exact hlt
      have hb := hcl.seg i1_len hkB
      have hb' := hcl'.seg i1_len hkB
      obtain ⟨x, hx⟩ : ∃ x, B[k] = x := ⟨_, rfl⟩
      have hxx : (x != x) = false := by simp
      rw [hx, Nat.mul_one] at hb hb'
      clear hx hp hcl hp' hcl' hkB
      go_wp2_with (first | ((with_reducible refine gate_lst ?_); (first | ((with_reducible refine gate_load rfl ?_); (first | (refine' ia_load1 st rfl rfl rfl ?_ ?_; rotate_left 1; (focus (first | exact N0.out | exact N1.out | exact N2.out | exact N3.out | exact N4.out | exact N5.out | exact G2.out | exact G3.out | exact G4.out | exact G0.out | exact G1.out | (refine frv_get _ _ ?_; (first | omega | (simp; done) | (simp; omega) | (simp [*]; omega))) | exact rfl))) | (refine' ia_load1Z (hb.keep st.keep (by simp)) rfl rfl rfl ?_ ?_; rotate_left 1; (focus exact rfl)) | (refine' ia_load1Z (hb'.keep st.keep (by simp)) rfl rfl rfl ?_ ?_; rotate_left 1; (focus exact rfl)) | (refine' ia_load1C (hb.keep st.keep (by simp)) rfl rfl rfl ?_ ?_; rotate_left 1; (focus (first | exact N0.out | exact N1.out | exact N2.out | exact N3.out | exact N4.out | exact N5.out | exact G2.out | exact G3.out | exact G4.out | exact G0.out | exact G1.out | (refine frv_get _ _ ?_; (first | omega | (simp; done) | (simp; omega) | (simp [*]; omega))) | exact rfl))) | (refine' ia_load1C (hb'.keep st.keep (by simp)) rfl rfl rfl ?_ ?_; rotate_left 1; (focus (first | exact N0.out | exact N1.out | exact N2.out | exact N3.out | exact N4.out | exact N5.out | exact G2.out | exact G3.out | exact G4.out | exact G0.out | exact G1.out | (refine frv_get _ _ ?_; (first | omega | (simp; done) | (simp; omega) | (simp [*]; omega))) | exact rfl))) | (refine' ia_load1B (hb1.keep st.keep (by simp)) rfl rfl rfl ?_ ?_; rotate_left 1; (focus (first | exact N0.out | exact N1.out | exact N2.out | exact N3.out | exact N4.out | exact N5.out | exact G2.out | exact G3.out | exact G4.out | exact G0.out | exact G1.out | (refine frv_get _ _ ?_; (first | omega | (simp; done) | (simp; omega) | (simp [*]; omega))) | exact rfl))) | (refine' ia_load1B (hb2.keep st.keep (by simp)) rfl rfl rfl ?_ ?_; rotate_left 1; (focus (first | exact N0.out | exact N1.out | exact N2.out | exact N3.out | exact N4.out | exact N5.out | exact G2.out | exact G3.out | exact G4.out | exact G0.out | exact G1.out | (refine frv_get _ _ ?_; (first | omega | (simp; done) | (simp; omega) | (simp [*]; omega))) | exact rfl))))) | ((with_reducible refine gate_addr rfl ?_); (first | (refine' ia_slcP HP.out rfl rfl rfl rfl ?_ ?_ ?_) | (refine' ia_slcP HP2.out rfl rfl rfl rfl ?_ ?_ ?_)); rotate_left 1; (focus (first | exact (rfl : (0 : Int) = ((0 : Nat) : Int)) | exact (rfl : (1 : Int) = ((1 : Nat) : Int)) | exact rfl | exact HE1.out | exact HE2.out)); (focus (first | omega | (simp; done) | (simp; omega) | (simp [*]; omega)))))) | ((with_reducible refine qgate_nil ?_); refine wpQuiet_nil ?_; (try intro _ st)) | ((with_reducible refine qgate_any ?_); (first | ((with_reducible refine qgate_dst (N := 25) rfl ?_); ((with_reducible refine qgate_bin rfl ?_); refine wpq_bin rfl _ _ _ _ _ rfl _ _ _ _ rfl rfl (.bool false) (fun w' => by go_simp) ?_)) | ((first | (with_reducible refine qg_move rfl ?_)); refine qa_val (fun _ _ => rfl) rfl ?_) | ((with_reducible refine qgate_load rfl ?_); (first | (refine' iq_load1 rfl rfl rfl ?_ ?_; rotate_left 1; (focus (first | exact N0.out | exact N1.out | exact N2.out | exact N3.out | exact N4.out | exact N5.out | exact G2.out | exact G3.out | exact G4.out | exact G0.out | exact G1.out | (refine frv_get _ _ ?_; (first | omega | (simp; done) | (simp; omega) | (simp [*]; omega))) | exact rfl))) | (refine' iq_load1Z hb rfl rfl rfl ?_ ?_; rotate_left 1; (focus exact rfl)) | (refine' iq_load1Z hb' rfl rfl rfl ?_ ?_; rotate_left 1; (focus exact rfl)) | (refine' iq_load1C hb rfl rfl rfl ?_ ?_; rotate_left 1; (focus (first | exact N0.out | exact N1.out | exact N2.out | exact N3.out | exact N4.out | exact N5.out | exact G2.out | exact G3.out | exact G4.out | exact G0.out | exact G1.out | (refine frv_get _ _ ?_; (first | omega | (simp; done) | (simp; omega) | (simp [*]; omega))) | exact rfl))) | (refine' iq_load1C hb' rfl rfl rfl ?_ ?_; rotate_left 1; (focus (first | exact N0.out | exact N1.out | exact N2.out | exact N3.out | exact N4.out | exact N5.out | exact G2.out | exact G3.out | exact G4.out | exact G0.out | exact G1.out | (refine frv_get _ _ ?_; (first | omega | (simp; done) | (simp; omega) | (simp [*]; omega))) | exact rfl))))) | ((with_reducible refine qgate_addr rfl ?_); (first | (refine' iq_slc rfl rfl rfl rfl ?_ ?_ ?_) | (refine' iq_slcP HP.out rfl rfl rfl rfl ?_ ?_ ?_) | (refine' iq_slcP HP2.out rfl rfl rfl rfl ?_ ?_ ?_) | (refine' iq_arr rfl rfl rfl rfl ?_ ?_ ?_)); rotate_left 1; (focus (first | exact (rfl : (0 : Int) = ((0 : Nat) : Int)) | exact (rfl : (1 : Int) = ((1 : Nat) : Int)) | exact rfl | exact HE1.out | exact HE2.out)); (focus (first | omega | (simp; done) | (simp; omega) | (simp [*]; omega)))) | ((with_reducible refine qgate_bin rfl ?_); refine' qa_bin ?_ rfl rfl rfl rfl ?_; rotate_left 1; (focus (first | exact run_add64 (by omega) (by omega) | exact run_sub64 (by omega) (by omega) | (intro w'; go_simp; exact rfl))))); all_goals (try (simp only [Nat.zero_add, Nat.add_zero, Nat.mul_one, Nat.zero_mul, Act.put, Act.eval, Array.getD_eq_getD_getElem?, List.getElem?_toArray, List.getElem?_cons_succ, List.getElem?_cons_zero, Option.getD_some, List.setIfInBounds_toArray, List.set_cons_succ, List.set_cons_zero, List.getElem_toArray, List.getElem_cons_succ, List.getElem_cons_zero]))) | ((with_reducible refine rgate (id := 6) ?_); refine wp_region_quiet_st (id := 6) st (by kernel_rfl) (by kernel_rfl) ?_; clear st))
      go_roundw
      case rel => exact ⟨k + 1, by omega, by go_num, st⟩
      case measure => simp [intOf]; omega
    · obtain rfl : k = n := by omega
      go_wp2_with (first | ((with_reducible refine gate_lst ?_); (first | ((with_reducible refine gate_load rfl ?_); (first | (refine' ia_load1 st rfl rfl rfl ?_ ?_; rotate_left 1; (focus (first | exact N0.out | exact N1.out | exact N2.out | exact N3.out | exact N4.out | exact N5.out | exact G2.out | exact G3.out | exact G4.out | exact G0.out | exact G1.out | (refine frv_get _ _ ?_; (first | omega | (simp; done) | (simp; omega) | (simp [*]; omega))) | exact rfl))) | (refine' ia_load1Z (hb.keep st.keep (by simp)) rfl rfl rfl ?_ ?_; rotate_left 1; (focus exact rfl)) | (refine' ia_load1Z (hb'.keep st.keep (by simp)) rfl rfl rfl ?_ ?_; rotate_left 1; (focus exact rfl)) | (refine' ia_load1C (hb.keep st.keep (by simp)) rfl rfl rfl ?_ ?_; rotate_left 1; (focus (first | exact N0.out | exact N1.out | exact N2.out | exact N3.out | exact N4.out | exact N5.out | exact G2.out | exact G3.out | exact G4.out | exact G0.out | exact G1.out | (refine frv_get _ _ ?_; (first | omega | (simp; done) | (simp; omega) | (simp [*]; omega))) | exact rfl))) | (refine' ia_load1C (hb'.keep st.keep (by simp)) rfl rfl rfl ?_ ?_; rotate_left 1; (focus (first | exact N0.out | exact N1.out | exact N2.out | exact N3.out | exact N4.out | exact N5.out | exact G2.out | exact G3.out | exact G4.out | exact G0.out | exact G1.out | (refine frv_get _ _ ?_; (first | omega | (simp; done) | (simp; omega) | (simp [*]; omega))) | exact rfl))) | (refine' ia_load1B (hb1.keep st.keep (by simp)) rfl rfl rfl ?_ ?_; rotate_left 1; (focus (first | exact N0.out | exact N1.out | exact N2.out | exact N3.out | exact N4.out | exact N5.out | exact G2.out | exact G3.out | exact G4.out | exact G0.out | exact G1.out | (refine frv_get _ _ ?_; (first | omega | (simp; done) | (simp; omega) | (simp [*]; omega))) | exact rfl))) | (refine' ia_load1B (hb2.keep st.keep (by simp)) rfl rfl rfl ?_ ?_; rotate_left 1; (focus (first | exact N0.out | exact N1.out | exact N2.out | exact N3.out | exact N4.out | exact N5.out | exact G2.out | exact G3.out | exact G4.out | exact G0.out | exact G1.out | (refine frv_get _ _ ?_; (first | omega | (simp; done) | (simp; omega) | (simp [*]; omega))) | exact rfl))))) | ((with_reducible refine gate_addr rfl ?_); (first | (refine' ia_slcP HP.out rfl rfl rfl rfl ?_ ?_ ?_) | (refine' ia_slcP HP2.out rfl rfl rfl rfl ?_ ?_ ?_)); rotate_left 1; (focus (first | exact (rfl : (0 : Int) = ((0 : Nat) : Int)) | exact (rfl : (1 : Int) = ((1 : Nat) : Int)) | exact rfl | exact HE1.out | exact HE2.out)); (focus (first | omega | (simp; done) | (simp; omega) | (simp [*]; omega)))))) | ((with_reducible refine qgate_nil ?_); refine wpQuiet_nil ?_; (try intro _ st)) | ((with_reducible refine qgate_any ?_); (first | ((first | (with_reducible refine qg_move rfl ?_)); refine qa_val (fun _ _ => rfl) rfl ?_) | ((with_reducible refine qgate_load rfl ?_); (first | (refine' iq_load1 rfl rfl rfl ?_ ?_; rotate_left 1; (focus (first | exact N0.out | exact N1.out | exact N2.out | exact N3.out | exact N4.out | exact N5.out | exact G2.out | exact G3.out | exact G4.out | exact G0.out | exact G1.out | (refine frv_get _ _ ?_; (first | omega | (simp; done) | (simp; omega) | (simp [*]; omega))) | exact rfl))) | (refine' iq_load1Z hb rfl rfl rfl ?_ ?_; rotate_left 1; (focus exact rfl)) | (refine' iq_load1Z hb' rfl rfl rfl ?_ ?_; rotate_left 1; (focus exact rfl)) | (refine' iq_load1C hb rfl rfl rfl ?_ ?_; rotate_left 1; (focus (first | exact N0.out | exact N1.out | exact N2.out | exact N3.out | exact N4.out | exact N5.out | exact G2.out | exact G3.out | exact G4.out | exact G0.out | exact G1.out | (refine frv_get _ _ ?_; (first | omega | (simp; done) | (simp; omega) | (simp [*]; omega))) | exact rfl))) | (refine' iq_load1C hb' rfl rfl rfl ?_ ?_; rotate_left 1; (focus (first | exact N0.out | exact N1.out | exact N2.out | exact N3.out | exact N4.out | exact N5.out | exact G2.out | exact G3.out | exact G4.out | exact G0.out | exact G1.out | (refine frv_get _ _ ?_; (first | omega | (simp; done) | (simp; omega) | (simp [*]; omega))) | exact rfl))))) | ((with_reducible refine qgate_addr rfl ?_); (first | (refine' iq_slc rfl rfl rfl rfl ?_ ?_ ?_) | (refine' iq_slcP HP.out rfl rfl rfl rfl ?_ ?_ ?_) | (refine' iq_slcP HP2.out rfl rfl rfl rfl ?_ ?_ ?_) | (refine' iq_arr rfl rfl rfl rfl ?_ ?_ ?_)); rotate_left 1; (focus (first | exact (rfl : (0 : Int) = ((0 : Nat) : Int)) | exact (rfl : (1 : Int) = ((1 : Nat) : Int)) | exact rfl | exact HE1.out | exact HE2.out)); (focus (first | omega | (simp; done) | (simp; omega) | (simp [*]; omega)))) | ((with_reducible refine qgate_bin rfl ?_); refine' qa_bin ?_ rfl rfl rfl rfl ?_; rotate_left 1; (focus (first | exact run_add64 (by omega) (by omega) | exact run_sub64 (by omega) (by omega) | (intro w'; go_simp; exact rfl))))); all_goals (try (simp only [Nat.zero_add, Nat.add_zero, Nat.mul_one, Nat.zero_mul, Act.put, Act.eval, Array.getD_eq_getD_getElem?, List.getElem?_toArray, List.getElem?_cons_succ, List.getElem?_cons_zero, Option.getD_some, List.setIfInBounds_toArray, List.set_cons_succ, List.set_cons_zero, List.getElem_toArray, List.getElem_cons_succ, List.getElem_cons_zero]))) | ((with_reducible refine rgate (id := 6) ?_); refine wp_region_quiet_st (id := 6) st (by kernel_rfl) (by kernel_rfl) ?_; clear st))
      go_ret
      exact ⟨rfl, st.keep⟩
theorem A2Same_c (B : List Int) (n : Nat) (hn : B.length = n) (hn4 : n ≤ 4000000) (p p' : Option Addr) (c c' : Nat) (w : World) (hr : Rd w p n (encs i1 B)) (hr' : Rd w p' n (encs i1 B)) :
    Calls Tryz.prog 16 #[.slice p n c, .slice p' n c'] w fun e w' => e = .returned (.bool true) ∧ Keep [] w w' := by
  have st := St.start w
  have HS := hid (fun w' (hk : Keep [] w w') => l00Same_c B n hn hn4 p p' c c' w' (hr.keep hk) (hr'.keep hk))
  go_enter Tryz.func16, Tryz.ntmps16
  go_wp2_with (first | (go_at_call 41; refine (HS.out _ st.keep).mono ?_; rintro _ _ ⟨rfl, hk⟩; replace st := st.call hk; clear hk))
  go_ret
  exact ⟨rfl, st.keep⟩
theorem a2Long_c (n m : Nat) (p p' : Option Addr) (c c' : Nat) (w : World) :
    Calls Tryz.prog 4 #[.slice p n c, .slice p' m c'] w fun e w' => e = .returned (.bool (decide (3000 < n) || decide (3000 < m))) ∧ Keep [] w w' := by
  have st := St.start w
  by_cases h1 : 3000 < n
  · have d1 : decide ((3000 : Int) < (n : Int)) = true := by simp; omega
    rw [show decide (3000 < n) = true by simpa using h1, Bool.true_or]
    go_enter Tryz.func4, Tryz.ntmps4
    go_wp2_with (first | ((with_reducible refine gate_lst ?_); (first | ((with_reducible refine' wpl_ung ?_ ?_ ?_); rotate_left 1; (focus exact rfl); (focus exact rfl)))))
    go_ret
    exact ⟨rfl, st.keep⟩
  · have d1 : decide ((3000 : Int) < (n : Int)) = false := by simp; omega
    rw [show decide (3000 < n) = false by simpa using h1, Bool.false_or]
    by_cases h2 : 3000 < m
    · have d2 : decide ((3000 : Int) < (m : Int)) = true := by simp; omega
      rw [show decide (3000 < m) = true by simpa using h2]
      go_enter Tryz.func4, Tryz.ntmps4
      go_wp2_with (first | ((with_reducible refine gate_lst ?_); (first | ((with_reducible refine' wpl_ung ?_ ?_ ?_); rotate_left 1; (focus exact rfl); (focus exact rfl)))))
      go_ret
      exact ⟨rfl, st.keep⟩
    · have d2 : decide ((3000 : Int) < (m : Int)) = false := by simp; omega
      rw [show decide (3000 < m) = false by simpa using h2]
      go_enter Tryz.func4, Tryz.ntmps4
      go_wp2_with (first | ((with_reducible refine gate_lst ?_); (first | ((with_reducible refine' wpl_ung ?_ ?_ ?_); rotate_left 1; (focus exact rfl); (focus exact rfl)))))
      go_ret
      exact ⟨rfl, st.keep⟩
def At2 (n : Int) (w : World) (e : Ending) (w' : World) : Prop := ∃ v : Int, e = .returned (.int .i64 v) ∧ (0 ≤ v ∧ v < n) ∧ Keep [] w w'
theorem run_remX {P : Program} {T : TypeId} {n d r : Int} (hd : d ≠ 0) (h : n.tmod d = r) (h1 : -9223372036854775808 ≤ r) (h2 : r ≤ 9223372036854775807) (w : World) : (binOp .rem T (.int .i64 n) (.int .i64 d)).run P w = .ok (.int .i64 r) w := by
  subst h
  have e := IntWalk.i64_in _ ⟨h1, h2⟩
  go_simp
end Go.Proofs.YtlljflmbnbjccaaGreatDoor
/- Words read as shots: the two ways agree; plain mathematics; no condition. -/
namespace Go.Proofs.YtlljflmbnbjccaaGreatDoor
open Go.RowKit
set_option linter.unusedSimpArgs false
set_option linter.unusedVariables false
/-- As the program reads a word. -/
def pw (x : List UInt8) : Option (Nat × Nat) := match Lib.cut x [120] with
  | (p, q, true) => match rdn 0 39 p, rdn 1 24 q with
    | some i, some j => some (i, j)
    | _, _ => none
  | _ => none
def sh2 (x : Option (Nat × Nat)) : Int × Int := match x with
  | some (i, j) => ((i : Int), (j : Int))
  | none => (0, 0)
def pwx (x : List UInt8) : Int × Int := sh2 (pw x)
def pwOk (x : List UInt8) : Bool := (pw x).isSome
/-- As the reference reads a word. -/
def rwOk (x : List UInt8) : Bool := match wds 120 x with
  | [p, q] => numok p && numok q && decide (numR p < 40) && decide (numR q ≤ 24)
  | _ => false
def rwx (x : List UInt8) : Int × Int := match wds 120 x with
  | [p, q] => ((numR p : Int), (numR q : Int))
  | _ => (0, 0)
theorem rdn_num {lo hi : Nat} (hh : hi < 100) (s : List UInt8) : rdn lo hi s = if numok s = true ∧ lo ≤ numR s ∧ numR s ≤ hi then some (numR s) else none := by
  unfold rdn
  cases hn : numok s with
  | false => rw [num_no hn]; simp
  | true =>
    have e : numR s = numv 0 s := by unfold numR; rw [hn]; rfl
    by_cases h : numv 0 s < 100
    · have h1 := (num_und hn).1 h
      have h2 : und s = some (numv 0 s) := by rw [h1, und_dec h, ← h1]
      rw [h2, e]
      simp
    · rw [if_neg (by rw [e]; omega)]
      cases hu : und s with
      | none => rfl
      | some m =>
        obtain ⟨h1, h2⟩ := und_some hu
        rw [h2, (num_dec h1).2] at h
        exact absurd h1 h
theorem wds_one {c : UInt8} {q : List UInt8} (h : c ∉ q) : wds c q = [q] := by
  rcases cut_wds c q with ⟨p, r, _, _, h3, _⟩ | ⟨_, h2, _⟩
  · exact absurd (by rw [h3]; simp) h
  · exact h2
theorem pw_rw (x : List UInt8) : pwOk x = (rwOk x && decide (1 ≤ (rwx x).2)) ∧ (pwOk x = true → pwx x = rwx x) := by
  unfold pwOk pwx pw rwOk rwx
  rcases cut_wds 120 x with ⟨p, q, h1, h2, h3, h4⟩ | ⟨h1, h2, h3⟩
  · rw [h1, h2]
    simp only
    by_cases hq : (120 : UInt8) ∈ q
    · have e : rdn 1 24 q = none := by
        cases hr : rdn 1 24 q with
        | none => rfl
        | some j =>
          obtain ⟨a, b, _⟩ := rdn_some hr
          rw [b] at hq
          exact absurd hq (dec_no a)
      rw [e]
      rcases cut_wds 120 q with ⟨p2, q2, _, g2, _, _⟩ | ⟨_, _, g3⟩
      · rw [g2]
        cases hw : wds 120 q2 with
        | nil => exact absurd hw (wds_ne _ _)
        | cons y r => cases rdn 0 39 p <;> simp
      · exact absurd hq g3
    · rw [wds_one hq, rdn_num (by decide) p, rdn_num (by decide) q]
      simp only
      by_cases a : numok p = true ∧ 0 ≤ numR p ∧ numR p ≤ 39
      · rw [if_pos a]
        by_cases b : numok q = true ∧ 1 ≤ numR q ∧ numR q ≤ 24
        · rw [if_pos b]
          simp only
          obtain ⟨a1, _, a3⟩ := a
          obtain ⟨b1, b2, b3⟩ := b
          rw [a1, b1]
          refine ⟨?_, fun _ => rfl⟩
          simp
          omega
        · rw [if_neg b]
          refine ⟨?_, fun h => by cases h⟩
          simp only [Option.isSome_none]
          symm
          cases hn : numok q with
          | false => simp
          | true =>
            rw [hn] at b
            simp at b
            simp
            intro _ _ _
            omega
      · rw [if_neg a]
        refine ⟨?_, fun h => by cases h⟩
        simp only [Option.isSome_none]
        symm
        cases hn : numok p with
        | false => simp
        | true =>
          rw [hn] at a
          simp at a
          simp
          intros
          omega
  · rw [h1, h2]
    exact ⟨rfl, fun h => by cases h⟩
/-- The words of a text. -/
def tws (l : List UInt8) : List (List UInt8) := if l = [] then [] else wds 32 l
def shtOk (l : List UInt8) : Bool := (tws l).all pwOk && decide ((tws l).length ≤ 80)
def shtL (l : List UInt8) : List (Int × Int) := if shtOk l = true then (tws l).map pwx else []
def shtC (l : List UInt8) : Int := if shtOk l = true then 0 else 5
theorem rwx_bd {x : List UInt8} (h : rwOk x = true) : (0 ≤ (rwx x).1 ∧ (rwx x).1 ≤ 39) ∧ 0 ≤ (rwx x).2 ∧ (rwx x).2 ≤ 24 := by
  unfold rwOk at h
  unfold rwx
  split at h
  · simp at h ⊢; omega
  · cases h
theorem ref_sheet (W : List (List UInt8)) (h : ∀ x ∈ W, rwOk x = true) : shotsB 40 (W.map rwx) = (W.all pwOk && decide (W.length ≤ 80)) := by
  unfold shotsB allSh
  rw [List.length_map, Bool.and_comm]
  congr 1
  rw [List.all_map]
  induction W with
  | nil => rfl
  | cons x W ih =>
    rw [List.all_cons, List.all_cons, ih fun y hy => h y (List.mem_cons_of_mem _ hy)]
    congr 1
    have hx := h x List.mem_cons_self
    rw [(pw_rw x).1, hx, Bool.true_and]
    have hb := rwx_bd hx
    simp only [Function.comp]
    unfold shB
    rw [show decide (0 ≤ (rwx x).1 ∧ (rwx x).1 ≤ 40 - 1) = true by simp; omega, Bool.true_and]
    simp
    omega
theorem map_same {W : List (List UInt8)} (h : W.all pwOk = true) : W.map rwx = W.map pwx :=
  List.map_congr_left fun x hx => ((pw_rw x).2 (List.all_eq_true.1 h x hx)).symm
theorem rw_no {W : List (List UInt8)} {x : List UInt8} (hx : x ∈ W) (h : rwOk x = false) : W.all pwOk = false := by
  rw [List.all_eq_false]
  refine ⟨x, hx, ?_⟩
  rw [(pw_rw x).1, h]
  simp
theorem pw_no {W : List (List UInt8)} {x : List UInt8} (hx : x ∈ W) (h : pwOk x = false) : W.all pwOk = false := by
  rw [List.all_eq_false]
  exact ⟨x, hx, by rw [h]; decide⟩
theorem sht_no {l : List UInt8} (h : (tws l).all pwOk = false) : shtL l = [] ∧ shtC l = 5 := by
  unfold shtL shtC shtOk
  rw [h]
  exact ⟨rfl, rfl⟩
theorem sht_yes {l : List UInt8} (h : shtOk l = true) : shtL l = (tws l).map pwx ∧ shtC l = 0 := by
  unfold shtL shtC
  rw [h]
  exact ⟨rfl, rfl⟩
theorem sht_bad {l : List UInt8} (h : shtOk l = false) : shtL l = [] ∧ shtC l = 5 := by
  unfold shtL shtC
  rw [h]
  exact ⟨rfl, rfl⟩
end Go.Proofs.YtlljflmbnbjccaaGreatDoor
/- ReadSheet: the walks; no condition. -/
namespace Go.Proofs.YtlljflmbnbjccaaGreatDoor
open Go.RowKit
set_option linter.unusedSimpArgs false
set_option linter.unusedVariables false
def ShotsCode' (R : List Sh) (n : Nat) (code : Int) (nilOk : Prop) (w : World) (e : Ending) (w' : World) : Prop := ∃ v, e = .returned (.tuple #[v, .int .i64 code]) ∧ SlOut 55 2 n (encs p8 R) nilOk w v w' ∧ Keep [] w w'
theorem built_shot (a b : Int) : Tryz.prog.built 55 [(0, .int .i8 a), (1, .int .i8 b)] = some (p8 (a, b)).toArray := by kernel_rfl
theorem strCut_c (s : List UInt8) (n : Nat) (hn : s.length = n) (hn1 : n ≤ 1000000) (w : World) (hg : Glob w) {p q : List UInt8} {b : Bool} (h : Lib.cut s [120] = (p, q, b)) :
    Calls Tryz.prog 31 #[.string ⟨s.toArray⟩, .string ⟨#[120]⟩] w fun e w' => e = .returned (.tuple #[.string ⟨p.toArray⟩, .string ⟨q.toArray⟩, .bool b]) ∧ Keep [] w w' := by
  have hsz : (⟨s.toArray⟩ : ByteArray).size = n := by rw [← hn]; rfl
  obtain ⟨m, hm⟩ := hg.max
  refine (Any.strings_Cut sh145 ⟨s.toArray⟩ ⟨#[120]⟩ m w (by omega) hm).mono fun e w' ⟨h1, k, h2⟩ => ⟨?_, by rw [h2]; exact Keep.drewN w k⟩
  rw [h1]
  have e1 : (⟨s.toArray⟩ : ByteArray).data.toList = s := by simp
  have e2 : (⟨#[120]⟩ : ByteArray).data.toList = [120] := rfl
  rw [e1, e2, h]
def WordsPost (l : List UInt8) (w : World) (e : Ending) (w' : World) : Prop := ∃ v, e = .returned v ∧ Gives 9 1 (wds 32 l).length (encs sv (wds 32 l)) w v w' ∧ Keep [] w w'
theorem strSplit_c (l : List UInt8) (n : Nat) (hn : l.length = n) (hn1 : n ≤ 1000000) (w : World) (hg : Glob w) :
    Calls Tryz.prog 53 #[.string ⟨l.toArray⟩, .string ⟨#[32]⟩] w (WordsPost l w) := by
  have hsz : (⟨l.toArray⟩ : ByteArray).size = n := by rw [← hn]; rfl
  obtain ⟨m, hm⟩ := hg.max
  refine (Any.strings_Split sh146 (by kernel_rfl) ⟨l.toArray⟩ ⟨#[32]⟩ m w (by omega) hm (by decide)).mono fun e w' ⟨h1, h2⟩ => ?_
  have e1 : (⟨l.toArray⟩ : ByteArray).data.toList = l := by simp
  have e2 : (⟨#[32]⟩ : ByteArray).data.toList = [32] := rfl
  have hd := Lib.splitB_data ⟨#[32]⟩ 0 (Lib.countB ⟨l.toArray⟩ ⟨#[32]⟩) ⟨l.toArray⟩
  rw [show Lib.countB ⟨l.toArray⟩ ⟨#[32]⟩ = Lib.count l [32] by unfold Lib.countB; rw [e1, e2]] at hd h1 h2
  rw [e1, e2, split_wds] at hd
  have hlen : (wds 32 l).length = Lib.count l [32] + 1 := by
    rw [← hd, List.length_map, Lib.splitB_all ⟨#[32]⟩ (by decide) 0 (Lib.count l [32]) ⟨l.toArray⟩ (by unfold Lib.countB; rw [e1, e2])]
  have hc : (Lib.splitB ⟨#[32]⟩ 0 (Lib.count l [32]) ⟨l.toArray⟩).map Value.string = encs sv (wds 32 l) := by
    rw [← hd]
    generalize Lib.splitB ⟨#[32]⟩ 0 (Lib.count l [32]) ⟨l.toArray⟩ = Z
    induction Z with
    | nil => rfl
    | cons z Z ih =>
      rw [List.map_cons, List.map_cons, ih]
      simp [encs, sv]
  have hw := wds_len 32 l
  refine ⟨_, h1, ⟨w.heap.size, Lib.count l [32] + 1, [], by rw [hlen], Nat.le_refl _, ?_, ?_, ?_⟩, ?_⟩
  · rw [h2, hc, List.append_nil]
    exact Blk.alloc w _ _
  · rw [List.append_nil, encs_sv_length, hlen]
    omega
  · unfold maxLen; omega
  · rw [h2]
    exact Keep.alloc w _
theorem wordsOf_c (l : List UInt8) (n : Nat) (hn : l.length = n) (hn1 : n ≤ 1000000) (h0 : l ≠ []) (w : World) (hg : Glob w) :
    Calls Tryz.prog 30 #[.string ⟨l.toArray⟩] w (WordsPost l w) := by
  have st := St.start w
  have HE : Hid (decide (l = ([] : List UInt8)) = false) := hid (by simpa using h0)
  have HS := hid (fun w' (hk : Keep [] w w') => strSplit_c l n hn hn1 w' (hg.keep hk))
  have HP := hid (fun (v : Value) (w1 w2 : World) (hk : Keep [] w w1) (h : Gives 9 1 (wds 32 l).length (encs sv (wds 32 l)) w1 v w2) => h.since hk)
  clear h0 hn
  unfold WordsPost
  go_enter Tryz.func30, Tryz.ntmps30
  go_wp2_with (first | ((with_reducible refine gate_sq rfl ?_); refine la_seq (l := l) (m := []) HE.out rfl rfl rfl rfl ?_) | (go_at_call 53; refine (HS.out _ st.keep).mono ?_; rintro _ _ ⟨v, rfl, hgv, hk⟩; replace hgv := HP.out _ _ _ st.keep hgv; replace st := st.call hk; clear hk))
  go_ret
  exact ⟨_, rfl, hgv, st.keep⟩
theorem wordsOf_nil (w : World) : Calls Tryz.prog 30 #[.string ⟨#[]⟩] w fun e w' => e = .returned (.slice none 0 0) ∧ Keep [] w w' := by
  have st := St.start w
  have HE : Hid (decide (([] : List UInt8) = []) = true) := hid (by decide)
  go_enter Tryz.func30, Tryz.ntmps30
  go_wp2_with (first | ((with_reducible refine gate_sq rfl ?_); refine la_seq (l := []) (m := []) HE.out rfl rfl rfl rfl ?_))
  go_ret
  exact ⟨rfl, st.keep⟩
end Go.Proofs.YtlljflmbnbjccaaGreatDoor
/- ReadSheet: the program's walk; no condition. -/
namespace Go.Proofs.YtlljflmbnbjccaaGreatDoor
open Go.RowKit
set_option linter.unusedSimpArgs false
set_option linter.unusedVariables false
theorem shc_err {l : List UInt8} {w w' : World} (h : shtL l = [] ∧ shtC l = 5) (hk : Keep [] w w') : ShotsCode' (shtL l) (shtL l).length (shtC l) (shtC l ≠ 0) w (.returned (.tuple #[.slice none 0 0, .int .i64 5])) w' := by
  rw [h.1, h.2]
  exact ⟨_, rfl, Or.inl ⟨by decide, rfl, rfl⟩, hk⟩
theorem shc_ok {l : List UInt8} {w w' : World} {v : Value} {m : Nat} {Q : Prop} (h : shtOk l = true) (hm : (tws l).length = m) (hv : Gives 55 2 m (encs p8 ((tws l).map pwx)) w v w') (hk : Keep [] w w') : ShotsCode' (shtL l) (shtL l).length (shtC l) Q w (.returned (.tuple #[v, .int .i64 0])) w' := by
  have h2 := sht_yes h
  rw [h2.1, h2.2, List.length_map, hm]
  exact ⟨_, rfl, Or.inr hv, hk⟩
set_option maxHeartbeats 1000000 in
set_option maxRecDepth 100000 in
theorem ReadSheet0_c (w : World) : Calls Tryz.prog 7 #[.string ⟨#[]⟩] w (ShotsCode' (shtL []) (shtL []).length (shtC []) (shtC [] ≠ 0) w) := by
  have st := St.start w
  have HO : Hid (shtOk [] = true) := hid (by decide)
  go_enter Tryz.func7, Tryz.ntmps7
  go_wp2_with (first | ((with_reducible refine gate_bsl rfl ?_); refine ia_bsl0 (sl := 14) st rfl rfl rfl ?_; clear st; intro B14 _ st) | (go_at_call 30; refine (wordsOf_nil _).mono ?_; rintro _ _ ⟨rfl, hk⟩; replace st := st.call hk; clear hk) | ((with_reducible refine gate_lst ?_); (first | ((with_reducible refine' wpl_ung ?_ ?_ ?_); rotate_left 1; (focus exact rfl); (focus exact rfl)) | ((with_reducible refine gate_load rfl ?_); (first | (refine' ia_load1 st rfl rfl rfl ?_ ?_; rotate_left 1; (focus (first | exact N0.out | exact N1.out | exact N2.out | exact N3.out | exact N4.out | exact N5.out | exact G2.out | exact G3.out | exact G4.out | exact G0.out | exact G1.out | (refine frv_get _ _ ?_; (first | omega | (simp; done) | (simp; omega) | (simp [*]; omega))) | exact rfl))) | (refine' ia_load1Z (hb.keep st.keep (by simp)) rfl rfl rfl ?_ ?_; rotate_left 1; (focus exact rfl)) | (refine' ia_load1Z (hb'.keep st.keep (by simp)) rfl rfl rfl ?_ ?_; rotate_left 1; (focus exact rfl)) | (refine' ia_load1C (hb.keep st.keep (by simp)) rfl rfl rfl ?_ ?_; rotate_left 1; (focus (first | exact N0.out | exact N1.out | exact N2.out | exact N3.out | exact N4.out | exact N5.out | exact G2.out | exact G3.out | exact G4.out | exact G0.out | exact G1.out | (refine frv_get _ _ ?_; (first | omega | (simp; done) | (simp; omega) | (simp [*]; omega))) | exact rfl))) | (refine' ia_load1C (hb'.keep st.keep (by simp)) rfl rfl rfl ?_ ?_; rotate_left 1; (focus (first | exact N0.out | exact N1.out | exact N2.out | exact N3.out | exact N4.out | exact N5.out | exact G2.out | exact G3.out | exact G4.out | exact G0.out | exact G1.out | (refine frv_get _ _ ?_; (first | omega | (simp; done) | (simp; omega) | (simp [*]; omega))) | exact rfl))) | (refine' ia_load1B (hb1.keep st.keep (by simp)) rfl rfl rfl ?_ ?_; rotate_left 1; (focus (first | exact N0.out | exact N1.out | exact N2.out | exact N3.out | exact N4.out | exact N5.out | exact G2.out | exact G3.out | exact G4.out | exact G0.out | exact G1.out | (refine frv_get _ _ ?_; (first | omega | (simp; done) | (simp; omega) | (simp [*]; omega))) | exact rfl))) | (refine' ia_load1B (hb2.keep st.keep (by simp)) rfl rfl rfl ?_ ?_; rotate_left 1; (focus (first | exact N0.out | exact N1.out | exact N2.out | exact N3.out | exact N4.out | exact N5.out | exact G2.out | exact G3.out | exact G4.out | exact G0.out | exact G1.out | (refine frv_get _ _ ?_; (first | omega | (simp; done) | (simp; omega) | (simp [*]; omega))) | exact rfl))))) | ((with_reducible refine gate_addr rfl ?_); (first | (refine' ia_slcP HP.out rfl rfl rfl rfl ?_ ?_ ?_) | (refine' ia_slcP HP2.out rfl rfl rfl rfl ?_ ?_ ?_)); rotate_left 1; (focus (first | exact (rfl : (0 : Int) = ((0 : Nat) : Int)) | exact (rfl : (1 : Int) = ((1 : Nat) : Int)) | exact rfl | exact HE1.out | exact HE2.out)); (focus (first | omega | (simp; done) | (simp; omega) | (simp [*]; omega)))) | ((with_reducible refine gate_build rfl ?_); refine' la_build ?_ rfl rfl ?_; rotate_left 1; (focus ((try simp only [List.map_cons, List.map_nil, Act.put, Act.eval, Array.getD_eq_getD_getElem?, List.getElem?_toArray, List.getElem?_cons_succ, List.getElem?_cons_zero, Option.getD_some, List.setIfInBounds_toArray, List.set_cons_succ, List.set_cons_zero, List.getElem_toArray, List.getElem_cons_succ, List.getElem_cons_zero]); (first | (with_reducible exact built_shot _ _) | (with_reducible exact built_shot1 _))))))))
  go_loopw [4, 18] (fun v i wr => v = .slice (some ⟨B14, 0, none⟩) 0 0 ∧ i = .int .i64 0 ∧ St [] w wr [(B14, [], 55)]) (fun _ _ _ => 0)
  case atStart => exact ⟨rfl, rfl, st⟩
  case round =>
    clear st
    obtain ⟨rfl, rfl, st⟩ := hrel
    go_wp2_with (first | ((with_reducible refine gate_lst ?_); (first | ((with_reducible refine' wpl_ung ?_ ?_ ?_); rotate_left 1; (focus exact rfl); (focus exact rfl)) | ((with_reducible refine gate_load rfl ?_); (first | (refine' ia_load1 st rfl rfl rfl ?_ ?_; rotate_left 1; (focus (first | exact N0.out | exact N1.out | exact N2.out | exact N3.out | exact N4.out | exact N5.out | exact G2.out | exact G3.out | exact G4.out | exact G0.out | exact G1.out | (refine frv_get _ _ ?_; (first | omega | (simp; done) | (simp; omega) | (simp [*]; omega))) | exact rfl))) | (refine' ia_load1Z (hb.keep st.keep (by simp)) rfl rfl rfl ?_ ?_; rotate_left 1; (focus exact rfl)) | (refine' ia_load1Z (hb'.keep st.keep (by simp)) rfl rfl rfl ?_ ?_; rotate_left 1; (focus exact rfl)) | (refine' ia_load1C (hb.keep st.keep (by simp)) rfl rfl rfl ?_ ?_; rotate_left 1; (focus (first | exact N0.out | exact N1.out | exact N2.out | exact N3.out | exact N4.out | exact N5.out | exact G2.out | exact G3.out | exact G4.out | exact G0.out | exact G1.out | (refine frv_get _ _ ?_; (first | omega | (simp; done) | (simp; omega) | (simp [*]; omega))) | exact rfl))) | (refine' ia_load1C (hb'.keep st.keep (by simp)) rfl rfl rfl ?_ ?_; rotate_left 1; (focus (first | exact N0.out | exact N1.out | exact N2.out | exact N3.out | exact N4.out | exact N5.out | exact G2.out | exact G3.out | exact G4.out | exact G0.out | exact G1.out | (refine frv_get _ _ ?_; (first | omega | (simp; done) | (simp; omega) | (simp [*]; omega))) | exact rfl))) | (refine' ia_load1B (hb1.keep st.keep (by simp)) rfl rfl rfl ?_ ?_; rotate_left 1; (focus (first | exact N0.out | exact N1.out | exact N2.out | exact N3.out | exact N4.out | exact N5.out | exact G2.out | exact G3.out | exact G4.out | exact G0.out | exact G1.out | (refine frv_get _ _ ?_; (first | omega | (simp; done) | (simp; omega) | (simp [*]; omega))) | exact rfl))) | (refine' ia_load1B (hb2.keep st.keep (by simp)) rfl rfl rfl ?_ ?_; rotate_left 1; (focus (first | exact N0.out | exact N1.out | exact N2.out | exact N3.out | exact N4.out | exact N5.out | exact G2.out | exact G3.out | exact G4.out | exact G0.out | exact G1.out | (refine frv_get _ _ ?_; (first | omega | (simp; done) | (simp; omega) | (simp [*]; omega))) | exact rfl))))) | ((with_reducible refine gate_addr rfl ?_); (first | (refine' ia_slcP HP.out rfl rfl rfl rfl ?_ ?_ ?_) | (refine' ia_slcP HP2.out rfl rfl rfl rfl ?_ ?_ ?_)); rotate_left 1; (focus (first | exact (rfl : (0 : Int) = ((0 : Nat) : Int)) | exact (rfl : (1 : Int) = ((1 : Nat) : Int)) | exact rfl | exact HE1.out | exact HE2.out)); (focus (first | omega | (simp; done) | (simp; omega) | (simp [*]; omega)))) | ((with_reducible refine gate_build rfl ?_); refine' la_build ?_ rfl rfl ?_; rotate_left 1; (focus ((try simp only [List.map_cons, List.map_nil, Act.put, Act.eval, Array.getD_eq_getD_getElem?, List.getElem?_toArray, List.getElem?_cons_succ, List.getElem?_cons_zero, Option.getD_some, List.setIfInBounds_toArray, List.set_cons_succ, List.set_cons_zero, List.getElem_toArray, List.getElem_cons_succ, List.getElem_cons_zero]); (first | (with_reducible exact built_shot _ _) | (with_reducible exact built_shot1 _))))))))
    go_ret2
    exact shc_ok (m := 0) HO.out rfl ⟨B14, 0, [], rfl, out_of st .here, st.get .here, rfl, Nat.zero_le _⟩ st.keep
theorem map_step {f : List UInt8 → Int × Int} {W : List (List UInt8)} {k : Nat} (hk : k < W.length) : encs p8 ((W.take (k + 1)).map f) = encs p8 ((W.take k).map f) ++ p8 (f W[k]) := by
  rw [List.take_succ_eq_append_getElem hk, List.map_append, encs_append]
  simp [encs]
theorem map_len {f : List UInt8 → Int × Int} {W : List (List UInt8)} {k : Nat} (hk : k ≤ W.length) : (encs p8 ((W.take k).map f)).length = k * 2 := by
  rw [encs_length p8_len, List.length_map, List.length_take, Nat.min_eq_left hk]
set_option maxHeartbeats 4000000 in
set_option maxRecDepth 100000 in
theorem ReadSheet1_c (l : List UInt8) (n : Nat) (hn : l.length = n) (hn1 : n ≤ 1000000) (h0 : l ≠ []) (w : World) (hg : Glob w) :
    Calls Tryz.prog 7 #[.string ⟨l.toArray⟩] w (ShotsCode' (shtL l) (shtL l).length (shtC l) (shtC l ≠ 0) w) := by
  have st := St.start w
  have HWD := hid (fun w' (hk : Keep [] w w') => wordsOf_c l n hn hn1 h0 w' (hg.keep hk))
  have ht : tws l = wds 32 l := if_neg h0
  have hel := wds_el 32 l
  have hwl := wds_len 32 l
  obtain ⟨W, hW⟩ : ∃ W, wds 32 l = W := ⟨_, rfl⟩
  unfold WordsPost at HWD
  rw [hW] at HWD hel hwl
  have HTW := hid (ht.trans hW)
  obtain ⟨m, hm⟩ : ∃ m, W.length = m := ⟨_, rfl⟩
  rw [hm] at HWD hwl
  have HM := hid hm
  have hm2 : m ≤ 1000001 := by omega
  have HEL := hid (fun (k : Nat) (hk : k < W.length) => (Nat.le_trans (hel _ (List.getElem_mem hk)) (by omega) : W[k].length ≤ 1000000))
  have HNO := hid (fun (x : List UInt8) (hx : x ∈ W) (h : pwOk x = false) => sht_no (l := l) (by rw [HTW.out]; exact pw_no hx h))
  clear ht hel hwl hW hm h0 hn
  have hg0 := hid hg
  go_enter Tryz.func7, Tryz.ntmps7
  go_wp2_with (first | ((with_reducible refine gate_bsl rfl ?_); refine ia_bsl0 (sl := 14) st rfl rfl rfl ?_; clear st; intro B14 _ st) | (go_at_call 30; refine (HWD.out _ st.keep).mono ?_; rintro _ _ ⟨v, rfl, ⟨g, cap0, spare0, rfl, hg, hbg, hcap0, hcm0⟩, hk⟩; replace st := st.adopt hk hg hbg; clear hk hg hbg) | ((with_reducible refine gate_lst ?_); (first | ((with_reducible refine' wpl_ung ?_ ?_ ?_); rotate_left 1; (focus exact rfl); (focus exact rfl)) | ((with_reducible refine gate_load rfl ?_); (first | (refine' ia_load1 st rfl rfl rfl ?_ ?_; rotate_left 1; (focus (first | exact N0.out | exact N1.out | exact N2.out | exact N3.out | exact N4.out | exact N5.out | exact G2.out | exact G3.out | exact G4.out | exact G0.out | exact G1.out | (refine frv_get _ _ ?_; (first | omega | (simp; done) | (simp; omega) | (simp [*]; omega))) | exact rfl))) | (refine' ia_load1Z (hb.keep st.keep (by simp)) rfl rfl rfl ?_ ?_; rotate_left 1; (focus exact rfl)) | (refine' ia_load1Z (hb'.keep st.keep (by simp)) rfl rfl rfl ?_ ?_; rotate_left 1; (focus exact rfl)) | (refine' ia_load1C (hb.keep st.keep (by simp)) rfl rfl rfl ?_ ?_; rotate_left 1; (focus (first | exact N0.out | exact N1.out | exact N2.out | exact N3.out | exact N4.out | exact N5.out | exact G2.out | exact G3.out | exact G4.out | exact G0.out | exact G1.out | (refine frv_get _ _ ?_; (first | omega | (simp; done) | (simp; omega) | (simp [*]; omega))) | exact rfl))) | (refine' ia_load1C (hb'.keep st.keep (by simp)) rfl rfl rfl ?_ ?_; rotate_left 1; (focus (first | exact N0.out | exact N1.out | exact N2.out | exact N3.out | exact N4.out | exact N5.out | exact G2.out | exact G3.out | exact G4.out | exact G0.out | exact G1.out | (refine frv_get _ _ ?_; (first | omega | (simp; done) | (simp; omega) | (simp [*]; omega))) | exact rfl))) | (refine' ia_load1B (hb1.keep st.keep (by simp)) rfl rfl rfl ?_ ?_; rotate_left 1; (focus (first | exact N0.out | exact N1.out | exact N2.out | exact N3.out | exact N4.out | exact N5.out | exact G2.out | exact G3.out | exact G4.out | exact G0.out | exact G1.out | (refine frv_get _ _ ?_; (first | omega | (simp; done) | (simp; omega) | (simp [*]; omega))) | exact rfl))) | (refine' ia_load1B (hb2.keep st.keep (by simp)) rfl rfl rfl ?_ ?_; rotate_left 1; (focus (first | exact N0.out | exact N1.out | exact N2.out | exact N3.out | exact N4.out | exact N5.out | exact G2.out | exact G3.out | exact G4.out | exact G0.out | exact G1.out | (refine frv_get _ _ ?_; (first | omega | (simp; done) | (simp; omega) | (simp [*]; omega))) | exact rfl))))) | ((with_reducible refine gate_addr rfl ?_); (first | (refine' ia_slcP HP.out rfl rfl rfl rfl ?_ ?_ ?_) | (refine' ia_slcP HP2.out rfl rfl rfl rfl ?_ ?_ ?_)); rotate_left 1; (focus (first | exact (rfl : (0 : Int) = ((0 : Nat) : Int)) | exact (rfl : (1 : Int) = ((1 : Nat) : Int)) | exact rfl | exact HE1.out | exact HE2.out)); (focus (first | omega | (simp; done) | (simp; omega) | (simp [*]; omega)))) | ((with_reducible refine gate_build rfl ?_); refine' la_build ?_ rfl rfl ?_; rotate_left 1; (focus ((try simp only [List.map_cons, List.map_nil, Act.put, Act.eval, Array.getD_eq_getD_getElem?, List.getElem?_toArray, List.getElem?_cons_succ, List.getElem?_cons_zero, Option.getD_some, List.setIfInBounds_toArray, List.set_cons_succ, List.set_cons_zero, List.getElem_toArray, List.getElem_cons_succ, List.getElem_cons_zero]); (first | (with_reducible exact built_shot _ _) | (with_reducible exact built_shot1 _))))))))
  go_loopw [4, 18] (fun v i wr => ∃ k : Nat, k ≤ m ∧ i = .int .i64 k ∧ allTo pwOk W k ∧ Own 55 2 k (encs p8 ((W.take k).map pwx)) [] w wr [(g, encs sv W ++ spare0, 9)] v) (fun _ i _ => m - (intOf i).toNat)
  case atStart => exact ⟨0, by omega, rfl, fun j h hj => absurd hj (by omega), B14, 0, [], rfl, (by simpa [encs] using st.swap), rfl, Nat.zero_le _⟩
  case round =>
    clear st
    obtain ⟨k, hk, rfl, hall, gO, cap, spare, rfl, st, hcap, hcm⟩ := hrel
    have HC := hid hcap
    have HALL := hid hall
    clear hcap hall
    by_cases hlt : k < m
    · have hd : decide ((k : Int) < (m : Int)) = true := by simpa using hlt
      have hkW : k < W.length := by rw [HM.out]; exact hlt
      have hxl := HEL.out k hkW
      have HSTEP := hid (HALL.out.step hkW)
      have HMS := hid (map_step (f := pwx) hkW)
      have HML := hid (map_len (f := pwx) (W := W) (k := k) (by omega))
      have hmem : W[k] ∈ W := List.getElem_mem hkW
      obtain ⟨x, hx⟩ : ∃ x, W[k] = x := ⟨_, rfl⟩
      have HGET := hid (words_get (sp := spare0) hkW hx)
      rw [hx] at hxl HSTEP HMS hmem
      have HERR := hid (HNO.out x hmem)
      clear hx hkW hmem
      rcases cut_wds 120 x with ⟨p, q, c1, c2, c3, c4⟩ | ⟨c1, c2, c3⟩
      · have HCUT := hid (fun w' (hk : Keep [] w w') => strCut_c x x.length rfl hxl w' (hg0.out.keep hk) c1)
        have hpl : p.length ≤ 1000000 := by rw [c3] at hxl; simp at hxl; omega
        have hql : q.length ≤ 1000000 := by rw [c3] at hxl; simp at hxl; omega
        have HR1 : Hid (∀ w', Keep [] w w' → Calls Tryz.prog 32 #[.string ⟨p.toArray⟩, .int .i64 0, .int .i64 39] w' (RdPost 0 39 p w')) := hid (fun w' hk => readDecimal_c p p.length rfl hpl 0 39 (by decide) w' (hg0.out.keep hk))
        have HR2 : Hid (∀ w', Keep [] w w' → Calls Tryz.prog 32 #[.string ⟨q.toArray⟩, .int .i64 1, .int .i64 24] w' (RdPost 1 24 q w')) := hid (fun w' hk => readDecimal_c q q.length rfl hql 1 24 (by decide) w' (hg0.out.keep hk))
        unfold RdPost at HR1 HR2
        have hpw : pw x = match rdn 0 39 p, rdn 1 24 q with
          | some i, some j => some (i, j)
          | _, _ => none := by unfold pw; rw [c1]; all_goals rfl
        clear c1 c2 c3 c4
        cases u1 : rdn 0 39 p with
        | none =>
          rw [u1] at HR1 hpw
          have hE := hid (HERR.out (by unfold pwOk; rw [hpw]; rfl))
          clear hpw u1
          simp only [Option.isSome_none] at HR1
          go_wp2_with (first | ((with_reducible refine gate_dst (N := 21) rfl ?_); ((with_reducible refine gate_load rfl ?_); refine wpl_load1 rfl _ _ rfl _ rfl OneC.out (.string ⟨x.toArray⟩) ((st.get (by repeat (first | exact At.here | apply At.there))).cellv HGET.out) ?_)) | (go_at_call 31; refine (HCUT.out _ st.keep).mono ?_; rintro _ _ ⟨rfl, hk⟩; replace st := st.call hk; clear hk) | (go_at_call 32; (first | (with_reducible refine (HR1.out _ st.keep).mono ?_) | (with_reducible refine (HR2.out _ st.keep).mono ?_)); rintro _ _ ⟨v, rfl, hv, hk⟩; replace st := st.call hk; clear hk hv) | ((with_reducible refine gate_lst ?_); (first | ((with_reducible refine' wpl_ung ?_ ?_ ?_); rotate_left 1; (focus exact rfl); (focus exact rfl)) | ((with_reducible refine gate_load rfl ?_); (first | (refine' ia_load1 st rfl rfl rfl ?_ ?_; rotate_left 1; (focus (first | exact N0.out | exact N1.out | exact N2.out | exact N3.out | exact N4.out | exact N5.out | exact G2.out | exact G3.out | exact G4.out | exact G0.out | exact G1.out | (refine frv_get _ _ ?_; (first | omega | (simp; done) | (simp; omega) | (simp [*]; omega))) | exact rfl))) | (refine' ia_load1Z (hb.keep st.keep (by simp)) rfl rfl rfl ?_ ?_; rotate_left 1; (focus exact rfl)) | (refine' ia_load1Z (hb'.keep st.keep (by simp)) rfl rfl rfl ?_ ?_; rotate_left 1; (focus exact rfl)) | (refine' ia_load1C (hb.keep st.keep (by simp)) rfl rfl rfl ?_ ?_; rotate_left 1; (focus (first | exact N0.out | exact N1.out | exact N2.out | exact N3.out | exact N4.out | exact N5.out | exact G2.out | exact G3.out | exact G4.out | exact G0.out | exact G1.out | (refine frv_get _ _ ?_; (first | omega | (simp; done) | (simp; omega) | (simp [*]; omega))) | exact rfl))) | (refine' ia_load1C (hb'.keep st.keep (by simp)) rfl rfl rfl ?_ ?_; rotate_left 1; (focus (first | exact N0.out | exact N1.out | exact N2.out | exact N3.out | exact N4.out | exact N5.out | exact G2.out | exact G3.out | exact G4.out | exact G0.out | exact G1.out | (refine frv_get _ _ ?_; (first | omega | (simp; done) | (simp; omega) | (simp [*]; omega))) | exact rfl))) | (refine' ia_load1B (hb1.keep st.keep (by simp)) rfl rfl rfl ?_ ?_; rotate_left 1; (focus (first | exact N0.out | exact N1.out | exact N2.out | exact N3.out | exact N4.out | exact N5.out | exact G2.out | exact G3.out | exact G4.out | exact G0.out | exact G1.out | (refine frv_get _ _ ?_; (first | omega | (simp; done) | (simp; omega) | (simp [*]; omega))) | exact rfl))) | (refine' ia_load1B (hb2.keep st.keep (by simp)) rfl rfl rfl ?_ ?_; rotate_left 1; (focus (first | exact N0.out | exact N1.out | exact N2.out | exact N3.out | exact N4.out | exact N5.out | exact G2.out | exact G3.out | exact G4.out | exact G0.out | exact G1.out | (refine frv_get _ _ ?_; (first | omega | (simp; done) | (simp; omega) | (simp [*]; omega))) | exact rfl))))) | ((with_reducible refine gate_addr rfl ?_); (first | (refine' ia_slcP HP.out rfl rfl rfl rfl ?_ ?_ ?_) | (refine' ia_slcP HP2.out rfl rfl rfl rfl ?_ ?_ ?_)); rotate_left 1; (focus (first | exact (rfl : (0 : Int) = ((0 : Nat) : Int)) | exact (rfl : (1 : Int) = ((1 : Nat) : Int)) | exact rfl | exact HE1.out | exact HE2.out)); (focus (first | omega | (simp; done) | (simp; omega) | (simp [*]; omega)))) | ((with_reducible refine gate_build rfl ?_); refine' la_build ?_ rfl rfl ?_; rotate_left 1; (focus ((try simp only [List.map_cons, List.map_nil, Act.put, Act.eval, Array.getD_eq_getD_getElem?, List.getElem?_toArray, List.getElem?_cons_succ, List.getElem?_cons_zero, Option.getD_some, List.setIfInBounds_toArray, List.set_cons_succ, List.set_cons_zero, List.getElem_toArray, List.getElem_cons_succ, List.getElem_cons_zero]); (first | (with_reducible exact built_shot _ _) | (with_reducible exact built_shot1 _))))))))
          go_ret2
          exact shc_err hE.out st.keep
        | some i =>
          rw [u1] at HR1 hpw
          cases u2 : rdn 1 24 q with
          | none =>
            rw [u2] at HR2 hpw
            have hE := hid (HERR.out (by unfold pwOk; rw [hpw]; rfl))
            clear hpw u1 u2
            simp only [Option.isSome_none, Option.isSome_some] at HR1 HR2
            go_wp2_with (first | ((with_reducible refine gate_dst (N := 21) rfl ?_); ((with_reducible refine gate_load rfl ?_); refine wpl_load1 rfl _ _ rfl _ rfl OneC.out (.string ⟨x.toArray⟩) ((st.get (by repeat (first | exact At.here | apply At.there))).cellv HGET.out) ?_)) | (go_at_call 31; refine (HCUT.out _ st.keep).mono ?_; rintro _ _ ⟨rfl, hk⟩; replace st := st.call hk; clear hk) | (go_at_call 32; (first | (with_reducible refine (HR1.out _ st.keep).mono ?_) | (with_reducible refine (HR2.out _ st.keep).mono ?_)); rintro _ _ ⟨v, rfl, hv, hk⟩; replace st := st.call hk; clear hk hv) | ((with_reducible refine gate_lst ?_); (first | ((with_reducible refine' wpl_ung ?_ ?_ ?_); rotate_left 1; (focus exact rfl); (focus exact rfl)) | ((with_reducible refine gate_load rfl ?_); (first | (refine' ia_load1 st rfl rfl rfl ?_ ?_; rotate_left 1; (focus (first | exact N0.out | exact N1.out | exact N2.out | exact N3.out | exact N4.out | exact N5.out | exact G2.out | exact G3.out | exact G4.out | exact G0.out | exact G1.out | (refine frv_get _ _ ?_; (first | omega | (simp; done) | (simp; omega) | (simp [*]; omega))) | exact rfl))) | (refine' ia_load1Z (hb.keep st.keep (by simp)) rfl rfl rfl ?_ ?_; rotate_left 1; (focus exact rfl)) | (refine' ia_load1Z (hb'.keep st.keep (by simp)) rfl rfl rfl ?_ ?_; rotate_left 1; (focus exact rfl)) | (refine' ia_load1C (hb.keep st.keep (by simp)) rfl rfl rfl ?_ ?_; rotate_left 1; (focus (first | exact N0.out | exact N1.out | exact N2.out | exact N3.out | exact N4.out | exact N5.out | exact G2.out | exact G3.out | exact G4.out | exact G0.out | exact G1.out | (refine frv_get _ _ ?_; (first | omega | (simp; done) | (simp; omega) | (simp [*]; omega))) | exact rfl))) | (refine' ia_load1C (hb'.keep st.keep (by simp)) rfl rfl rfl ?_ ?_; rotate_left 1; (focus (first | exact N0.out | exact N1.out | exact N2.out | exact N3.out | exact N4.out | exact N5.out | exact G2.out | exact G3.out | exact G4.out | exact G0.out | exact G1.out | (refine frv_get _ _ ?_; (first | omega | (simp; done) | (simp; omega) | (simp [*]; omega))) | exact rfl))) | (refine' ia_load1B (hb1.keep st.keep (by simp)) rfl rfl rfl ?_ ?_; rotate_left 1; (focus (first | exact N0.out | exact N1.out | exact N2.out | exact N3.out | exact N4.out | exact N5.out | exact G2.out | exact G3.out | exact G4.out | exact G0.out | exact G1.out | (refine frv_get _ _ ?_; (first | omega | (simp; done) | (simp; omega) | (simp [*]; omega))) | exact rfl))) | (refine' ia_load1B (hb2.keep st.keep (by simp)) rfl rfl rfl ?_ ?_; rotate_left 1; (focus (first | exact N0.out | exact N1.out | exact N2.out | exact N3.out | exact N4.out | exact N5.out | exact G2.out | exact G3.out | exact G4.out | exact G0.out | exact G1.out | (refine frv_get _ _ ?_; (first | omega | (simp; done) | (simp; omega) | (simp [*]; omega))) | exact rfl))))) | ((with_reducible refine gate_addr rfl ?_); (first | (refine' ia_slcP HP.out rfl rfl rfl rfl ?_ ?_ ?_) | (refine' ia_slcP HP2.out rfl rfl rfl rfl ?_ ?_ ?_)); rotate_left 1; (focus (first | exact (rfl : (0 : Int) = ((0 : Nat) : Int)) | exact (rfl : (1 : Int) = ((1 : Nat) : Int)) | exact rfl | exact HE1.out | exact HE2.out)); (focus (first | omega | (simp; done) | (simp; omega) | (simp [*]; omega)))) | ((with_reducible refine gate_build rfl ?_); refine' la_build ?_ rfl rfl ?_; rotate_left 1; (focus ((try simp only [List.map_cons, List.map_nil, Act.put, Act.eval, Array.getD_eq_getD_getElem?, List.getElem?_toArray, List.getElem?_cons_succ, List.getElem?_cons_zero, Option.getD_some, List.setIfInBounds_toArray, List.set_cons_succ, List.set_cons_zero, List.getElem_toArray, List.getElem_cons_succ, List.getElem_cons_zero]); (first | (with_reducible exact built_shot _ _) | (with_reducible exact built_shot1 _))))))))
            go_ret2
            exact shc_err hE.out st.keep
          | some j =>
            rw [u2] at HR2 hpw
            obtain ⟨i1, hpi, i2, i3⟩ := rdn_some u1
            obtain ⟨j1, hqj, j2, j3⟩ := rdn_some u2
            have hS := hid (HSTEP.out (by unfold pwOk; rw [hpw]; rfl))
            have hX : Hid (pwx x = ((i : Int), (j : Int))) := hid (by unfold pwx; rw [hpw]; rfl)
            clear hpw u1 u2 hpi hqj
            simp only [Option.isSome_some] at HR1 HR2
            go_wp2_with (first | ((with_reducible refine gate_dst (N := 21) rfl ?_); ((with_reducible refine gate_load rfl ?_); refine wpl_load1 rfl _ _ rfl _ rfl OneC.out (.string ⟨x.toArray⟩) ((st.get (by repeat (first | exact At.here | apply At.there))).cellv HGET.out) ?_)) | (go_at_call 31; refine (HCUT.out _ st.keep).mono ?_; rintro _ _ ⟨rfl, hk⟩; replace st := st.call hk; clear hk) | (go_at_call 32; (first | (with_reducible refine (HR1.out _ st.keep).mono ?_) | (with_reducible refine (HR2.out _ st.keep).mono ?_)); rintro _ _ ⟨v, rfl, hv, hk⟩; obtain rfl := hv _ rfl; replace st := st.call hk; clear hk hv) | ((with_reducible refine gate_bsl rfl ?_); refine ia_bsl1 (sl := 54) st rfl rfl rfl rfl rfl ?_ (by decide) ?_; (focus (first | rfl | (simp; done) | (simp; assumption) | (simp; omega) | (simp [*]; done))); clear st; intro B54 _ st) | ((with_reducible refine gate_app rfl ?_); refine ia_appendR (news := (p8 ((i : Int), (j : Int)))) (xs := (encs p8 ((W.take k).map pwx))) (spare := spare) st rfl rfl rfl rfl HML.out HC.out hcm (.fr (st.get (by repeat (first | exact At.here | apply At.there)))) (fun h => by cases h) (p8_len _) (p8_one _) (by unfold maxLen; omega) (by omega) ?_; clear st; intro g2 cap2 spare2 _ st hcap2 hcm2; (try simp only [List.set_cons_zero, List.set_cons_succ] at st)) | ((with_reducible refine gate_lst ?_); (first | ((with_reducible refine' wpl_ung ?_ ?_ ?_); rotate_left 1; (focus exact rfl); (focus exact rfl)) | ((with_reducible refine gate_load rfl ?_); (first | (refine' ia_load1 st rfl rfl rfl ?_ ?_; rotate_left 1; (focus (first | exact N0.out | exact N1.out | exact N2.out | exact N3.out | exact N4.out | exact N5.out | exact G2.out | exact G3.out | exact G4.out | exact G0.out | exact G1.out | (refine frv_get _ _ ?_; (first | omega | (simp; done) | (simp; omega) | (simp [*]; omega))) | exact rfl))) | (refine' ia_load1Z (hb.keep st.keep (by simp)) rfl rfl rfl ?_ ?_; rotate_left 1; (focus exact rfl)) | (refine' ia_load1Z (hb'.keep st.keep (by simp)) rfl rfl rfl ?_ ?_; rotate_left 1; (focus exact rfl)) | (refine' ia_load1C (hb.keep st.keep (by simp)) rfl rfl rfl ?_ ?_; rotate_left 1; (focus (first | exact N0.out | exact N1.out | exact N2.out | exact N3.out | exact N4.out | exact N5.out | exact G2.out | exact G3.out | exact G4.out | exact G0.out | exact G1.out | (refine frv_get _ _ ?_; (first | omega | (simp; done) | (simp; omega) | (simp [*]; omega))) | exact rfl))) | (refine' ia_load1C (hb'.keep st.keep (by simp)) rfl rfl rfl ?_ ?_; rotate_left 1; (focus (first | exact N0.out | exact N1.out | exact N2.out | exact N3.out | exact N4.out | exact N5.out | exact G2.out | exact G3.out | exact G4.out | exact G0.out | exact G1.out | (refine frv_get _ _ ?_; (first | omega | (simp; done) | (simp; omega) | (simp [*]; omega))) | exact rfl))) | (refine' ia_load1B (hb1.keep st.keep (by simp)) rfl rfl rfl ?_ ?_; rotate_left 1; (focus (first | exact N0.out | exact N1.out | exact N2.out | exact N3.out | exact N4.out | exact N5.out | exact G2.out | exact G3.out | exact G4.out | exact G0.out | exact G1.out | (refine frv_get _ _ ?_; (first | omega | (simp; done) | (simp; omega) | (simp [*]; omega))) | exact rfl))) | (refine' ia_load1B (hb2.keep st.keep (by simp)) rfl rfl rfl ?_ ?_; rotate_left 1; (focus (first | exact N0.out | exact N1.out | exact N2.out | exact N3.out | exact N4.out | exact N5.out | exact G2.out | exact G3.out | exact G4.out | exact G0.out | exact G1.out | (refine frv_get _ _ ?_; (first | omega | (simp; done) | (simp; omega) | (simp [*]; omega))) | exact rfl))))) | ((with_reducible refine gate_addr rfl ?_); (first | (refine' ia_slcP HP.out rfl rfl rfl rfl ?_ ?_ ?_) | (refine' ia_slcP HP2.out rfl rfl rfl rfl ?_ ?_ ?_)); rotate_left 1; (focus (first | exact (rfl : (0 : Int) = ((0 : Nat) : Int)) | exact (rfl : (1 : Int) = ((1 : Nat) : Int)) | exact rfl | exact HE1.out | exact HE2.out)); (focus (first | omega | (simp; done) | (simp; omega) | (simp [*]; omega)))) | ((with_reducible refine gate_build rfl ?_); refine' la_build ?_ rfl rfl ?_; rotate_left 1; (focus ((try simp only [List.map_cons, List.map_nil, Act.put, Act.eval, Array.getD_eq_getD_getElem?, List.getElem?_toArray, List.getElem?_cons_succ, List.getElem?_cons_zero, Option.getD_some, List.setIfInBounds_toArray, List.set_cons_succ, List.set_cons_zero, List.getElem_toArray, List.getElem_cons_succ, List.getElem_cons_zero]); (first | (with_reducible exact built_shot _ _) | (with_reducible exact built_shot1 _))))))))
            go_roundw
            case rel => exact ⟨k + 1, by omega, by go_num, hS.out, g2, cap2, spare2, rfl, by rw [HMS.out, hX.out]; exact st.sbl (by simp) (by have := st.nd; simp at this ⊢; omega), by rw [HMS.out, hX.out]; exact hcap2, hcm2⟩
            case measure => first | (simp [intOf]; done) | (simp [intOf]; omega)
      · have HCUT := hid (fun w' (hk : Keep [] w w') => strCut_c x x.length rfl hxl w' (hg0.out.keep hk) c1)
        have HR1 : Hid (∀ w', Keep [] w w' → Calls Tryz.prog 32 #[.string ⟨x.toArray⟩, .int .i64 0, .int .i64 39] w' (RdPost 0 39 x w')) := hid (fun w' hk => readDecimal_c x x.length rfl hxl 0 39 (by decide) w' (hg0.out.keep hk))
        have HR2 : Hid (∀ w', Keep [] w w' → Calls Tryz.prog 32 #[.string ⟨#[]⟩, .int .i64 1, .int .i64 24] w' (RdPost 1 24 [] w')) := hid (fun w' hk => readDecimal_c [] 0 rfl (by omega) 1 24 (by decide) w' (hg0.out.keep hk))
        unfold RdPost at HR1 HR2
        have hE := hid (HERR.out (by unfold pwOk pw; rw [c1]; rfl))
        clear c1 c2 c3
        go_wp2_with (first | ((with_reducible refine gate_dst (N := 21) rfl ?_); ((with_reducible refine gate_load rfl ?_); refine wpl_load1 rfl _ _ rfl _ rfl OneC.out (.string ⟨x.toArray⟩) ((st.get (by repeat (first | exact At.here | apply At.there))).cellv HGET.out) ?_)) | (go_at_call 31; refine (HCUT.out _ st.keep).mono ?_; rintro _ _ ⟨rfl, hk⟩; replace st := st.call hk; clear hk) | (go_at_call 32; (first | (with_reducible refine (HR1.out _ st.keep).mono ?_) | (with_reducible refine (HR2.out _ st.keep).mono ?_)); rintro _ _ ⟨v, rfl, hv, hk⟩; replace st := st.call hk; clear hk hv) | ((with_reducible refine gate_lst ?_); (first | ((with_reducible refine' wpl_ung ?_ ?_ ?_); rotate_left 1; (focus exact rfl); (focus exact rfl)) | ((with_reducible refine gate_load rfl ?_); (first | (refine' ia_load1 st rfl rfl rfl ?_ ?_; rotate_left 1; (focus (first | exact N0.out | exact N1.out | exact N2.out | exact N3.out | exact N4.out | exact N5.out | exact G2.out | exact G3.out | exact G4.out | exact G0.out | exact G1.out | (refine frv_get _ _ ?_; (first | omega | (simp; done) | (simp; omega) | (simp [*]; omega))) | exact rfl))) | (refine' ia_load1Z (hb.keep st.keep (by simp)) rfl rfl rfl ?_ ?_; rotate_left 1; (focus exact rfl)) | (refine' ia_load1Z (hb'.keep st.keep (by simp)) rfl rfl rfl ?_ ?_; rotate_left 1; (focus exact rfl)) | (refine' ia_load1C (hb.keep st.keep (by simp)) rfl rfl rfl ?_ ?_; rotate_left 1; (focus (first | exact N0.out | exact N1.out | exact N2.out | exact N3.out | exact N4.out | exact N5.out | exact G2.out | exact G3.out | exact G4.out | exact G0.out | exact G1.out | (refine frv_get _ _ ?_; (first | omega | (simp; done) | (simp; omega) | (simp [*]; omega))) | exact rfl))) | (refine' ia_load1C (hb'.keep st.keep (by simp)) rfl rfl rfl ?_ ?_; rotate_left 1; (focus (first | exact N0.out | exact N1.out | exact N2.out | exact N3.out | exact N4.out | exact N5.out | exact G2.out | exact G3.out | exact G4.out | exact G0.out | exact G1.out | (refine frv_get _ _ ?_; (first | omega | (simp; done) | (simp; omega) | (simp [*]; omega))) | exact rfl))) | (refine' ia_load1B (hb1.keep st.keep (by simp)) rfl rfl rfl ?_ ?_; rotate_left 1; (focus (first | exact N0.out | exact N1.out | exact N2.out | exact N3.out | exact N4.out | exact N5.out | exact G2.out | exact G3.out | exact G4.out | exact G0.out | exact G1.out | (refine frv_get _ _ ?_; (first | omega | (simp; done) | (simp; omega) | (simp [*]; omega))) | exact rfl))) | (refine' ia_load1B (hb2.keep st.keep (by simp)) rfl rfl rfl ?_ ?_; rotate_left 1; (focus (first | exact N0.out | exact N1.out | exact N2.out | exact N3.out | exact N4.out | exact N5.out | exact G2.out | exact G3.out | exact G4.out | exact G0.out | exact G1.out | (refine frv_get _ _ ?_; (first | omega | (simp; done) | (simp; omega) | (simp [*]; omega))) | exact rfl))))) | ((with_reducible refine gate_addr rfl ?_); (first | (refine' ia_slcP HP.out rfl rfl rfl rfl ?_ ?_ ?_) | (refine' ia_slcP HP2.out rfl rfl rfl rfl ?_ ?_ ?_)); rotate_left 1; (focus (first | exact (rfl : (0 : Int) = ((0 : Nat) : Int)) | exact (rfl : (1 : Int) = ((1 : Nat) : Int)) | exact rfl | exact HE1.out | exact HE2.out)); (focus (first | omega | (simp; done) | (simp; omega) | (simp [*]; omega)))) | ((with_reducible refine gate_build rfl ?_); refine' la_build ?_ rfl rfl ?_; rotate_left 1; (focus ((try simp only [List.map_cons, List.map_nil, Act.put, Act.eval, Array.getD_eq_getD_getElem?, List.getElem?_toArray, List.getElem?_cons_succ, List.getElem?_cons_zero, Option.getD_some, List.setIfInBounds_toArray, List.set_cons_succ, List.set_cons_zero, List.getElem_toArray, List.getElem_cons_succ, List.getElem_cons_zero]); (first | (with_reducible exact built_shot _ _) | (with_reducible exact built_shot1 _))))))))
        go_ret2
        exact shc_err hE.out st.keep
    · obtain rfl : k = m := by omega
      have hA := HALL.out.all HM.out
      by_cases h80 : 80 < k
      · have hd2 : decide ((80 : Int) < (k : Int)) = true := by simp; omega
        have hE := hid (sht_bad (l := l) (by unfold shtOk; rw [HTW.out, HM.out, hA]; simp; omega))
        clear hA
        go_wp2_with (first | ((with_reducible refine gate_lst ?_); (first | ((with_reducible refine' wpl_ung ?_ ?_ ?_); rotate_left 1; (focus exact rfl); (focus exact rfl)) | ((with_reducible refine gate_load rfl ?_); (first | (refine' ia_load1 st rfl rfl rfl ?_ ?_; rotate_left 1; (focus (first | exact N0.out | exact N1.out | exact N2.out | exact N3.out | exact N4.out | exact N5.out | exact G2.out | exact G3.out | exact G4.out | exact G0.out | exact G1.out | (refine frv_get _ _ ?_; (first | omega | (simp; done) | (simp; omega) | (simp [*]; omega))) | exact rfl))) | (refine' ia_load1Z (hb.keep st.keep (by simp)) rfl rfl rfl ?_ ?_; rotate_left 1; (focus exact rfl)) | (refine' ia_load1Z (hb'.keep st.keep (by simp)) rfl rfl rfl ?_ ?_; rotate_left 1; (focus exact rfl)) | (refine' ia_load1C (hb.keep st.keep (by simp)) rfl rfl rfl ?_ ?_; rotate_left 1; (focus (first | exact N0.out | exact N1.out | exact N2.out | exact N3.out | exact N4.out | exact N5.out | exact G2.out | exact G3.out | exact G4.out | exact G0.out | exact G1.out | (refine frv_get _ _ ?_; (first | omega | (simp; done) | (simp; omega) | (simp [*]; omega))) | exact rfl))) | (refine' ia_load1C (hb'.keep st.keep (by simp)) rfl rfl rfl ?_ ?_; rotate_left 1; (focus (first | exact N0.out | exact N1.out | exact N2.out | exact N3.out | exact N4.out | exact N5.out | exact G2.out | exact G3.out | exact G4.out | exact G0.out | exact G1.out | (refine frv_get _ _ ?_; (first | omega | (simp; done) | (simp; omega) | (simp [*]; omega))) | exact rfl))) | (refine' ia_load1B (hb1.keep st.keep (by simp)) rfl rfl rfl ?_ ?_; rotate_left 1; (focus (first | exact N0.out | exact N1.out | exact N2.out | exact N3.out | exact N4.out | exact N5.out | exact G2.out | exact G3.out | exact G4.out | exact G0.out | exact G1.out | (refine frv_get _ _ ?_; (first | omega | (simp; done) | (simp; omega) | (simp [*]; omega))) | exact rfl))) | (refine' ia_load1B (hb2.keep st.keep (by simp)) rfl rfl rfl ?_ ?_; rotate_left 1; (focus (first | exact N0.out | exact N1.out | exact N2.out | exact N3.out | exact N4.out | exact N5.out | exact G2.out | exact G3.out | exact G4.out | exact G0.out | exact G1.out | (refine frv_get _ _ ?_; (first | omega | (simp; done) | (simp; omega) | (simp [*]; omega))) | exact rfl))))) | ((with_reducible refine gate_addr rfl ?_); (first | (refine' ia_slcP HP.out rfl rfl rfl rfl ?_ ?_ ?_) | (refine' ia_slcP HP2.out rfl rfl rfl rfl ?_ ?_ ?_)); rotate_left 1; (focus (first | exact (rfl : (0 : Int) = ((0 : Nat) : Int)) | exact (rfl : (1 : Int) = ((1 : Nat) : Int)) | exact rfl | exact HE1.out | exact HE2.out)); (focus (first | omega | (simp; done) | (simp; omega) | (simp [*]; omega)))) | ((with_reducible refine gate_build rfl ?_); refine' la_build ?_ rfl rfl ?_; rotate_left 1; (focus ((try simp only [List.map_cons, List.map_nil, Act.put, Act.eval, Array.getD_eq_getD_getElem?, List.getElem?_toArray, List.getElem?_cons_succ, List.getElem?_cons_zero, Option.getD_some, List.setIfInBounds_toArray, List.set_cons_succ, List.set_cons_zero, List.getElem_toArray, List.getElem_cons_succ, List.getElem_cons_zero]); (first | (with_reducible exact built_shot _ _) | (with_reducible exact built_shot1 _))))))))
        go_ret2
        exact shc_err hE.out st.keep
      · have hd2 : decide ((80 : Int) < (k : Int)) = false := by simp; omega
        have hO := hid (show shtOk l = true by unfold shtOk; rw [HTW.out, HM.out, hA]; simp; omega)
        have HTK : Hid ((W.take k).map pwx = (tws l).map pwx) := hid (by rw [HTW.out, ← HM.out, List.take_length])
        have HLN : Hid ((tws l).length = k) := hid (by rw [HTW.out, HM.out])
        clear hA
        go_wp2_with (first | ((with_reducible refine gate_lst ?_); (first | ((with_reducible refine' wpl_ung ?_ ?_ ?_); rotate_left 1; (focus exact rfl); (focus exact rfl)) | ((with_reducible refine gate_load rfl ?_); (first | (refine' ia_load1 st rfl rfl rfl ?_ ?_; rotate_left 1; (focus (first | exact N0.out | exact N1.out | exact N2.out | exact N3.out | exact N4.out | exact N5.out | exact G2.out | exact G3.out | exact G4.out | exact G0.out | exact G1.out | (refine frv_get _ _ ?_; (first | omega | (simp; done) | (simp; omega) | (simp [*]; omega))) | exact rfl))) | (refine' ia_load1Z (hb.keep st.keep (by simp)) rfl rfl rfl ?_ ?_; rotate_left 1; (focus exact rfl)) | (refine' ia_load1Z (hb'.keep st.keep (by simp)) rfl rfl rfl ?_ ?_; rotate_left 1; (focus exact rfl)) | (refine' ia_load1C (hb.keep st.keep (by simp)) rfl rfl rfl ?_ ?_; rotate_left 1; (focus (first | exact N0.out | exact N1.out | exact N2.out | exact N3.out | exact N4.out | exact N5.out | exact G2.out | exact G3.out | exact G4.out | exact G0.out | exact G1.out | (refine frv_get _ _ ?_; (first | omega | (simp; done) | (simp; omega) | (simp [*]; omega))) | exact rfl))) | (refine' ia_load1C (hb'.keep st.keep (by simp)) rfl rfl rfl ?_ ?_; rotate_left 1; (focus (first | exact N0.out | exact N1.out | exact N2.out | exact N3.out | exact N4.out | exact N5.out | exact G2.out | exact G3.out | exact G4.out | exact G0.out | exact G1.out | (refine frv_get _ _ ?_; (first | omega | (simp; done) | (simp; omega) | (simp [*]; omega))) | exact rfl))) | (refine' ia_load1B (hb1.keep st.keep (by simp)) rfl rfl rfl ?_ ?_; rotate_left 1; (focus (first | exact N0.out | exact N1.out | exact N2.out | exact N3.out | exact N4.out | exact N5.out | exact G2.out | exact G3.out | exact G4.out | exact G0.out | exact G1.out | (refine frv_get _ _ ?_; (first | omega | (simp; done) | (simp; omega) | (simp [*]; omega))) | exact rfl))) | (refine' ia_load1B (hb2.keep st.keep (by simp)) rfl rfl rfl ?_ ?_; rotate_left 1; (focus (first | exact N0.out | exact N1.out | exact N2.out | exact N3.out | exact N4.out | exact N5.out | exact G2.out | exact G3.out | exact G4.out | exact G0.out | exact G1.out | (refine frv_get _ _ ?_; (first | omega | (simp; done) | (simp; omega) | (simp [*]; omega))) | exact rfl))))) | ((with_reducible refine gate_addr rfl ?_); (first | (refine' ia_slcP HP.out rfl rfl rfl rfl ?_ ?_ ?_) | (refine' ia_slcP HP2.out rfl rfl rfl rfl ?_ ?_ ?_)); rotate_left 1; (focus (first | exact (rfl : (0 : Int) = ((0 : Nat) : Int)) | exact (rfl : (1 : Int) = ((1 : Nat) : Int)) | exact rfl | exact HE1.out | exact HE2.out)); (focus (first | omega | (simp; done) | (simp; omega) | (simp [*]; omega)))) | ((with_reducible refine gate_build rfl ?_); refine' la_build ?_ rfl rfl ?_; rotate_left 1; (focus ((try simp only [List.map_cons, List.map_nil, Act.put, Act.eval, Array.getD_eq_getD_getElem?, List.getElem?_toArray, List.getElem?_cons_succ, List.getElem?_cons_zero, Option.getD_some, List.setIfInBounds_toArray, List.set_cons_succ, List.set_cons_zero, List.getElem_toArray, List.getElem_cons_succ, List.getElem_cons_zero]); (first | (with_reducible exact built_shot _ _) | (with_reducible exact built_shot1 _))))))))
        go_ret2
        exact shc_ok hO.out HLN.out ⟨gO, cap, spare, rfl, out_of st .here, by rw [← HTK.out]; exact st.get .here, by rw [← HTK.out]; exact HC.out, hcm⟩ st.keep
theorem ReadSheet_c (l : List UInt8) (n : Nat) (hn : l.length = n) (hn1 : n ≤ 1000000) (w : World) (hg : Glob w) :
    Calls Tryz.prog 7 #[.string ⟨l.toArray⟩] w (ShotsCode' (shtL l) (shtL l).length (shtC l) (shtC l ≠ 0) w) := by
  by_cases h : l = []
  · subst h; exact ReadSheet0_c w
  · exact ReadSheet1_c l n hn hn1 h w hg
end Go.Proofs.YtlljflmbnbjccaaGreatDoor
/- A sheet's text is read back as the sheet: plain mathematics; no condition. -/
namespace Go.Proofs.YtlljflmbnbjccaaGreatDoor
open Go.RowKit
set_option linter.unusedSimpArgs false
set_option linter.unusedVariables false
theorem wds_app {c : UInt8} {x r : List UInt8} (h : c ∉ x) : wds c (x ++ c :: r) = x :: wds c r := by
  induction x with
  | nil => rw [List.nil_append, wds, if_pos rfl]
  | cons b x ih =>
    have hb : b ≠ c := fun e => h (by rw [e]; simp)
    rw [List.cons_append, wds, if_neg hb, ih (fun hm => h (List.mem_cons_of_mem _ hm))]
    rfl
theorem join_two (x y : List UInt8) (r : List (List UInt8)) : Lib.join (x :: y :: r) [32] = x ++ 32 :: Lib.join (y :: r) [32] := by
  rw [Lib.join_cons, Lib.join_cons]
  simp [Lib.joinTail]
theorem wds_join : ∀ (L : List (List UInt8)), L ≠ [] → (∀ x ∈ L, (32 : UInt8) ∉ x) → wds 32 (Lib.join L [32]) = L
  | [], h, _ => absurd rfl h
  | [x], _, h => by
    rw [show Lib.join [x] [32] = x by rw [Lib.join_cons]; simp [Lib.joinTail]]
    exact wds_one (h x (by simp))
  | x :: y :: r, _, h => by
    rw [join_two, wds_app (h x (by simp)), wds_join (y :: r) (by simp) (fun z hz => h z (List.mem_cons_of_mem _ hz))]
theorem dec_no32 {n : Nat} (h : n < 100) : (32 : UInt8) ∉ dec n := by
  have : ∀ n ∈ List.range 100, (32 : UInt8) ∉ dec n := by decide +kernel
  exact this n (List.mem_range.2 h)
theorem dec_ne {n : Nat} : dec n ≠ [] := by unfold dec; split <;> simp
theorem cut_app {p q : List UInt8} (hp : (120 : UInt8) ∉ p) : Lib.cut (p ++ 120 :: q) [120] = (p, q, true) := by
  rcases cut_wds 120 (p ++ 120 :: q) with ⟨a, b, h1, h2, h3, h4⟩ | ⟨_, _, h3⟩
  · have : p = a ∧ q = b := by
      clear h1 h2
      induction p generalizing a with
      | nil =>
        cases a with
        | nil => simp at h3; exact ⟨rfl, h3⟩
        | cons d a => simp at h3; exact absurd h3.1 (fun e => h4 (by rw [e]; simp))
      | cons d p ih =>
        cases a with
        | nil => simp at h3; exact absurd h3.1 (fun e => hp (by rw [e]; simp))
        | cons e a =>
          simp only [List.cons_append, List.cons.injEq] at h3
          obtain ⟨e1, e2⟩ := ih (fun hm => hp (List.mem_cons_of_mem _ hm)) a h3.2 (fun hm => h4 (List.mem_cons_of_mem _ hm))
          exact ⟨by rw [h3.1, e1], e2⟩
    rw [h1, this.1, this.2]
  · exact absurd (by simp) h3
theorem rdn_dec {lo hi n : Nat} (h : n < 100) (h1 : lo ≤ n) (h2 : n ≤ hi) : rdn lo hi (dec n) = some n := by
  unfold rdn
  rw [und_dec h]
  exact if_pos ⟨h1, h2⟩
theorem pw_wd {x : Int × Int} (h : shB 40 x = true) : pwOk (wd x) = true ∧ pwx (wd x) = x ∧ (32 : UInt8) ∉ wd x := by
  obtain ⟨a, b⟩ := x
  obtain ⟨⟨h1, h2⟩, h3, h4⟩ := shB40 h
  simp only at h1 h2 h3 h4
  obtain ⟨i, rfl⟩ := Int.eq_ofNat_of_zero_le h1
  obtain ⟨j, rfl⟩ := Int.eq_ofNat_of_zero_le (show 0 ≤ b by omega)
  have e : wd ((i : Int), (j : Int)) = dec i ++ 120 :: dec j := by
    show (dec i ++ [120]) ++ dec j = _
    simp
  have hp : pw (wd ((i : Int), (j : Int))) = some (i, j) := by
    unfold pw
    rw [e, cut_app (dec_no (by omega))]
    simp only
    rw [rdn_dec (by omega) (by omega) (by omega), rdn_dec (by omega) (by omega) (by omega)]
  refine ⟨by unfold pwOk; rw [hp]; rfl, by unfold pwx; rw [hp]; rfl, ?_⟩
  rw [e]
  intro hm
  rcases List.mem_append.1 hm with hm | hm
  · exact dec_no32 (by omega) hm
  · rcases List.mem_cons.1 hm with hm | hm
    · exact absurd hm (by decide)
    · exact dec_no32 (by omega) hm
/-- The text of a sheet that has one, read. -/
theorem read_back {S : List Sh} (h : shotsB 40 S = true) : shtOk (stx S S.length) = true ∧ shtL (stx S S.length) = S ∧ shtC (stx S S.length) = 0 := by
  have hl := shotsB_len h
  have hb : ∀ x ∈ S, shB 40 x = true := fun x hx => List.all_eq_true.1 hl.2 x hx
  have e : stx S S.length = Lib.join (S.map wd) [32] := by
    have := stx_join S S.length (Nat.le_refl _)
    rw [List.take_length] at this
    exact this.symm
  have ht : tws (stx S S.length) = S.map wd := by
    unfold tws
    cases S with
    | nil => rfl
    | cons x r =>
      have hne : stx (x :: r) (x :: r).length ≠ [] := by
        rw [e, List.map_cons, Lib.join_cons]
        intro h0
        have h1 := (List.append_eq_nil_iff.1 h0).1
        unfold wd at h1
        simp at h1
      rw [if_neg hne, e]
      exact wds_join _ (by simp) (fun y hy => by
        obtain ⟨z, hz, rfl⟩ := List.mem_map.1 hy
        exact (pw_wd (hb z hz)).2.2)
  have hok : shtOk (stx S S.length) = true := by
    unfold shtOk
    rw [ht, List.length_map]
    simp only [Bool.and_eq_true, decide_eq_true_eq]
    refine ⟨?_, hl.1⟩
    rw [List.all_eq_true]
    intro y hy
    obtain ⟨z, hz, rfl⟩ := List.mem_map.1 hy
    exact (pw_wd (hb z hz)).1
  refine ⟨hok, ?_, (sht_yes hok).2⟩
  rw [(sht_yes hok).1, ht, List.map_map]
  conv => rhs; rw [← List.map_id S]
  exact List.map_congr_left fun z hz => (pw_wd (hb z hz)).2.1
end Go.Proofs.YtlljflmbnbjccaaGreatDoor
/- The laws SameBook and ValidBook: what they answer; no condition. -/
namespace Go.Proofs.YtlljflmbnbjccaaGreatDoor
open Go.RowKit
set_option linter.unusedSimpArgs false
set_option linter.unusedVariables false
theorem specSameBook_c (A B : List Fm) (n m : Nat) (hA : A.length = n) (hB : B.length = m) (hn : n ≤ 4000000) (hm : m ≤ 4000000) (p p' : Option Addr) (c c' : Nat) (w : World) (hr : Rd w p n (encs fv A)) (hr' : Rd w p' m (encs fv B)) :
    Calls Tryz.prog 20 #[.slice p n c, .slice p' m c'] w fun e w' => e = .returned (.bool (decide (A = B))) ∧ Keep [] w w' := by
  have st := St.start w
  go_enter Tryz.func20, Tryz.ntmps20
  go_wp2_with (first | (go_at_call 44; refine (l02Same_c A B n m hA hB hn hm _ _ _ _ _ (hr.keep st.keep) (hr'.keep st.keep)).mono ?_; rintro _ _ ⟨rfl, hk⟩; replace st := st.call hk; clear hk))
  go_ret
  exact ⟨rfl, st.keep⟩
end Go.Proofs.YtlljflmbnbjccaaGreatDoor
/- What the functions on sheets answer where book and sheet are valid; no condition. -/
namespace Go.Proofs.YtlljflmbnbjccaaGreatDoor
open Go.RowKit
set_option linter.unusedSimpArgs false
set_option linter.unusedVariables false
def GivC (E : TypeId) (sz n : Nat) (xs : List Value) (w : World) (e : Ending) (w' : World) : Prop := ∃ v, e = .returned (.tuple #[v, .int .i64 0]) ∧ Gives E sz n xs w v w' ∧ Keep [] w w'
/-- An empty slice, nil or not, and a code. -/
def NoneC (code : Int) (w : World) (e : Ending) (w' : World) : Prop := ∃ p c, e = .returned (.tuple #[.slice p 0 c, .int .i64 code]) ∧ Keep [] w w'
def Giv2C (m n : Nat) (xs ys : List Value) (w : World) (e : Ending) (w' : World) : Prop := ∃ v u, e = .returned (.tuple #[v, u, .int .i64 0]) ∧ Gives2 72 2 12 1 m n xs ys w v u w' ∧ Keep [] w w'
theorem SlOut.noneE {E : TypeId} {sz n : Nat} {xs : List Value} {q : Prop} {w w' : World} {v : Value} (h : SlOut E sz n xs q w v w') (hn : n = 0) : ∃ p c, v = .slice p 0 c := by
  subst hn
  rcases h with ⟨_, _, h⟩ | ⟨g, c, s, h, _⟩
  · exact ⟨none, 0, h⟩
  · exact ⟨_, _, h⟩
theorem BookCode.giv {R : List Fm} {n : Nat} {code : Int} {q : Prop} {w w' : World} {e : Ending} (h : BookCode R n code q w e w') (hc : code = 0) (hq : ¬ q) : GivC 72 12 n (encs fv R) w e w' := by
  subst hc
  obtain ⟨v, rfl, h | h, hk⟩ := h
  · exact absurd h.1 hq
  · exact ⟨v, rfl, h, hk⟩
theorem BookCode.noneE {R : List Fm} {n : Nat} {code : Int} {q : Prop} {w w' : World} {e : Ending} (h : BookCode R n code q w e w') (hn : n = 0) : NoneC code w e w' := by
  obtain ⟨v, rfl, h, hk⟩ := h
  obtain ⟨p, c, rfl⟩ := SlOut.noneE h hn
  exact ⟨p, c, rfl, hk⟩
theorem ShotsCode.giv {R : List Sh} {n : Nat} {code : Int} {q : Prop} {w w' : World} {e : Ending} (h : ShotsCode R n code q w e w') (hc : code = 0) (hq : ¬ q) : GivC 55 2 n (encs p8 R) w e w' := by
  subst hc
  obtain ⟨v, rfl, h | h, hk⟩ := h
  · exact absurd h.1 hq
  · exact ⟨v, rfl, h, hk⟩
theorem ShotsCode.noneE {R : List Sh} {n : Nat} {code : Int} {q : Prop} {w w' : World} {e : Ending} (h : ShotsCode R n code q w e w') (hn : n = 0) : NoneC code w e w' := by
  obtain ⟨v, rfl, h, hk⟩ := h
  obtain ⟨p, c, rfl⟩ := SlOut.noneE h hn
  exact ⟨p, c, rfl, hk⟩
theorem ShotsCode'.giv {R : List Sh} {n : Nat} {code : Int} {q : Prop} {w w' : World} {e : Ending} (h : ShotsCode' R n code q w e w') (hc : code = 0) (hq : ¬ q) : GivC 55 2 n (encs p8 R) w e w' := by
  subst hc
  obtain ⟨v, rfl, h | h, hk⟩ := h
  · exact absurd h.1 hq
  · exact ⟨v, rfl, h, hk⟩
theorem IntsCode'.giv {R : List Int} {n : Nat} {code : Int} {q : Prop} {w w' : World} {e : Ending} (h : IntsCode' R n code q w e w') (hc : code = 0) (hq : ¬ q) : GivC 2 1 n (encs i1 R) w e w' := by
  subst hc
  obtain ⟨v, rfl, h | h, hk⟩ := h
  · exact absurd h.1 hq
  · exact ⟨v, rfl, h, hk⟩
theorem DistCode.giv {R : List Fm} {I : List Int} {m n : Nat} {code : Int} {q : Prop} {w w' : World} {e : Ending} (h : DistCode R I m n code q w e w') (hc : code = 0) (hq : ¬ q) : Giv2C m n (encs fv R) (encs i1 I) w e w' := by
  subst hc
  obtain ⟨v, u, rfl, h | h, hk⟩ := h
  · exact absurd h.1 hq
  · exact ⟨v, u, rfl, h, hk⟩
theorem sht_8 {B : List Fm} {S : List Sh} (h : shtB B S = true) : R8 S := by
  obtain ⟨ha, _, hb⟩ := shtB_sh h
  have h40 := bk40 hb
  intro s hs
  obtain ⟨⟨h1, h2⟩, h3, h4⟩ := shB_iff.1 (List.all_eq_true.1 ha s hs)
  exact ⟨⟨by omega, by omega⟩, by omega, by omega⟩
theorem sht_mk {B : List Fm} {S : List Sh} (hb : bkB B = true) (h80 : S.length ≤ 80) (ha : allSh B.length S = true) : shtB B S = true := by
  unfold shtB shotsB
  rw [hb, ha, decide_eq_true h80]
  rfl
theorem sht_40 {B : List Fm} {S : List Sh} (h : shtB B S = true) : shotsB 40 S = true := by
  obtain ⟨ha, h80, hb⟩ := shtB_sh h
  have h40 := bk40 hb
  unfold shotsB
  rw [decide_eq_true h80, Bool.true_and]
  unfold allSh at ha ⊢
  rw [List.all_eq_true] at ha ⊢
  intro s hs
  obtain ⟨⟨h1, h2⟩, h3⟩ := shB_iff.1 (ha s hs)
  exact shB_iff.2 ⟨⟨h1, by omega⟩, h3⟩
theorem sht_short {B : List Fm} {S : List Sh} (h : shtB B S = true) : shtB B (shortL (tkS S)) = true ∧ tkS (shortL (tkS S)) = tkS S ∧ (shortL (tkS S)).length ≤ S.length := by
  obtain ⟨ha, h80, hb⟩ := shtB_sh h
  have hl := short_le ha
  exact ⟨sht_mk hb (by omega) (short_all ha), (short_shw _).1, hl⟩
set_option maxRecDepth 100000 in
theorem text4 {B : List Fm} {S : List Sh} {m : Nat} (h : shtB B S = true) (hS : S.length = m) : ∃ tx : List UInt8, (∀ (w : World) (b c : Nat), Rd w (some ⟨b, 0, none⟩) m (encs p8 S) → Calls Tryz.prog 8 #[.slice (some ⟨b, 0, none⟩) m c] w fun e w' => e = .returned (.string ⟨tx.toArray⟩) ∧ Keep [] w w') ∧
    ∀ w : World, Glob w → Calls Tryz.prog 7 #[.string ⟨tx.toArray⟩] w (GivC 55 2 m (encs p8 S) w) := by
  have h40 := sht_40 h
  have h8 := sht_8 h
  obtain ⟨hl, ha⟩ := shotsB_len h40
  obtain ⟨r1, r2, r3⟩ := read_back h40
  have hx := stx_length S S.length
  obtain ⟨tx, htx⟩ : ∃ tx, tx = stx S S.length := ⟨_, rfl⟩
  rw [← htx] at r2 r3 hx
  refine ⟨tx, fun w b c hr => ?_, fun w hg => ?_⟩
  · have := SheetText_c S m hS (by omega) h8 _ c w hr
    unfold shX2 at this
    rw [if_pos h40, ← htx] at this
    exact this
  · have := ReadSheet_c tx _ rfl (by omega) w hg
    rw [r2, r3, hS] at this
    exact this.mono fun e w' hh => hh.giv rfl (fun hn => hn rfl)
section
variable {B : List Fm} {S : List Sh} {n b c m b' c' : Nat} {w : World}
theorem shC_0 (h : shtB B S = true) : shC1 B S = 0 := if_pos h
theorem Valid_w (h : shtB B S = true) (hB : B.length = n) (hS : S.length = m) (hr : Rd w (some ⟨b, 0, none⟩) n (encs fv B)) (hr' : Rd w (some ⟨b', 0, none⟩) m (encs p8 S)) : Calls Tryz.prog 15 #[.slice (some ⟨b, 0, none⟩) n c, .slice (some ⟨b', 0, none⟩) m c'] w fun e w' => e = .returned (.bool true) ∧ Keep [] w w' := by
  obtain ⟨ha, h80, hb⟩ := shtB_sh h
  have h40 := bk40 hb
  have := ValidSheet_c B n hB (by omega) _ c S m hS (by omega) (sht_8 h) _ c' w hr hr'
  rw [h] at this
  exact this
theorem Length_w (h : shtB B S = true) (hB : B.length = n) (hS : S.length = m) {N : Nat} (hN : (tkS S).length = N) (hr : Rd w (some ⟨b, 0, none⟩) n (encs fv B)) (hr' : Rd w (some ⟨b', 0, none⟩) m (encs p8 S)) : Calls Tryz.prog 9 #[.slice (some ⟨b, 0, none⟩) n c, .slice (some ⟨b', 0, none⟩) m c'] w fun e w' => e = .returned (.tuple #[.int .i64 N, .int .i64 0]) ∧ Keep [] w w' := by
  obtain ⟨ha, h80, hb⟩ := shtB_sh h
  have h40 := bk40 hb
  have := SheetLength_c B n hB (by omega) _ c S m hS (by omega) (sht_8 h) _ c' w hr hr'
  unfold slR at this
  rw [shC_0 h, if_pos h, hN] at this
  exact this
theorem specLength_w (h : shtB B S = true) (hB : B.length = n) (hS : S.length = m) {N : Nat} (hN : (tkS S).length = N) (hr : Rd w (some ⟨b, 0, none⟩) n (encs fv B)) (hr' : Rd w (some ⟨b', 0, none⟩) m (encs p8 S)) : Calls Tryz.prog 10 #[.slice (some ⟨b, 0, none⟩) n c, .slice (some ⟨b', 0, none⟩) m c'] w fun e w' => e = .returned (.tuple #[.int .i64 N, .int .i64 0]) ∧ Keep [] w w' := by
  obtain ⟨ha, h80, hb⟩ := shtB_sh h
  have h40 := bk40 hb
  have := specSheetLength_c B n hB (by omega) _ c S m hS (by omega) (sht_8 h) _ c' w hr hr'
  unfold slR at this
  rw [shC_0 h, if_pos h, hN] at this
  exact this
theorem Short_w (h : shtB B S = true) (hB : B.length = n) (hS : S.length = m) {F : List Sh} (hF : shortL (tkS S) = F) {k : Nat} (hk : F.length = k) (hr : Rd w (some ⟨b, 0, none⟩) n (encs fv B)) (hr' : Rd w (some ⟨b', 0, none⟩) m (encs p8 S)) : Calls Tryz.prog 11 #[.slice (some ⟨b, 0, none⟩) n c, .slice (some ⟨b', 0, none⟩) m c'] w (GivC 55 2 k (encs p8 F) w) := by
  obtain ⟨ha, h80, hb⟩ := shtB_sh h
  have h40 := bk40 hb
  have := ShortSheet_c B n hB (by omega) _ c S m hS (by omega) (sht_8 h) _ c' w hr hr'
  unfold sttR at this
  rw [if_pos h, hF, hk] at this
  exact this.mono fun e w' hh => hh.giv (shC_0 h) (fun hn => hn (shC_0 h))
theorem specShort_w (h : shtB B S = true) (hB : B.length = n) (hS : S.length = m) {F : List Sh} (hF : shortL (tkS S) = F) {k : Nat} (hk : F.length = k) (hr : Rd w (some ⟨b, 0, none⟩) n (encs fv B)) (hr' : Rd w (some ⟨b', 0, none⟩) m (encs p8 S)) : Calls Tryz.prog 12 #[.slice (some ⟨b, 0, none⟩) n c, .slice (some ⟨b', 0, none⟩) m c'] w (GivC 55 2 k (encs p8 F) w) := by
  obtain ⟨ha, h80, hb⟩ := shtB_sh h
  have h40 := bk40 hb
  have := specShortSheet_c B n hB (by omega) _ c S m hS (by omega) (sht_8 h) _ c' w hr hr'
  unfold sttR at this
  rw [if_pos h, hF, hk] at this
  exact this.mono fun e w' hh => hh.giv (shC_0 h) (fun hn => hn)
theorem Shown_w (h : shtB B S = true) (hB : B.length = n) (hS : S.length = m) {T : List Int} (hT : tkS S = T) (hr : Rd w (some ⟨b, 0, none⟩) n (encs fv B)) (hr' : Rd w (some ⟨b', 0, none⟩) m (encs p8 S)) : Calls Tryz.prog 13 #[.slice (some ⟨b, 0, none⟩) n c, .slice (some ⟨b', 0, none⟩) m c'] w (GivC 2 1 n (encs i1 (shownT n T)) w) := by
  obtain ⟨ha, h80, hb⟩ := shtB_sh h
  have h40 := bk40 hb
  have := ShownFor_c B n hB (by omega) _ c S m hS (by omega) (sht_8 h) _ c' w hr hr'
  unfold swR at this
  rw [if_pos h, ← shown_same ha, hT, shownT_length, hB] at this
  exact this.mono fun e w' hh => hh.giv (shC_0 h) (fun hn => hn (shC_0 h))
theorem PageAt_w (h : shtB B S = true) (hB : B.length = n) (hS : S.length = m) {T : List Int} (hT : tkS S = T) {t : Nat} (ht : t < T.length) (hr : Rd w (some ⟨b, 0, none⟩) n (encs fv B)) (hr' : Rd w (some ⟨b', 0, none⟩) m (encs p8 S)) : Calls Tryz.prog 17 #[.slice (some ⟨b, 0, none⟩) n c, .slice (some ⟨b', 0, none⟩) m c', .int .i64 t] w fun e w' => e = .returned (.tuple #[.int .i64 (T.getD t 0), .int .i64 0]) ∧ Keep [] w w' := by
  obtain ⟨ha, h80, hb⟩ := shtB_sh h
  have h40 := bk40 hb
  have h0 : paC B S t = 0 := paC0 h (inB_yes (by omega) (by rw [hT]; omega))
  have := PageAt_c B n hB (by omega) _ c S m hS (by omega) (sht_8 h) _ c' t w hr hr'
  rw [paR_0 h0, h0, hT, Int.toNat_natCast] at this
  exact this
theorem PageAt_e (h : shtB B S = true) (hB : B.length = n) (hS : S.length = m) {N : Nat} (hN : (tkS S).length = N) (hr : Rd w (some ⟨b, 0, none⟩) n (encs fv B)) (hr' : Rd w (some ⟨b', 0, none⟩) m (encs p8 S)) : Calls Tryz.prog 17 #[.slice (some ⟨b, 0, none⟩) n c, .slice (some ⟨b', 0, none⟩) m c', .int .i64 N] w fun e w' => (∃ x : Int, e = .returned (.tuple #[.int .i64 x, .int .i64 2])) ∧ Keep [] w w' := by
  obtain ⟨ha, h80, hb⟩ := shtB_sh h
  have h40 := bk40 hb
  have h0 : paC B S N = 2 := paC2 h (inB_no2 (by rw [hN]; omega))
  have := PageAt_c B n hB (by omega) _ c S m hS (by omega) (sht_8 h) _ c' N w hr hr'
  rw [h0] at this
  exact this.mono fun e w' hh => ⟨⟨_, hh.1⟩, hh.2⟩
theorem Play_w (h : shtB B S = true) (hB : B.length = n) (hS : S.length = m) {N : Nat} (hN : (tkS S).length = N) (hN40 : N ≤ 40) {P : List Fm} (hP : plK B (tkS S) N = P) (hr : Rd w (some ⟨b, 0, none⟩) n (encs fv B)) (hr' : Rd w (some ⟨b', 0, none⟩) m (encs p8 S)) : Calls Tryz.prog 18 #[.slice (some ⟨b, 0, none⟩) n c, .slice (some ⟨b', 0, none⟩) m c'] w (GivC 72 12 N (encs fv P) w) := by
  obtain ⟨ha, h80, hb⟩ := shtB_sh h
  have h40 := bk40 hb
  have h0 : plC B S = 0 := plC0 h (by omega)
  have := PlaySheet_c B n hB (by omega) _ c S m hS (by omega) (sht_8 h) _ c' w hr hr'
  have hl : P.length = N := by rw [← hP]; unfold plK; rw [List.length_map, List.length_take, hN]; omega
  rw [plR_0 h0, hN, hP, hl] at this
  exact this.mono fun e w' hh => hh.giv h0 (fun hn => hn h0)
theorem specPlay_w (h : shtB B S = true) (hB : B.length = n) (hS : S.length = m) {N : Nat} (hN : (tkS S).length = N) (hN40 : N ≤ 40) {P : List Fm} (hP : plK B (tkS S) N = P) (hr : Rd w (some ⟨b, 0, none⟩) n (encs fv B)) (hr' : Rd w (some ⟨b', 0, none⟩) m (encs p8 S)) : Calls Tryz.prog 19 #[.slice (some ⟨b, 0, none⟩) n c, .slice (some ⟨b', 0, none⟩) m c'] w (GivC 72 12 N (encs fv P) w) := by
  obtain ⟨ha, h80, hb⟩ := shtB_sh h
  have h40 := bk40 hb
  have h0 : plC B S = 0 := plC0 h (by omega)
  have := specPlaySheet_c B n hB (by omega) _ c S m hS (by omega) (sht_8 h) _ c' w hr hr'
  have hl : P.length = N := by rw [← hP]; unfold plK; rw [List.length_map, List.length_take, hN]; omega
  rw [plR_0 h0, hN, hP, hl] at this
  exact this.mono fun e w' hh => hh.giv h0 (fun hn => hn)
theorem Play_n (h : shtB B S = true) (hB : B.length = n) (hS : S.length = m) {N : Nat} (hN : (tkS S).length = N) (hN40 : ¬ N ≤ 40) (hr : Rd w (some ⟨b, 0, none⟩) n (encs fv B)) (hr' : Rd w (some ⟨b', 0, none⟩) m (encs p8 S)) : Calls Tryz.prog 18 #[.slice (some ⟨b, 0, none⟩) n c, .slice (some ⟨b', 0, none⟩) m c'] w (NoneC 3 w) := by
  obtain ⟨ha, h80, hb⟩ := shtB_sh h
  have h40 := bk40 hb
  have h0 : plC B S = 3 := plC3 h (by omega)
  have hl : (plR B S).length = 0 := by unfold plR; rw [if_neg (by rw [h0]; decide)]; rfl
  have := PlaySheet_c B n hB (by omega) _ c S m hS (by omega) (sht_8 h) _ c' w hr hr'
  rw [h0] at this
  exact this.mono fun e w' hh => hh.noneE hl
theorem specPlay_n (h : shtB B S = true) (hB : B.length = n) (hS : S.length = m) {N : Nat} (hN : (tkS S).length = N) (hN40 : ¬ N ≤ 40) (hr : Rd w (some ⟨b, 0, none⟩) n (encs fv B)) (hr' : Rd w (some ⟨b', 0, none⟩) m (encs p8 S)) : Calls Tryz.prog 19 #[.slice (some ⟨b, 0, none⟩) n c, .slice (some ⟨b', 0, none⟩) m c'] w (NoneC 3 w) := by
  obtain ⟨ha, h80, hb⟩ := shtB_sh h
  have h40 := bk40 hb
  have h0 : plC B S = 3 := plC3 h (by omega)
  have hl : (plR B S).length = 0 := by unfold plR; rw [if_neg (by rw [h0]; decide)]; rfl
  have := specPlaySheet_c B n hB (by omega) _ c S m hS (by omega) (sht_8 h) _ c' w hr hr'
  rw [h0] at this
  exact this.mono fun e w' hh => hh.noneE hl
theorem strK_len {x y : Int} {k : Nat} (hS : S.length = k) : (strK x y S k).length = k := by unfold strK; rw [List.length_map, List.length_take, hS]; omega
theorem Str_w (h : shtB B S = true) (hB : B.length = n) (hS : S.length = m) (hl : lowB 3 2 S = true) (hr : Rd w (some ⟨b, 0, none⟩) n (encs fv B)) (hr' : Rd w (some ⟨b', 0, none⟩) m (encs p8 S)) : Calls Tryz.prog 21 #[.slice (some ⟨b, 0, none⟩) n c, .slice (some ⟨b', 0, none⟩) m c', .int .i64 3, .int .i64 2] w (GivC 55 2 m (encs p8 (strK 3 2 S m)) w) := by
  obtain ⟨ha, h80, hb⟩ := shtB_sh h
  have h40 := bk40 hb
  have h0 : strC B S 3 2 = 0 := strC0 h rfl hl
  have := StretchSheet_c B n hB (by omega) _ c S m hS (by omega) (sht_8 h) _ c' 3 2 w hr hr'
  rw [strR_0 h0, hS, strK_len hS] at this
  exact this.mono fun e w' hh => hh.giv h0 (fun hn => hn h0)
theorem specStr_w (h : shtB B S = true) (hB : B.length = n) (hS : S.length = m) (hl : lowB 3 2 S = true) (hr : Rd w (some ⟨b, 0, none⟩) n (encs fv B)) (hr' : Rd w (some ⟨b', 0, none⟩) m (encs p8 S)) : Calls Tryz.prog 22 #[.slice (some ⟨b, 0, none⟩) n c, .slice (some ⟨b', 0, none⟩) m c', .int .i64 3, .int .i64 2] w (GivC 55 2 m (encs p8 (strK 3 2 S m)) w) := by
  obtain ⟨ha, h80, hb⟩ := shtB_sh h
  have h40 := bk40 hb
  have h0 : strC B S 3 2 = 0 := strC0 h rfl hl
  have := specStretchSheet_c B n hB (by omega) _ c S m hS (by omega) (sht_8 h) _ c' 3 2 w hr hr'
  rw [strR_0 h0, hS, strK_len hS] at this
  exact this.mono fun e w' hh => hh.giv h0 (fun hn => hn)
theorem Str_n (h : shtB B S = true) (hB : B.length = n) (hS : S.length = m) (hl : lowB 3 2 S = false) (hr : Rd w (some ⟨b, 0, none⟩) n (encs fv B)) (hr' : Rd w (some ⟨b', 0, none⟩) m (encs p8 S)) : Calls Tryz.prog 21 #[.slice (some ⟨b, 0, none⟩) n c, .slice (some ⟨b', 0, none⟩) m c', .int .i64 3, .int .i64 2] w (NoneC 3 w) := by
  obtain ⟨ha, h80, hb⟩ := shtB_sh h
  have h40 := bk40 hb
  have h0 : strC B S 3 2 = 3 := strC3 h rfl hl
  have hz : (strR B S 3 2).length = 0 := by rw [strR_n (by rw [h0]; decide)]; rfl
  have := StretchSheet_c B n hB (by omega) _ c S m hS (by omega) (sht_8 h) _ c' 3 2 w hr hr'
  rw [h0] at this
  exact this.mono fun e w' hh => hh.noneE hz
theorem specStr_n (h : shtB B S = true) (hB : B.length = n) (hS : S.length = m) (hl : lowB 3 2 S = false) (hr : Rd w (some ⟨b, 0, none⟩) n (encs fv B)) (hr' : Rd w (some ⟨b', 0, none⟩) m (encs p8 S)) : Calls Tryz.prog 22 #[.slice (some ⟨b, 0, none⟩) n c, .slice (some ⟨b', 0, none⟩) m c', .int .i64 3, .int .i64 2] w (NoneC 3 w) := by
  obtain ⟨ha, h80, hb⟩ := shtB_sh h
  have h40 := bk40 hb
  have h0 : strC B S 3 2 = 3 := strC3 h rfl hl
  have hz : (strR B S 3 2).length = 0 := by rw [strR_n (by rw [h0]; decide)]; rfl
  have := specStretchSheet_c B n hB (by omega) _ c S m hS (by omega) (sht_8 h) _ c' 3 2 w hr hr'
  rw [h0] at this
  exact this.mono fun e w' hh => hh.noneE hz
theorem so_all (h : bkB B = true) (hB : B.length = n) (hn : n ≤ 24) : ∃ O : List Sh, soC B = 0 ∧ soR B = O ∧ O.length ≤ n ∧ shtB (dbk B) O = true ∧ tkS O = dpl B ∧ (dbk B).length ≤ n ∧ plK (dbk B) (tkS O) n = B := by
  obtain ⟨O, h1, h2⟩ := so_shw (dpl B) (by rw [dpl_length]; omega)
  obtain ⟨h3, h4⟩ := soC0 h h1
  have h5 := soL_short h1
  rw [dpl_length, hB] at h5
  have h6 : (dbk B).length ≤ n := by have := dst_le B; rw [hB] at this; exact this
  refine ⟨O, h3, h4, h5, sht_mk ?_ (by omega) (shw_all h2 (dpl_below B)), h2.1, h6, ?_⟩
  · unfold bkB
    rw [okL_dbk (bkB_ok h), decide_eq_true (by omega)]
    rfl
  · unfold plK
    rw [h2.1, List.take_of_length_le (by rw [dpl_length]; omega)]
    exact play_dist B
theorem SheetOf_w (h : bkB B = true) (hB : B.length = n) {O : List Sh} (h0 : soC B = 0) (hO : soR B = O) {k : Nat} (hk : O.length = k) (hr : Rd w (some ⟨b, 0, none⟩) n (encs fv B)) : Calls Tryz.prog 23 #[.slice (some ⟨b, 0, none⟩) n c] w (GivC 55 2 k (encs p8 O) w) := by
  have h40 := bk40 h
  have := SheetOf_c B n hB (by omega) _ c w hr
  rw [hO, hk] at this
  exact this.mono fun e w' hh => hh.giv h0 (fun hn => hn h0)
theorem specSheetOf_w (h : bkB B = true) (hB : B.length = n) {O : List Sh} (h0 : soC B = 0) (hO : soR B = O) {k : Nat} (hk : O.length = k) (hr : Rd w (some ⟨b, 0, none⟩) n (encs fv B)) : Calls Tryz.prog 24 #[.slice (some ⟨b, 0, none⟩) n c] w (GivC 55 2 k (encs p8 O) w) := by
  have h40 := bk40 h
  have := specSheetOf_c B n hB (by omega) _ c w hr
  rw [hO, hk] at this
  exact this.mono fun e w' hh => hh.giv h0 (fun hn => hn)
theorem specDistinct_w (h : bkB B = true) (hB : B.length = n) {k : Nat} (hk : (dbk B).length = k) (hr : Rd w (some ⟨b, 0, none⟩) n (encs fv B)) : Calls Tryz.prog 25 #[.slice (some ⟨b, 0, none⟩) n c] w (Giv2C k n (encs fv (dbk B)) (encs i1 (dpl B)) w) := by
  have h40 := bk40 h
  have := specDistinct_c B n hB (by omega) _ c w hr
  unfold disR disI at this
  rw [if_pos h, if_pos h, dpl_length, hB, hk] at this
  exact this.mono fun e w' hh => hh.giv (if_pos h) (fun q => q)
theorem specSameBook_w {p p' : Option Addr} (hr : Rd w p n (encs fv B)) (hr' : Rd w p' n (encs fv B)) (hB : B.length = n) (hn : n ≤ 1000) : Calls Tryz.prog 20 #[.slice p n c, .slice p' n c'] w fun e w' => e = .returned (.bool true) ∧ Keep [] w w' := by
  have := specSameBook_c B B n n hB hB (by omega) (by omega) p p' c c' w hr hr'
  rw [show decide (B = B) = true by simp] at this
  exact this
theorem A2Same_w {I : List Int} {p p' : Option Addr} (hr : Rd w p n (encs i1 I)) (hr' : Rd w p' n (encs i1 I)) (hI : I.length = n) (hn : n ≤ 1000) : Calls Tryz.prog 16 #[.slice p n c, .slice p' n c'] w fun e w' => e = .returned (.bool true) ∧ Keep [] w w' := A2Same_c I n hI (by omega) p p' c c' w hr hr'
theorem A2SameSheet_w {p p' : Option Addr} (hr : Rd w p m (encs p8 S)) (hr' : Rd w p' m (encs p8 S)) (hS : S.length = m) (hm : m ≤ 1000) : Calls Tryz.prog 14 #[.slice p m c, .slice p' m c'] w fun e w' => e = .returned (.bool true) ∧ Keep [] w w' := A2SameSheet_c S m hS (by omega) p p' c c' w hr hr'
end
end Go.Proofs.YtlljflmbnbjccaaGreatDoor
/- Drawn values, whichever they are; no condition. -/
namespace Go.Proofs.YtlljflmbnbjccaaGreatDoor
open Go.RowKit
set_option linter.unusedSimpArgs false
set_option linter.unusedVariables false
set_option maxHeartbeats 1000000 in
theorem one_c (B : List Int) (m : Nat) (hB : B.length = m) (hm : m ≤ 4096) (h8 : ∀ x ∈ B, 0 ≤ x ∧ x ≤ 255) (p : Option Addr) (c g k : Nat) (s : Int) (T : TypeId) (n : Int) (hn : 1 < n) (hn2 : n ≤ 65536) (hk : k ≤ 9998) (hs0 : 0 ≤ s) (hs1 : s < 18446744073709551616) (w : World) (hr : Rd w p m (encs u1 B)) (hg : Blk w g (srcC p m c k s) T) (hne : 0 < m → ∀ b f, p = some ⟨b, f, none⟩ → b ≠ g) :
    Calls Tryz.prog 29 #[.pointer (some ⟨g, 0, none⟩), .int .i64 n] w fun e w' => ∃ (v : Bool) (s' : Int) (k' : Nat), e = .returned (.bool v) ∧ (0 ≤ s' ∧ s' < 18446744073709551616) ∧ k' ≤ k + 2 ∧ Keep [g] w w' ∧ Blk w' g (srcC p m c k' s') T := by
  have st := St.start1 hg
  have HP := hid (fun (w' : World) (hk2 : Keep [g] w w') (hb : Blk w' g (srcC p m c k s) T) => pick_c B m hB hm h8 p c g k s T n hn hn2 hk hs0 hs1 w' (hr.keepM hk2 hne) hb hne)
  go_enter Tryz.func29, Tryz.ntmps29
  go_wp2_with (first | (go_at_call 28; refine (HP.out _ st.keep (st.get (by repeat (first | exact At.here | apply At.there)))).mono ?_; rintro _ _ ⟨v, s', k', rfl, hv, hs, hk', hk, hb1⟩; replace st := st.wrote (by ((repeat (first | exact Upd.here | apply Upd.there)); done)) hk hb1; clear hk hb1))
  go_ret
  exact ⟨_, s', k', rfl, hs, hk', st.keep, st.get (by repeat (first | exact At.here | apply At.there))⟩
end Go.Proofs.YtlljflmbnbjccaaGreatDoor
