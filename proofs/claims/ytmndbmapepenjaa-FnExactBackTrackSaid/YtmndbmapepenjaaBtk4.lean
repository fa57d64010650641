/- Tracks backwards: the program's loop; no condition. -/
import Derived.Test.YtmndbmapepenjaaBtk3
namespace Go.Proofs.Ytmndbmapepenjaa
open Go.RowKit Go.Shelf
set_option linter.unusedSimpArgs false
set_option linter.unusedVariables false
instance : OneC Try.prog 26 (.slice none 0 0) := ⟨oneT_of Try.underlying26 rfl (by kernel_rfl) rfl⟩

set_option maxHeartbeats 4000000 in
set_option maxRecDepth 100000 in
theorem BackTrack_c (T : List Ky) (m : Nat) (hT : T.length = m) (hm : m ≤ 1000000) (h8 : RK T) (p : Option Addr) (c : Nat) (w : World) (hr : Rd w p m (encs k3 T)) :
    Calls Try.prog 21 #[.slice p m c] w (TrCode (backT T) (backT T).length (btCode T) True w) := by
  have HV := hid (fun w' hk => ValidTrack_c T m hT hm h8 p c w' (hr.keep (w1 := w') hk))
  unfold backT btCode
  rcases Bool.eq_false_or_eq_true (trkB T) with h | h
  rotate_left 1
  · have st := St.start w
    rw [h] at HV
    rw [if_neg (by rw [h]; decide), if_neg (by rw [h]; decide)]
    clear hT h h8
    go_enter Try.func21, Try.ntmps21
    go_wp2_with (first | (go_at_call 17; refine (HV.out _ st.keep).mono ?_; rintro _ _ ⟨rfl, hk⟩; replace st := st.call hk; clear hk) | ((with_reducible refine gate_lst ?_); (first | ((with_reducible refine gate_alloc rfl ?_); (first | (refine ia_alloc1 (sl := 4) st rfl rfl rfl ?_; clear st; intro B4 _ st) | (refine ia_alloc1 (sl := 5) st rfl rfl rfl ?_; clear st; intro B5 _ st) | (refine ia_alloc1 (sl := 6) st rfl rfl rfl ?_; clear st; intro B6 _ st) | (refine ia_alloc (sl := 8) st rfl rfl rfl ?_; clear st; intro B8 _ st))) | ((with_reducible refine gate_load rfl ?_); (first | (refine' ia_load1 st rfl rfl rfl ?_ ?_; rotate_left 1; (focus (first | exact N0.out | exact N1.out | exact N2.out | exact N3.out | exact N4.out | exact N5.out | exact G2.out | exact G3.out | exact G4.out | exact G0.out | exact G1.out | (refine frv_get _ _ ?_; (first | omega | (simp; done) | (simp; omega) | (simp [*]; omega))) | exact rfl))) | (refine' ia_load1Z (hb.keep st.keep (by simp)) rfl rfl rfl ?_ ?_; rotate_left 1; (focus exact rfl)) | (refine' ia_load1Z (hb'.keep st.keep (by simp)) rfl rfl rfl ?_ ?_; rotate_left 1; (focus exact rfl)) | (refine' ia_load1C (hb.keep st.keep (by simp)) rfl rfl rfl ?_ ?_; rotate_left 1; (focus (first | exact N0.out | exact N1.out | exact N2.out | exact N3.out | exact N4.out | exact N5.out | exact G2.out | exact G3.out | exact G4.out | exact G0.out | exact G1.out | (refine frv_get _ _ ?_; (first | omega | (simp; done) | (simp; omega) | (simp [*]; omega))) | exact rfl))) | (refine' ia_load1C (hb'.keep st.keep (by simp)) rfl rfl rfl ?_ ?_; rotate_left 1; (focus (first | exact N0.out | exact N1.out | exact N2.out | exact N3.out | exact N4.out | exact N5.out | exact G2.out | exact G3.out | exact G4.out | exact G0.out | exact G1.out | (refine frv_get _ _ ?_; (first | omega | (simp; done) | (simp; omega) | (simp [*]; omega))) | exact rfl))) | (refine' ia_load1B (hb1.keep st.keep (by simp)) rfl rfl rfl ?_ ?_; rotate_left 1; (focus (first | exact N0.out | exact N1.out | exact N2.out | exact N3.out | exact N4.out | exact N5.out | exact G2.out | exact G3.out | exact G4.out | exact G0.out | exact G1.out | (refine frv_get _ _ ?_; (first | omega | (simp; done) | (simp; omega) | (simp [*]; omega))) | exact rfl))) | (refine' ia_load1B (hb2.keep st.keep (by simp)) rfl rfl rfl ?_ ?_; rotate_left 1; (focus (first | exact N0.out | exact N1.out | exact N2.out | exact N3.out | exact N4.out | exact N5.out | exact G2.out | exact G3.out | exact G4.out | exact G0.out | exact G1.out | (refine frv_get _ _ ?_; (first | omega | (simp; done) | (simp; omega) | (simp [*]; omega))) | exact rfl))))) | ((with_reducible refine gate_store rfl ?_); (first | (refine ia_store1 st rfl rfl rfl rfl rfl rfl ?_ ?_; (focus (first | omega | (simp; done) | (simp; omega) | (simp [*]; omega))); clear st; intro _ st; (try simp only [Act.put, Act.eval, Array.getD_eq_getD_getElem?, List.getElem?_toArray, List.getElem?_cons_succ, List.getElem?_cons_zero, Option.getD_some, List.setIfInBounds_toArray, List.getElem_toArray, List.getElem_cons_succ, List.getElem_cons_zero, List.set_cons_zero, List.set_cons_succ] at st)) | (refine ia_storeAll st rfl rfl rfl rfl ?_ ?_ ?_ ?_; (focus (first | rfl | (simp; done) | (simp; assumption) | (simp; omega) | (simp [*]; done))); (focus (first | exact frv_one _ | exact fv_one _ | exact p8_one _ | exact k3_one _ | exact i1_one _ | (simp [Value.oneCell']; done))); (focus (first | rfl | (simp; done) | (simp; assumption) | (simp; omega) | (simp [*]; done))); clear st; intro _ st; (try simp only [List.set_cons_zero, List.set_cons_succ] at st)) | (refine ia_storeSeg st rfl rfl rfl rfl ?_ ?_ ?_ ?_; (focus (first | rfl | (simp; done) | (simp; assumption) | (simp; omega) | (simp [*]; done))); (focus (first | exact frv_one _ | exact fv_one _ | exact p8_one _ | exact k3_one _ | exact i1_one _ | (simp [Value.oneCell']; done))); (focus (first | omega | (simp; done) | (simp; omega) | (simp [*]; omega))); clear st; intro _ st; (try simp only [List.set_cons_zero, List.set_cons_succ] at st)))))) | ((with_reducible refine qgate_nil ?_); refine wpQuiet_nil ?_; (try intro _ st)) | ((with_reducible refine qgate_any ?_); (first | ((with_reducible refine qgate_load rfl ?_); (first | (refine' iq_load1 rfl rfl rfl ?_ ?_; rotate_left 1; (focus (first | exact N0.out | exact N1.out | exact N2.out | exact N3.out | exact N4.out | exact N5.out | exact G2.out | exact G3.out | exact G4.out | exact G0.out | exact G1.out | (refine frv_get _ _ ?_; (first | omega | (simp; done) | (simp; omega) | (simp [*]; omega))) | exact rfl))) | (refine' iq_load1Z hb rfl rfl rfl ?_ ?_; rotate_left 1; (focus exact rfl)) | (refine' iq_load1Z hb' rfl rfl rfl ?_ ?_; rotate_left 1; (focus exact rfl)) | (refine' iq_load1C hb rfl rfl rfl ?_ ?_; rotate_left 1; (focus (first | exact N0.out | exact N1.out | exact N2.out | exact N3.out | exact N4.out | exact N5.out | exact G2.out | exact G3.out | exact G4.out | exact G0.out | exact G1.out | (refine frv_get _ _ ?_; (first | omega | (simp; done) | (simp; omega) | (simp [*]; omega))) | exact rfl))) | (refine' iq_load1C hb' rfl rfl rfl ?_ ?_; rotate_left 1; (focus (first | exact N0.out | exact N1.out | exact N2.out | exact N3.out | exact N4.out | exact N5.out | exact G2.out | exact G3.out | exact G4.out | exact G0.out | exact G1.out | (refine frv_get _ _ ?_; (first | omega | (simp; done) | (simp; omega) | (simp [*]; omega))) | exact rfl))))) | ((with_reducible refine qgate_field rfl ?_); refine iq_field rfl rfl rfl ?_) | ((with_reducible refine qgate_conv rfl ?_); refine' iq_conv rfl rfl rfl ?_ ?_; rotate_left 1; (focus (first | (refine IntWalk.i64_in _ ?_; omega) | (refine i8_wrap ?_ ?_ <;> omega) | exact rfl))) | ((with_reducible refine qgate_bin rfl ?_); refine' qa_bin ?_ rfl rfl rfl rfl ?_; rotate_left 1; (focus (first | exact run_add64 (by omega) (by omega) | exact run_sub64 (by omega) (by omega) | (intro w'; go_simp; exact rfl))))); all_goals (try (simp only [Nat.zero_add, Nat.add_zero, Nat.mul_one, Nat.zero_mul, Act.put, Act.eval, Array.getD_eq_getD_getElem?, List.getElem?_toArray, List.getElem?_cons_succ, List.getElem?_cons_zero, Option.getD_some, List.setIfInBounds_toArray, List.set_cons_succ, List.set_cons_zero, List.getElem_toArray, List.getElem_cons_succ, List.getElem_cons_zero]))) | ((with_reducible refine rgate (id := 7) ?_); refine wp_region_sched_st (id := 7) st [0, 1, 2, 3, 4, 5, 6, 7, 8, 9, 10, 11, 12, 13] [14, 15, 16, 17] [] (fun _ h => h.nil) (by kernel_rfl) (by kernel_rfl) ?_; clear st; simp only [sel, List.filterMap_cons, List.filterMap_nil, List.getElem?_cons_succ, List.getElem?_cons_zero]) | (with_reducible refine loud_go ?_) | ((with_reducible refine aftS_go ?_ ?_); (focus exact st.nil)) | (with_reducible refine loud_nil ?_))
    go_ret2
    exact ⟨_, rfl, Or.inl ⟨trivial, rfl, rfl⟩, st.keep⟩
  rw [if_pos h, if_pos h, btA_length, hT]
  have hl := trkB_len h
  rw [hT] at hl
  have HRG := hid (fun i (hi : i < m) => trk_rng h (i := i) (by rw [hT]; exact hi))
  have HD := hid (fun w' (hk : Keep [] w w') => ends_c T m hT hm hl h8 p c w' (hr.keep hk))
  have HBW := hid (Backward_c p m c)
  rw [h] at HV
  obtain ⟨b, f, hp, hcl⟩ := hr (by omega)
  subst hp
  have hE : ∃ E : Nat → BkS, ∀ k, k < m → (E k).1 = (m - 1 - k, T.getD (m - 1 - k) kz) :=
    ⟨fun k => ⟨(m - 1 - k, T.getD (m - 1 - k) kz), HRG.out _ (by omega)⟩, fun k _ => rfl⟩
  obtain ⟨E, hE⟩ := hE
  obtain ⟨⟨ha0, ha1⟩, _⟩ := HRG.out 0 (by omega)
  obtain ⟨⟨hz0, hz1⟩, _⟩ := HRG.out (m - 1) (by omega)
  obtain ⟨a, ha⟩ : ∃ a, (T.getD 0 kz).1 = a := ⟨_, rfl⟩
  obtain ⟨z, hz⟩ : ∃ z, (T.getD (m - 1) kz).1 = z := ⟨_, rfl⟩
  have hA : btA T m m = (uptoB E m).map fun x => kRev a z x.1.2 := by
    unfold btA uptoB
    rw [List.map_map]
    apply List.map_congr_left
    intro k hk
    have hk' := List.mem_range.1 hk
    simp only [Function.comp_apply, hE k hk', kRev, bkK, ha, hz]
  rw [hA]
  rw [ha] at ha0 ha1 HD
  rw [hz] at hz0 hz1 HD
  have HCL := hid hcl
  have HEE := hid hE
  have HTT := hid hT
  clear h ha hz hA hT h8 hcl hr hE HRG
  refine (callsIn_wide (n := 3)).1 ?_
  refine callsIn_of_wp_marks Try.func21 rfl trivial ?_ rfl
  simp only [Try.ntmps21, List.size_toArray, List.length_cons, List.length_nil, Nat.reduceAdd, Nat.reduceSub, Array.replicate_succ, Array.replicate_zero, List.push_toArray, List.append_toArray, List.nil_append, List.cons_append]
  refine wpIn_wide.2 ?_
  have st := St.start w
  go_wp2_with (first | (go_at_call 17; refine (HV.out _ st.keep).mono ?_; rintro _ _ ⟨rfl, hk⟩; replace st := st.call hk; clear hk) | (go_at_call 53; refine (HD.out _ st.keep).mono ?_; rintro _ _ ⟨rfl, hk⟩; replace st := st.call hk; clear hk) | ((with_reducible refine gate_bsl rfl ?_); refine ia_bsl0 (sl := 17) st rfl rfl rfl ?_; clear st; intro B17 _ st) | ((with_reducible refine gate_alloc rfl ?_); refine ia_alloc1 (sl := 6) st rfl rfl rfl ?_; clear st; intro B6 _ st) | ((with_reducible refine gate_store rfl ?_); refine ia_store1 st rfl rfl rfl rfl rfl rfl ?_ ?_; (focus (simp; done)); clear st; intro _ st; (try simp only [Act.put, Act.eval, Array.getD_eq_getD_getElem?, List.getElem?_toArray, List.getElem?_cons_succ, List.getElem?_cons_zero, Option.getD_some, List.setIfInBounds_toArray, List.getElem_toArray, List.getElem_cons_succ, List.getElem_cons_zero, List.set_cons_zero, List.set_cons_succ] at st)) | (go_at_call 54; (with_reducible refine (HBW.out _).mono ?_); rintro _ _ ⟨gB, rfl, hg, hbg, hk⟩; replace st := st.adopt hk hg hbg; clear hk hg hbg) | ((with_reducible refine gate_lst ?_); (first | ((with_reducible refine gate_alloc rfl ?_); (first | (refine ia_alloc1 (sl := 4) st rfl rfl rfl ?_; clear st; intro B4 _ st) | (refine ia_alloc1 (sl := 5) st rfl rfl rfl ?_; clear st; intro B5 _ st) | (refine ia_alloc1 (sl := 6) st rfl rfl rfl ?_; clear st; intro B6 _ st) | (refine ia_alloc (sl := 8) st rfl rfl rfl ?_; clear st; intro B8 _ st))) | ((with_reducible refine gate_load rfl ?_); (first | (refine' ia_load1 st rfl rfl rfl ?_ ?_; rotate_left 1; (focus (first | exact N0.out | exact N1.out | exact N2.out | exact N3.out | exact N4.out | exact N5.out | exact G2.out | exact G3.out | exact G4.out | exact G0.out | exact G1.out | (refine frv_get _ _ ?_; (first | omega | (simp; done) | (simp; omega) | (simp [*]; omega))) | exact rfl))) | (refine' ia_load1Z (hb.keep st.keep (by simp)) rfl rfl rfl ?_ ?_; rotate_left 1; (focus exact rfl)) | (refine' ia_load1Z (hb'.keep st.keep (by simp)) rfl rfl rfl ?_ ?_; rotate_left 1; (focus exact rfl)) | (refine' ia_load1C (hb.keep st.keep (by simp)) rfl rfl rfl ?_ ?_; rotate_left 1; (focus (first | exact N0.out | exact N1.out | exact N2.out | exact N3.out | exact N4.out | exact N5.out | exact G2.out | exact G3.out | exact G4.out | exact G0.out | exact G1.out | (refine frv_get _ _ ?_; (first | omega | (simp; done) | (simp; omega) | (simp [*]; omega))) | exact rfl))) | (refine' ia_load1C (hb'.keep st.keep (by simp)) rfl rfl rfl ?_ ?_; rotate_left 1; (focus (first | exact N0.out | exact N1.out | exact N2.out | exact N3.out | exact N4.out | exact N5.out | exact G2.out | exact G3.out | exact G4.out | exact G0.out | exact G1.out | (refine frv_get _ _ ?_; (first | omega | (simp; done) | (simp; omega) | (simp [*]; omega))) | exact rfl))) | (refine' ia_load1B (hb1.keep st.keep (by simp)) rfl rfl rfl ?_ ?_; rotate_left 1; (focus (first | exact N0.out | exact N1.out | exact N2.out | exact N3.out | exact N4.out | exact N5.out | exact G2.out | exact G3.out | exact G4.out | exact G0.out | exact G1.out | (refine frv_get _ _ ?_; (first | omega | (simp; done) | (simp; omega) | (simp [*]; omega))) | exact rfl))) | (refine' ia_load1B (hb2.keep st.keep (by simp)) rfl rfl rfl ?_ ?_; rotate_left 1; (focus (first | exact N0.out | exact N1.out | exact N2.out | exact N3.out | exact N4.out | exact N5.out | exact G2.out | exact G3.out | exact G4.out | exact G0.out | exact G1.out | (refine frv_get _ _ ?_; (first | omega | (simp; done) | (simp; omega) | (simp [*]; omega))) | exact rfl))))) | ((with_reducible refine gate_store rfl ?_); (first | (refine ia_store1 st rfl rfl rfl rfl rfl rfl ?_ ?_; (focus (first | omega | (simp; done) | (simp; omega) | (simp [*]; omega))); clear st; intro _ st; (try simp only [Act.put, Act.eval, Array.getD_eq_getD_getElem?, List.getElem?_toArray, List.getElem?_cons_succ, List.getElem?_cons_zero, Option.getD_some, List.setIfInBounds_toArray, List.getElem_toArray, List.getElem_cons_succ, List.getElem_cons_zero, List.set_cons_zero, List.set_cons_succ] at st)) | (refine ia_storeAll st rfl rfl rfl rfl ?_ ?_ ?_ ?_; (focus (first | rfl | (simp; done) | (simp; assumption) | (simp; omega) | (simp [*]; done))); (focus (first | exact frv_one _ | exact fv_one _ | exact p8_one _ | exact k3_one _ | exact i1_one _ | (simp [Value.oneCell']; done))); (focus (first | rfl | (simp; done) | (simp; assumption) | (simp; omega) | (simp [*]; done))); clear st; intro _ st; (try simp only [List.set_cons_zero, List.set_cons_succ] at st)) | (refine ia_storeSeg st rfl rfl rfl rfl ?_ ?_ ?_ ?_; (focus (first | rfl | (simp; done) | (simp; assumption) | (simp; omega) | (simp [*]; done))); (focus (first | exact frv_one _ | exact fv_one _ | exact p8_one _ | exact k3_one _ | exact i1_one _ | (simp [Value.oneCell']; done))); (focus (first | omega | (simp; done) | (simp; omega) | (simp [*]; omega))); clear st; intro _ st; (try simp only [List.set_cons_zero, List.set_cons_succ] at st)))))) | ((with_reducible refine qgate_nil ?_); refine wpQuiet_nil ?_; (try intro _ st)) | ((with_reducible refine qgate_any ?_); (first | ((with_reducible refine qgate_load rfl ?_); (first | (refine' iq_load1 rfl rfl rfl ?_ ?_; rotate_left 1; (focus (first | exact N0.out | exact N1.out | exact N2.out | exact N3.out | exact N4.out | exact N5.out | exact G2.out | exact G3.out | exact G4.out | exact G0.out | exact G1.out | (refine frv_get _ _ ?_; (first | omega | (simp; done) | (simp; omega) | (simp [*]; omega))) | exact rfl))) | (refine' iq_load1Z hb rfl rfl rfl ?_ ?_; rotate_left 1; (focus exact rfl)) | (refine' iq_load1Z hb' rfl rfl rfl ?_ ?_; rotate_left 1; (focus exact rfl)) | (refine' iq_load1C hb rfl rfl rfl ?_ ?_; rotate_left 1; (focus (first | exact N0.out | exact N1.out | exact N2.out | exact N3.out | exact N4.out | exact N5.out | exact G2.out | exact G3.out | exact G4.out | exact G0.out | exact G1.out | (refine frv_get _ _ ?_; (first | omega | (simp; done) | (simp; omega) | (simp [*]; omega))) | exact rfl))) | (refine' iq_load1C hb' rfl rfl rfl ?_ ?_; rotate_left 1; (focus (first | exact N0.out | exact N1.out | exact N2.out | exact N3.out | exact N4.out | exact N5.out | exact G2.out | exact G3.out | exact G4.out | exact G0.out | exact G1.out | (refine frv_get _ _ ?_; (first | omega | (simp; done) | (simp; omega) | (simp [*]; omega))) | exact rfl))))) | ((with_reducible refine qgate_field rfl ?_); refine iq_field rfl rfl rfl ?_) | ((with_reducible refine qgate_conv rfl ?_); refine' iq_conv rfl rfl rfl ?_ ?_; rotate_left 1; (focus (first | (refine IntWalk.i64_in _ ?_; omega) | (refine i8_wrap ?_ ?_ <;> omega) | exact rfl))) | ((with_reducible refine qgate_bin rfl ?_); refine' qa_bin ?_ rfl rfl rfl rfl ?_; rotate_left 1; (focus (first | exact run_add64 (by omega) (by omega) | exact run_sub64 (by omega) (by omega) | (intro w'; go_simp; exact rfl))))); all_goals (try (simp only [Nat.zero_add, Nat.add_zero, Nat.mul_one, Nat.zero_mul, Act.put, Act.eval, Array.getD_eq_getD_getElem?, List.getElem?_toArray, List.getElem?_cons_succ, List.getElem?_cons_zero, Option.getD_some, List.setIfInBounds_toArray, List.set_cons_succ, List.set_cons_zero, List.getElem_toArray, List.getElem_cons_succ, List.getElem_cons_zero]))) | ((with_reducible refine rgate (id := 7) ?_); refine wp_region_sched_st (id := 7) st [0, 1, 2, 3, 4, 5, 6, 7, 8, 9, 10, 11, 12, 13] [14, 15, 16, 17] [] (fun _ h => h.nil) (by kernel_rfl) (by kernel_rfl) ?_; clear st; simp only [sel, List.filterMap_cons, List.filterMap_nil, List.getElem?_cons_succ, List.getElem?_cons_zero]) | (with_reducible refine loud_go ?_) | ((with_reducible refine aftS_go ?_ ?_); (focus exact st.nil)) | (with_reducible refine loud_nil ?_))
  obtain ⟨W1, hW1, st⟩ : ∃ W1, W1 = _ ∧ St [] w W1 _ := ⟨_, rfl, st⟩
  subst hW1
  have hgB := st.get (T := 26) (b := gB) (by repeat (first | exact At.here | apply At.there))
  have hB6 := st.get (T := 26) (b := B6) (by repeat (first | exact At.here | apply At.there))
  have hB5 := st.get (T := 2) (b := B5) (by repeat (first | exact At.here | apply At.there))
  have hB4 := st.get (T := 2) (b := B4) (by repeat (first | exact At.here | apply At.there))
  have hB17 := st.get (T := 69) (b := B17) (by repeat (first | exact At.here | apply At.there))
  have hnd := st.nd
  simp only [List.map_cons, List.map_nil, List.nodup_cons, List.mem_cons, List.mem_nil_iff, or_false, not_or, List.nodup_nil, not_false_eq_true, and_true] at hnd
  have hge : w.heap.size ≤ gB ∧ w.heap.size ≤ B6 ∧ w.heap.size ≤ B17 ∧ w.heap.size ≤ B5 ∧ w.heap.size ≤ B4 :=
    ⟨st.geb (b := gB) (by repeat (first | exact At.here | apply At.there)), st.geb (b := B6) (by repeat (first | exact At.here | apply At.there)), st.geb (b := B17) (by repeat (first | exact At.here | apply At.there)), st.geb (b := B5) (by repeat (first | exact At.here | apply At.there)), st.geb (b := B4) (by repeat (first | exact At.here | apply At.there))⟩
  have hbw := HCL.out.1
  have hW1 := st.keep.size
  have hlts : gB < W1.heap.size ∧ B6 < W1.heap.size ∧ B17 < W1.heap.size ∧ B5 < W1.heap.size ∧ B4 < W1.heap.size := ⟨hgB.lt, hB6.lt, hB17.lt, hB5.lt, hB4.lt⟩
  refine (wpIn_wide (n := 3)).1 ?_
  refine wpIn_rangeFunc_ownH (α := BkS) (F := Fence.wide) (n := 3) rfl (by omega) (gf := 74) (lb := #[.pointer (some ⟨gB, 0, none⟩)]) rfl trivial (enters_of Try.func74 (by kernel_rfl) rfl) (w0 := W1)
    (back_stops gB W1.heap.size b f m c 2 [B6, B17] T E HEE.out (by omega) hm HTT.out (by simp; omega) (by omega) (by simp; omega) W1 rfl hgB (HCL.out.keep st.keep (by simp)))
    (fun h k => h.trans k) (fun W l o o' hl _ _ _ => KpB.putObj W l o' hl) (Below.refl _ _) (fun _ => rfl)
    (fun pre W => W1.heap.size ≤ W.heap.size ∧ ∃ (g cap : Nat) (spare : List Value), St [] w W [(g, encs k3 (pre.map fun x => kRev a z x.1.2) ++ spare, 69), (B6, [.slice (some ⟨g, 0, none⟩) pre.length cap], 26), (B5, [.int .i64 z], 2), (B4, [.int .i64 a], 2)] ∧ (encs k3 (pre.map fun x => kRev a z x.1.2) ++ spare).length = cap * 3 ∧ cap ≤ maxLen ∧ (g = B17 ∨ W1.heap.size ≤ g))
    (fun _ _ _ => False) ?hI (fun _ _ _ _ _ hs _ _ => hs) ?h0
    (fun x a' W => ∃ (Bx g' k' cap' : Nat), a' = { tmps := #[.slice (some ⟨b, f, none⟩) m c, undef, .slice none 0 0, .int .i64 0, .pointer (some ⟨B4, 0, none⟩), .pointer (some ⟨B5, 0, none⟩), .pointer (some ⟨B6, 0, none⟩), undef, .pointer (some ⟨Bx, 0, none⟩), .slice (some ⟨b, f, none⟩) m c, .bool true, .bool false, .tuple #[.int .i64 a, .int .i64 z], .slice (some ⟨b, f, none⟩) m c, .tuple #[.int .i64 a, .int .i64 z], .int .i64 a, .int .i64 z, .slice (some ⟨B17, 0, none⟩) 0 0, .slice (some ⟨b, f, none⟩) m c, .func (.func 74) #[] #[.pointer (some ⟨gB, 0, none⟩)], .int .i64 (x.1.1 : Nat), .agg (k3 x.1.2).toArray, undef, undef, undef, undef, undef, undef, undef, undef, undef, undef, undef, undef, undef, undef, undef, undef, undef, undef], defers := [] } ∧ Blk W Bx (k3 x.1.2) 69 ∧ W1.heap.size ≤ Bx ∧ Blk W B6 [.slice (some ⟨g', 0, none⟩) k' cap'] 26 ∧ g' ≠ Bx)
    ?hAx ?assign ?body ?done ?stop
  case hI =>
    rintro pre A B row ⟨hs, g, cap, spare, st, h1, h2, h3⟩ hg hr
    exact ⟨Nat.le_trans hs hg.size, g, cap, spare, st.grown hg (fun r e => ⟨Nat.le_trans hW1 (hr r e).1, (hr r e).2⟩), h1, h2, h3⟩
  case h0 => exact ⟨Nat.le_refl _, B17, 0, [], st.drop.swap, rfl, Nat.zero_le _, .inl rfl⟩
  case hAx =>
    rintro x a' _ A B row ⟨Bx, g', k', cap', ha, h1, h2, h3, h4⟩ hg hr
    exact ⟨Bx, g', k', cap', ha, h1.grown hg (fun r e => (hr r e).2), h2, h3.grown hg (fun r e => (hr r e).2), h4⟩
  case assign =>
    rintro l pre x W K ⟨hs, g, cap, spare, st0, h1, h2, h3⟩ hK
    refine wpIn_region_lst (by rfl) (fun h => by obtain ⟨_, _, h⟩ := h; exact h) ?_
    clear st
    have st := St.start W
    simp only [bkEnc, List.zip_toArray, List.zip_cons_cons, List.zip_nil_right, List.foldl_toArray', List.foldl_toArray, List.size_toArray, List.foldl_cons, List.foldl_nil, List.setIfInBounds_toArray, List.set_cons_succ, List.set_cons_zero]
    refine ia_alloc (sl := 8) st rfl rfl rfl ?_
    clear st; intro Bx _ st
    simp only [Act.put, List.setIfInBounds_toArray, List.set_cons_succ, List.set_cons_zero]
    refine ia_storeAll st rfl rfl rfl rfl (k3_len x.1.2) (k3_one x.1.2) rfl ?_
    clear st; intro W' st
    simp only [List.set_cons_zero] at st
    have hlt := (st0.get .here).lt
    have hBx : W.heap.size ≤ Bx := st.geb .here
    refine hK _ _ st.keep.kf (st.keep.kp hs) ⟨Nat.le_trans hs st.keep.size, g, cap, spare, st0.call st.keep, h1, h2, h3⟩ ⟨Bx, g, pre.length, cap, rfl, st.get .here, by omega, (st0.call st.keep).get (b := B6) (by repeat (first | exact At.here | apply At.there)), by omega⟩
  case body =>
    rintro l pre x a' W hl ⟨r, hr⟩ ⟨hs, g, cap, spare, st0, h1, h2, h3⟩ ⟨Bx, g', k', cap', rfl, hBx, hBn, hB6', hgx⟩ hlen
    have e := hB6'.inj (st0.get (b := B6) (by repeat (first | exact At.here | apply At.there)))
    simp only [List.cons.injEq, and_true, Value.slice.injEq, Option.some.injEq, Addr.mk.injEq] at e
    obtain ⟨e1, _, _⟩ := e
    rw [e1] at hgx
    clear hB6' e1
    have hxp := x.2
    obtain ⟨y, hy⟩ : ∃ y, x.1.2 = y := ⟨_, rfl⟩
    rw [hy] at hBx hxp ⊢
    obtain ⟨xt, xx, xy⟩ := y
    obtain ⟨hx1, hx2, hx3⟩ := hxp
    simp only at hx1 hx2 hx3
    obtain ⟨hx10, hx11⟩ := hx1
    obtain ⟨hx20, hx21⟩ := hx2
    obtain ⟨hx30, hx31⟩ := hx3
    have HKA := hid (keyAt_c (a + z - xt) xx xy ⟨by omega, by omega⟩ ⟨by omega, by omega⟩ ⟨by omega, by omega⟩)
    have HM := hid h1
    have HLN : Hid ((encs k3 (pre.map fun x : BkS => kRev a z x.1.2)).length = pre.length * 3) := hid (by rw [encs_length k3_len, List.length_map])
    have hpl : pre.length ≤ 1000000 := by omega
    obtain ⟨k, hk⟩ : ∃ k, pre.length = k := ⟨_, rfl⟩
    obtain ⟨R, hR⟩ : ∃ R, encs k3 (pre.map fun x : BkS => kRev a z x.1.2) = R := ⟨_, rfl⟩
    have hR2 : encs k3 ((pre ++ [x]).map fun x : BkS => kRev a z x.1.2) = R ++ k3 (a + z - xt, xx, xy) := by
      rw [List.map_append, encs_append, hR]; simp [encs, kRev, hy]
    have hk2 : (pre ++ [x]).length = k + 1 := by rw [List.length_append, hk]; rfl
    have HR2 := hid hR2
    have HK2 := hid hk2
    rw [hk] at st0 HLN hpl
    rw [hR] at st0 HLN HM
    rw [HLN.out.symm.trans HLN.out] at HLN
    clear hk hR hR2 hk2 h1 hlen
    have hgg := st0.get (b := g) .here
    have st := (st0.again).own1 hBx (by
      simp only [List.map_cons, List.map_nil, List.mem_cons, List.mem_nil_iff, or_false, not_or]
      exact ⟨fun e => hgx e.symm, by omega, by omega, by omega⟩)
    simp only [List.map_cons, List.map_nil] at st
    have hfin : ∀ (W' : World) (B37 g2 cap2 : Nat) (spare2 : List Value), St [Bx, g, B6, B5, B4] W W' [(B37, k3 (a + z - xt, xx, xy), 69), (Bx, k3 (xt, xx, xy), 69), (g2, R ++ k3 (a + z - xt, xx, xy) ++ spare2, 69), (B6, [.slice (some ⟨g2, 0, none⟩) (k + 1) cap2], 26), (B5, [.int .i64 z], 2), (B4, [.int .i64 a], 2)] →
        (R ++ k3 (a + z - xt, xx, xy) ++ spare2).length = cap2 * 3 → cap2 ≤ maxLen → KeepsFrom W1.heap.size W W' ∧ KpB [B6, B17] W1.heap.size W W' ∧ W1.heap.size ≤ W'.heap.size ∧ ∃ (g cap : Nat) (spare : List Value), St [] w W' [(g, encs k3 ((pre ++ [x]).map fun x => kRev a z x.1.2) ++ spare, 69), (B6, [.slice (some ⟨g, 0, none⟩) (pre ++ [x]).length cap], 26), (B5, [.int .i64 z], 2), (B4, [.int .i64 a], 2)] ∧ (encs k3 ((pre ++ [x]).map fun x => kRev a z x.1.2) ++ spare).length = cap * 3 ∧ cap ≤ maxLen ∧ (g = B17 ∨ W1.heap.size ≤ g) := fun W' B37 g2 cap2 spare2 st hc2 hm2 => by
      obtain ⟨l1, l2, l3, l4, l5⟩ := back_leaf st0 hBx hs hW1 hBn h3 st
      rw [HR2.out, HK2.out]
      exact ⟨l1, l2, l3, g2, cap2, spare2, l4, hc2, hm2, l5⟩
    refine wpIn_block ?_
    refine wpIn_region_any (by kernel_rfl) (anyIn_of (fun h => by obtain ⟨_, _, h⟩ := h; exact h) (nodef_all (by rfl)) _ _ _ _ ?_)
    have ST0 := hid st0
    have HND : Hid (([Bx, B5, B4] : List Nat).Nodup) := hid (by simp; omega)
    replace st := st.call (Keep.drew W)
    refine wpAny_of_held (S := fun w' => St [Bx, g, B6, B5, B4] W w' [(Bx, k3 (xt, xx, xy), 69), (B5, [.int .i64 z], 2), (B4, [.int .i64 a], 2)]) _ _ _ _ ?_
    clear st0
    change wpAnyH _ _ _ _ _ 18 (Array.replicate 18 false) _ W.drew
    refine takeH (i := 1) rfl (by kernel_rfl) (by kernel_rfl) (by kernel_rfl) (fun _ _ _ h => h) rfl (fun w hw => (load1_run rfl _ rfl tI64 (.int .i64 a) ((hw.get (by repeat (first | exact At.here | apply At.there))).cellv rfl))) (st.sub (by simp) HND.out) ?_
    (simp only [Act.put, Act.eval, Array.getD_eq_getD_getElem?, List.getElem?_toArray, List.getElem?_cons_succ, List.getElem?_cons_zero, Option.getD_some, List.setIfInBounds_toArray, List.set_cons_succ, List.set_cons_zero, List.getElem_toArray, List.getElem_cons_succ, List.getElem_cons_zero])
    refine takeH (i := 2) rfl (by kernel_rfl) (by kernel_rfl) (by kernel_rfl) (fun _ _ _ h => h) rfl (fun w hw => (load1_run rfl _ rfl tI64 (.int .i64 z) ((hw.get (by repeat (first | exact At.here | apply At.there))).cellv rfl))) (st.sub (by simp) HND.out) ?_
    (simp only [Act.put, Act.eval, Array.getD_eq_getD_getElem?, List.getElem?_toArray, List.getElem?_cons_succ, List.getElem?_cons_zero, Option.getD_some, List.setIfInBounds_toArray, List.set_cons_succ, List.set_cons_zero, List.getElem_toArray, List.getElem_cons_succ, List.getElem_cons_zero])
    refine takeH (i := 3) rfl (by kernel_rfl) (by kernel_rfl) (by kernel_rfl) (fun _ _ _ h => h) rfl (fun w hw => (bin_run rfl _ _ _ _ rfl rfl (.int .i64 (a + z)) (run_add64 (by omega) (by omega) _))) (st.sub (by simp) HND.out) ?_
    (simp only [Act.put, Act.eval, Array.getD_eq_getD_getElem?, List.getElem?_toArray, List.getElem?_cons_succ, List.getElem?_cons_zero, Option.getD_some, List.setIfInBounds_toArray, List.set_cons_succ, List.set_cons_zero, List.getElem_toArray, List.getElem_cons_succ, List.getElem_cons_zero])
    refine takeH (i := 4) rfl (by kernel_rfl) (by kernel_rfl) (by kernel_rfl) (fun _ _ _ h => h) rfl (fun w hw => (field_run rfl _ _ rfl 0 (fun b f w' => fld_key0 b f w'))) (st.sub (by simp) HND.out) ?_
    (simp only [Act.put, Act.eval, Array.getD_eq_getD_getElem?, List.getElem?_toArray, List.getElem?_cons_succ, List.getElem?_cons_zero, Option.getD_some, List.setIfInBounds_toArray, List.set_cons_succ, List.set_cons_zero, List.getElem_toArray, List.getElem_cons_succ, List.getElem_cons_zero])
    refine takeH (i := 5) rfl (by kernel_rfl) (by kernel_rfl) (by kernel_rfl) (fun _ _ _ h => h) rfl (fun w hw => (load1_run rfl _ rfl tI16 (.int .i16 xt) ((hw.get (by repeat (first | exact At.here | apply At.there))).cellv rfl))) (st.sub (by simp) HND.out) ?_
    (simp only [Act.put, Act.eval, Array.getD_eq_getD_getElem?, List.getElem?_toArray, List.getElem?_cons_succ, List.getElem?_cons_zero, Option.getD_some, List.setIfInBounds_toArray, List.set_cons_succ, List.set_cons_zero, List.getElem_toArray, List.getElem_cons_succ, List.getElem_cons_zero])
    refine takeH (i := 6) rfl (by kernel_rfl) (by kernel_rfl) (by kernel_rfl) (fun _ _ _ h => h) rfl (fun w hw => (conv_run rfl .i16 .i64 xt xt rfl (by kernel_rfl) Try.underlying2 (IntWalk.i64_in _ (by omega)))) (st.sub (by simp) HND.out) ?_
    (simp only [Act.put, Act.eval, Array.getD_eq_getD_getElem?, List.getElem?_toArray, List.getElem?_cons_succ, List.getElem?_cons_zero, Option.getD_some, List.setIfInBounds_toArray, List.set_cons_succ, List.set_cons_zero, List.getElem_toArray, List.getElem_cons_succ, List.getElem_cons_zero])
    refine takeH (i := 7) rfl (by kernel_rfl) (by kernel_rfl) (by kernel_rfl) (fun _ _ _ h => h) rfl (fun w hw => (bin_run rfl _ _ _ _ rfl rfl (.int .i64 (a + z - xt)) (run_sub64 (by omega) (by omega) _))) (st.sub (by simp) HND.out) ?_
    (simp only [Act.put, Act.eval, Array.getD_eq_getD_getElem?, List.getElem?_toArray, List.getElem?_cons_succ, List.getElem?_cons_zero, Option.getD_some, List.setIfInBounds_toArray, List.set_cons_succ, List.set_cons_zero, List.getElem_toArray, List.getElem_cons_succ, List.getElem_cons_zero])
    refine takeH (i := 8) rfl (by kernel_rfl) (by kernel_rfl) (by kernel_rfl) (fun _ _ _ h => h) rfl (fun w hw => (field_run rfl _ _ rfl 1 (fun b f w' => fld_key1 b f w'))) (st.sub (by simp) HND.out) ?_
    (simp only [Act.put, Act.eval, Array.getD_eq_getD_getElem?, List.getElem?_toArray, List.getElem?_cons_succ, List.getElem?_cons_zero, Option.getD_some, List.setIfInBounds_toArray, List.set_cons_succ, List.set_cons_zero, List.getElem_toArray, List.getElem_cons_succ, List.getElem_cons_zero])
    refine takeH (i := 9) rfl (by kernel_rfl) (by kernel_rfl) (by kernel_rfl) (fun _ _ _ h => h) rfl (fun w hw => (load1_run rfl _ rfl tI8 (.int .i8 xx) ((hw.get (by repeat (first | exact At.here | apply At.there))).cellv rfl))) (st.sub (by simp) HND.out) ?_
    (simp only [Act.put, Act.eval, Array.getD_eq_getD_getElem?, List.getElem?_toArray, List.getElem?_cons_succ, List.getElem?_cons_zero, Option.getD_some, List.setIfInBounds_toArray, List.set_cons_succ, List.set_cons_zero, List.getElem_toArray, List.getElem_cons_succ, List.getElem_cons_zero])
    refine takeH (i := 10) rfl (by kernel_rfl) (by kernel_rfl) (by kernel_rfl) (fun _ _ _ h => h) rfl (fun w hw => (conv_run rfl .i8 .i64 xx xx rfl (by kernel_rfl) Try.underlying2 (IntWalk.i64_in _ (by omega)))) (st.sub (by simp) HND.out) ?_
    (simp only [Act.put, Act.eval, Array.getD_eq_getD_getElem?, List.getElem?_toArray, List.getElem?_cons_succ, List.getElem?_cons_zero, Option.getD_some, List.setIfInBounds_toArray, List.set_cons_succ, List.set_cons_zero, List.getElem_toArray, List.getElem_cons_succ, List.getElem_cons_zero])
    refine takeH (i := 11) rfl (by kernel_rfl) (by kernel_rfl) (by kernel_rfl) (fun _ _ _ h => h) rfl (fun w hw => (field_run rfl _ _ rfl 2 (fun b f w' => fld_key2 b f w'))) (st.sub (by simp) HND.out) ?_
    (simp only [Act.put, Act.eval, Array.getD_eq_getD_getElem?, List.getElem?_toArray, List.getElem?_cons_succ, List.getElem?_cons_zero, Option.getD_some, List.setIfInBounds_toArray, List.set_cons_succ, List.set_cons_zero, List.getElem_toArray, List.getElem_cons_succ, List.getElem_cons_zero])
    refine takeH (i := 12) rfl (by kernel_rfl) (by kernel_rfl) (by kernel_rfl) (fun _ _ _ h => h) rfl (fun w hw => (load1_run rfl _ rfl tI8 (.int .i8 xy) ((hw.get (by repeat (first | exact At.here | apply At.there))).cellv rfl))) (st.sub (by simp) HND.out) ?_
    (simp only [Act.put, Act.eval, Array.getD_eq_getD_getElem?, List.getElem?_toArray, List.getElem?_cons_succ, List.getElem?_cons_zero, Option.getD_some, List.setIfInBounds_toArray, List.set_cons_succ, List.set_cons_zero, List.getElem_toArray, List.getElem_cons_succ, List.getElem_cons_zero])
    refine takeH (i := 13) rfl (by kernel_rfl) (by kernel_rfl) (by kernel_rfl) (fun _ _ _ h => h) rfl (fun w hw => (conv_run rfl .i8 .i64 xy xy rfl (by kernel_rfl) Try.underlying2 (IntWalk.i64_in _ (by omega)))) (st.sub (by simp) HND.out) ?_
    (simp only [Act.put, Act.eval, Array.getD_eq_getD_getElem?, List.getElem?_toArray, List.getElem?_cons_succ, List.getElem?_cons_zero, Option.getD_some, List.setIfInBounds_toArray, List.set_cons_succ, List.set_cons_zero, List.getElem_toArray, List.getElem_cons_succ, List.getElem_cons_zero])
    refine anyH_ready (rs := [0, 14]) (by kernel_rfl) (by simp) ?_
    refine AllH.one rfl rfl ?_ ?_
    · ((with_reducible refine gate_load rfl ?_); refine ia_load1 st rfl rfl rfl rfl ?_)
      (simp only [Act.put, Act.eval, Array.getD_eq_getD_getElem?, List.getElem?_toArray, List.getElem?_cons_succ, List.getElem?_cons_zero, Option.getD_some, List.setIfInBounds_toArray, List.set_cons_succ, List.set_cons_zero, List.getElem_toArray, List.getElem_cons_succ, List.getElem_cons_zero])
      refine wpList_aftH (st.sub (by simp) HND.out) ?_
      refine anyH_ready (rs := [14]) (by kernel_rfl) (by simp) ?_
      refine AllH.one rfl rfl ?_ ?_
      · ((with_reducible refine gate_call rfl ?_); (with_reducible refine gate_dst (N := 36) rfl ?_); refine wpl_call rfl _ rfl _ rfl 55 _ _ rfl _ Try.func55 (by kernel_rfl) (by kernel_rfl) #[.int .i64 (a + z - xt), .int .i64 xx, .int .i64 xy] (by simp [Act.eval, Act.put]) ?_; refine (HKA.out _).mono ?_; rintro _ _ ⟨rfl, hk⟩; refine ⟨(.agg (k3 (a + z - xt, xx, xy)).toArray), rfl, ?_⟩; replace st := st.call hk; clear hk)
        (simp only [Act.put, Act.eval, Array.getD_eq_getD_getElem?, List.getElem?_toArray, List.getElem?_cons_succ, List.getElem?_cons_zero, Option.getD_some, List.setIfInBounds_toArray, List.set_cons_succ, List.set_cons_zero, List.getElem_toArray, List.getElem_cons_succ, List.getElem_cons_zero])
        refine wpList_aftH (st.sub (by simp) HND.out) ?_
        refine anyH_ready (rs := [15]) (by kernel_rfl) (by simp) ?_
        refine AllH.one rfl rfl ?_ ?_
        · ((with_reducible refine gate_bsl rfl ?_); refine ia_bsl1 (sl := 37) st rfl rfl rfl rfl rfl ?_ (by decide) ?_; (focus (first | rfl | (simp; done) | (simp; assumption) | (simp; omega) | (simp [*]; done))); clear st; intro B37 _ st)
          (simp only [Act.put, Act.eval, Array.getD_eq_getD_getElem?, List.getElem?_toArray, List.getElem?_cons_succ, List.getElem?_cons_zero, Option.getD_some, List.setIfInBounds_toArray, List.set_cons_succ, List.set_cons_zero, List.getElem_toArray, List.getElem_cons_succ, List.getElem_cons_zero])
          refine wpList_aftH (st.sub (by simp) HND.out) ?_
          refine anyH_ready (rs := [16]) (by kernel_rfl) (by simp) ?_
          refine AllH.one rfl rfl ?_ ?_
          · ((with_reducible refine gate_app rfl ?_); refine ia_appendR (news := (k3 (a + z - xt, xx, xy))) (xs := R) (spare := spare) st rfl rfl rfl rfl HLN.out HM.out h2 (.fr (st.get (by repeat (first | exact At.here | apply At.there)))) (fun h => by cases h) (k3_len _) (k3_one _) (by unfold maxLen; omega) (by omega) ?_; clear st; intro g2 cap2 spare2 _ st hcap2 hcm2; (try simp only [List.set_cons_zero, List.set_cons_succ] at st))
            (simp only [Act.put, Act.eval, Array.getD_eq_getD_getElem?, List.getElem?_toArray, List.getElem?_cons_succ, List.getElem?_cons_zero, Option.getD_some, List.setIfInBounds_toArray, List.set_cons_succ, List.set_cons_zero, List.getElem_toArray, List.getElem_cons_succ, List.getElem_cons_zero])
            refine wpList_aftH (st.sub (by simp) HND.out) ?_
            refine anyH_ready (rs := [17]) (by kernel_rfl) (by simp) ?_
            refine AllH.one rfl rfl ?_ ?_
            · ((with_reducible refine gate_store rfl ?_); refine ia_store1 st rfl rfl rfl rfl rfl rfl ?_ ?_; (focus (simp; done)); clear st; intro _ st; (try simp only [Act.put, Act.eval, Array.getD_eq_getD_getElem?, List.getElem?_toArray, List.getElem?_cons_succ, List.getElem?_cons_zero, Option.getD_some, List.setIfInBounds_toArray, List.getElem_toArray, List.getElem_cons_succ, List.getElem_cons_zero, List.set_cons_zero, List.set_cons_succ] at st))
              (simp only [Act.put, Act.eval, Array.getD_eq_getD_getElem?, List.getElem?_toArray, List.getElem?_cons_succ, List.getElem?_cons_zero, Option.getD_some, List.setIfInBounds_toArray, List.set_cons_succ, List.set_cons_zero, List.getElem_toArray, List.getElem_cons_succ, List.getElem_cons_zero])
              refine wpList_aftH (st.sub (by simp) HND.out) ?_
              refine wpAnyH_done (by kernel_rfl) ?_ _
              exact hfin _ _ _ _ _ st hcap2 hcm2
            exact AllH.nil
          exact AllH.nil
        exact AllH.nil
      exact AllH.nil
    refine AllH.one rfl rfl ?_ ?_
    · ((with_reducible refine gate_call rfl ?_); (with_reducible refine gate_dst (N := 36) rfl ?_); refine wpl_call rfl _ rfl _ rfl 55 _ _ rfl _ Try.func55 (by kernel_rfl) (by kernel_rfl) #[.int .i64 (a + z - xt), .int .i64 xx, .int .i64 xy] (by simp [Act.eval, Act.put]) ?_; refine (HKA.out _).mono ?_; rintro _ _ ⟨rfl, hk⟩; refine ⟨(.agg (k3 (a + z - xt, xx, xy)).toArray), rfl, ?_⟩; replace st := st.call hk; clear hk)
      (simp only [Act.put, Act.eval, Array.getD_eq_getD_getElem?, List.getElem?_toArray, List.getElem?_cons_succ, List.getElem?_cons_zero, Option.getD_some, List.setIfInBounds_toArray, List.set_cons_succ, List.set_cons_zero, List.getElem_toArray, List.getElem_cons_succ, List.getElem_cons_zero])
      refine wpList_aftH (st.sub (by simp) HND.out) ?_
      refine anyH_ready (rs := [0, 15]) (by kernel_rfl) (by simp) ?_
      refine AllH.one rfl rfl ?_ ?_
      · ((with_reducible refine gate_load rfl ?_); refine ia_load1 st rfl rfl rfl rfl ?_)
        (simp only [Act.put, Act.eval, Array.getD_eq_getD_getElem?, List.getElem?_toArray, List.getElem?_cons_succ, List.getElem?_cons_zero, Option.getD_some, List.setIfInBounds_toArray, List.set_cons_succ, List.set_cons_zero, List.getElem_toArray, List.getElem_cons_succ, List.getElem_cons_zero])
        refine wpList_aftH (st.sub (by simp) HND.out) ?_
        refine anyH_ready (rs := [15]) (by kernel_rfl) (by simp) ?_
        refine AllH.one rfl rfl ?_ ?_
        · ((with_reducible refine gate_bsl rfl ?_); refine ia_bsl1 (sl := 37) st rfl rfl rfl rfl rfl ?_ (by decide) ?_; (focus (first | rfl | (simp; done) | (simp; assumption) | (simp; omega) | (simp [*]; done))); clear st; intro B37 _ st)
          (simp only [Act.put, Act.eval, Array.getD_eq_getD_getElem?, List.getElem?_toArray, List.getElem?_cons_succ, List.getElem?_cons_zero, Option.getD_some, List.setIfInBounds_toArray, List.set_cons_succ, List.set_cons_zero, List.getElem_toArray, List.getElem_cons_succ, List.getElem_cons_zero])
          refine wpList_aftH (st.sub (by simp) HND.out) ?_
          refine anyH_ready (rs := [16]) (by kernel_rfl) (by simp) ?_
          refine AllH.one rfl rfl ?_ ?_
          · ((with_reducible refine gate_app rfl ?_); refine ia_appendR (news := (k3 (a + z - xt, xx, xy))) (xs := R) (spare := spare) st rfl rfl rfl rfl HLN.out HM.out h2 (.fr (st.get (by repeat (first | exact At.here | apply At.there)))) (fun h => by cases h) (k3_len _) (k3_one _) (by unfold maxLen; omega) (by omega) ?_; clear st; intro g2 cap2 spare2 _ st hcap2 hcm2; (try simp only [List.set_cons_zero, List.set_cons_succ] at st))
            (simp only [Act.put, Act.eval, Array.getD_eq_getD_getElem?, List.getElem?_toArray, List.getElem?_cons_succ, List.getElem?_cons_zero, Option.getD_some, List.setIfInBounds_toArray, List.set_cons_succ, List.set_cons_zero, List.getElem_toArray, List.getElem_cons_succ, List.getElem_cons_zero])
            refine wpList_aftH (st.sub (by simp) HND.out) ?_
            refine anyH_ready (rs := [17]) (by kernel_rfl) (by simp) ?_
            refine AllH.one rfl rfl ?_ ?_
            · ((with_reducible refine gate_store rfl ?_); refine ia_store1 st rfl rfl rfl rfl rfl rfl ?_ ?_; (focus (simp; done)); clear st; intro _ st; (try simp only [Act.put, Act.eval, Array.getD_eq_getD_getElem?, List.getElem?_toArray, List.getElem?_cons_succ, List.getElem?_cons_zero, Option.getD_some, List.setIfInBounds_toArray, List.getElem_toArray, List.getElem_cons_succ, List.getElem_cons_zero, List.set_cons_zero, List.set_cons_succ] at st))
              (simp only [Act.put, Act.eval, Array.getD_eq_getD_getElem?, List.getElem?_toArray, List.getElem?_cons_succ, List.getElem?_cons_zero, Option.getD_some, List.setIfInBounds_toArray, List.set_cons_succ, List.set_cons_zero, List.getElem_toArray, List.getElem_cons_succ, List.getElem_cons_zero])
              refine wpList_aftH (st.sub (by simp) HND.out) ?_
              refine wpAnyH_done (by kernel_rfl) ?_ _
              exact hfin _ _ _ _ _ st hcap2 hcm2
            exact AllH.nil
          exact AllH.nil
        exact AllH.nil
      refine AllH.one rfl rfl ?_ ?_
      · ((with_reducible refine gate_bsl rfl ?_); refine ia_bsl1 (sl := 37) st rfl rfl rfl rfl rfl ?_ (by decide) ?_; (focus (first | rfl | (simp; done) | (simp; assumption) | (simp; omega) | (simp [*]; done))); clear st; intro B37 _ st)
        (simp only [Act.put, Act.eval, Array.getD_eq_getD_getElem?, List.getElem?_toArray, List.getElem?_cons_succ, List.getElem?_cons_zero, Option.getD_some, List.setIfInBounds_toArray, List.set_cons_succ, List.set_cons_zero, List.getElem_toArray, List.getElem_cons_succ, List.getElem_cons_zero])
        refine wpList_aftH (st.sub (by simp) HND.out) ?_
        refine anyH_ready (rs := [0]) (by kernel_rfl) (by simp) ?_
        refine AllH.one rfl rfl ?_ ?_
        · ((with_reducible refine gate_load rfl ?_); refine ia_load1 st rfl rfl rfl rfl ?_)
          (simp only [Act.put, Act.eval, Array.getD_eq_getD_getElem?, List.getElem?_toArray, List.getElem?_cons_succ, List.getElem?_cons_zero, Option.getD_some, List.setIfInBounds_toArray, List.set_cons_succ, List.set_cons_zero, List.getElem_toArray, List.getElem_cons_succ, List.getElem_cons_zero])
          refine wpList_aftH (st.sub (by simp) HND.out) ?_
          refine anyH_ready (rs := [16]) (by kernel_rfl) (by simp) ?_
          refine AllH.one rfl rfl ?_ ?_
          · ((with_reducible refine gate_app rfl ?_); refine ia_appendR (news := (k3 (a + z - xt, xx, xy))) (xs := R) (spare := spare) st rfl rfl rfl rfl HLN.out HM.out h2 (.fr (st.get (by repeat (first | exact At.here | apply At.there)))) (fun h => by cases h) (k3_len _) (k3_one _) (by unfold maxLen; omega) (by omega) ?_; clear st; intro g2 cap2 spare2 _ st hcap2 hcm2; (try simp only [List.set_cons_zero, List.set_cons_succ] at st))
            (simp only [Act.put, Act.eval, Array.getD_eq_getD_getElem?, List.getElem?_toArray, List.getElem?_cons_succ, List.getElem?_cons_zero, Option.getD_some, List.setIfInBounds_toArray, List.set_cons_succ, List.set_cons_zero, List.getElem_toArray, List.getElem_cons_succ, List.getElem_cons_zero])
            refine wpList_aftH (st.sub (by simp) HND.out) ?_
            refine anyH_ready (rs := [17]) (by kernel_rfl) (by simp) ?_
            refine AllH.one rfl rfl ?_ ?_
            · ((with_reducible refine gate_store rfl ?_); refine ia_store1 st rfl rfl rfl rfl rfl rfl ?_ ?_; (focus (simp; done)); clear st; intro _ st; (try simp only [Act.put, Act.eval, Array.getD_eq_getD_getElem?, List.getElem?_toArray, List.getElem?_cons_succ, List.getElem?_cons_zero, Option.getD_some, List.setIfInBounds_toArray, List.getElem_toArray, List.getElem_cons_succ, List.getElem_cons_zero, List.set_cons_zero, List.set_cons_succ] at st))
              (simp only [Act.put, Act.eval, Array.getD_eq_getD_getElem?, List.getElem?_toArray, List.getElem?_cons_succ, List.getElem?_cons_zero, Option.getD_some, List.setIfInBounds_toArray, List.set_cons_succ, List.set_cons_zero, List.getElem_toArray, List.getElem_cons_succ, List.getElem_cons_zero])
              refine wpList_aftH (st.sub (by simp) HND.out) ?_
              refine wpAnyH_done (by kernel_rfl) ?_ _
              exact hfin _ _ _ _ _ st hcap2 hcm2
            exact AllH.nil
          exact AllH.nil
        exact AllH.nil
      exact AllH.nil
    exact AllH.nil
  case done =>
    rintro D xs W hD hxs ⟨hs, g, cap, spare, st, h1, h2, h3⟩ hK
    have hxl : xs.length = m := by rw [hxs, uptoB_length]
    rw [hxl] at st
    have HXS := hid hxs
    have HH := hid h1
    have HK := hid hK
    clear hxs h1 hK
    go_wp2_with (first | ((with_reducible refine gate_load rfl ?_); refine ia_load1 st rfl rfl rfl rfl ?_) | ((with_reducible refine gate_lst ?_); (first | ((with_reducible refine gate_alloc rfl ?_); (first | (refine ia_alloc1 (sl := 4) st rfl rfl rfl ?_; clear st; intro B4 _ st) | (refine ia_alloc1 (sl := 5) st rfl rfl rfl ?_; clear st; intro B5 _ st) | (refine ia_alloc1 (sl := 6) st rfl rfl rfl ?_; clear st; intro B6 _ st) | (refine ia_alloc (sl := 8) st rfl rfl rfl ?_; clear st; intro B8 _ st))) | ((with_reducible refine gate_load rfl ?_); (first | (refine' ia_load1 st rfl rfl rfl ?_ ?_; rotate_left 1; (focus (first | exact N0.out | exact N1.out | exact N2.out | exact N3.out | exact N4.out | exact N5.out | exact G2.out | exact G3.out | exact G4.out | exact G0.out | exact G1.out | (refine frv_get _ _ ?_; (first | omega | (simp; done) | (simp; omega) | (simp [*]; omega))) | exact rfl))) | (refine' ia_load1Z (hb.keep st.keep (by simp)) rfl rfl rfl ?_ ?_; rotate_left 1; (focus exact rfl)) | (refine' ia_load1Z (hb'.keep st.keep (by simp)) rfl rfl rfl ?_ ?_; rotate_left 1; (focus exact rfl)) | (refine' ia_load1C (hb.keep st.keep (by simp)) rfl rfl rfl ?_ ?_; rotate_left 1; (focus (first | exact N0.out | exact N1.out | exact N2.out | exact N3.out | exact N4.out | exact N5.out | exact G2.out | exact G3.out | exact G4.out | exact G0.out | exact G1.out | (refine frv_get _ _ ?_; (first | omega | (simp; done) | (simp; omega) | (simp [*]; omega))) | exact rfl))) | (refine' ia_load1C (hb'.keep st.keep (by simp)) rfl rfl rfl ?_ ?_; rotate_left 1; (focus (first | exact N0.out | exact N1.out | exact N2.out | exact N3.out | exact N4.out | exact N5.out | exact G2.out | exact G3.out | exact G4.out | exact G0.out | exact G1.out | (refine frv_get _ _ ?_; (first | omega | (simp; done) | (simp; omega) | (simp [*]; omega))) | exact rfl))) | (refine' ia_load1B (hb1.keep st.keep (by simp)) rfl rfl rfl ?_ ?_; rotate_left 1; (focus (first | exact N0.out | exact N1.out | exact N2.out | exact N3.out | exact N4.out | exact N5.out | exact G2.out | exact G3.out | exact G4.out | exact G0.out | exact G1.out | (refine frv_get _ _ ?_; (first | omega | (simp; done) | (simp; omega) | (simp [*]; omega))) | exact rfl))) | (refine' ia_load1B (hb2.keep st.keep (by simp)) rfl rfl rfl ?_ ?_; rotate_left 1; (focus (first | exact N0.out | exact N1.out | exact N2.out | exact N3.out | exact N4.out | exact N5.out | exact G2.out | exact G3.out | exact G4.out | exact G0.out | exact G1.out | (refine frv_get _ _ ?_; (first | omega | (simp; done) | (simp; omega) | (simp [*]; omega))) | exact rfl))))) | ((with_reducible refine gate_store rfl ?_); (first | (refine ia_store1 st rfl rfl rfl rfl rfl rfl ?_ ?_; (focus (first | omega | (simp; done) | (simp; omega) | (simp [*]; omega))); clear st; intro _ st; (try simp only [Act.put, Act.eval, Array.getD_eq_getD_getElem?, List.getElem?_toArray, List.getElem?_cons_succ, List.getElem?_cons_zero, Option.getD_some, List.setIfInBounds_toArray, List.getElem_toArray, List.getElem_cons_succ, List.getElem_cons_zero, List.set_cons_zero, List.set_cons_succ] at st)) | (refine ia_storeAll st rfl rfl rfl rfl ?_ ?_ ?_ ?_; (focus (first | rfl | (simp; done) | (simp; assumption) | (simp; omega) | (simp [*]; done))); (focus (first | exact frv_one _ | exact fv_one _ | exact p8_one _ | exact k3_one _ | exact i1_one _ | (simp [Value.oneCell']; done))); (focus (first | rfl | (simp; done) | (simp; assumption) | (simp; omega) | (simp [*]; done))); clear st; intro _ st; (try simp only [List.set_cons_zero, List.set_cons_succ] at st)) | (refine ia_storeSeg st rfl rfl rfl rfl ?_ ?_ ?_ ?_; (focus (first | rfl | (simp; done) | (simp; assumption) | (simp; omega) | (simp [*]; done))); (focus (first | exact frv_one _ | exact fv_one _ | exact p8_one _ | exact k3_one _ | exact i1_one _ | (simp [Value.oneCell']; done))); (focus (first | omega | (simp; done) | (simp; omega) | (simp [*]; omega))); clear st; intro _ st; (try simp only [List.set_cons_zero, List.set_cons_succ] at st)))))) | ((with_reducible refine qgate_nil ?_); refine wpQuiet_nil ?_; (try intro _ st)) | ((with_reducible refine qgate_any ?_); (first | ((with_reducible refine qgate_load rfl ?_); (first | (refine' iq_load1 rfl rfl rfl ?_ ?_; rotate_left 1; (focus (first | exact N0.out | exact N1.out | exact N2.out | exact N3.out | exact N4.out | exact N5.out | exact G2.out | exact G3.out | exact G4.out | exact G0.out | exact G1.out | (refine frv_get _ _ ?_; (first | omega | (simp; done) | (simp; omega) | (simp [*]; omega))) | exact rfl))) | (refine' iq_load1Z hb rfl rfl rfl ?_ ?_; rotate_left 1; (focus exact rfl)) | (refine' iq_load1Z hb' rfl rfl rfl ?_ ?_; rotate_left 1; (focus exact rfl)) | (refine' iq_load1C hb rfl rfl rfl ?_ ?_; rotate_left 1; (focus (first | exact N0.out | exact N1.out | exact N2.out | exact N3.out | exact N4.out | exact N5.out | exact G2.out | exact G3.out | exact G4.out | exact G0.out | exact G1.out | (refine frv_get _ _ ?_; (first | omega | (simp; done) | (simp; omega) | (simp [*]; omega))) | exact rfl))) | (refine' iq_load1C hb' rfl rfl rfl ?_ ?_; rotate_left 1; (focus (first | exact N0.out | exact N1.out | exact N2.out | exact N3.out | exact N4.out | exact N5.out | exact G2.out | exact G3.out | exact G4.out | exact G0.out | exact G1.out | (refine frv_get _ _ ?_; (first | omega | (simp; done) | (simp; omega) | (simp [*]; omega))) | exact rfl))))) | ((with_reducible refine qgate_field rfl ?_); refine iq_field rfl rfl rfl ?_) | ((with_reducible refine qgate_conv rfl ?_); refine' iq_conv rfl rfl rfl ?_ ?_; rotate_left 1; (focus (first | (refine IntWalk.i64_in _ ?_; omega) | (refine i8_wrap ?_ ?_ <;> omega) | exact rfl))) | ((with_reducible refine qgate_bin rfl ?_); refine' qa_bin ?_ rfl rfl rfl rfl ?_; rotate_left 1; (focus (first | exact run_add64 (by omega) (by omega) | exact run_sub64 (by omega) (by omega) | (intro w'; go_simp; exact rfl))))); all_goals (try (simp only [Nat.zero_add, Nat.add_zero, Nat.mul_one, Nat.zero_mul, Act.put, Act.eval, Array.getD_eq_getD_getElem?, List.getElem?_toArray, List.getElem?_cons_succ, List.getElem?_cons_zero, Option.getD_some, List.setIfInBounds_toArray, List.set_cons_succ, List.set_cons_zero, List.getElem_toArray, List.getElem_cons_succ, List.getElem_cons_zero]))) | ((with_reducible refine rgate (id := 7) ?_); refine wp_region_sched_st (id := 7) st [0, 1, 2, 3, 4, 5, 6, 7, 8, 9, 10, 11, 12, 13] [14, 15, 16, 17] [] (fun _ h => h.nil) (by kernel_rfl) (by kernel_rfl) ?_; clear st; simp only [sel, List.filterMap_cons, List.filterMap_nil, List.getElem?_cons_succ, List.getElem?_cons_zero]) | (with_reducible refine loud_go ?_) | ((with_reducible refine aftS_go ?_ ?_); (focus exact st.nil)) | (with_reducible refine loud_nil ?_))
    have st2 := st.grown (grownBy_putObj' W D (.deferred none)) (fun r e => by cases e; exact ⟨Nat.le_trans hW1 hD, _, HK.out, rfl⟩)
    refine ⟨by simp, .inl ⟨_, _, rfl, run_takeDeferred HK.out, ?_⟩⟩
    refine ⟨_, results_tmp2 rfl _ _ _, ?_⟩
    exact ⟨_, rfl, Or.inr ⟨g, cap, spare, rfl, st2.geb .here, by rw [← HXS.out]; exact st2.get .here, by rw [← HXS.out]; exact HH.out, h2⟩, st2.keep⟩
  case stop =>
    rintro D c pre W _ _ h _
    exact h.elim
end Go.Proofs.Ytmndbmapepenjaa
