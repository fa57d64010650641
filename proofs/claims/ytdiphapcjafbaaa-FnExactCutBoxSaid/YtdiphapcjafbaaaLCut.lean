/- The law CutBox: what it answers; no condition. -/
import Derived.Test.YtdiphapcjafbaaaCut4
namespace Go.Proofs.Ytdiphapcjafbaaa
open Go.RowKit
set_option linter.unusedSimpArgs false
set_option linter.unusedVariables false
set_option maxRecDepth 100000 in
theorem toBox_c (x y m n : Int) (w : World) : Calls Try.prog 66 #[.agg (bxv (x, y, m, n)).toArray] w fun e w' => e = .returned (.agg (bxv (x, y, m, n)).toArray) ∧ Keep [] w w' := by
  rw [show bxv (x, y, m, n) = [.int .i8 x, .int .i8 y, .int .i8 m, .int .i8 n] from rfl]
  have st := St.start w
  go_enter Try.func66, Try.ntmps66
  go_wp2_with (first | ((with_reducible refine gate_box rfl ?_); refine wpl_box rfl _ _ rfl _ rfl _ rfl st ?_; clear st; intro _ _ st) | ((with_reducible refine gate_alloc rfl ?_); (with_reducible refine gate_dst (N := 2) rfl ?_); refine wpl_alloc rfl _ rfl tBox st ?_; clear st; intro B2 _ st) | ((with_reducible refine gate_alloc rfl ?_); (with_reducible refine gate_dst (N := 3) rfl ?_); refine wpl_alloc rfl _ rfl tBox st ?_; clear st; intro B3 _ st) | ((with_reducible refine gate_load rfl ?_); refine wpl_load1 rfl _ _ rfl _ rfl tI8 _ ((st.get (by repeat (first | exact At.here | apply At.there))).cellv rfl) ?_) | ((with_reducible refine gate_store rfl ?_); refine wpl_store1 rfl _ _ _ rfl _ _ rfl (.int .i8 _) rfl tI8 rfl rfl st _ _ (by repeat (first | exact Upd.here | apply Upd.there)) (by simp) ?_; clear st; intro _ st) | ((with_reducible refine gate_load rfl ?_); refine wpl_loadAll rfl _ _ rfl _ rfl tBox _ _ (st.get (by repeat (first | exact At.here | apply At.there))) rfl ?_) | ((with_reducible refine gate_store rfl ?_); refine wpl_storeAll rfl _ _ _ rfl _ rfl _ rfl tBox rfl (bxv_one _ _ _ _) st _ _ (by repeat (first | exact Upd.here | apply Upd.there)) rfl ?_; clear st; intro _ st))
  refine bodyPost_cell rfl tBox rfl _ rfl _ _ (st.get (by repeat (first | exact At.here | apply At.there))) rfl ?_
  exact ⟨rfl, st.keep⟩
set_option maxHeartbeats 2000000 in
set_option maxRecDepth 100000 in
theorem law_CutBox (f : List Nat) (ok : FrOk f) (b : Int × Int × Int × Int) (okb : BxOk b) (w : World) :
    Calls Try.prog 20 #[.agg (frv f).toArray, .agg (bxv b).toArray] w fun e w' => e = .returned (.bool true) ∧ Keep [] w w' := by
  obtain ⟨x, y, m, n⟩ := b
  have hf := ok.len
  have hR : (cutR f x y m n).length = 12 := (cutR_ok f x y m n).len
  have st := St.start w
  go_enter Try.func20, Try.ntmps20
  go_wp2_with (first | ((with_reducible refine gate_box rfl ?_); refine wpl_box rfl _ _ rfl _ rfl _ rfl st ?_; clear st; intro _ _ st))
  apply wp_region_meetH st 11 rfl (by kernel_rfl)
  case h =>
    intro _ st
    refine takeH (i := 0) rfl (by kernel_rfl) (by kernel_rfl) (by kernel_rfl) (fun _ _ _ h => h) rfl (fun w hw => (loadAll_run rfl _ rfl tRaw.toAggT (frv f) _ (hw.get (by repeat (first | exact At.here | apply At.there))) (by rw [frv_length, hf]))) (by first | exact st | exact st.drop | exact st.drop.drop) ?_
    (simp only [Act.put, Act.eval, Array.getD_eq_getD_getElem?, List.getElem?_toArray, List.getElem?_cons_succ, List.getElem?_cons_zero, Option.getD_some, List.setIfInBounds_toArray, List.set_cons_succ, List.set_cons_zero, List.getElem_toArray, List.getElem_cons_succ, List.getElem_cons_zero])
    refine takeH (i := 2) rfl (by kernel_rfl) (by kernel_rfl) (by kernel_rfl) (fun _ _ _ h => h) rfl (fun w hw => (loadAll_run rfl _ rfl tLBox (bxv (x, y, m, n)) _ (hw.get (by repeat (first | exact At.here | apply At.there))) rfl)) (by first | exact st | exact st.drop | exact st.drop.drop) ?_
    (simp only [Act.put, Act.eval, Array.getD_eq_getD_getElem?, List.getElem?_toArray, List.getElem?_cons_succ, List.getElem?_cons_zero, Option.getD_some, List.setIfInBounds_toArray, List.set_cons_succ, List.set_cons_zero, List.getElem_toArray, List.getElem_cons_succ, List.getElem_cons_zero])
    refine anyH_ready (rs := [1, 8]) (by kernel_rfl) (by simp) ?_
    refine AllH.one rfl rfl ?_ ?_
    · ((with_reducible refine gate_call rfl ?_); (with_reducible refine gate_dst (N := 11) rfl ?_); refine wpl_call rfl _ rfl _ rfl 24 _ _ rfl _ Try.func24 (by kernel_rfl) (by kernel_rfl) #[.agg (frv f).toArray] (by simp [Act.eval, Act.put]) ?_; refine (toFrame_c f hf _).mono ?_; rintro _ _ ⟨rfl, hk⟩; refine ⟨(.agg (frv f).toArray), rfl, ?_⟩; replace st := st.call hk; clear hk)
      (simp only [Act.put, Act.eval, Array.getD_eq_getD_getElem?, List.getElem?_toArray, List.getElem?_cons_succ, List.getElem?_cons_zero, Option.getD_some, List.setIfInBounds_toArray, List.set_cons_succ, List.set_cons_zero, List.getElem_toArray, List.getElem_cons_succ, List.getElem_cons_zero])
      refine wpList_aftH (by first | exact st | exact st.drop | exact st.drop.drop) ?_
      refine anyH_ready (rs := [3, 8]) (by kernel_rfl) (by simp) ?_
      refine AllH.one rfl rfl ?_ ?_
      · ((with_reducible refine gate_call rfl ?_); (with_reducible refine gate_dst (N := 13) rfl ?_); refine wpl_call rfl _ rfl _ rfl 66 _ _ rfl _ Try.func66 (by kernel_rfl) (by kernel_rfl) #[.agg (bxv (x, y, m, n)).toArray] (by simp [Act.eval, Act.put]) ?_; refine (toBox_c x y m n _).mono ?_; rintro _ _ ⟨rfl, hk⟩; refine ⟨(.agg (bxv (x, y, m, n)).toArray), rfl, ?_⟩; replace st := st.call hk; clear hk)
        (simp only [Act.put, Act.eval, Array.getD_eq_getD_getElem?, List.getElem?_toArray, List.getElem?_cons_succ, List.getElem?_cons_zero, Option.getD_some, List.setIfInBounds_toArray, List.set_cons_succ, List.set_cons_zero, List.getElem_toArray, List.getElem_cons_succ, List.getElem_cons_zero])
        refine wpList_aftH (by first | exact st | exact st.drop | exact st.drop.drop) ?_
        refine anyH_ready (rs := [4, 8]) (by kernel_rfl) (by simp) ?_
        refine AllH.one rfl rfl ?_ ?_
        · ((with_reducible refine gate_call rfl ?_); (with_reducible refine gate_dst (N := 14) rfl ?_); refine wpl_call rfl _ rfl _ rfl 65 _ _ rfl _ Try.func65 (by kernel_rfl) (by kernel_rfl) #[.agg (frv f).toArray, .agg (bxv (x, y, m, n)).toArray] (by simp [Act.eval, Act.put]) ?_; refine (specCut_c f ok x y m n okb _).mono ?_; rintro _ _ ⟨rfl, hk⟩; refine ⟨_, rfl, ?_⟩; replace st := st.call hk; clear hk)
          (simp only [Act.put, Act.eval, Array.getD_eq_getD_getElem?, List.getElem?_toArray, List.getElem?_cons_succ, List.getElem?_cons_zero, Option.getD_some, List.setIfInBounds_toArray, List.set_cons_succ, List.set_cons_zero, List.getElem_toArray, List.getElem_cons_succ, List.getElem_cons_zero])
          refine wpList_aftH (by first | exact st | exact st.drop | exact st.drop.drop) ?_
          refine takeH (i := 5) rfl (by kernel_rfl) (by kernel_rfl) (by kernel_rfl) (fun _ _ _ h => h) rfl (fun w hw => rfl) (by first | exact st | exact st.drop | exact st.drop.drop) ?_
          (simp only [Act.put, Act.eval, Array.getD_eq_getD_getElem?, List.getElem?_toArray, List.getElem?_cons_succ, List.getElem?_cons_zero, Option.getD_some, List.setIfInBounds_toArray, List.set_cons_succ, List.set_cons_zero, List.getElem_toArray, List.getElem_cons_succ, List.getElem_cons_zero])
          refine takeH (i := 6) rfl (by kernel_rfl) (by kernel_rfl) (by kernel_rfl) (fun _ _ _ h => h) rfl (fun w hw => rfl) (by first | exact st | exact st.drop | exact st.drop.drop) ?_
          (simp only [Act.put, Act.eval, Array.getD_eq_getD_getElem?, List.getElem?_toArray, List.getElem?_cons_succ, List.getElem?_cons_zero, Option.getD_some, List.setIfInBounds_toArray, List.set_cons_succ, List.set_cons_zero, List.getElem_toArray, List.getElem_cons_succ, List.getElem_cons_zero])
          refine takeH (i := 7) rfl (by kernel_rfl) (by kernel_rfl) (by kernel_rfl) (fun _ _ _ h => h) rfl (fun w hw => rfl) (by first | exact st | exact st.drop | exact st.drop.drop) ?_
          (simp only [Act.put, Act.eval, Array.getD_eq_getD_getElem?, List.getElem?_toArray, List.getElem?_cons_succ, List.getElem?_cons_zero, Option.getD_some, List.setIfInBounds_toArray, List.set_cons_succ, List.set_cons_zero, List.getElem_toArray, List.getElem_cons_succ, List.getElem_cons_zero])
          refine anyH_ready (rs := [8]) (by kernel_rfl) (by simp) ?_
          refine AllH.one rfl rfl ?_ ?_
          · ((with_reducible refine gate_alloc rfl ?_); refine wpl_alloc rfl _ rfl tFr.toAggT st ?_; clear st; intro BB _ st)
            (simp only [Act.put, Act.eval, Array.getD_eq_getD_getElem?, List.getElem?_toArray, List.getElem?_cons_succ, List.getElem?_cons_zero, Option.getD_some, List.setIfInBounds_toArray, List.set_cons_succ, List.set_cons_zero, List.getElem_toArray, List.getElem_cons_succ, List.getElem_cons_zero])
            refine wpList_aftH (by first | exact st | exact st.drop | exact st.drop.drop) ?_
            refine anyH_ready (rs := [9]) (by kernel_rfl) (by simp) ?_
            refine AllH.one rfl rfl ?_ ?_
            · ((with_reducible refine gate_store rfl ?_); refine wpl_storeAll rfl _ _ _ rfl _ rfl _ rfl tFr.toAggT (by rw [frv_length, hR]) (frv_one _) st _ _ (by repeat (first | exact Upd.here | apply Upd.there)) (by simp [frv_length, zf_length, mk_length, withD_length, part_length, rowsOf_length, *]) ?_; clear st; intro _ st)
              (simp only [Act.put, Act.eval, Array.getD_eq_getD_getElem?, List.getElem?_toArray, List.getElem?_cons_succ, List.getElem?_cons_zero, Option.getD_some, List.setIfInBounds_toArray, List.set_cons_succ, List.set_cons_zero, List.getElem_toArray, List.getElem_cons_succ, List.getElem_cons_zero])
              refine wpList_aftH (by first | exact st | exact st.drop | exact st.drop.drop) ?_
              refine anyH_ready (rs := [10]) (by kernel_rfl) (by simp) ?_
              refine AllH.one rfl rfl ?_ ?_
              · ((first | (with_reducible refine gate_move rfl ?_) | (with_reducible refine gate_assign rfl ?_) | (with_reducible refine gate_extract rfl ?_)); refine wpl_val rfl _ rfl ?_)
                (simp only [Act.put, Act.eval, Array.getD_eq_getD_getElem?, List.getElem?_toArray, List.getElem?_cons_succ, List.getElem?_cons_zero, Option.getD_some, List.setIfInBounds_toArray, List.set_cons_succ, List.set_cons_zero, List.getElem_toArray, List.getElem_cons_succ, List.getElem_cons_zero])
                refine wpList_aftH (by first | exact st | exact st.drop | exact st.drop.drop) ?_
                refine wpAnyH_done (by kernel_rfl) ?_ _; exact ⟨BB, rfl, st⟩
              exact AllH.nil
            exact AllH.nil
          exact AllH.nil
        refine AllH.one rfl rfl ?_ ?_
        · ((with_reducible refine gate_alloc rfl ?_); refine wpl_alloc rfl _ rfl tFr.toAggT st ?_; clear st; intro BB _ st)
          (simp only [Act.put, Act.eval, Array.getD_eq_getD_getElem?, List.getElem?_toArray, List.getElem?_cons_succ, List.getElem?_cons_zero, Option.getD_some, List.setIfInBounds_toArray, List.set_cons_succ, List.set_cons_zero, List.getElem_toArray, List.getElem_cons_succ, List.getElem_cons_zero])
          refine wpList_aftH (by first | exact st | exact st.drop | exact st.drop.drop) ?_
          refine anyH_ready (rs := [4]) (by kernel_rfl) (by simp) ?_
          refine AllH.one rfl rfl ?_ ?_
          · ((with_reducible refine gate_call rfl ?_); (with_reducible refine gate_dst (N := 14) rfl ?_); refine wpl_call rfl _ rfl _ rfl 65 _ _ rfl _ Try.func65 (by kernel_rfl) (by kernel_rfl) #[.agg (frv f).toArray, .agg (bxv (x, y, m, n)).toArray] (by simp [Act.eval, Act.put]) ?_; refine (specCut_c f ok x y m n okb _).mono ?_; rintro _ _ ⟨rfl, hk⟩; refine ⟨_, rfl, ?_⟩; replace st := st.call hk; clear hk)
            (simp only [Act.put, Act.eval, Array.getD_eq_getD_getElem?, List.getElem?_toArray, List.getElem?_cons_succ, List.getElem?_cons_zero, Option.getD_some, List.setIfInBounds_toArray, List.set_cons_succ, List.set_cons_zero, List.getElem_toArray, List.getElem_cons_succ, List.getElem_cons_zero])
            refine wpList_aftH (by first | exact st | exact st.drop | exact st.drop.drop) ?_
            refine takeH (i := 5) rfl (by kernel_rfl) (by kernel_rfl) (by kernel_rfl) (fun _ _ _ h => h) rfl (fun w hw => rfl) (by first | exact st | exact st.drop | exact st.drop.drop) ?_
            (simp only [Act.put, Act.eval, Array.getD_eq_getD_getElem?, List.getElem?_toArray, List.getElem?_cons_succ, List.getElem?_cons_zero, Option.getD_some, List.setIfInBounds_toArray, List.set_cons_succ, List.set_cons_zero, List.getElem_toArray, List.getElem_cons_succ, List.getElem_cons_zero])
            refine takeH (i := 6) rfl (by kernel_rfl) (by kernel_rfl) (by kernel_rfl) (fun _ _ _ h => h) rfl (fun w hw => rfl) (by first | exact st | exact st.drop | exact st.drop.drop) ?_
            (simp only [Act.put, Act.eval, Array.getD_eq_getD_getElem?, List.getElem?_toArray, List.getElem?_cons_succ, List.getElem?_cons_zero, Option.getD_some, List.setIfInBounds_toArray, List.set_cons_succ, List.set_cons_zero, List.getElem_toArray, List.getElem_cons_succ, List.getElem_cons_zero])
            refine takeH (i := 7) rfl (by kernel_rfl) (by kernel_rfl) (by kernel_rfl) (fun _ _ _ h => h) rfl (fun w hw => rfl) (by first | exact st | exact st.drop | exact st.drop.drop) ?_
            (simp only [Act.put, Act.eval, Array.getD_eq_getD_getElem?, List.getElem?_toArray, List.getElem?_cons_succ, List.getElem?_cons_zero, Option.getD_some, List.setIfInBounds_toArray, List.set_cons_succ, List.set_cons_zero, List.getElem_toArray, List.getElem_cons_succ, List.getElem_cons_zero])
            refine anyH_ready (rs := [9]) (by kernel_rfl) (by simp) ?_
            refine AllH.one rfl rfl ?_ ?_
            · ((with_reducible refine gate_store rfl ?_); refine wpl_storeAll rfl _ _ _ rfl _ rfl _ rfl tFr.toAggT (by rw [frv_length, hR]) (frv_one _) st _ _ (by repeat (first | exact Upd.here | apply Upd.there)) (by simp [frv_length, zf_length, mk_length, withD_length, part_length, rowsOf_length, *]) ?_; clear st; intro _ st)
              (simp only [Act.put, Act.eval, Array.getD_eq_getD_getElem?, List.getElem?_toArray, List.getElem?_cons_succ, List.getElem?_cons_zero, Option.getD_some, List.setIfInBounds_toArray, List.set_cons_succ, List.set_cons_zero, List.getElem_toArray, List.getElem_cons_succ, List.getElem_cons_zero])
              refine wpList_aftH (by first | exact st | exact st.drop | exact st.drop.drop) ?_
              refine anyH_ready (rs := [10]) (by kernel_rfl) (by simp) ?_
              refine AllH.one rfl rfl ?_ ?_
              · ((first | (with_reducible refine gate_move rfl ?_) | (with_reducible refine gate_assign rfl ?_) | (with_reducible refine gate_extract rfl ?_)); refine wpl_val rfl _ rfl ?_)
                (simp only [Act.put, Act.eval, Array.getD_eq_getD_getElem?, List.getElem?_toArray, List.getElem?_cons_succ, List.getElem?_cons_zero, Option.getD_some, List.setIfInBounds_toArray, List.set_cons_succ, List.set_cons_zero, List.getElem_toArray, List.getElem_cons_succ, List.getElem_cons_zero])
                refine wpList_aftH (by first | exact st | exact st.drop | exact st.drop.drop) ?_
                refine wpAnyH_done (by kernel_rfl) ?_ _; exact ⟨BB, rfl, st⟩
              exact AllH.nil
            exact AllH.nil
          exact AllH.nil
        exact AllH.nil
      refine AllH.one rfl rfl ?_ ?_
      · ((with_reducible refine gate_alloc rfl ?_); refine wpl_alloc rfl _ rfl tFr.toAggT st ?_; clear st; intro BB _ st)
        (simp only [Act.put, Act.eval, Array.getD_eq_getD_getElem?, List.getElem?_toArray, List.getElem?_cons_succ, List.getElem?_cons_zero, Option.getD_some, List.setIfInBounds_toArray, List.set_cons_succ, List.set_cons_zero, List.getElem_toArray, List.getElem_cons_succ, List.getElem_cons_zero])
        refine wpList_aftH (by first | exact st | exact st.drop | exact st.drop.drop) ?_
        refine anyH_ready (rs := [3]) (by kernel_rfl) (by simp) ?_
        refine AllH.one rfl rfl ?_ ?_
        · ((with_reducible refine gate_call rfl ?_); (with_reducible refine gate_dst (N := 13) rfl ?_); refine wpl_call rfl _ rfl _ rfl 66 _ _ rfl _ Try.func66 (by kernel_rfl) (by kernel_rfl) #[.agg (bxv (x, y, m, n)).toArray] (by simp [Act.eval, Act.put]) ?_; refine (toBox_c x y m n _).mono ?_; rintro _ _ ⟨rfl, hk⟩; refine ⟨(.agg (bxv (x, y, m, n)).toArray), rfl, ?_⟩; replace st := st.call hk; clear hk)
          (simp only [Act.put, Act.eval, Array.getD_eq_getD_getElem?, List.getElem?_toArray, List.getElem?_cons_succ, List.getElem?_cons_zero, Option.getD_some, List.setIfInBounds_toArray, List.set_cons_succ, List.set_cons_zero, List.getElem_toArray, List.getElem_cons_succ, List.getElem_cons_zero])
          refine wpList_aftH (by first | exact st | exact st.drop | exact st.drop.drop) ?_
          refine anyH_ready (rs := [4]) (by kernel_rfl) (by simp) ?_
          refine AllH.one rfl rfl ?_ ?_
          · ((with_reducible refine gate_call rfl ?_); (with_reducible refine gate_dst (N := 14) rfl ?_); refine wpl_call rfl _ rfl _ rfl 65 _ _ rfl _ Try.func65 (by kernel_rfl) (by kernel_rfl) #[.agg (frv f).toArray, .agg (bxv (x, y, m, n)).toArray] (by simp [Act.eval, Act.put]) ?_; refine (specCut_c f ok x y m n okb _).mono ?_; rintro _ _ ⟨rfl, hk⟩; refine ⟨_, rfl, ?_⟩; replace st := st.call hk; clear hk)
            (simp only [Act.put, Act.eval, Array.getD_eq_getD_getElem?, List.getElem?_toArray, List.getElem?_cons_succ, List.getElem?_cons_zero, Option.getD_some, List.setIfInBounds_toArray, List.set_cons_succ, List.set_cons_zero, List.getElem_toArray, List.getElem_cons_succ, List.getElem_cons_zero])
            refine wpList_aftH (by first | exact st | exact st.drop | exact st.drop.drop) ?_
            refine takeH (i := 5) rfl (by kernel_rfl) (by kernel_rfl) (by kernel_rfl) (fun _ _ _ h => h) rfl (fun w hw => rfl) (by first | exact st | exact st.drop | exact st.drop.drop) ?_
            (simp only [Act.put, Act.eval, Array.getD_eq_getD_getElem?, List.getElem?_toArray, List.getElem?_cons_succ, List.getElem?_cons_zero, Option.getD_some, List.setIfInBounds_toArray, List.set_cons_succ, List.set_cons_zero, List.getElem_toArray, List.getElem_cons_succ, List.getElem_cons_zero])
            refine takeH (i := 6) rfl (by kernel_rfl) (by kernel_rfl) (by kernel_rfl) (fun _ _ _ h => h) rfl (fun w hw => rfl) (by first | exact st | exact st.drop | exact st.drop.drop) ?_
            (simp only [Act.put, Act.eval, Array.getD_eq_getD_getElem?, List.getElem?_toArray, List.getElem?_cons_succ, List.getElem?_cons_zero, Option.getD_some, List.setIfInBounds_toArray, List.set_cons_succ, List.set_cons_zero, List.getElem_toArray, List.getElem_cons_succ, List.getElem_cons_zero])
            refine takeH (i := 7) rfl (by kernel_rfl) (by kernel_rfl) (by kernel_rfl) (fun _ _ _ h => h) rfl (fun w hw => rfl) (by first | exact st | exact st.drop | exact st.drop.drop) ?_
            (simp only [Act.put, Act.eval, Array.getD_eq_getD_getElem?, List.getElem?_toArray, List.getElem?_cons_succ, List.getElem?_cons_zero, Option.getD_some, List.setIfInBounds_toArray, List.set_cons_succ, List.set_cons_zero, List.getElem_toArray, List.getElem_cons_succ, List.getElem_cons_zero])
            refine anyH_ready (rs := [9]) (by kernel_rfl) (by simp) ?_
            refine AllH.one rfl rfl ?_ ?_
            · ((with_reducible refine gate_store rfl ?_); refine wpl_storeAll rfl _ _ _ rfl _ rfl _ rfl tFr.toAggT (by rw [frv_length, hR]) (frv_one _) st _ _ (by repeat (first | exact Upd.here | apply Upd.there)) (by simp [frv_length, zf_length, mk_length, withD_length, part_length, rowsOf_length, *]) ?_; clear st; intro _ st)
              (simp only [Act.put, Act.eval, Array.getD_eq_getD_getElem?, List.getElem?_toArray, List.getElem?_cons_succ, List.getElem?_cons_zero, Option.getD_some, List.setIfInBounds_toArray, List.set_cons_succ, List.set_cons_zero, List.getElem_toArray, List.getElem_cons_succ, List.getElem_cons_zero])
              refine wpList_aftH (by first | exact st | exact st.drop | exact st.drop.drop) ?_
              refine anyH_ready (rs := [10]) (by kernel_rfl) (by simp) ?_
              refine AllH.one rfl rfl ?_ ?_
              · ((first | (with_reducible refine gate_move rfl ?_) | (with_reducible refine gate_assign rfl ?_) | (with_reducible refine gate_extract rfl ?_)); refine wpl_val rfl _ rfl ?_)
                (simp only [Act.put, Act.eval, Array.getD_eq_getD_getElem?, List.getElem?_toArray, List.getElem?_cons_succ, List.getElem?_cons_zero, Option.getD_some, List.setIfInBounds_toArray, List.set_cons_succ, List.set_cons_zero, List.getElem_toArray, List.getElem_cons_succ, List.getElem_cons_zero])
                refine wpList_aftH (by first | exact st | exact st.drop | exact st.drop.drop) ?_
                refine wpAnyH_done (by kernel_rfl) ?_ _; exact ⟨BB, rfl, st⟩
              exact AllH.nil
            exact AllH.nil
          exact AllH.nil
        exact AllH.nil
      exact AllH.nil
    refine AllH.one rfl rfl ?_ ?_
    · ((with_reducible refine gate_alloc rfl ?_); refine wpl_alloc rfl _ rfl tFr.toAggT st ?_; clear st; intro BB _ st)
      (simp only [Act.put, Act.eval, Array.getD_eq_getD_getElem?, List.getElem?_toArray, List.getElem?_cons_succ, List.getElem?_cons_zero, Option.getD_some, List.setIfInBounds_toArray, List.set_cons_succ, List.set_cons_zero, List.getElem_toArray, List.getElem_cons_succ, List.getElem_cons_zero])
      refine wpList_aftH (by first | exact st | exact st.drop | exact st.drop.drop) ?_
      refine anyH_ready (rs := [1]) (by kernel_rfl) (by simp) ?_
      refine AllH.one rfl rfl ?_ ?_
      · ((with_reducible refine gate_call rfl ?_); (with_reducible refine gate_dst (N := 11) rfl ?_); refine wpl_call rfl _ rfl _ rfl 24 _ _ rfl _ Try.func24 (by kernel_rfl) (by kernel_rfl) #[.agg (frv f).toArray] (by simp [Act.eval, Act.put]) ?_; refine (toFrame_c f hf _).mono ?_; rintro _ _ ⟨rfl, hk⟩; refine ⟨(.agg (frv f).toArray), rfl, ?_⟩; replace st := st.call hk; clear hk)
        (simp only [Act.put, Act.eval, Array.getD_eq_getD_getElem?, List.getElem?_toArray, List.getElem?_cons_succ, List.getElem?_cons_zero, Option.getD_some, List.setIfInBounds_toArray, List.set_cons_succ, List.set_cons_zero, List.getElem_toArray, List.getElem_cons_succ, List.getElem_cons_zero])
        refine wpList_aftH (by first | exact st | exact st.drop | exact st.drop.drop) ?_
        refine anyH_ready (rs := [3]) (by kernel_rfl) (by simp) ?_
        refine AllH.one rfl rfl ?_ ?_
        · ((with_reducible refine gate_call rfl ?_); (with_reducible refine gate_dst (N := 13) rfl ?_); refine wpl_call rfl _ rfl _ rfl 66 _ _ rfl _ Try.func66 (by kernel_rfl) (by kernel_rfl) #[.agg (bxv (x, y, m, n)).toArray] (by simp [Act.eval, Act.put]) ?_; refine (toBox_c x y m n _).mono ?_; rintro _ _ ⟨rfl, hk⟩; refine ⟨(.agg (bxv (x, y, m, n)).toArray), rfl, ?_⟩; replace st := st.call hk; clear hk)
          (simp only [Act.put, Act.eval, Array.getD_eq_getD_getElem?, List.getElem?_toArray, List.getElem?_cons_succ, List.getElem?_cons_zero, Option.getD_some, List.setIfInBounds_toArray, List.set_cons_succ, List.set_cons_zero, List.getElem_toArray, List.getElem_cons_succ, List.getElem_cons_zero])
          refine wpList_aftH (by first | exact st | exact st.drop | exact st.drop.drop) ?_
          refine anyH_ready (rs := [4]) (by kernel_rfl) (by simp) ?_
          refine AllH.one rfl rfl ?_ ?_
          · ((with_reducible refine gate_call rfl ?_); (with_reducible refine gate_dst (N := 14) rfl ?_); refine wpl_call rfl _ rfl _ rfl 65 _ _ rfl _ Try.func65 (by kernel_rfl) (by kernel_rfl) #[.agg (frv f).toArray, .agg (bxv (x, y, m, n)).toArray] (by simp [Act.eval, Act.put]) ?_; refine (specCut_c f ok x y m n okb _).mono ?_; rintro _ _ ⟨rfl, hk⟩; refine ⟨_, rfl, ?_⟩; replace st := st.call hk; clear hk)
            (simp only [Act.put, Act.eval, Array.getD_eq_getD_getElem?, List.getElem?_toArray, List.getElem?_cons_succ, List.getElem?_cons_zero, Option.getD_some, List.setIfInBounds_toArray, List.set_cons_succ, List.set_cons_zero, List.getElem_toArray, List.getElem_cons_succ, List.getElem_cons_zero])
            refine wpList_aftH (by first | exact st | exact st.drop | exact st.drop.drop) ?_
            refine takeH (i := 5) rfl (by kernel_rfl) (by kernel_rfl) (by kernel_rfl) (fun _ _ _ h => h) rfl (fun w hw => rfl) (by first | exact st | exact st.drop | exact st.drop.drop) ?_
            (simp only [Act.put, Act.eval, Array.getD_eq_getD_getElem?, List.getElem?_toArray, List.getElem?_cons_succ, List.getElem?_cons_zero, Option.getD_some, List.setIfInBounds_toArray, List.set_cons_succ, List.set_cons_zero, List.getElem_toArray, List.getElem_cons_succ, List.getElem_cons_zero])
            refine takeH (i := 6) rfl (by kernel_rfl) (by kernel_rfl) (by kernel_rfl) (fun _ _ _ h => h) rfl (fun w hw => rfl) (by first | exact st | exact st.drop | exact st.drop.drop) ?_
            (simp only [Act.put, Act.eval, Array.getD_eq_getD_getElem?, List.getElem?_toArray, List.getElem?_cons_succ, List.getElem?_cons_zero, Option.getD_some, List.setIfInBounds_toArray, List.set_cons_succ, List.set_cons_zero, List.getElem_toArray, List.getElem_cons_succ, List.getElem_cons_zero])
            refine takeH (i := 7) rfl (by kernel_rfl) (by kernel_rfl) (by kernel_rfl) (fun _ _ _ h => h) rfl (fun w hw => rfl) (by first | exact st | exact st.drop | exact st.drop.drop) ?_
            (simp only [Act.put, Act.eval, Array.getD_eq_getD_getElem?, List.getElem?_toArray, List.getElem?_cons_succ, List.getElem?_cons_zero, Option.getD_some, List.setIfInBounds_toArray, List.set_cons_succ, List.set_cons_zero, List.getElem_toArray, List.getElem_cons_succ, List.getElem_cons_zero])
            refine anyH_ready (rs := [9]) (by kernel_rfl) (by simp) ?_
            refine AllH.one rfl rfl ?_ ?_
            · ((with_reducible refine gate_store rfl ?_); refine wpl_storeAll rfl _ _ _ rfl _ rfl _ rfl tFr.toAggT (by rw [frv_length, hR]) (frv_one _) st _ _ (by repeat (first | exact Upd.here | apply Upd.there)) (by simp [frv_length, zf_length, mk_length, withD_length, part_length, rowsOf_length, *]) ?_; clear st; intro _ st)
              (simp only [Act.put, Act.eval, Array.getD_eq_getD_getElem?, List.getElem?_toArray, List.getElem?_cons_succ, List.getElem?_cons_zero, Option.getD_some, List.setIfInBounds_toArray, List.set_cons_succ, List.set_cons_zero, List.getElem_toArray, List.getElem_cons_succ, List.getElem_cons_zero])
              refine wpList_aftH (by first | exact st | exact st.drop | exact st.drop.drop) ?_
              refine anyH_ready (rs := [10]) (by kernel_rfl) (by simp) ?_
              refine AllH.one rfl rfl ?_ ?_
              · ((first | (with_reducible refine gate_move rfl ?_) | (with_reducible refine gate_assign rfl ?_) | (with_reducible refine gate_extract rfl ?_)); refine wpl_val rfl _ rfl ?_)
                (simp only [Act.put, Act.eval, Array.getD_eq_getD_getElem?, List.getElem?_toArray, List.getElem?_cons_succ, List.getElem?_cons_zero, Option.getD_some, List.setIfInBounds_toArray, List.set_cons_succ, List.set_cons_zero, List.getElem_toArray, List.getElem_cons_succ, List.getElem_cons_zero])
                refine wpList_aftH (by first | exact st | exact st.drop | exact st.drop.drop) ?_
                refine wpAnyH_done (by kernel_rfl) ?_ _; exact ⟨BB, rfl, st⟩
              exact AllH.nil
            exact AllH.nil
          exact AllH.nil
        exact AllH.nil
      exact AllH.nil
    exact AllH.nil
  clear st; intro BB _ st
  go_wp2_with fail
  apply wp_region_meetH st 11 rfl (by kernel_rfl)
  case h =>
    intro _ st
    refine takeH (i := 0) rfl (by kernel_rfl) (by kernel_rfl) (by kernel_rfl) (fun _ _ _ h => h) rfl (fun w hw => (loadAll_run rfl _ rfl tRaw.toAggT (frv f) _ (hw.get (by repeat (first | exact At.here | apply At.there))) (by rw [frv_length, hf]))) (by first | exact st | exact st.drop | exact st.drop.drop) ?_
    (simp only [Act.put, Act.eval, Array.getD_eq_getD_getElem?, List.getElem?_toArray, List.getElem?_cons_succ, List.getElem?_cons_zero, Option.getD_some, List.setIfInBounds_toArray, List.set_cons_succ, List.set_cons_zero, List.getElem_toArray, List.getElem_cons_succ, List.getElem_cons_zero])
    refine takeH (i := 2) rfl (by kernel_rfl) (by kernel_rfl) (by kernel_rfl) (fun _ _ _ h => h) rfl (fun w hw => (loadAll_run rfl _ rfl tLBox (bxv (x, y, m, n)) _ (hw.get (by repeat (first | exact At.here | apply At.there))) rfl)) (by first | exact st | exact st.drop | exact st.drop.drop) ?_
    (simp only [Act.put, Act.eval, Array.getD_eq_getD_getElem?, List.getElem?_toArray, List.getElem?_cons_succ, List.getElem?_cons_zero, Option.getD_some, List.setIfInBounds_toArray, List.set_cons_succ, List.set_cons_zero, List.getElem_toArray, List.getElem_cons_succ, List.getElem_cons_zero])
    refine anyH_ready (rs := [1, 8]) (by kernel_rfl) (by simp) ?_
    refine AllH.one rfl rfl ?_ ?_
    · ((with_reducible refine gate_call rfl ?_); (with_reducible refine gate_dst (N := 19) rfl ?_); refine wpl_call rfl _ rfl _ rfl 24 _ _ rfl _ Try.func24 (by kernel_rfl) (by kernel_rfl) #[.agg (frv f).toArray] (by simp [Act.eval, Act.put]) ?_; refine (toFrame_c f hf _).mono ?_; rintro _ _ ⟨rfl, hk⟩; refine ⟨(.agg (frv f).toArray), rfl, ?_⟩; replace st := st.call hk; clear hk)
      (simp only [Act.put, Act.eval, Array.getD_eq_getD_getElem?, List.getElem?_toArray, List.getElem?_cons_succ, List.getElem?_cons_zero, Option.getD_some, List.setIfInBounds_toArray, List.set_cons_succ, List.set_cons_zero, List.getElem_toArray, List.getElem_cons_succ, List.getElem_cons_zero])
      refine wpList_aftH (by first | exact st | exact st.drop | exact st.drop.drop) ?_
      refine anyH_ready (rs := [3, 8]) (by kernel_rfl) (by simp) ?_
      refine AllH.one rfl rfl ?_ ?_
      · ((with_reducible refine gate_call rfl ?_); (with_reducible refine gate_dst (N := 21) rfl ?_); refine wpl_call rfl _ rfl _ rfl 66 _ _ rfl _ Try.func66 (by kernel_rfl) (by kernel_rfl) #[.agg (bxv (x, y, m, n)).toArray] (by simp [Act.eval, Act.put]) ?_; refine (toBox_c x y m n _).mono ?_; rintro _ _ ⟨rfl, hk⟩; refine ⟨(.agg (bxv (x, y, m, n)).toArray), rfl, ?_⟩; replace st := st.call hk; clear hk)
        (simp only [Act.put, Act.eval, Array.getD_eq_getD_getElem?, List.getElem?_toArray, List.getElem?_cons_succ, List.getElem?_cons_zero, Option.getD_some, List.setIfInBounds_toArray, List.set_cons_succ, List.set_cons_zero, List.getElem_toArray, List.getElem_cons_succ, List.getElem_cons_zero])
        refine wpList_aftH (by first | exact st | exact st.drop | exact st.drop.drop) ?_
        refine anyH_ready (rs := [4, 8]) (by kernel_rfl) (by simp) ?_
        refine AllH.one rfl rfl ?_ ?_
        · ((with_reducible refine gate_call rfl ?_); (with_reducible refine gate_dst (N := 22) rfl ?_); refine wpl_call rfl _ rfl _ rfl 67 _ _ rfl _ Try.func67 (by kernel_rfl) (by kernel_rfl) #[.agg (frv f).toArray, .agg (bxv (x, y, m, n)).toArray] (by simp [Act.eval, Act.put]) ?_; refine (Cut_c f ok x y m n okb _).mono ?_; rintro _ _ ⟨rfl, hk⟩; refine ⟨_, rfl, ?_⟩; replace st := st.call hk; clear hk)
          (simp only [Act.put, Act.eval, Array.getD_eq_getD_getElem?, List.getElem?_toArray, List.getElem?_cons_succ, List.getElem?_cons_zero, Option.getD_some, List.setIfInBounds_toArray, List.set_cons_succ, List.set_cons_zero, List.getElem_toArray, List.getElem_cons_succ, List.getElem_cons_zero])
          refine wpList_aftH (by first | exact st | exact st.drop | exact st.drop.drop) ?_
          refine takeH (i := 5) rfl (by kernel_rfl) (by kernel_rfl) (by kernel_rfl) (fun _ _ _ h => h) rfl (fun w hw => rfl) (by first | exact st | exact st.drop | exact st.drop.drop) ?_
          (simp only [Act.put, Act.eval, Array.getD_eq_getD_getElem?, List.getElem?_toArray, List.getElem?_cons_succ, List.getElem?_cons_zero, Option.getD_some, List.setIfInBounds_toArray, List.set_cons_succ, List.set_cons_zero, List.getElem_toArray, List.getElem_cons_succ, List.getElem_cons_zero])
          refine takeH (i := 6) rfl (by kernel_rfl) (by kernel_rfl) (by kernel_rfl) (fun _ _ _ h => h) rfl (fun w hw => rfl) (by first | exact st | exact st.drop | exact st.drop.drop) ?_
          (simp only [Act.put, Act.eval, Array.getD_eq_getD_getElem?, List.getElem?_toArray, List.getElem?_cons_succ, List.getElem?_cons_zero, Option.getD_some, List.setIfInBounds_toArray, List.set_cons_succ, List.set_cons_zero, List.getElem_toArray, List.getElem_cons_succ, List.getElem_cons_zero])
          refine takeH (i := 7) rfl (by kernel_rfl) (by kernel_rfl) (by kernel_rfl) (fun _ _ _ h => h) rfl (fun w hw => rfl) (by first | exact st | exact st.drop | exact st.drop.drop) ?_
          (simp only [Act.put, Act.eval, Array.getD_eq_getD_getElem?, List.getElem?_toArray, List.getElem?_cons_succ, List.getElem?_cons_zero, Option.getD_some, List.setIfInBounds_toArray, List.set_cons_succ, List.set_cons_zero, List.getElem_toArray, List.getElem_cons_succ, List.getElem_cons_zero])
          refine anyH_ready (rs := [8]) (by kernel_rfl) (by simp) ?_
          refine AllH.one rfl rfl ?_ ?_
          · ((with_reducible refine gate_alloc rfl ?_); refine wpl_alloc rfl _ rfl tFr.toAggT st ?_; clear st; intro BB _ st)
            (simp only [Act.put, Act.eval, Array.getD_eq_getD_getElem?, List.getElem?_toArray, List.getElem?_cons_succ, List.getElem?_cons_zero, Option.getD_some, List.setIfInBounds_toArray, List.set_cons_succ, List.set_cons_zero, List.getElem_toArray, List.getElem_cons_succ, List.getElem_cons_zero])
            refine wpList_aftH (by first | exact st | exact st.drop | exact st.drop.drop) ?_
            refine anyH_ready (rs := [9]) (by kernel_rfl) (by simp) ?_
            refine AllH.one rfl rfl ?_ ?_
            · ((with_reducible refine gate_store rfl ?_); refine wpl_storeAll rfl _ _ _ rfl _ rfl _ rfl tFr.toAggT (by rw [frv_length, hR]) (frv_one _) st _ _ (by repeat (first | exact Upd.here | apply Upd.there)) (by simp [frv_length, zf_length, mk_length, withD_length, part_length, rowsOf_length, *]) ?_; clear st; intro _ st)
              (simp only [Act.put, Act.eval, Array.getD_eq_getD_getElem?, List.getElem?_toArray, List.getElem?_cons_succ, List.getElem?_cons_zero, Option.getD_some, List.setIfInBounds_toArray, List.set_cons_succ, List.set_cons_zero, List.getElem_toArray, List.getElem_cons_succ, List.getElem_cons_zero])
              refine wpList_aftH (by first | exact st | exact st.drop | exact st.drop.drop) ?_
              refine anyH_ready (rs := [10]) (by kernel_rfl) (by simp) ?_
              refine AllH.one rfl rfl ?_ ?_
              · ((first | (with_reducible refine gate_move rfl ?_) | (with_reducible refine gate_assign rfl ?_) | (with_reducible refine gate_extract rfl ?_)); refine wpl_val rfl _ rfl ?_)
                (simp only [Act.put, Act.eval, Array.getD_eq_getD_getElem?, List.getElem?_toArray, List.getElem?_cons_succ, List.getElem?_cons_zero, Option.getD_some, List.setIfInBounds_toArray, List.set_cons_succ, List.set_cons_zero, List.getElem_toArray, List.getElem_cons_succ, List.getElem_cons_zero])
                refine wpList_aftH (by first | exact st | exact st.drop | exact st.drop.drop) ?_
                refine wpAnyH_done (by kernel_rfl) ?_ _; exact ⟨BB, rfl, st⟩
              exact AllH.nil
            exact AllH.nil
          exact AllH.nil
        refine AllH.one rfl rfl ?_ ?_
        · ((with_reducible refine gate_alloc rfl ?_); refine wpl_alloc rfl _ rfl tFr.toAggT st ?_; clear st; intro BB _ st)
          (simp only [Act.put, Act.eval, Array.getD_eq_getD_getElem?, List.getElem?_toArray, List.getElem?_cons_succ, List.getElem?_cons_zero, Option.getD_some, List.setIfInBounds_toArray, List.set_cons_succ, List.set_cons_zero, List.getElem_toArray, List.getElem_cons_succ, List.getElem_cons_zero])
          refine wpList_aftH (by first | exact st | exact st.drop | exact st.drop.drop) ?_
          refine anyH_ready (rs := [4]) (by kernel_rfl) (by simp) ?_
          refine AllH.one rfl rfl ?_ ?_
          · ((with_reducible refine gate_call rfl ?_); (with_reducible refine gate_dst (N := 22) rfl ?_); refine wpl_call rfl _ rfl _ rfl 67 _ _ rfl _ Try.func67 (by kernel_rfl) (by kernel_rfl) #[.agg (frv f).toArray, .agg (bxv (x, y, m, n)).toArray] (by simp [Act.eval, Act.put]) ?_; refine (Cut_c f ok x y m n okb _).mono ?_; rintro _ _ ⟨rfl, hk⟩; refine ⟨_, rfl, ?_⟩; replace st := st.call hk; clear hk)
            (simp only [Act.put, Act.eval, Array.getD_eq_getD_getElem?, List.getElem?_toArray, List.getElem?_cons_succ, List.getElem?_cons_zero, Option.getD_some, List.setIfInBounds_toArray, List.set_cons_succ, List.set_cons_zero, List.getElem_toArray, List.getElem_cons_succ, List.getElem_cons_zero])
            refine wpList_aftH (by first | exact st | exact st.drop | exact st.drop.drop) ?_
            refine takeH (i := 5) rfl (by kernel_rfl) (by kernel_rfl) (by kernel_rfl) (fun _ _ _ h => h) rfl (fun w hw => rfl) (by first | exact st | exact st.drop | exact st.drop.drop) ?_
            (simp only [Act.put, Act.eval, Array.getD_eq_getD_getElem?, List.getElem?_toArray, List.getElem?_cons_succ, List.getElem?_cons_zero, Option.getD_some, List.setIfInBounds_toArray, List.set_cons_succ, List.set_cons_zero, List.getElem_toArray, List.getElem_cons_succ, List.getElem_cons_zero])
            refine takeH (i := 6) rfl (by kernel_rfl) (by kernel_rfl) (by kernel_rfl) (fun _ _ _ h => h) rfl (fun w hw => rfl) (by first | exact st | exact st.drop | exact st.drop.drop) ?_
            (simp only [Act.put, Act.eval, Array.getD_eq_getD_getElem?, List.getElem?_toArray, List.getElem?_cons_succ, List.getElem?_cons_zero, Option.getD_some, List.setIfInBounds_toArray, List.set_cons_succ, List.set_cons_zero, List.getElem_toArray, List.getElem_cons_succ, List.getElem_cons_zero])
            refine takeH (i := 7) rfl (by kernel_rfl) (by kernel_rfl) (by kernel_rfl) (fun _ _ _ h => h) rfl (fun w hw => rfl) (by first | exact st | exact st.drop | exact st.drop.drop) ?_
            (simp only [Act.put, Act.eval, Array.getD_eq_getD_getElem?, List.getElem?_toArray, List.getElem?_cons_succ, List.getElem?_cons_zero, Option.getD_some, List.setIfInBounds_toArray, List.set_cons_succ, List.set_cons_zero, List.getElem_toArray, List.getElem_cons_succ, List.getElem_cons_zero])
            refine anyH_ready (rs := [9]) (by kernel_rfl) (by simp) ?_
            refine AllH.one rfl rfl ?_ ?_
            · ((with_reducible refine gate_store rfl ?_); refine wpl_storeAll rfl _ _ _ rfl _ rfl _ rfl tFr.toAggT (by rw [frv_length, hR]) (frv_one _) st _ _ (by repeat (first | exact Upd.here | apply Upd.there)) (by simp [frv_length, zf_length, mk_length, withD_length, part_length, rowsOf_length, *]) ?_; clear st; intro _ st)
              (simp only [Act.put, Act.eval, Array.getD_eq_getD_getElem?, List.getElem?_toArray, List.getElem?_cons_succ, List.getElem?_cons_zero, Option.getD_some, List.setIfInBounds_toArray, List.set_cons_succ, List.set_cons_zero, List.getElem_toArray, List.getElem_cons_succ, List.getElem_cons_zero])
              refine wpList_aftH (by first | exact st | exact st.drop | exact st.drop.drop) ?_
              refine anyH_ready (rs := [10]) (by kernel_rfl) (by simp) ?_
              refine AllH.one rfl rfl ?_ ?_
              · ((first | (with_reducible refine gate_move rfl ?_) | (with_reducible refine gate_assign rfl ?_) | (with_reducible refine gate_extract rfl ?_)); refine wpl_val rfl _ rfl ?_)
                (simp only [Act.put, Act.eval, Array.getD_eq_getD_getElem?, List.getElem?_toArray, List.getElem?_cons_succ, List.getElem?_cons_zero, Option.getD_some, List.setIfInBounds_toArray, List.set_cons_succ, List.set_cons_zero, List.getElem_toArray, List.getElem_cons_succ, List.getElem_cons_zero])
                refine wpList_aftH (by first | exact st | exact st.drop | exact st.drop.drop) ?_
                refine wpAnyH_done (by kernel_rfl) ?_ _; exact ⟨BB, rfl, st⟩
              exact AllH.nil
            exact AllH.nil
          exact AllH.nil
        exact AllH.nil
      refine AllH.one rfl rfl ?_ ?_
      · ((with_reducible refine gate_alloc rfl ?_); refine wpl_alloc rfl _ rfl tFr.toAggT st ?_; clear st; intro BB _ st)
        (simp only [Act.put, Act.eval, Array.getD_eq_getD_getElem?, List.getElem?_toArray, List.getElem?_cons_succ, List.getElem?_cons_zero, Option.getD_some, List.setIfInBounds_toArray, List.set_cons_succ, List.set_cons_zero, List.getElem_toArray, List.getElem_cons_succ, List.getElem_cons_zero])
        refine wpList_aftH (by first | exact st | exact st.drop | exact st.drop.drop) ?_
        refine anyH_ready (rs := [3]) (by kernel_rfl) (by simp) ?_
        refine AllH.one rfl rfl ?_ ?_
        · ((with_reducible refine gate_call rfl ?_); (with_reducible refine gate_dst (N := 21) rfl ?_); refine wpl_call rfl _ rfl _ rfl 66 _ _ rfl _ Try.func66 (by kernel_rfl) (by kernel_rfl) #[.agg (bxv (x, y, m, n)).toArray] (by simp [Act.eval, Act.put]) ?_; refine (toBox_c x y m n _).mono ?_; rintro _ _ ⟨rfl, hk⟩; refine ⟨(.agg (bxv (x, y, m, n)).toArray), rfl, ?_⟩; replace st := st.call hk; clear hk)
          (simp only [Act.put, Act.eval, Array.getD_eq_getD_getElem?, List.getElem?_toArray, List.getElem?_cons_succ, List.getElem?_cons_zero, Option.getD_some, List.setIfInBounds_toArray, List.set_cons_succ, List.set_cons_zero, List.getElem_toArray, List.getElem_cons_succ, List.getElem_cons_zero])
          refine wpList_aftH (by first | exact st | exact st.drop | exact st.drop.drop) ?_
          refine anyH_ready (rs := [4]) (by kernel_rfl) (by simp) ?_
          refine AllH.one rfl rfl ?_ ?_
          · ((with_reducible refine gate_call rfl ?_); (with_reducible refine gate_dst (N := 22) rfl ?_); refine wpl_call rfl _ rfl _ rfl 67 _ _ rfl _ Try.func67 (by kernel_rfl) (by kernel_rfl) #[.agg (frv f).toArray, .agg (bxv (x, y, m, n)).toArray] (by simp [Act.eval, Act.put]) ?_; refine (Cut_c f ok x y m n okb _).mono ?_; rintro _ _ ⟨rfl, hk⟩; refine ⟨_, rfl, ?_⟩; replace st := st.call hk; clear hk)
            (simp only [Act.put, Act.eval, Array.getD_eq_getD_getElem?, List.getElem?_toArray, List.getElem?_cons_succ, List.getElem?_cons_zero, Option.getD_some, List.setIfInBounds_toArray, List.set_cons_succ, List.set_cons_zero, List.getElem_toArray, List.getElem_cons_succ, List.getElem_cons_zero])
            refine wpList_aftH (by first | exact st | exact st.drop | exact st.drop.drop) ?_
            refine takeH (i := 5) rfl (by kernel_rfl) (by kernel_rfl) (by kernel_rfl) (fun _ _ _ h => h) rfl (fun w hw => rfl) (by first | exact st | exact st.drop | exact st.drop.drop) ?_
            (simp only [Act.put, Act.eval, Array.getD_eq_getD_getElem?, List.getElem?_toArray, List.getElem?_cons_succ, List.getElem?_cons_zero, Option.getD_some, List.setIfInBounds_toArray, List.set_cons_succ, List.set_cons_zero, List.getElem_toArray, List.getElem_cons_succ, List.getElem_cons_zero])
            refine takeH (i := 6) rfl (by kernel_rfl) (by kernel_rfl) (by kernel_rfl) (fun _ _ _ h => h) rfl (fun w hw => rfl) (by first | exact st | exact st.drop | exact st.drop.drop) ?_
            (simp only [Act.put, Act.eval, Array.getD_eq_getD_getElem?, List.getElem?_toArray, List.getElem?_cons_succ, List.getElem?_cons_zero, Option.getD_some, List.setIfInBounds_toArray, List.set_cons_succ, List.set_cons_zero, List.getElem_toArray, List.getElem_cons_succ, List.getElem_cons_zero])
            refine takeH (i := 7) rfl (by kernel_rfl) (by kernel_rfl) (by kernel_rfl) (fun _ _ _ h => h) rfl (fun w hw => rfl) (by first | exact st | exact st.drop | exact st.drop.drop) ?_
            (simp only [Act.put, Act.eval, Array.getD_eq_getD_getElem?, List.getElem?_toArray, List.getElem?_cons_succ, List.getElem?_cons_zero, Option.getD_some, List.setIfInBounds_toArray, List.set_cons_succ, List.set_cons_zero, List.getElem_toArray, List.getElem_cons_succ, List.getElem_cons_zero])
            refine anyH_ready (rs := [9]) (by kernel_rfl) (by simp) ?_
            refine AllH.one rfl rfl ?_ ?_
            · ((with_reducible refine gate_store rfl ?_); refine wpl_storeAll rfl _ _ _ rfl _ rfl _ rfl tFr.toAggT (by rw [frv_length, hR]) (frv_one _) st _ _ (by repeat (first | exact Upd.here | apply Upd.there)) (by simp [frv_length, zf_length, mk_length, withD_length, part_length, rowsOf_length, *]) ?_; clear st; intro _ st)
              (simp only [Act.put, Act.eval, Array.getD_eq_getD_getElem?, List.getElem?_toArray, List.getElem?_cons_succ, List.getElem?_cons_zero, Option.getD_some, List.setIfInBounds_toArray, List.set_cons_succ, List.set_cons_zero, List.getElem_toArray, List.getElem_cons_succ, List.getElem_cons_zero])
              refine wpList_aftH (by first | exact st | exact st.drop | exact st.drop.drop) ?_
              refine anyH_ready (rs := [10]) (by kernel_rfl) (by simp) ?_
              refine AllH.one rfl rfl ?_ ?_
              · ((first | (with_reducible refine gate_move rfl ?_) | (with_reducible refine gate_assign rfl ?_) | (with_reducible refine gate_extract rfl ?_)); refine wpl_val rfl _ rfl ?_)
                (simp only [Act.put, Act.eval, Array.getD_eq_getD_getElem?, List.getElem?_toArray, List.getElem?_cons_succ, List.getElem?_cons_zero, Option.getD_some, List.setIfInBounds_toArray, List.set_cons_succ, List.set_cons_zero, List.getElem_toArray, List.getElem_cons_succ, List.getElem_cons_zero])
                refine wpList_aftH (by first | exact st | exact st.drop | exact st.drop.drop) ?_
                refine wpAnyH_done (by kernel_rfl) ?_ _; exact ⟨BB, rfl, st⟩
              exact AllH.nil
            exact AllH.nil
          exact AllH.nil
        exact AllH.nil
      exact AllH.nil
    refine AllH.one rfl rfl ?_ ?_
    · ((with_reducible refine gate_alloc rfl ?_); refine wpl_alloc rfl _ rfl tFr.toAggT st ?_; clear st; intro BB _ st)
      (simp only [Act.put, Act.eval, Array.getD_eq_getD_getElem?, List.getElem?_toArray, List.getElem?_cons_succ, List.getElem?_cons_zero, Option.getD_some, List.setIfInBounds_toArray, List.set_cons_succ, List.set_cons_zero, List.getElem_toArray, List.getElem_cons_succ, List.getElem_cons_zero])
      refine wpList_aftH (by first | exact st | exact st.drop | exact st.drop.drop) ?_
      refine anyH_ready (rs := [1]) (by kernel_rfl) (by simp) ?_
      refine AllH.one rfl rfl ?_ ?_
      · ((with_reducible refine gate_call rfl ?_); (with_reducible refine gate_dst (N := 19) rfl ?_); refine wpl_call rfl _ rfl _ rfl 24 _ _ rfl _ Try.func24 (by kernel_rfl) (by kernel_rfl) #[.agg (frv f).toArray] (by simp [Act.eval, Act.put]) ?_; refine (toFrame_c f hf _).mono ?_; rintro _ _ ⟨rfl, hk⟩; refine ⟨(.agg (frv f).toArray), rfl, ?_⟩; replace st := st.call hk; clear hk)
        (simp only [Act.put, Act.eval, Array.getD_eq_getD_getElem?, List.getElem?_toArray, List.getElem?_cons_succ, List.getElem?_cons_zero, Option.getD_some, List.setIfInBounds_toArray, List.set_cons_succ, List.set_cons_zero, List.getElem_toArray, List.getElem_cons_succ, List.getElem_cons_zero])
        refine wpList_aftH (by first | exact st | exact st.drop | exact st.drop.drop) ?_
        refine anyH_ready (rs := [3]) (by kernel_rfl) (by simp) ?_
        refine AllH.one rfl rfl ?_ ?_
        · ((with_reducible refine gate_call rfl ?_); (with_reducible refine gate_dst (N := 21) rfl ?_); refine wpl_call rfl _ rfl _ rfl 66 _ _ rfl _ Try.func66 (by kernel_rfl) (by kernel_rfl) #[.agg (bxv (x, y, m, n)).toArray] (by simp [Act.eval, Act.put]) ?_; refine (toBox_c x y m n _).mono ?_; rintro _ _ ⟨rfl, hk⟩; refine ⟨(.agg (bxv (x, y, m, n)).toArray), rfl, ?_⟩; replace st := st.call hk; clear hk)
          (simp only [Act.put, Act.eval, Array.getD_eq_getD_getElem?, List.getElem?_toArray, List.getElem?_cons_succ, List.getElem?_cons_zero, Option.getD_some, List.setIfInBounds_toArray, List.set_cons_succ, List.set_cons_zero, List.getElem_toArray, List.getElem_cons_succ, List.getElem_cons_zero])
          refine wpList_aftH (by first | exact st | exact st.drop | exact st.drop.drop) ?_
          refine anyH_ready (rs := [4]) (by kernel_rfl) (by simp) ?_
          refine AllH.one rfl rfl ?_ ?_
          · ((with_reducible refine gate_call rfl ?_); (with_reducible refine gate_dst (N := 22) rfl ?_); refine wpl_call rfl _ rfl _ rfl 67 _ _ rfl _ Try.func67 (by kernel_rfl) (by kernel_rfl) #[.agg (frv f).toArray, .agg (bxv (x, y, m, n)).toArray] (by simp [Act.eval, Act.put]) ?_; refine (Cut_c f ok x y m n okb _).mono ?_; rintro _ _ ⟨rfl, hk⟩; refine ⟨_, rfl, ?_⟩; replace st := st.call hk; clear hk)
            (simp only [Act.put, Act.eval, Array.getD_eq_getD_getElem?, List.getElem?_toArray, List.getElem?_cons_succ, List.getElem?_cons_zero, Option.getD_some, List.setIfInBounds_toArray, List.set_cons_succ, List.set_cons_zero, List.getElem_toArray, List.getElem_cons_succ, List.getElem_cons_zero])
            refine wpList_aftH (by first | exact st | exact st.drop | exact st.drop.drop) ?_
            refine takeH (i := 5) rfl (by kernel_rfl) (by kernel_rfl) (by kernel_rfl) (fun _ _ _ h => h) rfl (fun w hw => rfl) (by first | exact st | exact st.drop | exact st.drop.drop) ?_
            (simp only [Act.put, Act.eval, Array.getD_eq_getD_getElem?, List.getElem?_toArray, List.getElem?_cons_succ, List.getElem?_cons_zero, Option.getD_some, List.setIfInBounds_toArray, List.set_cons_succ, List.set_cons_zero, List.getElem_toArray, List.getElem_cons_succ, List.getElem_cons_zero])
            refine takeH (i := 6) rfl (by kernel_rfl) (by kernel_rfl) (by kernel_rfl) (fun _ _ _ h => h) rfl (fun w hw => rfl) (by first | exact st | exact st.drop | exact st.drop.drop) ?_
            (simp only [Act.put, Act.eval, Array.getD_eq_getD_getElem?, List.getElem?_toArray, List.getElem?_cons_succ, List.getElem?_cons_zero, Option.getD_some, List.setIfInBounds_toArray, List.set_cons_succ, List.set_cons_zero, List.getElem_toArray, List.getElem_cons_succ, List.getElem_cons_zero])
            refine takeH (i := 7) rfl (by kernel_rfl) (by kernel_rfl) (by kernel_rfl) (fun _ _ _ h => h) rfl (fun w hw => rfl) (by first | exact st | exact st.drop | exact st.drop.drop) ?_
            (simp only [Act.put, Act.eval, Array.getD_eq_getD_getElem?, List.getElem?_toArray, List.getElem?_cons_succ, List.getElem?_cons_zero, Option.getD_some, List.setIfInBounds_toArray, List.set_cons_succ, List.set_cons_zero, List.getElem_toArray, List.getElem_cons_succ, List.getElem_cons_zero])
            refine anyH_ready (rs := [9]) (by kernel_rfl) (by simp) ?_
            refine AllH.one rfl rfl ?_ ?_
            · ((with_reducible refine gate_store rfl ?_); refine wpl_storeAll rfl _ _ _ rfl _ rfl _ rfl tFr.toAggT (by rw [frv_length, hR]) (frv_one _) st _ _ (by repeat (first | exact Upd.here | apply Upd.there)) (by simp [frv_length, zf_length, mk_length, withD_length, part_length, rowsOf_length, *]) ?_; clear st; intro _ st)
              (simp only [Act.put, Act.eval, Array.getD_eq_getD_getElem?, List.getElem?_toArray, List.getElem?_cons_succ, List.getElem?_cons_zero, Option.getD_some, List.setIfInBounds_toArray, List.set_cons_succ, List.set_cons_zero, List.getElem_toArray, List.getElem_cons_succ, List.getElem_cons_zero])
              refine wpList_aftH (by first | exact st | exact st.drop | exact st.drop.drop) ?_
              refine anyH_ready (rs := [10]) (by kernel_rfl) (by simp) ?_
              refine AllH.one rfl rfl ?_ ?_
              · ((first | (with_reducible refine gate_move rfl ?_) | (with_reducible refine gate_assign rfl ?_) | (with_reducible refine gate_extract rfl ?_)); refine wpl_val rfl _ rfl ?_)
                (simp only [Act.put, Act.eval, Array.getD_eq_getD_getElem?, List.getElem?_toArray, List.getElem?_cons_succ, List.getElem?_cons_zero, Option.getD_some, List.setIfInBounds_toArray, List.set_cons_succ, List.set_cons_zero, List.getElem_toArray, List.getElem_cons_succ, List.getElem_cons_zero])
                refine wpList_aftH (by first | exact st | exact st.drop | exact st.drop.drop) ?_
                refine wpAnyH_done (by kernel_rfl) ?_ _; exact ⟨BB, rfl, st⟩
              exact AllH.nil
            exact AllH.nil
          exact AllH.nil
        exact AllH.nil
      exact AllH.nil
    exact AllH.nil
  clear st; intro BB _ st
  go_wp2_with (first | ((with_reducible refine gate_load rfl ?_); refine wpl_loadAll rfl _ _ rfl _ rfl tFr.toAggT _ _ (st.get (by repeat (first | exact At.here | apply At.there))) (by rw [frv_length, hR]) ?_) | (go_at_call 28; refine (eqFrame_same _ hR _).mono ?_; rintro _ _ ⟨rfl, hk⟩; replace st := st.call hk; clear hk) | (refine wpl_unguard rfl ?_))
  go_ret
  exact ⟨rfl, st.keep⟩
end Go.Proofs.Ytdiphapcjafbaaa
