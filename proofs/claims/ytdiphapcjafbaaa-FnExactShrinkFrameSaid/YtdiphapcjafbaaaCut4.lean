/- Cut by a box: the program's; no condition. -/
import Derived.Test.YtdiphapcjafbaaaCut3
namespace Go.Proofs.Ytdiphapcjafbaaa
open Go.RowKit
set_option linter.unusedSimpArgs false
set_option linter.unusedVariables false

theorem boxedB_iff {x y m n : Int} : boxedB x y m n = true ↔ 1 ≤ m ∧ 1 ≤ n ∧ placeB x y = true ∧ placeB (x + m - 1) (y + n - 1) = true := by
  simp only [boxedB, placeB, inB, Bool.and_eq_true, decide_eq_true_eq]
  omega
theorem gate_two {P : Program} {w : World} {F : FuncId} {n m : Int} {R : Ending → World → Prop} (h : Calls P F #[.int .i64 n, .int .i64 m] w R) : Calls P F #[.int .i64 n, .int .i64 m] w R := h
theorem Cut_tells (f : List Nat) (ok : FrOk f) (x y m n : Int) (b1 b2 b3 b4 b5 : Nat) (T1 T2 T3 T4 T5 : TypeId) (w : World) (hb1 : Blk w b1 (frv f) T1) (hb2 : Blk w b2 [.int .i64 x] T2) (hb3 : Blk w b3 [.int .i64 (x + m - 1)] T3) (hb4 : Blk w b4 [.int .i64 y] T4) (hb5 : Blk w b5 [.int .i64 (y + n - 1)] T5) :
    Tells (.func (.func 116) #[] #[.pointer (some ⟨b1, 0, none⟩), .pointer (some ⟨b2, 0, none⟩), .pointer (some ⟨b3, 0, none⟩), .pointer (some ⟨b4, 0, none⟩), .pointer (some ⟨b5, 0, none⟩)]) (cutP f x y m n) w :=
  ⟨116, _, #[.pointer (some ⟨b1, 0, none⟩), .pointer (some ⟨b2, 0, none⟩), .pointer (some ⟨b3, 0, none⟩), .pointer (some ⟨b4, 0, none⟩), .pointer (some ⟨b5, 0, none⟩)], rfl, Try.func116, by kernel_rfl, by kernel_rfl, fun a b w1 _ _ hk => Cut1_c f ok x y m n b1 b2 b3 b4 b5 T1 T2 T3 T4 T5 a b w1 (hb1.keep0 hk) (hb2.keep0 hk) (hb3.keep0 hk) (hb4.keep0 hk) (hb5.keep0 hk)⟩
set_option maxHeartbeats 2000000 in
set_option maxRecDepth 100000 in
theorem Cut_c (f : List Nat) (ok : FrOk f) (x y m n : Int) (okb : BxOk (x, y, m, n)) (w : World) :
    Calls Try.prog 67 #[.agg (frv f).toArray, .agg (bxv (x, y, m, n)).toArray] w fun e w' => e = .returned (.tuple #[.agg (frv (cutR f x y m n)).toArray, .int .i64 (cutC f x y m n)]) ∧ Keep [] w w' := by
  have hf := ok.len
  have st := St.start w
  obtain ⟨⟨a1, a2⟩, ⟨b1, b2⟩, ⟨c1, c2⟩, ⟨d1, d2⟩⟩ := okb
  simp only at a1 a2 b1 b2 c1 c2 d1 d2
  rw [show bxv (x, y, m, n) = [.int .i8 x, .int .i8 y, .int .i8 m, .int .i8 n] from rfl]
  go_enter Try.func67, Try.ntmps67
  go_wp2_with (first | ((with_reducible refine gate_box rfl ?_); (with_reducible refine gate_dst (N := 2) rfl ?_); refine wpl_box rfl _ _ rfl _ rfl _ rfl st ?_; clear st; intro B2 _ st) | ((with_reducible refine gate_box rfl ?_); (with_reducible refine gate_dst (N := 3) rfl ?_); refine wpl_box rfl _ _ rfl _ rfl _ rfl st ?_; clear st; intro B3 _ st) | ((with_reducible refine gate_alloc rfl ?_); (with_reducible refine gate_dst (N := 4) rfl ?_); refine wpl_alloc rfl _ rfl tFr.toAggT st ?_; clear st; intro B4 _ st))
  apply wp_region_meetH2 st 10 rfl (by kernel_rfl)
  case h =>
    intro _ st
    refine takeH (i := 0) rfl (by kernel_rfl) (by kernel_rfl) (by kernel_rfl) (fun _ _ _ h => h) rfl (fun w hw => (field_run rfl _ _ rfl 0 (fun b f w' => fld_box b f w' 0 (by omega)))) (by first | exact st | exact st.drop | exact st.drop.drop) ?_
    (simp only [Act.put, Act.eval, Array.getD_eq_getD_getElem?, List.getElem?_toArray, List.getElem?_cons_succ, List.getElem?_cons_zero, Option.getD_some, List.setIfInBounds_toArray, List.set_cons_succ, List.set_cons_zero, List.getElem_toArray, List.getElem_cons_succ, List.getElem_cons_zero])
    refine takeH (i := 1) rfl (by kernel_rfl) (by kernel_rfl) (by kernel_rfl) (fun _ _ _ h => h) rfl (fun w hw => (load1_run rfl _ rfl tI8 (.int .i8 x) ((hw.get (by repeat (first | exact At.here | apply At.there))).cellv rfl))) (by first | exact st | exact st.drop | exact st.drop.drop) ?_
    (simp only [Act.put, Act.eval, Array.getD_eq_getD_getElem?, List.getElem?_toArray, List.getElem?_cons_succ, List.getElem?_cons_zero, Option.getD_some, List.setIfInBounds_toArray, List.set_cons_succ, List.set_cons_zero, List.getElem_toArray, List.getElem_cons_succ, List.getElem_cons_zero])
    refine takeH (i := 2) rfl (by kernel_rfl) (by kernel_rfl) (by kernel_rfl) (fun _ _ _ h => h) rfl (fun w hw => (conv_run rfl .i8 .i64 x x rfl (by kernel_rfl) Try.underlying2 (IntWalk.i64_in _ (by omega)))) (by first | exact st | exact st.drop | exact st.drop.drop) ?_
    (simp only [Act.put, Act.eval, Array.getD_eq_getD_getElem?, List.getElem?_toArray, List.getElem?_cons_succ, List.getElem?_cons_zero, Option.getD_some, List.setIfInBounds_toArray, List.set_cons_succ, List.set_cons_zero, List.getElem_toArray, List.getElem_cons_succ, List.getElem_cons_zero])
    refine takeH (i := 3) rfl (by kernel_rfl) (by kernel_rfl) (by kernel_rfl) (fun _ _ _ h => h) rfl (fun w hw => (field_run rfl _ _ rfl 1 (fun b f w' => fld_box b f w' 1 (by omega)))) (by first | exact st | exact st.drop | exact st.drop.drop) ?_
    (simp only [Act.put, Act.eval, Array.getD_eq_getD_getElem?, List.getElem?_toArray, List.getElem?_cons_succ, List.getElem?_cons_zero, Option.getD_some, List.setIfInBounds_toArray, List.set_cons_succ, List.set_cons_zero, List.getElem_toArray, List.getElem_cons_succ, List.getElem_cons_zero])
    refine takeH (i := 4) rfl (by kernel_rfl) (by kernel_rfl) (by kernel_rfl) (fun _ _ _ h => h) rfl (fun w hw => (load1_run rfl _ rfl tI8 (.int .i8 y) ((hw.get (by repeat (first | exact At.here | apply At.there))).cellv rfl))) (by first | exact st | exact st.drop | exact st.drop.drop) ?_
    (simp only [Act.put, Act.eval, Array.getD_eq_getD_getElem?, List.getElem?_toArray, List.getElem?_cons_succ, List.getElem?_cons_zero, Option.getD_some, List.setIfInBounds_toArray, List.set_cons_succ, List.set_cons_zero, List.getElem_toArray, List.getElem_cons_succ, List.getElem_cons_zero])
    refine takeH (i := 5) rfl (by kernel_rfl) (by kernel_rfl) (by kernel_rfl) (fun _ _ _ h => h) rfl (fun w hw => (conv_run rfl .i8 .i64 y y rfl (by kernel_rfl) Try.underlying2 (IntWalk.i64_in _ (by omega)))) (by first | exact st | exact st.drop | exact st.drop.drop) ?_
    (simp only [Act.put, Act.eval, Array.getD_eq_getD_getElem?, List.getElem?_toArray, List.getElem?_cons_succ, List.getElem?_cons_zero, Option.getD_some, List.setIfInBounds_toArray, List.set_cons_succ, List.set_cons_zero, List.getElem_toArray, List.getElem_cons_succ, List.getElem_cons_zero])
    refine anyH_ready (rs := [6, 7]) (by kernel_rfl) (by simp) ?_
    refine AllH.one rfl rfl ?_ ?_
    · ((with_reducible refine gate_alloc rfl ?_); refine wpl_alloc1 rfl _ rfl tI64 st ?_; clear st; intro B6 _ st)
      (simp only [Act.put, Act.eval, Array.getD_eq_getD_getElem?, List.getElem?_toArray, List.getElem?_cons_succ, List.getElem?_cons_zero, Option.getD_some, List.setIfInBounds_toArray, List.set_cons_succ, List.set_cons_zero, List.getElem_toArray, List.getElem_cons_succ, List.getElem_cons_zero])
      refine wpList_aftH (by first | exact st | exact st.drop | exact st.drop.drop) ?_
      refine anyH_ready (rs := [7]) (by kernel_rfl) (by simp) ?_
      refine AllH.one rfl rfl ?_ ?_
      · ((with_reducible refine gate_alloc rfl ?_); refine wpl_alloc1 rfl _ rfl tI64 st ?_; clear st; intro B7 _ st)
        (simp only [Act.put, Act.eval, Array.getD_eq_getD_getElem?, List.getElem?_toArray, List.getElem?_cons_succ, List.getElem?_cons_zero, Option.getD_some, List.setIfInBounds_toArray, List.set_cons_succ, List.set_cons_zero, List.getElem_toArray, List.getElem_cons_succ, List.getElem_cons_zero])
        refine wpList_aftH (by first | exact st | exact st.drop | exact st.drop.drop) ?_
        refine anyH_ready (rs := [8]) (by kernel_rfl) (by simp) ?_
        refine AllH.one rfl rfl ?_ ?_
        · ((with_reducible refine gate_store rfl ?_); refine wpl_store1 rfl _ _ _ rfl _ _ rfl (.int .i64 x) rfl tI64 rfl rfl st _ _ (by repeat (first | exact Upd.here | apply Upd.there)) (by simp) ?_; clear st; intro _ st)
          (simp only [Act.put, Act.eval, Array.getD_eq_getD_getElem?, List.getElem?_toArray, List.getElem?_cons_succ, List.getElem?_cons_zero, Option.getD_some, List.setIfInBounds_toArray, List.set_cons_succ, List.set_cons_zero, List.getElem_toArray, List.getElem_cons_succ, List.getElem_cons_zero])
          refine wpList_aftH (by first | exact st | exact st.drop | exact st.drop.drop) ?_
          refine anyH_ready (rs := [9]) (by kernel_rfl) (by simp) ?_
          refine AllH.one rfl rfl ?_ ?_
          · ((with_reducible refine gate_store rfl ?_); refine wpl_store1 rfl _ _ _ rfl _ _ rfl (.int .i64 y) rfl tI64 rfl rfl st _ _ (by repeat (first | exact Upd.here | apply Upd.there)) (by simp) ?_; clear st; intro _ st)
            (simp only [Act.put, Act.eval, Array.getD_eq_getD_getElem?, List.getElem?_toArray, List.getElem?_cons_succ, List.getElem?_cons_zero, Option.getD_some, List.setIfInBounds_toArray, List.set_cons_succ, List.set_cons_zero, List.getElem_toArray, List.getElem_cons_succ, List.getElem_cons_zero])
            refine wpList_aftH (by first | exact st | exact st.drop | exact st.drop.drop) ?_
            refine wpAnyH_done (by kernel_rfl) ?_ _; exact ⟨B6, B7, rfl, (by first | exact st | exact st.swap)⟩
          exact AllH.nil
        exact AllH.nil
      exact AllH.nil
    refine AllH.one rfl rfl ?_ ?_
    · ((with_reducible refine gate_alloc rfl ?_); refine wpl_alloc1 rfl _ rfl tI64 st ?_; clear st; intro B7 _ st)
      (simp only [Act.put, Act.eval, Array.getD_eq_getD_getElem?, List.getElem?_toArray, List.getElem?_cons_succ, List.getElem?_cons_zero, Option.getD_some, List.setIfInBounds_toArray, List.set_cons_succ, List.set_cons_zero, List.getElem_toArray, List.getElem_cons_succ, List.getElem_cons_zero])
      refine wpList_aftH (by first | exact st | exact st.drop | exact st.drop.drop) ?_
      refine anyH_ready (rs := [6]) (by kernel_rfl) (by simp) ?_
      refine AllH.one rfl rfl ?_ ?_
      · ((with_reducible refine gate_alloc rfl ?_); refine wpl_alloc1 rfl _ rfl tI64 st ?_; clear st; intro B6 _ st)
        (simp only [Act.put, Act.eval, Array.getD_eq_getD_getElem?, List.getElem?_toArray, List.getElem?_cons_succ, List.getElem?_cons_zero, Option.getD_some, List.setIfInBounds_toArray, List.set_cons_succ, List.set_cons_zero, List.getElem_toArray, List.getElem_cons_succ, List.getElem_cons_zero])
        refine wpList_aftH (by first | exact st | exact st.drop | exact st.drop.drop) ?_
        refine anyH_ready (rs := [8]) (by kernel_rfl) (by simp) ?_
        refine AllH.one rfl rfl ?_ ?_
        · ((with_reducible refine gate_store rfl ?_); refine wpl_store1 rfl _ _ _ rfl _ _ rfl (.int .i64 x) rfl tI64 rfl rfl st _ _ (by repeat (first | exact Upd.here | apply Upd.there)) (by simp) ?_; clear st; intro _ st)
          (simp only [Act.put, Act.eval, Array.getD_eq_getD_getElem?, List.getElem?_toArray, List.getElem?_cons_succ, List.getElem?_cons_zero, Option.getD_some, List.setIfInBounds_toArray, List.set_cons_succ, List.set_cons_zero, List.getElem_toArray, List.getElem_cons_succ, List.getElem_cons_zero])
          refine wpList_aftH (by first | exact st | exact st.drop | exact st.drop.drop) ?_
          refine anyH_ready (rs := [9]) (by kernel_rfl) (by simp) ?_
          refine AllH.one rfl rfl ?_ ?_
          · ((with_reducible refine gate_store rfl ?_); refine wpl_store1 rfl _ _ _ rfl _ _ rfl (.int .i64 y) rfl tI64 rfl rfl st _ _ (by repeat (first | exact Upd.here | apply Upd.there)) (by simp) ?_; clear st; intro _ st)
            (simp only [Act.put, Act.eval, Array.getD_eq_getD_getElem?, List.getElem?_toArray, List.getElem?_cons_succ, List.getElem?_cons_zero, Option.getD_some, List.setIfInBounds_toArray, List.set_cons_succ, List.set_cons_zero, List.getElem_toArray, List.getElem_cons_succ, List.getElem_cons_zero])
            refine wpList_aftH (by first | exact st | exact st.drop | exact st.drop.drop) ?_
            refine wpAnyH_done (by kernel_rfl) ?_ _; exact ⟨B6, B7, rfl, (by first | exact st | exact st.swap)⟩
          exact AllH.nil
        exact AllH.nil
      exact AllH.nil
    exact AllH.nil
  clear st; intro B6 B7 _ st
  simp only [List.set_cons_zero] at st
  go_wp2_with fail
  apply wp_region_meetH2 st 16 rfl (by kernel_rfl)
  case h =>
    intro _ st
    refine takeH (i := 0) rfl (by kernel_rfl) (by kernel_rfl) (by kernel_rfl) (fun _ _ _ h => h) rfl (fun w hw => (load1_run rfl _ rfl tI64 (.int .i64 x) ((hw.get (by repeat (first | exact At.here | apply At.there))).cellv rfl))) (by first | exact st | exact st.drop | exact st.drop.drop) ?_
    (simp only [Act.put, Act.eval, Array.getD_eq_getD_getElem?, List.getElem?_toArray, List.getElem?_cons_succ, List.getElem?_cons_zero, Option.getD_some, List.setIfInBounds_toArray, List.set_cons_succ, List.set_cons_zero, List.getElem_toArray, List.getElem_cons_succ, List.getElem_cons_zero])
    refine takeH (i := 1) rfl (by kernel_rfl) (by kernel_rfl) (by kernel_rfl) (fun _ _ _ h => h) rfl (fun w hw => (field_run rfl _ _ rfl 2 (fun b f w' => fld_box b f w' 2 (by omega)))) (by first | exact st | exact st.drop | exact st.drop.drop) ?_
    (simp only [Act.put, Act.eval, Array.getD_eq_getD_getElem?, List.getElem?_toArray, List.getElem?_cons_succ, List.getElem?_cons_zero, Option.getD_some, List.setIfInBounds_toArray, List.set_cons_succ, List.set_cons_zero, List.getElem_toArray, List.getElem_cons_succ, List.getElem_cons_zero])
    refine takeH (i := 2) rfl (by kernel_rfl) (by kernel_rfl) (by kernel_rfl) (fun _ _ _ h => h) rfl (fun w hw => (load1_run rfl _ rfl tI8 (.int .i8 m) ((hw.get (by repeat (first | exact At.here | apply At.there))).cellv rfl))) (by first | exact st | exact st.drop | exact st.drop.drop) ?_
    (simp only [Act.put, Act.eval, Array.getD_eq_getD_getElem?, List.getElem?_toArray, List.getElem?_cons_succ, List.getElem?_cons_zero, Option.getD_some, List.setIfInBounds_toArray, List.set_cons_succ, List.set_cons_zero, List.getElem_toArray, List.getElem_cons_succ, List.getElem_cons_zero])
    refine takeH (i := 3) rfl (by kernel_rfl) (by kernel_rfl) (by kernel_rfl) (fun _ _ _ h => h) rfl (fun w hw => (conv_run rfl .i8 .i64 m m rfl (by kernel_rfl) Try.underlying2 (IntWalk.i64_in _ (by omega)))) (by first | exact st | exact st.drop | exact st.drop.drop) ?_
    (simp only [Act.put, Act.eval, Array.getD_eq_getD_getElem?, List.getElem?_toArray, List.getElem?_cons_succ, List.getElem?_cons_zero, Option.getD_some, List.setIfInBounds_toArray, List.set_cons_succ, List.set_cons_zero, List.getElem_toArray, List.getElem_cons_succ, List.getElem_cons_zero])
    refine takeH (i := 4) rfl (by kernel_rfl) (by kernel_rfl) (by kernel_rfl) (fun _ _ _ h => h) rfl (fun w hw => (bin_run rfl _ _ _ _ rfl rfl (.int .i64 (x + m)) (run_add64 (by omega) (by omega) _))) (by first | exact st | exact st.drop | exact st.drop.drop) ?_
    (simp only [Act.put, Act.eval, Array.getD_eq_getD_getElem?, List.getElem?_toArray, List.getElem?_cons_succ, List.getElem?_cons_zero, Option.getD_some, List.setIfInBounds_toArray, List.set_cons_succ, List.set_cons_zero, List.getElem_toArray, List.getElem_cons_succ, List.getElem_cons_zero])
    refine takeH (i := 5) rfl (by kernel_rfl) (by kernel_rfl) (by kernel_rfl) (fun _ _ _ h => h) rfl (fun w hw => (bin_run rfl _ _ _ _ rfl rfl (.int .i64 (x + m - 1)) (run_sub64 (by omega) (by omega) _))) (by first | exact st | exact st.drop | exact st.drop.drop) ?_
    (simp only [Act.put, Act.eval, Array.getD_eq_getD_getElem?, List.getElem?_toArray, List.getElem?_cons_succ, List.getElem?_cons_zero, Option.getD_some, List.setIfInBounds_toArray, List.set_cons_succ, List.set_cons_zero, List.getElem_toArray, List.getElem_cons_succ, List.getElem_cons_zero])
    refine takeH (i := 6) rfl (by kernel_rfl) (by kernel_rfl) (by kernel_rfl) (fun _ _ _ h => h) rfl (fun w hw => (load1_run rfl _ rfl tI64 (.int .i64 y) ((hw.get (by repeat (first | exact At.here | apply At.there))).cellv rfl))) (by first | exact st | exact st.drop | exact st.drop.drop) ?_
    (simp only [Act.put, Act.eval, Array.getD_eq_getD_getElem?, List.getElem?_toArray, List.getElem?_cons_succ, List.getElem?_cons_zero, Option.getD_some, List.setIfInBounds_toArray, List.set_cons_succ, List.set_cons_zero, List.getElem_toArray, List.getElem_cons_succ, List.getElem_cons_zero])
    refine takeH (i := 7) rfl (by kernel_rfl) (by kernel_rfl) (by kernel_rfl) (fun _ _ _ h => h) rfl (fun w hw => (field_run rfl _ _ rfl 3 (fun b f w' => fld_box b f w' 3 (by omega)))) (by first | exact st | exact st.drop | exact st.drop.drop) ?_
    (simp only [Act.put, Act.eval, Array.getD_eq_getD_getElem?, List.getElem?_toArray, List.getElem?_cons_succ, List.getElem?_cons_zero, Option.getD_some, List.setIfInBounds_toArray, List.set_cons_succ, List.set_cons_zero, List.getElem_toArray, List.getElem_cons_succ, List.getElem_cons_zero])
    refine takeH (i := 8) rfl (by kernel_rfl) (by kernel_rfl) (by kernel_rfl) (fun _ _ _ h => h) rfl (fun w hw => (load1_run rfl _ rfl tI8 (.int .i8 n) ((hw.get (by repeat (first | exact At.here | apply At.there))).cellv rfl))) (by first | exact st | exact st.drop | exact st.drop.drop) ?_
    (simp only [Act.put, Act.eval, Array.getD_eq_getD_getElem?, List.getElem?_toArray, List.getElem?_cons_succ, List.getElem?_cons_zero, Option.getD_some, List.setIfInBounds_toArray, List.set_cons_succ, List.set_cons_zero, List.getElem_toArray, List.getElem_cons_succ, List.getElem_cons_zero])
    refine takeH (i := 9) rfl (by kernel_rfl) (by kernel_rfl) (by kernel_rfl) (fun _ _ _ h => h) rfl (fun w hw => (conv_run rfl .i8 .i64 n n rfl (by kernel_rfl) Try.underlying2 (IntWalk.i64_in _ (by omega)))) (by first | exact st | exact st.drop | exact st.drop.drop) ?_
    (simp only [Act.put, Act.eval, Array.getD_eq_getD_getElem?, List.getElem?_toArray, List.getElem?_cons_succ, List.getElem?_cons_zero, Option.getD_some, List.setIfInBounds_toArray, List.set_cons_succ, List.set_cons_zero, List.getElem_toArray, List.getElem_cons_succ, List.getElem_cons_zero])
    refine takeH (i := 10) rfl (by kernel_rfl) (by kernel_rfl) (by kernel_rfl) (fun _ _ _ h => h) rfl (fun w hw => (bin_run rfl _ _ _ _ rfl rfl (.int .i64 (y + n)) (run_add64 (by omega) (by omega) _))) (by first | exact st | exact st.drop | exact st.drop.drop) ?_
    (simp only [Act.put, Act.eval, Array.getD_eq_getD_getElem?, List.getElem?_toArray, List.getElem?_cons_succ, List.getElem?_cons_zero, Option.getD_some, List.setIfInBounds_toArray, List.set_cons_succ, List.set_cons_zero, List.getElem_toArray, List.getElem_cons_succ, List.getElem_cons_zero])
    refine takeH (i := 11) rfl (by kernel_rfl) (by kernel_rfl) (by kernel_rfl) (fun _ _ _ h => h) rfl (fun w hw => (bin_run rfl _ _ _ _ rfl rfl (.int .i64 (y + n - 1)) (run_sub64 (by omega) (by omega) _))) (by first | exact st | exact st.drop | exact st.drop.drop) ?_
    (simp only [Act.put, Act.eval, Array.getD_eq_getD_getElem?, List.getElem?_toArray, List.getElem?_cons_succ, List.getElem?_cons_zero, Option.getD_some, List.setIfInBounds_toArray, List.set_cons_succ, List.set_cons_zero, List.getElem_toArray, List.getElem_cons_succ, List.getElem_cons_zero])
    refine anyH_ready (rs := [12, 13]) (by kernel_rfl) (by simp) ?_
    refine AllH.one rfl rfl ?_ ?_
    · ((with_reducible refine gate_alloc rfl ?_); refine wpl_alloc1 rfl _ rfl tI64 st ?_; clear st; intro B8 _ st)
      (simp only [Act.put, Act.eval, Array.getD_eq_getD_getElem?, List.getElem?_toArray, List.getElem?_cons_succ, List.getElem?_cons_zero, Option.getD_some, List.setIfInBounds_toArray, List.set_cons_succ, List.set_cons_zero, List.getElem_toArray, List.getElem_cons_succ, List.getElem_cons_zero])
      refine wpList_aftH (by first | exact st | exact st.drop | exact st.drop.drop) ?_
      refine anyH_ready (rs := [13]) (by kernel_rfl) (by simp) ?_
      refine AllH.one rfl rfl ?_ ?_
      · ((with_reducible refine gate_alloc rfl ?_); refine wpl_alloc1 rfl _ rfl tI64 st ?_; clear st; intro B9 _ st)
        (simp only [Act.put, Act.eval, Array.getD_eq_getD_getElem?, List.getElem?_toArray, List.getElem?_cons_succ, List.getElem?_cons_zero, Option.getD_some, List.setIfInBounds_toArray, List.set_cons_succ, List.set_cons_zero, List.getElem_toArray, List.getElem_cons_succ, List.getElem_cons_zero])
        refine wpList_aftH (by first | exact st | exact st.drop | exact st.drop.drop) ?_
        refine anyH_ready (rs := [14]) (by kernel_rfl) (by simp) ?_
        refine AllH.one rfl rfl ?_ ?_
        · ((with_reducible refine gate_store rfl ?_); refine wpl_store1 rfl _ _ _ rfl _ _ rfl (.int .i64 (x + m - 1)) rfl tI64 rfl rfl st _ _ (by repeat (first | exact Upd.here | apply Upd.there)) (by simp) ?_; clear st; intro _ st)
          (simp only [Act.put, Act.eval, Array.getD_eq_getD_getElem?, List.getElem?_toArray, List.getElem?_cons_succ, List.getElem?_cons_zero, Option.getD_some, List.setIfInBounds_toArray, List.set_cons_succ, List.set_cons_zero, List.getElem_toArray, List.getElem_cons_succ, List.getElem_cons_zero])
          refine wpList_aftH (by first | exact st | exact st.drop | exact st.drop.drop) ?_
          refine anyH_ready (rs := [15]) (by kernel_rfl) (by simp) ?_
          refine AllH.one rfl rfl ?_ ?_
          · ((with_reducible refine gate_store rfl ?_); refine wpl_store1 rfl _ _ _ rfl _ _ rfl (.int .i64 (y + n - 1)) rfl tI64 rfl rfl st _ _ (by repeat (first | exact Upd.here | apply Upd.there)) (by simp) ?_; clear st; intro _ st)
            (simp only [Act.put, Act.eval, Array.getD_eq_getD_getElem?, List.getElem?_toArray, List.getElem?_cons_succ, List.getElem?_cons_zero, Option.getD_some, List.setIfInBounds_toArray, List.set_cons_succ, List.set_cons_zero, List.getElem_toArray, List.getElem_cons_succ, List.getElem_cons_zero])
            refine wpList_aftH (by first | exact st | exact st.drop | exact st.drop.drop) ?_
            refine wpAnyH_done (by kernel_rfl) ?_ _; exact ⟨B8, B9, rfl, (by first | exact st | exact st.swap)⟩
          exact AllH.nil
        exact AllH.nil
      exact AllH.nil
    refine AllH.one rfl rfl ?_ ?_
    · ((with_reducible refine gate_alloc rfl ?_); refine wpl_alloc1 rfl _ rfl tI64 st ?_; clear st; intro B9 _ st)
      (simp only [Act.put, Act.eval, Array.getD_eq_getD_getElem?, List.getElem?_toArray, List.getElem?_cons_succ, List.getElem?_cons_zero, Option.getD_some, List.setIfInBounds_toArray, List.set_cons_succ, List.set_cons_zero, List.getElem_toArray, List.getElem_cons_succ, List.getElem_cons_zero])
      refine wpList_aftH (by first | exact st | exact st.drop | exact st.drop.drop) ?_
      refine anyH_ready (rs := [12]) (by kernel_rfl) (by simp) ?_
      refine AllH.one rfl rfl ?_ ?_
      · ((with_reducible refine gate_alloc rfl ?_); refine wpl_alloc1 rfl _ rfl tI64 st ?_; clear st; intro B8 _ st)
        (simp only [Act.put, Act.eval, Array.getD_eq_getD_getElem?, List.getElem?_toArray, List.getElem?_cons_succ, List.getElem?_cons_zero, Option.getD_some, List.setIfInBounds_toArray, List.set_cons_succ, List.set_cons_zero, List.getElem_toArray, List.getElem_cons_succ, List.getElem_cons_zero])
        refine wpList_aftH (by first | exact st | exact st.drop | exact st.drop.drop) ?_
        refine anyH_ready (rs := [14]) (by kernel_rfl) (by simp) ?_
        refine AllH.one rfl rfl ?_ ?_
        · ((with_reducible refine gate_store rfl ?_); refine wpl_store1 rfl _ _ _ rfl _ _ rfl (.int .i64 (x + m - 1)) rfl tI64 rfl rfl st _ _ (by repeat (first | exact Upd.here | apply Upd.there)) (by simp) ?_; clear st; intro _ st)
          (simp only [Act.put, Act.eval, Array.getD_eq_getD_getElem?, List.getElem?_toArray, List.getElem?_cons_succ, List.getElem?_cons_zero, Option.getD_some, List.setIfInBounds_toArray, List.set_cons_succ, List.set_cons_zero, List.getElem_toArray, List.getElem_cons_succ, List.getElem_cons_zero])
          refine wpList_aftH (by first | exact st | exact st.drop | exact st.drop.drop) ?_
          refine anyH_ready (rs := [15]) (by kernel_rfl) (by simp) ?_
          refine AllH.one rfl rfl ?_ ?_
          · ((with_reducible refine gate_store rfl ?_); refine wpl_store1 rfl _ _ _ rfl _ _ rfl (.int .i64 (y + n - 1)) rfl tI64 rfl rfl st _ _ (by repeat (first | exact Upd.here | apply Upd.there)) (by simp) ?_; clear st; intro _ st)
            (simp only [Act.put, Act.eval, Array.getD_eq_getD_getElem?, List.getElem?_toArray, List.getElem?_cons_succ, List.getElem?_cons_zero, Option.getD_some, List.setIfInBounds_toArray, List.set_cons_succ, List.set_cons_zero, List.getElem_toArray, List.getElem_cons_succ, List.getElem_cons_zero])
            refine wpList_aftH (by first | exact st | exact st.drop | exact st.drop.drop) ?_
            refine wpAnyH_done (by kernel_rfl) ?_ _; exact ⟨B8, B9, rfl, (by first | exact st | exact st.swap)⟩
          exact AllH.nil
        exact AllH.nil
      exact AllH.nil
    exact AllH.nil
  clear st; intro B8 B9 _ st
  simp only [List.set_cons_zero] at st
  rcases Bool.eq_false_or_eq_true (okB f) with h | h
  · by_cases hm : m < 1
    · have hm' : decide (m < 1) = true := by simpa using hm
      have hb : boxedB x y m n = false := by
        rw [Bool.eq_false_iff]; intro hb; have := boxedB_iff.1 hb; omega
      have hc := cutC_2 (m := m) (n := n) h hb
      have hR : cutR f x y m n = zf := by unfold cutR; rw [hc, if_neg (by decide)]
      go_wp2_with (first | (refine wpl_unguard rfl ?_) | ((with_reducible refine gate_load rfl ?_); refine wpl_loadAll rfl _ _ rfl _ rfl tFr.toAggT _ _ (st.get (by repeat (first | exact At.here | apply At.there))) (by simp [frv_length, zf_length, mk_length, withD_length, part_length, rowsOf_length, *]) ?_) | (go_at_call 25; refine (ValidFrame_v h hf _).mono ?_; rintro _ _ ⟨rfl, hk⟩; replace st := st.call hk; clear hk) | ((with_reducible refine gate_dst (N := 35) rfl ?_); ((with_reducible refine gate_load rfl ?_); refine wpl_load1 rfl _ _ rfl _ rfl tI8 (.int .i8 m) ((st.get (by repeat (first | exact At.here | apply At.there))).cellv rfl) ?_)) | ((with_reducible refine gate_dst (N := 39) rfl ?_); ((with_reducible refine gate_load rfl ?_); refine wpl_load1 rfl _ _ rfl _ rfl tI8 (.int .i8 n) ((st.get (by repeat (first | exact At.here | apply At.there))).cellv rfl) ?_)) | ((with_reducible refine gate_dst (N := 43) rfl ?_); ((with_reducible refine gate_load rfl ?_); refine wpl_load1 rfl _ _ rfl _ rfl tI64 (.int .i64 x) ((st.get (by repeat (first | exact At.here | apply At.there))).cellv rfl) ?_)) | ((with_reducible refine gate_dst (N := 44) rfl ?_); ((with_reducible refine gate_load rfl ?_); refine wpl_load1 rfl _ _ rfl _ rfl tI64 (.int .i64 y) ((st.get (by repeat (first | exact At.here | apply At.there))).cellv rfl) ?_)) | ((with_reducible refine gate_dst (N := 49) rfl ?_); ((with_reducible refine gate_load rfl ?_); refine wpl_load1 rfl _ _ rfl _ rfl tI64 (.int .i64 (x + m - 1)) ((st.get (by repeat (first | exact At.here | apply At.there))).cellv rfl) ?_)) | ((with_reducible refine gate_dst (N := 50) rfl ?_); ((with_reducible refine gate_load rfl ?_); refine wpl_load1 rfl _ _ rfl _ rfl tI64 (.int .i64 (y + n - 1)) ((st.get (by repeat (first | exact At.here | apply At.there))).cellv rfl) ?_)) | ((with_reducible refine gate_build rfl ?_); refine wpl_zero rfl _ rfl _ tFrB ?_) | ((with_reducible refine gate_store rfl ?_); refine wpl_storeAll rfl _ _ _ rfl _ rfl _ rfl tFr.toAggT (by simp [frv_length, zf_length, mk_length, withD_length, part_length, rowsOf_length, *]) (frv_one _) st _ _ (by repeat (first | exact Upd.here | apply Upd.there)) (by simp [frv_length, zf_length, mk_length, withD_length, part_length, rowsOf_length, *]) ?_; clear st; intro _ st))
      refine bodyPost_cell_tmp rfl tFr.toAggT rfl _ rfl _ _ (st.get (by repeat (first | exact At.here | apply At.there))) (by simp [frv_length, zf_length, mk_length, withD_length, part_length, rowsOf_length, *]) _ rfl ?_
      exact ⟨by rw [hR, hc]; rfl, st.keep⟩
    · have hm' : decide (m < 1) = false := by simpa using hm
      by_cases hn : n < 1
      · have hn' : decide (n < 1) = true := by simpa using hn
        have hb : boxedB x y m n = false := by
          rw [Bool.eq_false_iff]; intro hb; have := boxedB_iff.1 hb; omega
        have hc := cutC_2 (m := m) (n := n) h hb
        have hR : cutR f x y m n = zf := by unfold cutR; rw [hc, if_neg (by decide)]
        go_wp2_with (first | (refine wpl_unguard rfl ?_) | ((with_reducible refine gate_load rfl ?_); refine wpl_loadAll rfl _ _ rfl _ rfl tFr.toAggT _ _ (st.get (by repeat (first | exact At.here | apply At.there))) (by simp [frv_length, zf_length, mk_length, withD_length, part_length, rowsOf_length, *]) ?_) | (go_at_call 25; refine (ValidFrame_v h hf _).mono ?_; rintro _ _ ⟨rfl, hk⟩; replace st := st.call hk; clear hk) | ((with_reducible refine gate_dst (N := 35) rfl ?_); ((with_reducible refine gate_load rfl ?_); refine wpl_load1 rfl _ _ rfl _ rfl tI8 (.int .i8 m) ((st.get (by repeat (first | exact At.here | apply At.there))).cellv rfl) ?_)) | ((with_reducible refine gate_dst (N := 39) rfl ?_); ((with_reducible refine gate_load rfl ?_); refine wpl_load1 rfl _ _ rfl _ rfl tI8 (.int .i8 n) ((st.get (by repeat (first | exact At.here | apply At.there))).cellv rfl) ?_)) | ((with_reducible refine gate_dst (N := 43) rfl ?_); ((with_reducible refine gate_load rfl ?_); refine wpl_load1 rfl _ _ rfl _ rfl tI64 (.int .i64 x) ((st.get (by repeat (first | exact At.here | apply At.there))).cellv rfl) ?_)) | ((with_reducible refine gate_dst (N := 44) rfl ?_); ((with_reducible refine gate_load rfl ?_); refine wpl_load1 rfl _ _ rfl _ rfl tI64 (.int .i64 y) ((st.get (by repeat (first | exact At.here | apply At.there))).cellv rfl) ?_)) | ((with_reducible refine gate_dst (N := 49) rfl ?_); ((with_reducible refine gate_load rfl ?_); refine wpl_load1 rfl _ _ rfl _ rfl tI64 (.int .i64 (x + m - 1)) ((st.get (by repeat (first | exact At.here | apply At.there))).cellv rfl) ?_)) | ((with_reducible refine gate_dst (N := 50) rfl ?_); ((with_reducible refine gate_load rfl ?_); refine wpl_load1 rfl _ _ rfl _ rfl tI64 (.int .i64 (y + n - 1)) ((st.get (by repeat (first | exact At.here | apply At.there))).cellv rfl) ?_)) | ((with_reducible refine gate_build rfl ?_); refine wpl_zero rfl _ rfl _ tFrB ?_) | ((with_reducible refine gate_store rfl ?_); refine wpl_storeAll rfl _ _ _ rfl _ rfl _ rfl tFr.toAggT (by simp [frv_length, zf_length, mk_length, withD_length, part_length, rowsOf_length, *]) (frv_one _) st _ _ (by repeat (first | exact Upd.here | apply Upd.there)) (by simp [frv_length, zf_length, mk_length, withD_length, part_length, rowsOf_length, *]) ?_; clear st; intro _ st))
        refine bodyPost_cell_tmp rfl tFr.toAggT rfl _ rfl _ _ (st.get (by repeat (first | exact At.here | apply At.there))) (by simp [frv_length, zf_length, mk_length, withD_length, part_length, rowsOf_length, *]) _ rfl ?_
        exact ⟨by rw [hR, hc]; rfl, st.keep⟩
      · have hn' : decide (n < 1) = false := by simpa using hn
        rcases Bool.eq_false_or_eq_true (placeB x y) with hp | hp
        · rcases Bool.eq_false_or_eq_true (placeB (x + m - 1) (y + n - 1)) with hq | hq
          · have hb : boxedB x y m n = true := boxedB_iff.2 ⟨by omega, by omega, hp, hq⟩
            have hc := cutC_0 (m := m) (n := n) h hb
            have hR : cutR f x y m n = mk (cutP f x y m n) := by unfold cutR; rw [if_pos hc]
            have hml := mk_length (cutP f x y m n)
            go_wp2_with (first | (refine wpl_unguard rfl ?_) | ((with_reducible refine gate_load rfl ?_); refine wpl_loadAll rfl _ _ rfl _ rfl tFr.toAggT _ _ (st.get (by repeat (first | exact At.here | apply At.there))) (by rw [frv_length, hf]) ?_) | (go_at_call 25; refine (ValidFrame_v h hf _).mono ?_; rintro _ _ ⟨rfl, hk⟩; replace st := st.call hk; clear hk) | ((with_reducible refine gate_dst (N := 35) rfl ?_); ((with_reducible refine gate_load rfl ?_); refine wpl_load1 rfl _ _ rfl _ rfl tI8 (.int .i8 m) ((st.get (by repeat (first | exact At.here | apply At.there))).cellv rfl) ?_)) | ((with_reducible refine gate_dst (N := 39) rfl ?_); ((with_reducible refine gate_load rfl ?_); refine wpl_load1 rfl _ _ rfl _ rfl tI8 (.int .i8 n) ((st.get (by repeat (first | exact At.here | apply At.there))).cellv rfl) ?_)) | ((with_reducible refine gate_dst (N := 43) rfl ?_); ((with_reducible refine gate_load rfl ?_); refine wpl_load1 rfl _ _ rfl _ rfl tI64 (.int .i64 x) ((st.get (by repeat (first | exact At.here | apply At.there))).cellv rfl) ?_)) | ((with_reducible refine gate_dst (N := 44) rfl ?_); ((with_reducible refine gate_load rfl ?_); refine wpl_load1 rfl _ _ rfl _ rfl tI64 (.int .i64 y) ((st.get (by repeat (first | exact At.here | apply At.there))).cellv rfl) ?_)) | ((with_reducible refine gate_dst (N := 49) rfl ?_); ((with_reducible refine gate_load rfl ?_); refine wpl_load1 rfl _ _ rfl _ rfl tI64 (.int .i64 (x + m - 1)) ((st.get (by repeat (first | exact At.here | apply At.there))).cellv rfl) ?_)) | ((with_reducible refine gate_dst (N := 50) rfl ?_); ((with_reducible refine gate_load rfl ?_); refine wpl_load1 rfl _ _ rfl _ rfl tI64 (.int .i64 (y + n - 1)) ((st.get (by repeat (first | exact At.here | apply At.there))).cellv rfl) ?_)) | (go_at_call 106; (with_reducible refine gate_two (n := x) ?_); refine (isPlace_v hp _).mono ?_; rintro _ _ ⟨rfl, hk⟩; replace st := st.call hk; clear hk) | (go_at_call 106; (with_reducible refine gate_two (n := (x + m - 1)) ?_); refine (isPlace_v hq _).mono ?_; rintro _ _ ⟨rfl, hk⟩; replace st := st.call hk; clear hk) | (go_at_call 95; refine (where_c (.func (.func 116) #[] #[.pointer (some ⟨B2, 0, none⟩), .pointer (some ⟨B6, 0, none⟩), .pointer (some ⟨B8, 0, none⟩), .pointer (some ⟨B7, 0, none⟩), .pointer (some ⟨B9, 0, none⟩)]) (cutP f x y m n) _ (Cut_tells f ok x y m n B2 B6 B8 B7 B9 _ _ _ _ _ _ (st.get (by repeat (first | exact At.here | apply At.there))) (st.get (by repeat (first | exact At.here | apply At.there))) (st.get (by repeat (first | exact At.here | apply At.there))) (st.get (by repeat (first | exact At.here | apply At.there))) (st.get (by repeat (first | exact At.here | apply At.there))))).mono ?_; rintro _ _ ⟨rfl, hk⟩; replace st := st.call hk; clear hk) | ((with_reducible refine gate_store rfl ?_); refine wpl_storeAll rfl _ _ _ rfl _ rfl _ rfl tFr.toAggT (by rw [frv_length, hml]) (frv_one _) st _ _ (by repeat (first | exact Upd.here | apply Upd.there)) (by simp [frv_length, zf_length, mk_length, withD_length, part_length, rowsOf_length, *]) ?_; clear st; intro _ st))
            refine bodyPost_cell_tmp rfl tFr.toAggT rfl _ rfl _ _ (st.get (by repeat (first | exact At.here | apply At.there))) (by rw [frv_length, hml]) _ rfl ?_
            exact ⟨by rw [hR, hc]; rfl, st.keep⟩
          · have hb : boxedB x y m n = false := by
              rw [Bool.eq_false_iff]; intro hb; have := boxedB_iff.1 hb; rw [hq] at this; exact absurd this.2.2.2 (by decide)
            have hc := cutC_2 (m := m) (n := n) h hb
            have hR : cutR f x y m n = zf := by unfold cutR; rw [hc, if_neg (by decide)]
            go_wp2_with (first | (refine wpl_unguard rfl ?_) | ((with_reducible refine gate_load rfl ?_); refine wpl_loadAll rfl _ _ rfl _ rfl tFr.toAggT _ _ (st.get (by repeat (first | exact At.here | apply At.there))) (by simp [frv_length, zf_length, mk_length, withD_length, part_length, rowsOf_length, *]) ?_) | (go_at_call 25; refine (ValidFrame_v h hf _).mono ?_; rintro _ _ ⟨rfl, hk⟩; replace st := st.call hk; clear hk) | ((with_reducible refine gate_dst (N := 35) rfl ?_); ((with_reducible refine gate_load rfl ?_); refine wpl_load1 rfl _ _ rfl _ rfl tI8 (.int .i8 m) ((st.get (by repeat (first | exact At.here | apply At.there))).cellv rfl) ?_)) | ((with_reducible refine gate_dst (N := 39) rfl ?_); ((with_reducible refine gate_load rfl ?_); refine wpl_load1 rfl _ _ rfl _ rfl tI8 (.int .i8 n) ((st.get (by repeat (first | exact At.here | apply At.there))).cellv rfl) ?_)) | ((with_reducible refine gate_dst (N := 43) rfl ?_); ((with_reducible refine gate_load rfl ?_); refine wpl_load1 rfl _ _ rfl _ rfl tI64 (.int .i64 x) ((st.get (by repeat (first | exact At.here | apply At.there))).cellv rfl) ?_)) | ((with_reducible refine gate_dst (N := 44) rfl ?_); ((with_reducible refine gate_load rfl ?_); refine wpl_load1 rfl _ _ rfl _ rfl tI64 (.int .i64 y) ((st.get (by repeat (first | exact At.here | apply At.there))).cellv rfl) ?_)) | ((with_reducible refine gate_dst (N := 49) rfl ?_); ((with_reducible refine gate_load rfl ?_); refine wpl_load1 rfl _ _ rfl _ rfl tI64 (.int .i64 (x + m - 1)) ((st.get (by repeat (first | exact At.here | apply At.there))).cellv rfl) ?_)) | ((with_reducible refine gate_dst (N := 50) rfl ?_); ((with_reducible refine gate_load rfl ?_); refine wpl_load1 rfl _ _ rfl _ rfl tI64 (.int .i64 (y + n - 1)) ((st.get (by repeat (first | exact At.here | apply At.there))).cellv rfl) ?_)) | (go_at_call 106; (with_reducible refine gate_two (n := x) ?_); refine (isPlace_v hp _).mono ?_; rintro _ _ ⟨rfl, hk⟩; replace st := st.call hk; clear hk) | (go_at_call 106; (with_reducible refine gate_two (n := (x + m - 1)) ?_); refine (isPlace_v hq _).mono ?_; rintro _ _ ⟨rfl, hk⟩; replace st := st.call hk; clear hk) | ((with_reducible refine gate_build rfl ?_); refine wpl_zero rfl _ rfl _ tFrB ?_) | ((with_reducible refine gate_store rfl ?_); refine wpl_storeAll rfl _ _ _ rfl _ rfl _ rfl tFr.toAggT (by simp [frv_length, zf_length, mk_length, withD_length, part_length, rowsOf_length, *]) (frv_one _) st _ _ (by repeat (first | exact Upd.here | apply Upd.there)) (by simp [frv_length, zf_length, mk_length, withD_length, part_length, rowsOf_length, *]) ?_; clear st; intro _ st))
            refine bodyPost_cell_tmp rfl tFr.toAggT rfl _ rfl _ _ (st.get (by repeat (first | exact At.here | apply At.there))) (by simp [frv_length, zf_length, mk_length, withD_length, part_length, rowsOf_length, *]) _ rfl ?_
            exact ⟨by rw [hR, hc]; rfl, st.keep⟩
        · have hb : boxedB x y m n = false := by
            rw [Bool.eq_false_iff]; intro hb; have := boxedB_iff.1 hb; rw [hp] at this; exact absurd this.2.2.1 (by decide)
          have hc := cutC_2 (m := m) (n := n) h hb
          have hR : cutR f x y m n = zf := by unfold cutR; rw [hc, if_neg (by decide)]
          go_wp2_with (first | (refine wpl_unguard rfl ?_) | ((with_reducible refine gate_load rfl ?_); refine wpl_loadAll rfl _ _ rfl _ rfl tFr.toAggT _ _ (st.get (by repeat (first | exact At.here | apply At.there))) (by simp [frv_length, zf_length, mk_length, withD_length, part_length, rowsOf_length, *]) ?_) | (go_at_call 25; refine (ValidFrame_v h hf _).mono ?_; rintro _ _ ⟨rfl, hk⟩; replace st := st.call hk; clear hk) | ((with_reducible refine gate_dst (N := 35) rfl ?_); ((with_reducible refine gate_load rfl ?_); refine wpl_load1 rfl _ _ rfl _ rfl tI8 (.int .i8 m) ((st.get (by repeat (first | exact At.here | apply At.there))).cellv rfl) ?_)) | ((with_reducible refine gate_dst (N := 39) rfl ?_); ((with_reducible refine gate_load rfl ?_); refine wpl_load1 rfl _ _ rfl _ rfl tI8 (.int .i8 n) ((st.get (by repeat (first | exact At.here | apply At.there))).cellv rfl) ?_)) | ((with_reducible refine gate_dst (N := 43) rfl ?_); ((with_reducible refine gate_load rfl ?_); refine wpl_load1 rfl _ _ rfl _ rfl tI64 (.int .i64 x) ((st.get (by repeat (first | exact At.here | apply At.there))).cellv rfl) ?_)) | ((with_reducible refine gate_dst (N := 44) rfl ?_); ((with_reducible refine gate_load rfl ?_); refine wpl_load1 rfl _ _ rfl _ rfl tI64 (.int .i64 y) ((st.get (by repeat (first | exact At.here | apply At.there))).cellv rfl) ?_)) | ((with_reducible refine gate_dst (N := 49) rfl ?_); ((with_reducible refine gate_load rfl ?_); refine wpl_load1 rfl _ _ rfl _ rfl tI64 (.int .i64 (x + m - 1)) ((st.get (by repeat (first | exact At.here | apply At.there))).cellv rfl) ?_)) | ((with_reducible refine gate_dst (N := 50) rfl ?_); ((with_reducible refine gate_load rfl ?_); refine wpl_load1 rfl _ _ rfl _ rfl tI64 (.int .i64 (y + n - 1)) ((st.get (by repeat (first | exact At.here | apply At.there))).cellv rfl) ?_)) | (go_at_call 106; (with_reducible refine gate_two (n := x) ?_); refine (isPlace_v hp _).mono ?_; rintro _ _ ⟨rfl, hk⟩; replace st := st.call hk; clear hk) | ((with_reducible refine gate_build rfl ?_); refine wpl_zero rfl _ rfl _ tFrB ?_) | ((with_reducible refine gate_store rfl ?_); refine wpl_storeAll rfl _ _ _ rfl _ rfl _ rfl tFr.toAggT (by simp [frv_length, zf_length, mk_length, withD_length, part_length, rowsOf_length, *]) (frv_one _) st _ _ (by repeat (first | exact Upd.here | apply Upd.there)) (by simp [frv_length, zf_length, mk_length, withD_length, part_length, rowsOf_length, *]) ?_; clear st; intro _ st))
          refine bodyPost_cell_tmp rfl tFr.toAggT rfl _ rfl _ _ (st.get (by repeat (first | exact At.here | apply At.there))) (by simp [frv_length, zf_length, mk_length, withD_length, part_length, rowsOf_length, *]) _ rfl ?_
          exact ⟨by rw [hR, hc]; rfl, st.keep⟩
  · have hc := cutC_1 (x := x) (y := y) (m := m) (n := n) h
    have hR : cutR f x y m n = zf := by unfold cutR; rw [hc, if_neg (by decide)]
    go_wp2_with (first | ((with_reducible refine gate_load rfl ?_); refine wpl_loadAll rfl _ _ rfl _ rfl tFr.toAggT _ _ (st.get (by repeat (first | exact At.here | apply At.there))) (by simp [frv_length, zf_length, mk_length, withD_length, part_length, rowsOf_length, *]) ?_) | (go_at_call 25; refine (ValidFrame_v h hf _).mono ?_; rintro _ _ ⟨rfl, hk⟩; replace st := st.call hk; clear hk) | ((with_reducible refine gate_build rfl ?_); refine wpl_zero rfl _ rfl _ tFrB ?_) | ((with_reducible refine gate_store rfl ?_); refine wpl_storeAll rfl _ _ _ rfl _ rfl _ rfl tFr.toAggT (by simp [frv_length, zf_length, mk_length, withD_length, part_length, rowsOf_length, *]) (frv_one _) st _ _ (by repeat (first | exact Upd.here | apply Upd.there)) (by simp [frv_length, zf_length, mk_length, withD_length, part_length, rowsOf_length, *]) ?_; clear st; intro _ st))
    refine bodyPost_cell_tmp rfl tFr.toAggT rfl _ rfl _ _ (st.get (by repeat (first | exact At.here | apply At.there))) (by simp [frv_length, zf_length, mk_length, withD_length, part_length, rowsOf_length, *]) _ rfl ?_
    exact ⟨by rw [hR, hc]; rfl, st.keep⟩
end Go.Proofs.Ytdiphapcjafbaaa
