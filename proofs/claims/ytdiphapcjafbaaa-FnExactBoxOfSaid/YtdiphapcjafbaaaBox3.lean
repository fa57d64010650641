/- BoxOf, the program's; no condition. -/
import Derived.Test.YtdiphapcjafbaaaBox2
namespace Go.Proofs.Ytdiphapcjafbaaa
open Go.RowKit
set_option linter.unusedSimpArgs false
set_option linter.unusedVariables false

section
variable {P : Program} {T : TypeId}
theorem run_sub8 {a b : Int} (h0 : -128 ≤ a - b) (h1 : a - b < 128) (w : World) : (binOp .sub T (.int .i8 a) (.int .i8 b)).run P w = .ok (.int .i8 (a - b)) w := by
  have e := i8_wrap h0 h1
  go_simp
theorem run_add8 {a b : Int} (h0 : -128 ≤ a + b) (h1 : a + b < 128) (w : World) : (binOp .add T (.int .i8 a) (.int .i8 b)).run P w = .ok (.int .i8 (a + b)) w := by
  have e := i8_wrap h0 h1
  go_simp
end
theorem seg2 {w : World} {g p : Nat} {cs : List Value} {T : TypeId} {v0 v1 : Value} (hb : Blk w g cs T) (h0 : cs[p + 0]? = some v0) (h1 : cs[p + 1]? = some v1) : ∀ j v, [v0, v1][j]? = some v → w.cell? ((⟨g, p, none⟩ : Addr).add j) = some v := by
  intro j v hj
  rw [Addr.add_lit]
  match j, hj with
  | 0, hj => rw [← hj]; exact hb.cellv h0
  | 1, hj => rw [← hj]; exact hb.cellv h1
  | j + 2, hj => simp at hj
set_option maxHeartbeats 2000000 in
set_option maxRecDepth 100000 in
theorem Box_c (f : List Nat) (ok : FrOk f) (r : Int × Int × Int × Int) (c : Int) (hc : BoxCase f r c) (w : World) :
    Calls Try.prog 71 #[.agg (frv f).toArray] w fun e w' => e = .returned (.tuple #[.agg (bxv r).toArray, .int .i64 c]) ∧ Keep [] w w' := by
  have hf := ok.len
  have st := St.start w
  rcases hc with ⟨h, rfl, rfl⟩ | ⟨h, h0, rfl, rfl⟩ | ⟨h, ⟨n, hdn, hn⟩, rfl, rfl⟩
  · go_enter Try.func71, Try.ntmps71
    go_wp2_with (first | ((with_reducible refine gate_box rfl ?_); refine wpl_box rfl _ _ rfl _ rfl _ rfl st ?_; clear st; intro _ _ st) | ((with_reducible refine gate_alloc rfl ?_); refine wpl_alloc rfl _ rfl tBox st ?_; clear st; intro _ _ st) | ((with_reducible refine gate_load rfl ?_); refine wpl_loadAll rfl _ _ rfl _ rfl tFr.toAggT _ _ (st.get (by repeat (first | exact At.here | apply At.there))) (by simp [frv_length, zf_length, mk_length, withD_length, part_length, rowsOf_length, *]) ?_) | (go_at_call 25; refine (ValidFrame_c f hf _).mono ?_; rintro _ _ ⟨rfl, hk⟩; replace st := st.call hk; clear hk) | ((with_reducible refine gate_build rfl ?_); refine wpl_zero rfl _ rfl _ built_box0 ?_) | ((with_reducible refine gate_store rfl ?_); refine wpl_storeAll rfl _ _ _ rfl _ rfl _ rfl tBox rfl (bxv_one _ _ _ _) st _ _ (by repeat (first | exact Upd.here | apply Upd.there)) rfl ?_; clear st; intro _ st))
    refine bodyPost_cell_tmp rfl tBox rfl _ rfl _ _ (st.get (by repeat (first | exact At.here | apply At.there))) rfl _ rfl ?_
    exact ⟨rfl, st.keep⟩
  · go_enter Try.func71, Try.ntmps71
    go_wp2_with (first | ((with_reducible refine gate_box rfl ?_); refine wpl_box rfl _ _ rfl _ rfl _ rfl st ?_; clear st; intro _ _ st) | ((with_reducible refine gate_alloc rfl ?_); refine wpl_alloc rfl _ rfl tBox st ?_; clear st; intro _ _ st) | ((with_reducible refine gate_load rfl ?_); refine wpl_loadAll rfl _ _ rfl _ rfl tFr.toAggT _ _ (st.get (by repeat (first | exact At.here | apply At.there))) (by simp [frv_length, zf_length, mk_length, withD_length, part_length, rowsOf_length, *]) ?_) | (go_at_call 25; refine (ValidFrame_c f hf _).mono ?_; rintro _ _ ⟨rfl, hk⟩; replace st := st.call hk; clear hk) | (go_at_call 109; refine (dots_n f ok 0 h0 _).mono ?_; rintro _ _ ⟨v, rfl, ⟨g, cap, spare, rfl, hg, hbg, hcap, hcm⟩, hk⟩; replace st := st.adopt hk hg hbg; clear hk hg hbg hcap hcm) | ((with_reducible refine gate_build rfl ?_); refine wpl_zero rfl _ rfl _ built_box0 ?_) | ((with_reducible refine gate_store rfl ?_); refine wpl_storeAll rfl _ _ _ rfl _ rfl _ rfl tBox rfl (bxv_one _ _ _ _) st _ _ (by repeat (first | exact Upd.here | apply Upd.there)) rfl ?_; clear st; intro _ st))
    refine bodyPost_cell_tmp rfl tBox rfl _ rfl _ _ (st.get (by repeat (first | exact At.here | apply At.there))) rfl _ rfl ?_
    exact ⟨rfl, st.keep⟩
  · have hdl : n ≤ 144 := by rw [← hdn]; exact dots_length f
    have hne : ((n : Int) == 0) = false := by simp; omega
    obtain ⟨x0, y0, hx0, hy0, ex0, ey0, _, _⟩ := dot_k hdn hn []
    go_enter Try.func71, Try.ntmps71
    go_wp2_with (first | ((with_reducible refine gate_box rfl ?_); (with_reducible refine gate_dst (N := 1) rfl ?_); refine wpl_box rfl _ _ rfl _ rfl _ rfl st ?_; clear st; intro B1 _ st) | ((with_reducible refine gate_alloc rfl ?_); (with_reducible refine gate_dst (N := 2) rfl ?_); refine wpl_alloc rfl _ rfl tBox st ?_; clear st; intro B2 _ st) | ((with_reducible refine gate_load rfl ?_); refine wpl_loadAll rfl _ _ rfl _ rfl tFr.toAggT _ _ (st.get (by repeat (first | exact At.here | apply At.there))) (by simp [frv_length, zf_length, mk_length, withD_length, part_length, rowsOf_length, *]) ?_) | (go_at_call 25; refine (ValidFrame_c f hf _).mono ?_; rintro _ _ ⟨rfl, hk⟩; replace st := st.call hk; clear hk) | (go_at_call 109; refine (dots_n f ok n hdn _).mono ?_; rintro _ _ ⟨v, rfl, ⟨g, cap, spare, rfl, hg, hbg, hcap, hcm⟩, hk⟩; replace st := st.adopt hk hg hbg; clear hk hg hbg hcap hcm))
    have GX : (dtv (dots f) ++ spare)[0 + 0 * 2 + 0]? = some (.int .i8 (x0 : Int)) := by
      obtain ⟨_, _, _, _, e1, _, g0, _⟩ := dot_k hdn hn spare
      rw [g0, e1, ex0]
    have GY : (dtv (dots f) ++ spare)[0 + 0 * 2 + 1]? = some (.int .i8 (y0 : Int)) := by
      obtain ⟨_, _, _, _, _, e2, _, g1⟩ := dot_k hdn hn spare
      rw [g1, e2, ey0]
    replace GX := hid GX
    replace GY := hid GY
    (refine wp_region_quiet_st st (by kernel_rfl) (by kernel_rfl) ?_; clear st; (repeat ((first | (refine wpq_move rfl _ rfl _ rfl ?_) | ((with_reducible refine qgate_assign rfl ?_); refine wpq_assign rfl _ rfl _ rfl ?_) | ((with_reducible refine qgate_addr rfl ?_); refine wpq_slcAddr rfl _ _ _ rfl _ _ _ _ rfl _ _ rfl tDotS 0 rfl hn ?_) | ((with_reducible refine qgate_field rfl ?_); refine wpq_field rfl _ _ 0 rfl _ _ rfl 0 fld_dot0 ?_) | ((with_reducible refine qgate_load rfl ?_); refine wpq_load1 rfl _ _ rfl _ rfl tI8 _ (fun _ hw => (hw.get (by repeat (first | exact At.here | apply At.there))).cellv GX.out) ?_)); (simp only [Act.put, Act.eval, Array.getD_eq_getD_getElem?, List.getElem?_toArray, List.getElem?_cons_succ, List.getElem?_cons_zero, Option.getD_some, List.setIfInBounds_toArray, List.set_cons_succ, List.set_cons_zero, List.getElem_toArray, List.getElem_cons_succ, List.getElem_cons_zero]))); refine wpQuiet_nil ?_; intro _ st)
    go_wp2_with fail
    go_loopw [5, 6, 31] (fun lo hi i wr => ∃ k : Nat, k ≤ n ∧ i = .int .i64 k ∧ lo = .int .i8 ((min x0 (loX (dots f) k) : Nat) : Int) ∧ hi = .int .i8 ((max x0 (hiX (dots f) k) : Nat) : Int) ∧ St [] w wr [(g, dtv (dots f) ++ spare, 88), (B2, [.int .i8 0, .int .i8 0, .int .i8 0, .int .i8 0], 57), (B1, frv f, 25)]) (fun _ _ i _ => n - (intOf i).toNat)
    case atStart => exact ⟨0, by omega, rfl, by rw [show min x0 (loX (dots f) 0) = x0 by simp only [loX]; omega], by rw [show max x0 (hiX (dots f) 0) = x0 by simp only [hiX]; omega], st⟩
    case round =>
      clear st
      obtain ⟨k, hk, rfl, rfl, rfl, st⟩ := hrel
      by_cases hlt : k < n
      · have hdk : decide ((k : Int) < (n : Int)) = true := by simpa using hlt
        obtain ⟨dx, dy, hd, _, hdx, _, G0, G1⟩ := dot_k hdn hlt spare
        have L1 : min x0 (loX (dots f) (k + 1)) = min (min x0 (loX (dots f) k)) dx := by rw [hdx]; simp only [loX]; omega
        have H1 : max x0 (hiX (dots f) (k + 1)) = max (max x0 (hiX (dots f) k)) dx := by rw [hdx]; simp only [hiX]; omega
        generalize min x0 (loX (dots f) k) = lo at *
        generalize max x0 (hiX (dots f) k) = hi at *
        replace G0 := hid G0
        replace G1 := hid G1
        replace L1 := hid L1
        replace H1 := hid H1
        clear hdx
        go_wp2_with (first | ((with_reducible refine gate_dst (N := 33) rfl ?_); ((with_reducible refine gate_addr rfl ?_); refine wpl_slcAddr rfl _ _ _ rfl _ _ _ _ rfl _ _ rfl tDotS k rfl hlt ?_)) | ((with_reducible refine gate_load rfl ?_); refine wpl_loadC rfl _ _ rfl _ rfl tDot [.int .i8 (dx : Int), .int .i8 (dy : Int)] rfl (seg2 (st.get .here) G0.out G1.out) ?_) | ((with_reducible refine gate_alloc rfl ?_); (with_reducible refine gate_dst (N := 8) rfl ?_); refine wpl_alloc rfl _ rfl tDot st ?_; clear st; intro B8 _ st) | ((with_reducible refine gate_store rfl ?_); refine wpl_storeAll rfl _ _ _ rfl _ rfl _ rfl tDot rfl (by simp [Value.oneCell']) st _ _ (by repeat (first | exact Upd.here | apply Upd.there)) rfl ?_; clear st; intro _ st))
        (refine wp_region_quiet_st st (by kernel_rfl) (by kernel_rfl) ?_; clear st; (repeat ((first | (refine wpq_move rfl _ rfl _ rfl ?_) | ((with_reducible refine qgate_assign rfl ?_); refine wpq_assign rfl _ rfl _ rfl ?_) | ((with_reducible refine qgate_field rfl ?_); refine wpq_field rfl _ _ 0 rfl _ _ rfl 0 fld_dot0 ?_) | ((with_reducible refine qgate_load rfl ?_); refine wpq_load1 rfl _ _ rfl _ rfl tI8 _ (fun _ hw => (hw.get (by repeat (first | exact At.here | apply At.there))).cellv rfl) ?_) | (refine wpq_min8 rfl _ _ _ _ rfl lo dx rfl rfl ?_) | (refine wpq_max8 rfl _ _ _ _ rfl hi dx rfl rfl ?_)); (simp only [Act.put, Act.eval, Array.getD_eq_getD_getElem?, List.getElem?_toArray, List.getElem?_cons_succ, List.getElem?_cons_zero, Option.getD_some, List.setIfInBounds_toArray, List.set_cons_succ, List.set_cons_zero, List.getElem_toArray, List.getElem_cons_succ, List.getElem_cons_zero]))); refine wpQuiet_nil ?_; intro _ st)
        go_wp2_with fail
        go_roundw
        case rel => exact ⟨k + 1, by omega, by go_num, by rw [L1.out], by rw [H1.out], st.drop⟩
        case measure => simp [intOf]; omega
      · obtain rfl : n = k := by omega
        have hl0 := loX_first (dots f) (k := n) (by omega)
        have hh0 := hiX_first (dots f) (k := n) (by omega)
        have hl1 := loX_le (dots f) n
        have hh1 := hiX_le (f := f) (k := n) (by omega)
        rw [← ex0] at hl0 hh0
        obtain ⟨_, y1, _, hy1, _, ey1, _, G1⟩ := dot_k hdn (by omega : n - 1 < n) spare
        have hj : (n : Int) - 1 = ((n - 1 : Nat) : Int) := by omega
        have eb : boxN f = ((loX (dots f) n : Int), (y0 : Int), (hiX (dots f) n : Int) - (loX (dots f) n : Int) + 1, (y1 : Int) - (y0 : Int) + 1) := by
          unfold boxN; simp only; rw [hdn, ey0, ey1]
        rw [show min x0 (loX (dots f) n) = loX (dots f) n by omega, show max x0 (hiX (dots f) n) = hiX (dots f) n by omega]
        replace G1 := hid G1
        clear ey0 ey1 ex0
        generalize loX (dots f) n = lo at *
        generalize hiX (dots f) n = hi at *
        replace eb := hid eb
        go_wp2_with fail
        (refine wp_region_quiet_st st (by kernel_rfl) (by kernel_rfl) ?_; clear st; (repeat ((first | (refine wpq_move rfl _ rfl _ rfl ?_) | ((with_reducible refine qgate_assign rfl ?_); refine wpq_assign rfl _ rfl _ rfl ?_) | ((with_reducible refine qgate_dst (N := 45) rfl ?_); ((with_reducible refine qgate_addr rfl ?_); refine wpq_slcAddr rfl _ _ _ rfl _ _ _ _ rfl _ _ rfl tDotS 0 rfl hn ?_)) | ((with_reducible refine qgate_dst (N := 52) rfl ?_); ((with_reducible refine qgate_addr rfl ?_); refine wpq_slcAddr rfl _ _ _ rfl _ _ _ _ rfl _ _ rfl tDotS (n - 1) hj (by omega) ?_)) | ((with_reducible refine qgate_field rfl ?_); refine wpq_field rfl _ _ 1 rfl _ _ rfl 1 fld_dot1 ?_) | ((with_reducible refine qgate_dst (N := 47) rfl ?_); ((with_reducible refine qgate_load rfl ?_); refine wpq_load1 rfl _ _ rfl _ rfl tI8 _ (fun _ hw => (hw.get (by repeat (first | exact At.here | apply At.there))).cellv GY.out) ?_)) | ((with_reducible refine qgate_dst (N := 54) rfl ?_); ((with_reducible refine qgate_load rfl ?_); refine wpq_load1 rfl _ _ rfl _ rfl tI8 _ (fun _ hw => (hw.get (by repeat (first | exact At.here | apply At.there))).cellv G1.out) ?_)) | (refine wpq_lenSlice rfl _ _ rfl _ _ _ rfl _ Try.underlying45 ?_) | ((with_reducible refine qgate_dst (N := 51) rfl ?_); ((with_reducible refine qgate_bin rfl ?_); refine wpq_bin rfl _ _ _ _ _ rfl _ _ _ _ rfl rfl (.int .i64 ((n : Int) - 1)) (fun w' => run_sub64 (by omega) (by omega) w') ?_))); (simp only [Act.put, Act.eval, Array.getD_eq_getD_getElem?, List.getElem?_toArray, List.getElem?_cons_succ, List.getElem?_cons_zero, Option.getD_some, List.setIfInBounds_toArray, List.set_cons_succ, List.set_cons_zero, List.getElem_toArray, List.getElem_cons_succ, List.getElem_cons_zero]))); refine wpQuiet_nil ?_; intro _ st)
        go_wp2_with (first | ((with_reducible refine gate_dst (N := 59) rfl ?_); ((with_reducible refine gate_bin rfl ?_); refine wpl_bin rfl _ _ _ _ _ rfl _ _ _ _ rfl rfl (.int .i8 ((hi : Int) - (lo : Int))) (fun w' => run_sub8 (by omega) (by omega) w') ?_)) | ((with_reducible refine gate_dst (N := 60) rfl ?_); ((with_reducible refine gate_bin rfl ?_); refine wpl_bin rfl _ _ _ _ _ rfl _ _ _ _ rfl rfl (.int .i8 ((hi : Int) - (lo : Int) + 1)) (fun w' => run_add8 (by omega) (by omega) w') ?_)) | ((with_reducible refine gate_dst (N := 63) rfl ?_); ((with_reducible refine gate_bin rfl ?_); refine wpl_bin rfl _ _ _ _ _ rfl _ _ _ _ rfl rfl (.int .i8 ((y1 : Int) - (y0 : Int))) (fun w' => run_sub8 (by omega) (by omega) w') ?_)) | ((with_reducible refine gate_dst (N := 64) rfl ?_); ((with_reducible refine gate_bin rfl ?_); refine wpl_bin rfl _ _ _ _ _ rfl _ _ _ _ rfl rfl (.int .i8 ((y1 : Int) - (y0 : Int) + 1)) (fun w' => run_add8 (by omega) (by omega) w') ?_)) | ((with_reducible refine gate_build rfl ?_); refine wpl_build rfl _ [(0, _), (1, _), (2, _), (3, _)] rfl _ (built_box _ _ _ _) ?_) | ((with_reducible refine gate_store rfl ?_); refine wpl_storeAll rfl _ _ _ rfl _ rfl _ rfl tBox rfl (bxv_one _ _ _ _) st _ _ (by repeat (first | exact Upd.here | apply Upd.there)) rfl ?_; clear st; intro _ st))
        refine bodyPost_cell_tmp rfl tBox rfl _ rfl _ _ (st.get (by repeat (first | exact At.here | apply At.there))) rfl _ rfl ?_
        exact ⟨by rw [eb.out]; rfl, st.keep⟩
set_option maxRecDepth 100000 in
theorem law_BoxOf (f : List Nat) (ok : FrOk f) (w : World) :
    Calls Try.prog 22 #[.agg (frv f).toArray] w fun e w' => e = .returned (.bool true) ∧ Keep [] w w' := by
  have hf := ok.len
  have st := St.start w
  obtain ⟨r, c, hc⟩ := box_case f
  obtain ⟨r1, r2, r3, r4⟩ := r
  go_enter Try.func22, Try.ntmps22
  go_wp2_with (first | ((with_reducible refine gate_box rfl ?_); refine wpl_box rfl _ _ rfl _ rfl _ rfl st ?_; clear st; intro _ _ st) | ((with_reducible refine gate_load rfl ?_); refine wpl_loadAll rfl _ _ rfl _ rfl tRaw.toAggT _ _ (st.get (by repeat (first | exact At.here | apply At.there))) (by rw [frv_length, hf]) ?_) | (go_at_call 24; refine (toFrame_c f hf _).mono ?_; rintro _ _ ⟨rfl, hk⟩; replace st := st.call hk; clear hk) | (go_at_call 70; refine (specBox_c f ok _ c hc _).mono ?_; rintro _ _ ⟨rfl, hk⟩; replace st := st.call hk; clear hk) | (go_at_call 71; refine (Box_c f ok _ c hc _).mono ?_; rintro _ _ ⟨rfl, hk⟩; replace st := st.call hk; clear hk) | ((with_reducible refine gate_alloc rfl ?_); refine wpl_alloc rfl _ rfl tBox st ?_; clear st; intro _ _ st) | ((with_reducible refine gate_store rfl ?_); refine wpl_storeAll rfl _ _ _ rfl _ rfl _ rfl tBox rfl (bxv_one _ _ _ _) st _ _ (by repeat (first | exact Upd.here | apply Upd.there)) rfl ?_; clear st; intro _ st) | ((with_reducible refine gate_load rfl ?_); refine wpl_loadAll rfl _ _ rfl _ rfl tBox _ _ (st.get (by repeat (first | exact At.here | apply At.there))) rfl ?_) | (go_at_call 72; refine (eqBox_c r1 r2 r3 r4 _).mono ?_; rintro _ _ ⟨rfl, hk⟩; replace st := st.call hk; clear hk) | (refine wpl_unguard rfl ?_))
  go_ret
  exact ⟨rfl, st.keep⟩
end Go.Proofs.Ytdiphapcjafbaaa
