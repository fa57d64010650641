/- Dots carried over: mirrored, turned, rolled; no condition. -/
import Derived.Test.YtdiphapcjafbaaaB3
import Derived.Test.YtdiphapcjafbaaaB5
namespace Go.Proofs.Ytdiphapcjafbaaa
open Go.RowKit
set_option linter.unusedSimpArgs false
set_option linter.unusedVariables false

/-! ### Numbers and fields -/
section
variable {P : Program} {T : TypeId}
theorem run_sub64 {a b : Int} (h0 : -9223372036854775808 ≤ a - b) (h1 : a - b ≤ 9223372036854775807) (w : World) : (binOp .sub T (.int .i64 a) (.int .i64 b)).run P w = .ok (.int .i64 (a - b)) w := by
  have e := IntWalk.i64_in (a - b) ⟨h0, h1⟩
  go_simp
theorem run_add64 {a b : Int} (h0 : -9223372036854775808 ≤ a + b) (h1 : a + b ≤ 9223372036854775807) (w : World) : (binOp .add T (.int .i64 a) (.int .i64 b)).run P w = .ok (.int .i64 (a + b)) w := by
  have e := IntWalk.i64_in (a + b) ⟨h0, h1⟩
  go_simp
end
theorem fld_dot0 (b f : Nat) (w' : World) : (Instr.fieldAt 88 (.pointer (some ⟨b, f, none⟩)) 0).run Try.prog w' = .ok (.pointer (some ⟨b, f + 0, none⟩)) w' := by
  simp [Instr.fieldAt, run_underlying Try.underlying88, Instr.sureAddr]
  go_simp
theorem fld_dot1 (b f : Nat) (w' : World) : (Instr.fieldAt 88 (.pointer (some ⟨b, f, none⟩)) 1).run Try.prog w' = .ok (.pointer (some ⟨b, f + 1, none⟩)) w' := by
  simp [Instr.fieldAt, run_underlying Try.underlying88, Instr.sureAddr]
  go_simp

/-! ### Dots, one after the other -/
theorem dot_mem {f : List Nat} {i : Nat} (hi : i < (dots f).length) : ((dots f).getD i (0, 0)).1 < 12 ∧ ((dots f).getD i (0, 0)).2 < 12 := by
  have h : (dots f).getD i (0, 0) ∈ dots f := by
    rw [List.getD_eq_getElem?_getD, List.getElem?_eq_getElem hi]; exact List.getElem_mem hi
  have := mem_dots.1 h
  exact ⟨this.1, this.2.1⟩
theorem dots_length (f : List Nat) : (dots f).length ≤ 144 := dotsTo_length f 144
theorem dot_get0 {l : List (Nat × Nat)} {spare : List Value} {i : Nat} (hi : i < l.length) : (dtv l ++ spare)[0 + i * 2 + 0]? = some (.int .i8 ((l.getD i (0, 0)).1 : Int)) := by
  rw [Nat.zero_add, Nat.add_zero, List.getElem?_append_left (by rw [dtv_length]; omega)]; exact (dtv_get l i hi).1
theorem dot_get1 {l : List (Nat × Nat)} {spare : List Value} {i : Nat} (hi : i < l.length) : (dtv l ++ spare)[0 + i * 2 + 1]? = some (.int .i8 ((l.getD i (0, 0)).2 : Int)) := by
  rw [Nat.zero_add, List.getElem?_append_left (by rw [dtv_length]; omega)]; exact (dtv_get l i hi).2
theorem putAll_frOk (l : List (Int × Int)) : FrOk (putAll l) := mk_frOk _
theorem putAll_length (l : List (Int × Int)) : (putAll l).length = 12 := mk_length _
theorem putI_putAll (l : List (Int × Int)) (x y : Int) : putI (putAll l) x y = putAll (l ++ [(x, y)]) := by
  unfold putI
  by_cases hp : placeB x y = true
  · rw [if_pos hp]
    obtain ⟨h1, h2, h3, h4⟩ := placeB_iff.1 hp
    rw [putAll_in l (by omega) (by omega), Int.toNat_of_nonneg h1, Int.toNat_of_nonneg h3]
  · rw [if_neg hp]
    exact putAll_out l fun h => hp (placeB_iff.2 h)
/-- The first k dots, carried over by t. -/
def over (t : Nat × Nat → Int × Int) (f : List Nat) (k : Nat) : List Nat := putAll (((dots f).take k).map t)
theorem over_zero (t : Nat × Nat → Int × Int) (f : List Nat) : over t f 0 = zf := putAll_nil
theorem over_frOk (t : Nat × Nat → Int × Int) (f : List Nat) (k : Nat) : FrOk (over t f k) := putAll_frOk _
theorem over_length (t : Nat × Nat → Int × Int) (f : List Nat) (k : Nat) : (over t f k).length = 12 := by unfold over putAll; exact mk_length _
theorem over_step (t : Nat × Nat → Int × Int) (f : List Nat) {k : Nat} (hk : k < (dots f).length) : putI (over t f k) (t ((dots f).getD k (0, 0))).1 (t ((dots f).getD k (0, 0))).2 = over t f (k + 1) := by
  unfold over
  rw [putI_putAll, List.take_succ_eq_append_getElem hk, List.map_append, List.getD_eq_getElem?_getD, List.getElem?_eq_getElem hk]
  rfl
theorem over_all (t : Nat × Nat → Int × Int) (f : List Nat) (p : Nat → Nat → Bool) (h : ∀ x y, x < 12 → y < 12 → (p x y = true ↔ ∃ x' y', x' < 12 ∧ y' < 12 ∧ hasD f x' y' = true ∧ t (x', y') = ((x : Int), (y : Int)))) : over t f (dots f).length = mk p := by
  unfold over putAll
  rw [List.take_of_length_le (Nat.le_refl _)]
  refine mk_congr fun x y hx hy => ?_
  rw [Bool.eq_iff_iff, List.any_map, any_dots, h x y hx hy]
  constructor
  · rintro ⟨x', y', h1, h2, h3, h4⟩
    exact ⟨x', y', h1, h2, h3, by simp at h4; exact Prod.ext h4.1 h4.2⟩
  · rintro ⟨x', y', h1, h2, h3, h4⟩
    exact ⟨x', y', h1, h2, h3, by simp [h4]⟩

theorem dot_at {f : List Nat} {k : Nat} (hk : k < (dots f).length) : ∃ dx dy : Nat, dx < 12 ∧ dy < 12 ∧ (∀ spare : List Value, (dtv (dots f) ++ spare)[0 + k * 2 + 0]? = some (.int .i8 (dx : Int))) ∧
    (∀ spare : List Value, (dtv (dots f) ++ spare)[0 + k * 2 + 1]? = some (.int .i8 (dy : Int))) ∧ ∀ t : Nat × Nat → Int × Int, putI (over t f k) (t (dx, dy)).1 (t (dx, dy)).2 = over t f (k + 1) :=
  ⟨((dots f).getD k (0, 0)).1, ((dots f).getD k (0, 0)).2, (dot_mem hk).1, (dot_mem hk).2, fun _ => dot_get0 hk, fun _ => dot_get1 hk, fun t => over_step t f hk⟩
/-! ### Mirrored and turned -/
def mirP (f : List Nat) (x y : Nat) : Bool := hasI f (11 - (x : Int)) y
def trnP (f : List Nat) (x y : Nat) : Bool := hasI f y (11 - (x : Int))
def mirT (d : Nat × Nat) : Int × Int := (11 - (d.1 : Int), d.2)
def trnT (d : Nat × Nat) : Int × Int := (11 - (d.2 : Int), d.1)
theorem hasI_in {f : List Nat} {x y : Int} : hasI f x y = true ↔ 0 ≤ x ∧ x < 12 ∧ 0 ≤ y ∧ y < 12 ∧ hasD f x.toNat y.toNat = true := by
  constructor
  · intro h
    have hp : placeB x y = true := by
      rcases Bool.eq_false_or_eq_true (placeB x y) with hp | hp
      · exact hp
      · rw [hasI_no f hp] at h; cases h
    obtain ⟨h1, h2, h3, h4⟩ := placeB_iff.1 hp
    refine ⟨h1, h2, h3, h4, ?_⟩
    rw [← hasI_nat, Int.toNat_of_nonneg h1, Int.toNat_of_nonneg h3]; exact h
  · rintro ⟨h1, h2, h3, h4, h5⟩
    rw [← hasI_nat, Int.toNat_of_nonneg h1, Int.toNat_of_nonneg h3] at h5; exact h5
theorem mir_all (f : List Nat) : over mirT f (dots f).length = mk (mirP f) := over_all _ _ _ fun x y hx hy => by
  unfold mirP
  rw [hasI_in]
  constructor
  · rintro ⟨h1, h2, h3, h4, h5⟩
    exact ⟨_, _, by omega, by omega, h5, by simp [mirT]; omega⟩
  · rintro ⟨x', y', h1, h2, h3, h4⟩
    simp only [mirT, Prod.mk.injEq] at h4
    obtain ⟨h4, h5⟩ := h4
    refine ⟨by omega, by omega, by omega, by omega, ?_⟩
    rw [show (11 - (x : Int)).toNat = x' by omega, show ((y : Int)).toNat = y' by omega]; exact h3
theorem trn_all (f : List Nat) : over trnT f (dots f).length = mk (trnP f) := over_all _ _ _ fun x y hx hy => by
  unfold trnP
  rw [hasI_in]
  constructor
  · rintro ⟨h1, h2, h3, h4, h5⟩
    exact ⟨_, _, by omega, by omega, h5, by simp [trnT]; omega⟩
  · rintro ⟨x', y', h1, h2, h3, h4⟩
    simp only [trnT, Prod.mk.injEq] at h4
    obtain ⟨h4, h5⟩ := h4
    refine ⟨by omega, by omega, by omega, by omega, ?_⟩
    rw [show (11 - (x : Int)).toNat = y' by omega, show ((y : Int)).toNat = x' by omega]; exact h3
/-- What a function on one frame answers that carries its dots over. -/
def ovR (p : List Nat → Nat → Nat → Bool) (f : List Nat) : List Nat := if okB f = true then mk (p f) else zf
theorem ovR_ok {p : List Nat → Nat → Nat → Bool} {f : List Nat} (ok : FrOk f) : FrOk (ovR p f) := by
  unfold ovR
  split
  · exact mk_frOk _
  · exact zf_ok

set_option maxRecDepth 100000 in
theorem specMirror_c (f : List Nat) (ok : FrOk f) (w : World) :
    Calls Try.prog 43 #[.agg (frv f).toArray] w fun e w' => e = .returned (.tuple #[.agg (frv (ovR mirP f)).toArray, .int .i64 (codeF f)]) ∧ Keep [] w w' := by
  have hf := ok.len
  have st := St.start w
  unfold ovR
  rcases Bool.eq_false_or_eq_true (okB f) with h | h
  · rw [codeF_0 h, h, if_pos rfl, ← mir_all f]
    have hdl := dots_length f
    go_enter Try.func43, Try.ntmps43
    go_wp2_with (first | ((with_reducible refine gate_box rfl ?_); (with_reducible refine gate_dst (N := 1) rfl ?_); refine wpl_box rfl _ _ rfl _ rfl _ rfl st ?_; clear st; intro B1 _ st) | ((with_reducible refine gate_alloc rfl ?_); (with_reducible refine gate_dst (N := 2) rfl ?_); refine wpl_alloc rfl _ rfl tFr.toAggT st ?_; clear st; intro B2 _ st) | (go_at_call 73; refine (l01Ok_c f hf _ _ _ (.of (st.get (.there .here)))).mono ?_; rintro _ _ ⟨rfl, hk⟩; replace st := st.call hk; clear hk) | ((with_reducible refine gate_build rfl ?_); refine wpl_zero rfl _ rfl _ tFrB ?_) | ((with_reducible refine gate_alloc rfl ?_); (with_reducible refine gate_dst (N := 4) rfl ?_); refine wpl_alloc rfl _ rfl tFr.toAggT st ?_; clear st; intro B4 _ st) | ((with_reducible refine gate_store rfl ?_); refine wpl_storeAll rfl _ _ _ rfl _ rfl _ rfl tFr.toAggT (by simp [frv_length, zf_length, mk_length, withD_length, part_length, rowsOf_length, *]) (frv_one _) st _ _ (by repeat (first | exact Upd.here | apply Upd.there)) (by simp [frv_length, zf_length, mk_length, withD_length, part_length, rowsOf_length, *]) ?_; clear st; intro _ st) | (go_at_call 94; refine (l01Dots_c f ok _ _ _ (.of (st.get (.there (.there .here))))).mono ?_; rintro _ _ ⟨v, rfl, ⟨g, cap, spare, rfl, hg, hbg, hcap, hcm⟩, hk⟩; replace st := st.adopt hk hg hbg; clear hk hg hbg hcap hcm))
    rw [← over_zero mirT f] at st
    go_loopw [6] (fun i wr => ∃ k : Nat, k ≤ (dots f).length ∧ i = .int .i64 k ∧ St [] w wr [(g, dtv (dots f) ++ spare, 88), (B4, frv (over mirT f k), 25), (B2, List.replicate 12 (Value.int .u16 0), 25), (B1, frv f, 25)]) (fun i _ => (dots f).length - (intOf i).toNat)
    case atStart => exact ⟨0, by omega, rfl, st⟩
    case round =>
      clear st
      obtain ⟨k, hk, rfl, st⟩ := hrel
      by_cases hlt : k < (dots f).length
      · have hdk : decide ((k : Int) < ((dots f).length : Int)) = true := by simpa using hlt
        obtain ⟨dx, dy, hdx, hdy, G0, G1, HS⟩ := dot_at hlt
        replace G0 := hid (G0 spare)
        replace G1 := hid (G1 spare)
        have hol := over_length mirT f k
        replace HS := hid (HS mirT)
        go_wp2_with fail
        (refine wp_region_tail_st st 13 (by kernel_rfl) (by kernel_rfl) ?_; clear st; simp only [List.take_succ_cons, List.take_zero, List.drop_succ_cons, List.drop_zero]; (repeat ((first | (refine wpq_move rfl _ rfl _ rfl ?_) | ((with_reducible refine qgate_addr rfl ?_); refine wpq_slcAddr rfl _ _ _ rfl _ _ _ _ rfl _ _ rfl tDotS k rfl hlt ?_) | ((with_reducible refine qgate_dst (N := 21) rfl ?_); ((with_reducible refine qgate_field rfl ?_); refine wpq_field rfl _ _ 0 rfl _ _ rfl 0 fld_dot0 ?_)) | ((with_reducible refine qgate_dst (N := 28) rfl ?_); ((with_reducible refine qgate_field rfl ?_); refine wpq_field rfl _ _ 1 rfl _ _ rfl 1 fld_dot1 ?_)) | ((with_reducible refine qgate_dst (N := 22) rfl ?_); ((with_reducible refine qgate_load rfl ?_); refine wpq_load1 rfl _ _ rfl _ rfl tI8 _ (fun _ hw => (hw.get (by repeat (first | exact At.here | apply At.there))).cellv G0.out) ?_)) | ((with_reducible refine qgate_dst (N := 29) rfl ?_); ((with_reducible refine qgate_load rfl ?_); refine wpq_load1 rfl _ _ rfl _ rfl tI8 _ (fun _ hw => (hw.get (by repeat (first | exact At.here | apply At.there))).cellv G1.out) ?_)) | ((with_reducible refine qgate_dst (N := 23) rfl ?_); ((with_reducible refine qgate_conv rfl ?_); refine wpq_conv rfl _ _ _ rfl _ _ _ (dx : Int) rfl rfl (by kernel_rfl) (IntWalk.i64_in _ (by omega)) ?_)) | ((with_reducible refine qgate_dst (N := 30) rfl ?_); ((with_reducible refine qgate_conv rfl ?_); refine wpq_conv rfl _ _ _ rfl _ _ _ (dy : Int) rfl rfl (by kernel_rfl) (IntWalk.i64_in _ (by omega)) ?_)) | ((with_reducible refine qgate_bin rfl ?_); refine wpq_bin rfl _ _ _ _ _ rfl _ _ _ _ rfl rfl (.int .i64 (11 - (dx : Int))) (fun w' => run_sub64 (by omega) (by omega) w') ?_)); (simp only [Act.put, Act.eval, Array.getD_eq_getD_getElem?, List.getElem?_toArray, List.getElem?_cons_succ, List.getElem?_cons_zero, Option.getD_some, List.setIfInBounds_toArray, List.set_cons_succ, List.set_cons_zero, List.getElem_toArray, List.getElem_cons_succ, List.getElem_cons_zero]))); refine wpQuiet_nil ?_; intro _ st)
        go_wp2_with (first | (go_at_call 92; refine (l01Put_c (over mirT f k) (over_frOk _ _ _) _ _ (11 - (dx : Int)) (dy : Int) _ (st.get (.there .here))).mono ?_; rintro _ _ ⟨rfl, hk, hb1⟩; replace st := st.wrote (by repeat (first | exact Upd.here | apply Upd.there)) hk hb1; clear hk hb1))
        rw [show putI (over mirT f k) (11 - (dx : Int)) (dy : Int) = over mirT f (k + 1) from HS.out] at st
        go_roundw
        case rel => exact ⟨k + 1, by omega, by go_num, st⟩
        case measure => simp [intOf]; omega
      · obtain rfl : k = (dots f).length := by omega
        have hol := over_length mirT f (dots f).length
        go_wp2_with (first | ((with_reducible refine gate_load rfl ?_); refine wpl_loadAll rfl _ _ rfl _ rfl tFr.toAggT _ _ (st.get (by repeat (first | exact At.here | apply At.there))) (by rw [frv_length, hol]) ?_) | ((with_reducible refine gate_store rfl ?_); refine wpl_storeAll rfl _ _ _ rfl _ rfl _ rfl tFr.toAggT (by rw [frv_length, hol]) (frv_one _) st _ _ (by repeat (first | exact Upd.here | apply Upd.there)) (by simp) ?_; clear st; intro _ st))
        refine bodyPost_cell_tmp rfl tFr.toAggT rfl _ rfl _ _ (st.get (by repeat (first | exact At.here | apply At.there))) (by rw [frv_length, hol]) _ rfl ?_
        exact ⟨rfl, st.keep⟩
  · rw [codeF_1 h, if_neg (by rw [h]; decide)]
    go_enter Try.func43, Try.ntmps43
    go_wp2_with (first | ((with_reducible refine gate_box rfl ?_); refine wpl_box rfl _ _ rfl _ rfl _ rfl st ?_; clear st; intro _ _ st) | ((with_reducible refine gate_alloc rfl ?_); refine wpl_alloc rfl _ rfl tFr.toAggT st ?_; clear st; intro _ _ st) | (go_at_call 73; refine (l01Ok_c f hf _ _ _ (.of (st.get (.there .here)))).mono ?_; rintro _ _ ⟨rfl, hk⟩; replace st := st.call hk; clear hk) | ((with_reducible refine gate_build rfl ?_); refine wpl_zero rfl _ rfl _ tFrB ?_) | ((with_reducible refine gate_store rfl ?_); refine wpl_storeAll rfl _ _ _ rfl _ rfl _ rfl tFr.toAggT (by simp [frv_length, zf_length, mk_length, withD_length, part_length, rowsOf_length, *]) (frv_one _) st _ _ (by repeat (first | exact Upd.here | apply Upd.there)) (by simp [frv_length, zf_length, mk_length, withD_length, part_length, rowsOf_length, *]) ?_; clear st; intro _ st))
    refine bodyPost_cell_tmp rfl tFr.toAggT rfl _ rfl _ _ (st.get (by repeat (first | exact At.here | apply At.there))) (by simp [frv_length, zf_length, mk_length, withD_length, part_length, rowsOf_length, *]) _ rfl ?_
    exact ⟨rfl, st.keep⟩
theorem Mirror1_c (f : List Nat) (ok : FrOk f) (b : Nat) (T : TypeId) (x y : Nat) (hx : x < 12) (hy : y < 12) (w : World) (hb : Blk w b (frv f) T) :
    Calls Try.prog 96 #[.int .i64 x, .int .i64 y, .pointer (some ⟨b, 0, none⟩)] w fun e w' => e = .returned (.bool (mirP f x y)) ∧ Keep [] w w' := by
  have hf := ok.len
  have st := St.start w
  go_enter Try.func96, Try.ntmps96
  go_wp2_with (first | ((with_reducible refine gate_load rfl ?_); refine wpl_loadC rfl _ _ rfl _ rfl tFr.toAggT (frv f) (by rw [frv_length, hf]) (fun j v hj => by rw [Addr.add_lit, Nat.zero_add]; exact (st.arg hb (by simp)).cellv hj) ?_) | ((with_reducible refine gate_bin rfl ?_); refine wpl_bin rfl _ _ _ _ _ rfl _ _ _ _ rfl rfl (.int .i64 (11 - (x : Int))) (fun w' => run_sub64 (by omega) (by omega) w') ?_) | (go_at_call 82; refine (has_c f ok _ _ _).mono ?_; rintro _ _ ⟨rfl, hk⟩; replace st := st.call hk; clear hk))
  go_ret
  exact ⟨rfl, st.keep⟩
theorem Mirror_tells (f : List Nat) (ok : FrOk f) (b : Nat) (T : TypeId) (w : World) (hb : Blk w b (frv f) T) : Tells (.func (.func 96) #[] #[.pointer (some ⟨b, 0, none⟩)]) (mirP f) w :=
  ⟨96, _, #[.pointer (some ⟨b, 0, none⟩)], rfl, Try.func96, by kernel_rfl, by kernel_rfl, fun x y w1 hx hy hk => Mirror1_c f ok b T x y hx hy w1 (hb.keep0 hk)⟩
set_option maxRecDepth 100000 in
theorem Mirror_c (f : List Nat) (ok : FrOk f) (w : World) :
    Calls Try.prog 44 #[.agg (frv f).toArray] w fun e w' => e = .returned (.tuple #[.agg (frv (ovR mirP f)).toArray, .int .i64 (codeF f)]) ∧ Keep [] w w' := by
  have hf := ok.len
  have hm := mk_length (mirP f)
  have st := St.start w
  unfold ovR
  rcases Bool.eq_false_or_eq_true (okB f) with h | h
  · rw [codeF_0 h, h, if_pos rfl]
    go_enter Try.func44, Try.ntmps44
    go_wp2_with (first | ((with_reducible refine gate_box rfl ?_); (with_reducible refine gate_dst (N := 1) rfl ?_); refine wpl_box rfl _ _ rfl _ rfl _ rfl st ?_; clear st; intro B1 _ st) | ((with_reducible refine gate_alloc rfl ?_); refine wpl_alloc rfl _ rfl tFr.toAggT st ?_; clear st; intro _ _ st) | ((with_reducible refine gate_load rfl ?_); refine wpl_loadAll rfl _ _ rfl _ rfl tFr.toAggT _ _ (st.get (by repeat (first | exact At.here | apply At.there))) (by simp [frv_length, zf_length, mk_length, withD_length, part_length, rowsOf_length, *]) ?_) | (go_at_call 25; refine (ValidFrame_c f hf _).mono ?_; rintro _ _ ⟨rfl, hk⟩; replace st := st.call hk; clear hk) | (go_at_call 95; refine (where_c (.func (.func 96) #[] #[.pointer (some ⟨B1, 0, none⟩)]) (mirP f) _ (Mirror_tells f ok B1 _ _ (st.get (.there .here)))).mono ?_; rintro _ _ ⟨rfl, hk⟩; replace st := st.call hk; clear hk) | ((with_reducible refine gate_store rfl ?_); refine wpl_storeAll rfl _ _ _ rfl _ rfl _ rfl tFr.toAggT (by rw [frv_length, hm]) (frv_one _) st _ _ (by repeat (first | exact Upd.here | apply Upd.there)) (by simp [frv_length, zf_length, mk_length, withD_length, part_length, rowsOf_length, *]) ?_; clear st; intro _ st))
    refine bodyPost_cell_tmp rfl tFr.toAggT rfl _ rfl _ _ (st.get (by repeat (first | exact At.here | apply At.there))) (by rw [frv_length, hm]) _ rfl ?_
    exact ⟨rfl, st.keep⟩
  · rw [codeF_1 h, if_neg (by rw [h]; decide)]
    go_enter Try.func44, Try.ntmps44
    go_wp2_with (first | ((with_reducible refine gate_box rfl ?_); refine wpl_box rfl _ _ rfl _ rfl _ rfl st ?_; clear st; intro _ _ st) | ((with_reducible refine gate_alloc rfl ?_); refine wpl_alloc rfl _ rfl tFr.toAggT st ?_; clear st; intro _ _ st) | ((with_reducible refine gate_load rfl ?_); refine wpl_loadAll rfl _ _ rfl _ rfl tFr.toAggT _ _ (st.get (by repeat (first | exact At.here | apply At.there))) (by simp [frv_length, zf_length, mk_length, withD_length, part_length, rowsOf_length, *]) ?_) | (go_at_call 25; refine (ValidFrame_c f hf _).mono ?_; rintro _ _ ⟨rfl, hk⟩; replace st := st.call hk; clear hk) | ((with_reducible refine gate_build rfl ?_); refine wpl_zero rfl _ rfl _ tFrB ?_) | ((with_reducible refine gate_store rfl ?_); refine wpl_storeAll rfl _ _ _ rfl _ rfl _ rfl tFr.toAggT (by simp [frv_length, zf_length, mk_length, withD_length, part_length, rowsOf_length, *]) (frv_one _) st _ _ (by repeat (first | exact Upd.here | apply Upd.there)) (by simp [frv_length, zf_length, mk_length, withD_length, part_length, rowsOf_length, *]) ?_; clear st; intro _ st))
    refine bodyPost_cell_tmp rfl tFr.toAggT rfl _ rfl _ _ (st.get (by repeat (first | exact At.here | apply At.there))) (by simp [frv_length, zf_length, mk_length, withD_length, part_length, rowsOf_length, *]) _ rfl ?_
    exact ⟨rfl, st.keep⟩

set_option maxRecDepth 100000 in
theorem specTurn_c (f : List Nat) (ok : FrOk f) (w : World) :
    Calls Try.prog 45 #[.agg (frv f).toArray] w fun e w' => e = .returned (.tuple #[.agg (frv (ovR trnP f)).toArray, .int .i64 (codeF f)]) ∧ Keep [] w w' := by
  have hf := ok.len
  have st := St.start w
  unfold ovR
  rcases Bool.eq_false_or_eq_true (okB f) with h | h
  · rw [codeF_0 h, h, if_pos rfl, ← trn_all f]
    have hdl := dots_length f
    go_enter Try.func45, Try.ntmps45
    go_wp2_with (first | ((with_reducible refine gate_box rfl ?_); (with_reducible refine gate_dst (N := 1) rfl ?_); refine wpl_box rfl _ _ rfl _ rfl _ rfl st ?_; clear st; intro B1 _ st) | ((with_reducible refine gate_alloc rfl ?_); (with_reducible refine gate_dst (N := 2) rfl ?_); refine wpl_alloc rfl _ rfl tFr.toAggT st ?_; clear st; intro B2 _ st) | (go_at_call 73; refine (l01Ok_c f hf _ _ _ (.of (st.get (.there .here)))).mono ?_; rintro _ _ ⟨rfl, hk⟩; replace st := st.call hk; clear hk) | ((with_reducible refine gate_build rfl ?_); refine wpl_zero rfl _ rfl _ tFrB ?_) | ((with_reducible refine gate_alloc rfl ?_); (with_reducible refine gate_dst (N := 4) rfl ?_); refine wpl_alloc rfl _ rfl tFr.toAggT st ?_; clear st; intro B4 _ st) | ((with_reducible refine gate_store rfl ?_); refine wpl_storeAll rfl _ _ _ rfl _ rfl _ rfl tFr.toAggT (by simp [frv_length, zf_length, mk_length, withD_length, part_length, rowsOf_length, *]) (frv_one _) st _ _ (by repeat (first | exact Upd.here | apply Upd.there)) (by simp [frv_length, zf_length, mk_length, withD_length, part_length, rowsOf_length, *]) ?_; clear st; intro _ st) | (go_at_call 94; refine (l01Dots_c f ok _ _ _ (.of (st.get (.there (.there .here))))).mono ?_; rintro _ _ ⟨v, rfl, ⟨g, cap, spare, rfl, hg, hbg, hcap, hcm⟩, hk⟩; replace st := st.adopt hk hg hbg; clear hk hg hbg hcap hcm))
    rw [← over_zero trnT f] at st
    go_loopw [6] (fun i wr => ∃ k : Nat, k ≤ (dots f).length ∧ i = .int .i64 k ∧ St [] w wr [(g, dtv (dots f) ++ spare, 88), (B4, frv (over trnT f k), 25), (B2, List.replicate 12 (Value.int .u16 0), 25), (B1, frv f, 25)]) (fun i _ => (dots f).length - (intOf i).toNat)
    case atStart => exact ⟨0, by omega, rfl, st⟩
    case round =>
      clear st
      obtain ⟨k, hk, rfl, st⟩ := hrel
      by_cases hlt : k < (dots f).length
      · have hdk : decide ((k : Int) < ((dots f).length : Int)) = true := by simpa using hlt
        obtain ⟨dx, dy, hdx, hdy, G0, G1, HS⟩ := dot_at hlt
        replace G0 := hid (G0 spare)
        replace G1 := hid (G1 spare)
        have hol := over_length trnT f k
        replace HS := hid (HS trnT)
        go_wp2_with fail
        (refine wp_region_tail_st st 13 (by kernel_rfl) (by kernel_rfl) ?_; clear st; simp only [List.take_succ_cons, List.take_zero, List.drop_succ_cons, List.drop_zero]; (repeat ((first | (refine wpq_move rfl _ rfl _ rfl ?_) | ((with_reducible refine qgate_addr rfl ?_); refine wpq_slcAddr rfl _ _ _ rfl _ _ _ _ rfl _ _ rfl tDotS k rfl hlt ?_) | ((with_reducible refine qgate_dst (N := 21) rfl ?_); ((with_reducible refine qgate_field rfl ?_); refine wpq_field rfl _ _ 1 rfl _ _ rfl 1 fld_dot1 ?_)) | ((with_reducible refine qgate_dst (N := 28) rfl ?_); ((with_reducible refine qgate_field rfl ?_); refine wpq_field rfl _ _ 0 rfl _ _ rfl 0 fld_dot0 ?_)) | ((with_reducible refine qgate_dst (N := 22) rfl ?_); ((with_reducible refine qgate_load rfl ?_); refine wpq_load1 rfl _ _ rfl _ rfl tI8 _ (fun _ hw => (hw.get (by repeat (first | exact At.here | apply At.there))).cellv G1.out) ?_)) | ((with_reducible refine qgate_dst (N := 29) rfl ?_); ((with_reducible refine qgate_load rfl ?_); refine wpq_load1 rfl _ _ rfl _ rfl tI8 _ (fun _ hw => (hw.get (by repeat (first | exact At.here | apply At.there))).cellv G0.out) ?_)) | ((with_reducible refine qgate_dst (N := 23) rfl ?_); ((with_reducible refine qgate_conv rfl ?_); refine wpq_conv rfl _ _ _ rfl _ _ _ (dy : Int) rfl rfl (by kernel_rfl) (IntWalk.i64_in _ (by omega)) ?_)) | ((with_reducible refine qgate_dst (N := 30) rfl ?_); ((with_reducible refine qgate_conv rfl ?_); refine wpq_conv rfl _ _ _ rfl _ _ _ (dx : Int) rfl rfl (by kernel_rfl) (IntWalk.i64_in _ (by omega)) ?_)) | ((with_reducible refine qgate_bin rfl ?_); refine wpq_bin rfl _ _ _ _ _ rfl _ _ _ _ rfl rfl (.int .i64 (11 - (dy : Int))) (fun w' => run_sub64 (by omega) (by omega) w') ?_)); (simp only [Act.put, Act.eval, Array.getD_eq_getD_getElem?, List.getElem?_toArray, List.getElem?_cons_succ, List.getElem?_cons_zero, Option.getD_some, List.setIfInBounds_toArray, List.set_cons_succ, List.set_cons_zero, List.getElem_toArray, List.getElem_cons_succ, List.getElem_cons_zero]))); refine wpQuiet_nil ?_; intro _ st)
        go_wp2_with (first | (go_at_call 92; refine (l01Put_c (over trnT f k) (over_frOk _ _ _) _ _ (11 - (dy : Int)) (dx : Int) _ (st.get (.there .here))).mono ?_; rintro _ _ ⟨rfl, hk, hb1⟩; replace st := st.wrote (by repeat (first | exact Upd.here | apply Upd.there)) hk hb1; clear hk hb1))
        rw [show putI (over trnT f k) (11 - (dy : Int)) (dx : Int) = over trnT f (k + 1) from HS.out] at st
        go_roundw
        case rel => exact ⟨k + 1, by omega, by go_num, st⟩
        case measure => simp [intOf]; omega
      · obtain rfl : k = (dots f).length := by omega
        have hol := over_length trnT f (dots f).length
        go_wp2_with (first | ((with_reducible refine gate_load rfl ?_); refine wpl_loadAll rfl _ _ rfl _ rfl tFr.toAggT _ _ (st.get (by repeat (first | exact At.here | apply At.there))) (by rw [frv_length, hol]) ?_) | ((with_reducible refine gate_store rfl ?_); refine wpl_storeAll rfl _ _ _ rfl _ rfl _ rfl tFr.toAggT (by rw [frv_length, hol]) (frv_one _) st _ _ (by repeat (first | exact Upd.here | apply Upd.there)) (by simp) ?_; clear st; intro _ st))
        refine bodyPost_cell_tmp rfl tFr.toAggT rfl _ rfl _ _ (st.get (by repeat (first | exact At.here | apply At.there))) (by rw [frv_length, hol]) _ rfl ?_
        exact ⟨rfl, st.keep⟩
  · rw [codeF_1 h, if_neg (by rw [h]; decide)]
    go_enter Try.func45, Try.ntmps45
    go_wp2_with (first | ((with_reducible refine gate_box rfl ?_); refine wpl_box rfl _ _ rfl _ rfl _ rfl st ?_; clear st; intro _ _ st) | ((with_reducible refine gate_alloc rfl ?_); refine wpl_alloc rfl _ rfl tFr.toAggT st ?_; clear st; intro _ _ st) | (go_at_call 73; refine (l01Ok_c f hf _ _ _ (.of (st.get (.there .here)))).mono ?_; rintro _ _ ⟨rfl, hk⟩; replace st := st.call hk; clear hk) | ((with_reducible refine gate_build rfl ?_); refine wpl_zero rfl _ rfl _ tFrB ?_) | ((with_reducible refine gate_store rfl ?_); refine wpl_storeAll rfl _ _ _ rfl _ rfl _ rfl tFr.toAggT (by simp [frv_length, zf_length, mk_length, withD_length, part_length, rowsOf_length, *]) (frv_one _) st _ _ (by repeat (first | exact Upd.here | apply Upd.there)) (by simp [frv_length, zf_length, mk_length, withD_length, part_length, rowsOf_length, *]) ?_; clear st; intro _ st))
    refine bodyPost_cell_tmp rfl tFr.toAggT rfl _ rfl _ _ (st.get (by repeat (first | exact At.here | apply At.there))) (by simp [frv_length, zf_length, mk_length, withD_length, part_length, rowsOf_length, *]) _ rfl ?_
    exact ⟨rfl, st.keep⟩
theorem Turn1_c (f : List Nat) (ok : FrOk f) (b : Nat) (T : TypeId) (x y : Nat) (hx : x < 12) (hy : y < 12) (w : World) (hb : Blk w b (frv f) T) :
    Calls Try.prog 97 #[.int .i64 x, .int .i64 y, .pointer (some ⟨b, 0, none⟩)] w fun e w' => e = .returned (.bool (trnP f x y)) ∧ Keep [] w w' := by
  have hf := ok.len
  have st := St.start w
  go_enter Try.func97, Try.ntmps97
  go_wp2_with (first | ((with_reducible refine gate_load rfl ?_); refine wpl_loadC rfl _ _ rfl _ rfl tFr.toAggT (frv f) (by rw [frv_length, hf]) (fun j v hj => by rw [Addr.add_lit, Nat.zero_add]; exact (st.arg hb (by simp)).cellv hj) ?_) | ((with_reducible refine gate_bin rfl ?_); refine wpl_bin rfl _ _ _ _ _ rfl _ _ _ _ rfl rfl (.int .i64 (11 - (x : Int))) (fun w' => run_sub64 (by omega) (by omega) w') ?_) | (go_at_call 82; refine (has_c f ok _ _ _).mono ?_; rintro _ _ ⟨rfl, hk⟩; replace st := st.call hk; clear hk))
  go_ret
  exact ⟨rfl, st.keep⟩
theorem Turn_tells (f : List Nat) (ok : FrOk f) (b : Nat) (T : TypeId) (w : World) (hb : Blk w b (frv f) T) : Tells (.func (.func 97) #[] #[.pointer (some ⟨b, 0, none⟩)]) (trnP f) w :=
  ⟨97, _, #[.pointer (some ⟨b, 0, none⟩)], rfl, Try.func97, by kernel_rfl, by kernel_rfl, fun x y w1 hx hy hk => Turn1_c f ok b T x y hx hy w1 (hb.keep0 hk)⟩
set_option maxRecDepth 100000 in
theorem Turn_c (f : List Nat) (ok : FrOk f) (w : World) :
    Calls Try.prog 46 #[.agg (frv f).toArray] w fun e w' => e = .returned (.tuple #[.agg (frv (ovR trnP f)).toArray, .int .i64 (codeF f)]) ∧ Keep [] w w' := by
  have hf := ok.len
  have hm := mk_length (trnP f)
  have st := St.start w
  unfold ovR
  rcases Bool.eq_false_or_eq_true (okB f) with h | h
  · rw [codeF_0 h, h, if_pos rfl]
    go_enter Try.func46, Try.ntmps46
    go_wp2_with (first | ((with_reducible refine gate_box rfl ?_); (with_reducible refine gate_dst (N := 1) rfl ?_); refine wpl_box rfl _ _ rfl _ rfl _ rfl st ?_; clear st; intro B1 _ st) | ((with_reducible refine gate_alloc rfl ?_); refine wpl_alloc rfl _ rfl tFr.toAggT st ?_; clear st; intro _ _ st) | ((with_reducible refine gate_load rfl ?_); refine wpl_loadAll rfl _ _ rfl _ rfl tFr.toAggT _ _ (st.get (by repeat (first | exact At.here | apply At.there))) (by simp [frv_length, zf_length, mk_length, withD_length, part_length, rowsOf_length, *]) ?_) | (go_at_call 25; refine (ValidFrame_c f hf _).mono ?_; rintro _ _ ⟨rfl, hk⟩; replace st := st.call hk; clear hk) | (go_at_call 95; refine (where_c (.func (.func 97) #[] #[.pointer (some ⟨B1, 0, none⟩)]) (trnP f) _ (Turn_tells f ok B1 _ _ (st.get (.there .here)))).mono ?_; rintro _ _ ⟨rfl, hk⟩; replace st := st.call hk; clear hk) | ((with_reducible refine gate_store rfl ?_); refine wpl_storeAll rfl _ _ _ rfl _ rfl _ rfl tFr.toAggT (by rw [frv_length, hm]) (frv_one _) st _ _ (by repeat (first | exact Upd.here | apply Upd.there)) (by simp [frv_length, zf_length, mk_length, withD_length, part_length, rowsOf_length, *]) ?_; clear st; intro _ st))
    refine bodyPost_cell_tmp rfl tFr.toAggT rfl _ rfl _ _ (st.get (by repeat (first | exact At.here | apply At.there))) (by rw [frv_length, hm]) _ rfl ?_
    exact ⟨rfl, st.keep⟩
  · rw [codeF_1 h, if_neg (by rw [h]; decide)]
    go_enter Try.func46, Try.ntmps46
    go_wp2_with (first | ((with_reducible refine gate_box rfl ?_); refine wpl_box rfl _ _ rfl _ rfl _ rfl st ?_; clear st; intro _ _ st) | ((with_reducible refine gate_alloc rfl ?_); refine wpl_alloc rfl _ rfl tFr.toAggT st ?_; clear st; intro _ _ st) | ((with_reducible refine gate_load rfl ?_); refine wpl_loadAll rfl _ _ rfl _ rfl tFr.toAggT _ _ (st.get (by repeat (first | exact At.here | apply At.there))) (by simp [frv_length, zf_length, mk_length, withD_length, part_length, rowsOf_length, *]) ?_) | (go_at_call 25; refine (ValidFrame_c f hf _).mono ?_; rintro _ _ ⟨rfl, hk⟩; replace st := st.call hk; clear hk) | ((with_reducible refine gate_build rfl ?_); refine wpl_zero rfl _ rfl _ tFrB ?_) | ((with_reducible refine gate_store rfl ?_); refine wpl_storeAll rfl _ _ _ rfl _ rfl _ rfl tFr.toAggT (by simp [frv_length, zf_length, mk_length, withD_length, part_length, rowsOf_length, *]) (frv_one _) st _ _ (by repeat (first | exact Upd.here | apply Upd.there)) (by simp [frv_length, zf_length, mk_length, withD_length, part_length, rowsOf_length, *]) ?_; clear st; intro _ st))
    refine bodyPost_cell_tmp rfl tFr.toAggT rfl _ rfl _ _ (st.get (by repeat (first | exact At.here | apply At.there))) (by simp [frv_length, zf_length, mk_length, withD_length, part_length, rowsOf_length, *]) _ rfl ?_
    exact ⟨rfl, st.keep⟩
end Go.Proofs.Ytdiphapcjafbaaa
