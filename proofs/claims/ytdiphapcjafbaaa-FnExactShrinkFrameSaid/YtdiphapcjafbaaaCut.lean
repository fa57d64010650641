/- Cut by a box: the reference; no condition. -/
import Derived.Test.YtdiphapcjafbaaaB8
import Derived.Test.YtdiphapcjafbaaaBox2
namespace Go.Proofs.Ytdiphapcjafbaaa
open Go.RowKit
set_option linter.unusedSimpArgs false
set_option linter.unusedVariables false

theorem l01Place_v {x y : Int} {v : Bool} (h : placeB x y = v) (w : World) : Calls Try.prog 102 #[.int .i64 x, .int .i64 y] w fun e w' => e = .returned (.bool v) ∧ Keep [] w w' := by
  subst h; exact l01Place_c x y w
theorem isPlace_v {x y : Int} {v : Bool} (h : placeB x y = v) (w : World) : Calls Try.prog 106 #[.int .i64 x, .int .i64 y] w fun e w' => e = .returned (.bool v) ∧ Keep [] w w' := by
  subst h; exact isPlace_c x y w
/-- Four numbers of 8 bits. -/
structure BxOk (b : Int × Int × Int × Int) : Prop where
  h1 : -128 ≤ b.1 ∧ b.1 < 128
  h2 : -128 ≤ b.2.1 ∧ b.2.1 < 128
  h3 : -128 ≤ b.2.2.1 ∧ b.2.2.1 < 128
  h4 : -128 ≤ b.2.2.2 ∧ b.2.2.2 < 128
/-- The box lies in a frame. -/
def boxedB (x y m n : Int) : Bool := placeB x y && (inB m 1 (12 - x) && inB n 1 (12 - y))
set_option maxHeartbeats 1000000 in
set_option maxRecDepth 100000 in
theorem l01Boxed_c (x y m n : Int) (ok : BxOk (x, y, m, n)) (w : World) :
    Calls Try.prog 114 #[.agg (bxv (x, y, m, n)).toArray] w fun e w' => e = .returned (.bool (boxedB x y m n)) ∧ Keep [] w w' := by
  obtain ⟨⟨a1, a2⟩, ⟨b1, b2⟩, ⟨c1, c2⟩, ⟨d1, d2⟩⟩ := ok
  simp only at a1 a2 b1 b2 c1 c2 d1 d2
  have st := St.start w
  rw [show bxv (x, y, m, n) = [.int .i8 x, .int .i8 y, .int .i8 m, .int .i8 n] from rfl]
  unfold boxedB
  rcases Bool.eq_false_or_eq_true (placeB x y) with hp | hp
  · rcases Bool.eq_false_or_eq_true (inB m 1 (12 - x)) with hm | hm
    · rcases Bool.eq_false_or_eq_true (inB n 1 (12 - y)) with hn | hn
      · rw [hp, hm, hn]
        go_enter Try.func114, Try.ntmps114
        go_wp2_with (first | (refine wpl_unguard rfl ?_) | ((with_reducible refine gate_box rfl ?_); refine wpl_box rfl _ _ rfl _ rfl _ rfl st ?_; clear st; intro _ _ st) | ((with_reducible refine gate_dst (N := 6) rfl ?_); ((with_reducible refine gate_load rfl ?_); refine wpl_load1 rfl _ _ rfl _ rfl tI8 (.int .i8 x) ((st.get (by repeat (first | exact At.here | apply At.there))).cellv rfl) ?_)) | ((with_reducible refine gate_dst (N := 9) rfl ?_); ((with_reducible refine gate_load rfl ?_); refine wpl_load1 rfl _ _ rfl _ rfl tI8 (.int .i8 y) ((st.get (by repeat (first | exact At.here | apply At.there))).cellv rfl) ?_)) | ((with_reducible refine gate_dst (N := 16) rfl ?_); ((with_reducible refine gate_load rfl ?_); refine wpl_load1 rfl _ _ rfl _ rfl tI8 (.int .i8 m) ((st.get (by repeat (first | exact At.here | apply At.there))).cellv rfl) ?_)) | ((with_reducible refine gate_dst (N := 24) rfl ?_); ((with_reducible refine gate_load rfl ?_); refine wpl_load1 rfl _ _ rfl _ rfl tI8 (.int .i8 n) ((st.get (by repeat (first | exact At.here | apply At.there))).cellv rfl) ?_)) | ((with_reducible refine gate_dst (N := 7) rfl ?_); ((with_reducible refine gate_conv rfl ?_); refine wpl_conv rfl _ _ _ rfl _ _ _ x rfl rfl (by kernel_rfl) (IntWalk.i64_in _ (by omega)) ?_)) | ((with_reducible refine gate_dst (N := 10) rfl ?_); ((with_reducible refine gate_conv rfl ?_); refine wpl_conv rfl _ _ _ rfl _ _ _ y rfl rfl (by kernel_rfl) (IntWalk.i64_in _ (by omega)) ?_)) | ((with_reducible refine gate_dst (N := 17) rfl ?_); ((with_reducible refine gate_conv rfl ?_); refine wpl_conv rfl _ _ _ rfl _ _ _ m rfl rfl (by kernel_rfl) (IntWalk.i64_in _ (by omega)) ?_)) | ((with_reducible refine gate_dst (N := 25) rfl ?_); ((with_reducible refine gate_conv rfl ?_); refine wpl_conv rfl _ _ _ rfl _ _ _ n rfl rfl (by kernel_rfl) (IntWalk.i64_in _ (by omega)) ?_)) | ((with_reducible refine gate_dst (N := 19) rfl ?_); ((with_reducible refine gate_bin rfl ?_); refine wpl_bin rfl _ _ _ _ _ rfl _ _ _ _ rfl rfl (.int .i64 (12 - x)) (fun w' => run_sub64 (by omega) (by omega) w') ?_)) | ((with_reducible refine gate_dst (N := 27) rfl ?_); ((with_reducible refine gate_bin rfl ?_); refine wpl_bin rfl _ _ _ _ _ rfl _ _ _ _ rfl rfl (.int .i64 (12 - y)) (fun w' => run_sub64 (by omega) (by omega) w') ?_)) | (go_at_call 102; refine (l01Place_v hp _).mono ?_; rintro _ _ ⟨rfl, hk⟩; replace st := st.call hk; clear hk) | (go_at_call 115; (with_reducible refine gate_int (n := m) ?_); refine (l00In_v hm _).mono ?_; rintro _ _ ⟨rfl, hk⟩; replace st := st.call hk; clear hk) | (go_at_call 115; (with_reducible refine gate_int (n := n) ?_); refine (l00In_v hn _).mono ?_; rintro _ _ ⟨rfl, hk⟩; replace st := st.call hk; clear hk))
        go_ret
        exact ⟨rfl, st.keep⟩
      · rw [hp, hm, hn]
        go_enter Try.func114, Try.ntmps114
        go_wp2_with (first | (refine wpl_unguard rfl ?_) | ((with_reducible refine gate_box rfl ?_); refine wpl_box rfl _ _ rfl _ rfl _ rfl st ?_; clear st; intro _ _ st) | ((with_reducible refine gate_dst (N := 6) rfl ?_); ((with_reducible refine gate_load rfl ?_); refine wpl_load1 rfl _ _ rfl _ rfl tI8 (.int .i8 x) ((st.get (by repeat (first | exact At.here | apply At.there))).cellv rfl) ?_)) | ((with_reducible refine gate_dst (N := 9) rfl ?_); ((with_reducible refine gate_load rfl ?_); refine wpl_load1 rfl _ _ rfl _ rfl tI8 (.int .i8 y) ((st.get (by repeat (first | exact At.here | apply At.there))).cellv rfl) ?_)) | ((with_reducible refine gate_dst (N := 16) rfl ?_); ((with_reducible refine gate_load rfl ?_); refine wpl_load1 rfl _ _ rfl _ rfl tI8 (.int .i8 m) ((st.get (by repeat (first | exact At.here | apply At.there))).cellv rfl) ?_)) | ((with_reducible refine gate_dst (N := 24) rfl ?_); ((with_reducible refine gate_load rfl ?_); refine wpl_load1 rfl _ _ rfl _ rfl tI8 (.int .i8 n) ((st.get (by repeat (first | exact At.here | apply At.there))).cellv rfl) ?_)) | ((with_reducible refine gate_dst (N := 7) rfl ?_); ((with_reducible refine gate_conv rfl ?_); refine wpl_conv rfl _ _ _ rfl _ _ _ x rfl rfl (by kernel_rfl) (IntWalk.i64_in _ (by omega)) ?_)) | ((with_reducible refine gate_dst (N := 10) rfl ?_); ((with_reducible refine gate_conv rfl ?_); refine wpl_conv rfl _ _ _ rfl _ _ _ y rfl rfl (by kernel_rfl) (IntWalk.i64_in _ (by omega)) ?_)) | ((with_reducible refine gate_dst (N := 17) rfl ?_); ((with_reducible refine gate_conv rfl ?_); refine wpl_conv rfl _ _ _ rfl _ _ _ m rfl rfl (by kernel_rfl) (IntWalk.i64_in _ (by omega)) ?_)) | ((with_reducible refine gate_dst (N := 25) rfl ?_); ((with_reducible refine gate_conv rfl ?_); refine wpl_conv rfl _ _ _ rfl _ _ _ n rfl rfl (by kernel_rfl) (IntWalk.i64_in _ (by omega)) ?_)) | ((with_reducible refine gate_dst (N := 19) rfl ?_); ((with_reducible refine gate_bin rfl ?_); refine wpl_bin rfl _ _ _ _ _ rfl _ _ _ _ rfl rfl (.int .i64 (12 - x)) (fun w' => run_sub64 (by omega) (by omega) w') ?_)) | ((with_reducible refine gate_dst (N := 27) rfl ?_); ((with_reducible refine gate_bin rfl ?_); refine wpl_bin rfl _ _ _ _ _ rfl _ _ _ _ rfl rfl (.int .i64 (12 - y)) (fun w' => run_sub64 (by omega) (by omega) w') ?_)) | (go_at_call 102; refine (l01Place_v hp _).mono ?_; rintro _ _ ⟨rfl, hk⟩; replace st := st.call hk; clear hk) | (go_at_call 115; (with_reducible refine gate_int (n := m) ?_); refine (l00In_v hm _).mono ?_; rintro _ _ ⟨rfl, hk⟩; replace st := st.call hk; clear hk) | (go_at_call 115; (with_reducible refine gate_int (n := n) ?_); refine (l00In_v hn _).mono ?_; rintro _ _ ⟨rfl, hk⟩; replace st := st.call hk; clear hk))
        go_ret
        exact ⟨rfl, st.keep⟩
    · rw [hp, hm, Bool.false_and, Bool.and_false]
      go_enter Try.func114, Try.ntmps114
      go_wp2_with (first | (refine wpl_unguard rfl ?_) | ((with_reducible refine gate_box rfl ?_); refine wpl_box rfl _ _ rfl _ rfl _ rfl st ?_; clear st; intro _ _ st) | ((with_reducible refine gate_dst (N := 6) rfl ?_); ((with_reducible refine gate_load rfl ?_); refine wpl_load1 rfl _ _ rfl _ rfl tI8 (.int .i8 x) ((st.get (by repeat (first | exact At.here | apply At.there))).cellv rfl) ?_)) | ((with_reducible refine gate_dst (N := 9) rfl ?_); ((with_reducible refine gate_load rfl ?_); refine wpl_load1 rfl _ _ rfl _ rfl tI8 (.int .i8 y) ((st.get (by repeat (first | exact At.here | apply At.there))).cellv rfl) ?_)) | ((with_reducible refine gate_dst (N := 16) rfl ?_); ((with_reducible refine gate_load rfl ?_); refine wpl_load1 rfl _ _ rfl _ rfl tI8 (.int .i8 m) ((st.get (by repeat (first | exact At.here | apply At.there))).cellv rfl) ?_)) | ((with_reducible refine gate_dst (N := 24) rfl ?_); ((with_reducible refine gate_load rfl ?_); refine wpl_load1 rfl _ _ rfl _ rfl tI8 (.int .i8 n) ((st.get (by repeat (first | exact At.here | apply At.there))).cellv rfl) ?_)) | ((with_reducible refine gate_dst (N := 7) rfl ?_); ((with_reducible refine gate_conv rfl ?_); refine wpl_conv rfl _ _ _ rfl _ _ _ x rfl rfl (by kernel_rfl) (IntWalk.i64_in _ (by omega)) ?_)) | ((with_reducible refine gate_dst (N := 10) rfl ?_); ((with_reducible refine gate_conv rfl ?_); refine wpl_conv rfl _ _ _ rfl _ _ _ y rfl rfl (by kernel_rfl) (IntWalk.i64_in _ (by omega)) ?_)) | ((with_reducible refine gate_dst (N := 17) rfl ?_); ((with_reducible refine gate_conv rfl ?_); refine wpl_conv rfl _ _ _ rfl _ _ _ m rfl rfl (by kernel_rfl) (IntWalk.i64_in _ (by omega)) ?_)) | ((with_reducible refine gate_dst (N := 25) rfl ?_); ((with_reducible refine gate_conv rfl ?_); refine wpl_conv rfl _ _ _ rfl _ _ _ n rfl rfl (by kernel_rfl) (IntWalk.i64_in _ (by omega)) ?_)) | ((with_reducible refine gate_dst (N := 19) rfl ?_); ((with_reducible refine gate_bin rfl ?_); refine wpl_bin rfl _ _ _ _ _ rfl _ _ _ _ rfl rfl (.int .i64 (12 - x)) (fun w' => run_sub64 (by omega) (by omega) w') ?_)) | (go_at_call 102; refine (l01Place_v hp _).mono ?_; rintro _ _ ⟨rfl, hk⟩; replace st := st.call hk; clear hk) | (go_at_call 115; (with_reducible refine gate_int (n := m) ?_); refine (l00In_v hm _).mono ?_; rintro _ _ ⟨rfl, hk⟩; replace st := st.call hk; clear hk))
      go_ret
      exact ⟨rfl, st.keep⟩
  · rw [hp, Bool.false_and]
    go_enter Try.func114, Try.ntmps114
    go_wp2_with (first | (refine wpl_unguard rfl ?_) | ((with_reducible refine gate_box rfl ?_); refine wpl_box rfl _ _ rfl _ rfl _ rfl st ?_; clear st; intro _ _ st) | ((with_reducible refine gate_dst (N := 6) rfl ?_); ((with_reducible refine gate_load rfl ?_); refine wpl_load1 rfl _ _ rfl _ rfl tI8 (.int .i8 x) ((st.get (by repeat (first | exact At.here | apply At.there))).cellv rfl) ?_)) | ((with_reducible refine gate_dst (N := 9) rfl ?_); ((with_reducible refine gate_load rfl ?_); refine wpl_load1 rfl _ _ rfl _ rfl tI8 (.int .i8 y) ((st.get (by repeat (first | exact At.here | apply At.there))).cellv rfl) ?_)) | ((with_reducible refine gate_dst (N := 16) rfl ?_); ((with_reducible refine gate_load rfl ?_); refine wpl_load1 rfl _ _ rfl _ rfl tI8 (.int .i8 m) ((st.get (by repeat (first | exact At.here | apply At.there))).cellv rfl) ?_)) | ((with_reducible refine gate_dst (N := 24) rfl ?_); ((with_reducible refine gate_load rfl ?_); refine wpl_load1 rfl _ _ rfl _ rfl tI8 (.int .i8 n) ((st.get (by repeat (first | exact At.here | apply At.there))).cellv rfl) ?_)) | ((with_reducible refine gate_dst (N := 7) rfl ?_); ((with_reducible refine gate_conv rfl ?_); refine wpl_conv rfl _ _ _ rfl _ _ _ x rfl rfl (by kernel_rfl) (IntWalk.i64_in _ (by omega)) ?_)) | ((with_reducible refine gate_dst (N := 10) rfl ?_); ((with_reducible refine gate_conv rfl ?_); refine wpl_conv rfl _ _ _ rfl _ _ _ y rfl rfl (by kernel_rfl) (IntWalk.i64_in _ (by omega)) ?_)) | ((with_reducible refine gate_dst (N := 17) rfl ?_); ((with_reducible refine gate_conv rfl ?_); refine wpl_conv rfl _ _ _ rfl _ _ _ m rfl rfl (by kernel_rfl) (IntWalk.i64_in _ (by omega)) ?_)) | ((with_reducible refine gate_dst (N := 25) rfl ?_); ((with_reducible refine gate_conv rfl ?_); refine wpl_conv rfl _ _ _ rfl _ _ _ n rfl rfl (by kernel_rfl) (IntWalk.i64_in _ (by omega)) ?_)) | (go_at_call 102; refine (l01Place_v hp _).mono ?_; rintro _ _ ⟨rfl, hk⟩; replace st := st.call hk; clear hk))
    go_ret
    exact ⟨rfl, st.keep⟩

/-! ### The dots that meet a test -/
def overF (q : Nat × Nat → Bool) (f : List Nat) (k : Nat) : List Nat := putAll ((((dots f).take k).filter q).map fun d => ((d.1 : Int), (d.2 : Int)))
theorem overF_zero (q : Nat × Nat → Bool) (f : List Nat) : overF q f 0 = zf := putAll_nil
theorem overF_frOk (q : Nat × Nat → Bool) (f : List Nat) (k : Nat) : FrOk (overF q f k) := putAll_frOk _
theorem overF_length (q : Nat × Nat → Bool) (f : List Nat) (k : Nat) : (overF q f k).length = 12 := by unfold overF putAll; exact mk_length _
theorem overF_at {f : List Nat} {k n : Nat} (hn : (dots f).length = n) (hk : k < n) : ∃ dx dy : Nat, dx < 12 ∧ dy < 12 ∧ hasD f dx dy = true ∧ (∀ spare : List Value, (dtv (dots f) ++ spare)[0 + k * 2 + 0]? = some (.int .i8 (dx : Int))) ∧
    (∀ spare : List Value, (dtv (dots f) ++ spare)[0 + k * 2 + 1]? = some (.int .i8 (dy : Int))) ∧
    (∀ q : Nat × Nat → Bool, q (dx, dy) = true → putI (overF q f k) dx dy = overF q f (k + 1)) ∧ ∀ q : Nat × Nat → Bool, q (dx, dy) = false → overF q f k = overF q f (k + 1) := by
  subst hn
  have hm : (dots f).getD k (0, 0) ∈ dots f := by
    rw [List.getD_eq_getElem?_getD, List.getElem?_eq_getElem hk]; exact List.getElem_mem hk
  have h3 := mem_dots.1 hm
  refine ⟨((dots f).getD k (0, 0)).1, ((dots f).getD k (0, 0)).2, h3.1, h3.2.1, h3.2.2, fun _ => dot_get0 hk, fun _ => dot_get1 hk, fun q h => ?_, fun q h => ?_⟩
  · unfold overF
    rw [putI_putAll, List.take_succ_eq_append_getElem hk, List.filter_append, List.map_append]
    rw [List.getD_eq_getElem?_getD, List.getElem?_eq_getElem hk] at h ⊢
    simp only [Option.getD_some] at h ⊢
    rw [show ((dots f)[k].1, (dots f)[k].2) = (dots f)[k] from rfl] at h
    simp [h]
  · unfold overF
    rw [List.take_succ_eq_append_getElem hk, List.filter_append]
    rw [List.getD_eq_getElem?_getD, List.getElem?_eq_getElem hk] at h
    simp only [Option.getD_some] at h
    rw [show ((dots f)[k].1, (dots f)[k].2) = (dots f)[k] from rfl] at h
    simp [h]
theorem overF_all (q : Nat × Nat → Bool) (f : List Nat) {n : Nat} (hn : (dots f).length = n) : overF q f n = mk fun x y => hasD f x y && q (x, y) := by
  subst hn
  unfold overF putAll
  rw [List.take_of_length_le (Nat.le_refl _)]
  refine mk_congr fun x y hx hy => ?_
  rw [Bool.eq_iff_iff, List.any_map, List.any_filter, any_dots, Bool.and_eq_true]
  constructor
  · rintro ⟨x', y', h1, h2, h3, h4⟩
    simp at h4
    obtain ⟨h4, h5, h6⟩ := h4
    obtain rfl : x' = x := by omega
    obtain rfl : y' = y := by omega
    exact ⟨h3, h4⟩
  · rintro ⟨h3, h4⟩
    exact ⟨x, y, hx, hy, h3, by simp [h4]⟩

end Go.Proofs.Ytdiphapcjafbaaa
