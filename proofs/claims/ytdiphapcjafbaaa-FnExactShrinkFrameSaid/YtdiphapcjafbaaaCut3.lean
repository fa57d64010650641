/- Cut by a box: the program's closure; no condition. -/
import Derived.Test.YtdiphapcjafbaaaCut2
import Derived.Test.YtdiphapcjafbaaaOrdH
namespace Go.Proofs.Ytdiphapcjafbaaa
open Go.RowKit
set_option linter.unusedSimpArgs false
set_option linter.unusedVariables false

theorem has_v {f : List Nat} (ok : FrOk f) {a b : Nat} {v : Bool} (h : hasD f a b = v) (w : World) :
    Calls Try.prog 82 #[.agg (frv f).toArray, .int .i64 a, .int .i64 b] w fun e w' => e = .returned (.bool v) ∧ Keep [] w w' := by
  rw [← h, ← hasI_nat]; exact has_c f ok a b w
set_option maxHeartbeats 1000000 in
set_option maxRecDepth 100000 in
theorem Cut1_c (f : List Nat) (ok : FrOk f) (x y m n : Int) (b1 b2 b3 b4 b5 : Nat) (T1 T2 T3 T4 T5 : TypeId) (a b : Nat) (w : World) (hb1 : Blk w b1 (frv f) T1) (hb2 : Blk w b2 [.int .i64 x] T2) (hb3 : Blk w b3 [.int .i64 (x + m - 1)] T3) (hb4 : Blk w b4 [.int .i64 y] T4) (hb5 : Blk w b5 [.int .i64 (y + n - 1)] T5) :
    Calls Try.prog 116 #[.int .i64 a, .int .i64 b, .pointer (some ⟨b1, 0, none⟩), .pointer (some ⟨b2, 0, none⟩), .pointer (some ⟨b3, 0, none⟩), .pointer (some ⟨b4, 0, none⟩), .pointer (some ⟨b5, 0, none⟩)] w fun e' w' => e' = .returned (.bool (cutP f x y m n a b)) ∧ Keep [] w w' := by
  have hf := ok.len
  have st := St.start w
  unfold cutP inBox
  rcases Bool.eq_false_or_eq_true (hasD f a b) with h0 | h0
  · rcases Bool.eq_false_or_eq_true (inB a x (x + m - 1)) with h1 | h1
    · rcases Bool.eq_false_or_eq_true (inB b y (y + n - 1)) with h2 | h2
      · simp only [h0, h1, h2, Bool.and_self]
        go_enter Try.func116, Try.ntmps116
        go_wp2_with (first | (refine wpl_unguard rfl ?_) | ((with_reducible refine gate_dst (N := 10) rfl ?_); ((with_reducible refine gate_load rfl ?_); refine wpl_loadC rfl _ _ rfl _ rfl tFr.toAggT (frv f) (by simp [frv_length, *]) (fun j v hj => by rw [Addr.add_lit, Nat.zero_add]; exact (st.arg hb1 (by simp)).cellv hj) ?_)) | ((with_reducible refine gate_dst (N := 16) rfl ?_); ((with_reducible refine gate_load rfl ?_); refine wpl_load1 rfl _ _ rfl _ rfl tI64 _ ((st.arg hb2 (by simp)).cellv rfl) ?_)) | ((with_reducible refine gate_dst (N := 17) rfl ?_); ((with_reducible refine gate_load rfl ?_); refine wpl_load1 rfl _ _ rfl _ rfl tI64 _ ((st.arg hb3 (by simp)).cellv rfl) ?_)) | ((with_reducible refine gate_dst (N := 22) rfl ?_); ((with_reducible refine gate_load rfl ?_); refine wpl_load1 rfl _ _ rfl _ rfl tI64 _ ((st.arg hb4 (by simp)).cellv rfl) ?_)) | ((with_reducible refine gate_dst (N := 23) rfl ?_); ((with_reducible refine gate_load rfl ?_); refine wpl_load1 rfl _ _ rfl _ rfl tI64 _ ((st.arg hb5 (by simp)).cellv rfl) ?_)) | (go_at_call 82; refine (has_v ok h0 _).mono ?_; rintro _ _ ⟨rfl, hk⟩; replace st := st.call hk; clear hk) | (go_at_call 117; (with_reducible refine gate_int (n := (a : Int)) ?_); refine (inRange_v h1 _).mono ?_; rintro _ _ ⟨rfl, hk⟩; replace st := st.call hk; clear hk) | (go_at_call 117; (with_reducible refine gate_int (n := (b : Int)) ?_); refine (inRange_v h2 _).mono ?_; rintro _ _ ⟨rfl, hk⟩; replace st := st.call hk; clear hk))
        go_ret
        exact ⟨rfl, st.keep⟩
      · simp only [h0, h1, h2, Bool.and_self, Bool.and_false]
        go_enter Try.func116, Try.ntmps116
        go_wp2_with (first | (refine wpl_unguard rfl ?_) | ((with_reducible refine gate_dst (N := 10) rfl ?_); ((with_reducible refine gate_load rfl ?_); refine wpl_loadC rfl _ _ rfl _ rfl tFr.toAggT (frv f) (by simp [frv_length, *]) (fun j v hj => by rw [Addr.add_lit, Nat.zero_add]; exact (st.arg hb1 (by simp)).cellv hj) ?_)) | ((with_reducible refine gate_dst (N := 16) rfl ?_); ((with_reducible refine gate_load rfl ?_); refine wpl_load1 rfl _ _ rfl _ rfl tI64 _ ((st.arg hb2 (by simp)).cellv rfl) ?_)) | ((with_reducible refine gate_dst (N := 17) rfl ?_); ((with_reducible refine gate_load rfl ?_); refine wpl_load1 rfl _ _ rfl _ rfl tI64 _ ((st.arg hb3 (by simp)).cellv rfl) ?_)) | ((with_reducible refine gate_dst (N := 22) rfl ?_); ((with_reducible refine gate_load rfl ?_); refine wpl_load1 rfl _ _ rfl _ rfl tI64 _ ((st.arg hb4 (by simp)).cellv rfl) ?_)) | ((with_reducible refine gate_dst (N := 23) rfl ?_); ((with_reducible refine gate_load rfl ?_); refine wpl_load1 rfl _ _ rfl _ rfl tI64 _ ((st.arg hb5 (by simp)).cellv rfl) ?_)) | (go_at_call 82; refine (has_v ok h0 _).mono ?_; rintro _ _ ⟨rfl, hk⟩; replace st := st.call hk; clear hk) | (go_at_call 117; (with_reducible refine gate_int (n := (a : Int)) ?_); refine (inRange_v h1 _).mono ?_; rintro _ _ ⟨rfl, hk⟩; replace st := st.call hk; clear hk) | (go_at_call 117; (with_reducible refine gate_int (n := (b : Int)) ?_); refine (inRange_v h2 _).mono ?_; rintro _ _ ⟨rfl, hk⟩; replace st := st.call hk; clear hk))
        go_ret
        exact ⟨rfl, st.keep⟩
    · simp only [h0, h1, Bool.false_and, Bool.and_false]
      go_enter Try.func116, Try.ntmps116
      go_wp2_with (first | (refine wpl_unguard rfl ?_) | ((with_reducible refine gate_dst (N := 10) rfl ?_); ((with_reducible refine gate_load rfl ?_); refine wpl_loadC rfl _ _ rfl _ rfl tFr.toAggT (frv f) (by simp [frv_length, *]) (fun j v hj => by rw [Addr.add_lit, Nat.zero_add]; exact (st.arg hb1 (by simp)).cellv hj) ?_)) | ((with_reducible refine gate_dst (N := 16) rfl ?_); ((with_reducible refine gate_load rfl ?_); refine wpl_load1 rfl _ _ rfl _ rfl tI64 _ ((st.arg hb2 (by simp)).cellv rfl) ?_)) | ((with_reducible refine gate_dst (N := 17) rfl ?_); ((with_reducible refine gate_load rfl ?_); refine wpl_load1 rfl _ _ rfl _ rfl tI64 _ ((st.arg hb3 (by simp)).cellv rfl) ?_)) | (go_at_call 82; refine (has_v ok h0 _).mono ?_; rintro _ _ ⟨rfl, hk⟩; replace st := st.call hk; clear hk) | (go_at_call 117; (with_reducible refine gate_int (n := (a : Int)) ?_); refine (inRange_v h1 _).mono ?_; rintro _ _ ⟨rfl, hk⟩; replace st := st.call hk; clear hk))
      go_ret
      exact ⟨rfl, st.keep⟩
  · simp only [h0, Bool.false_and]
    go_enter Try.func116, Try.ntmps116
    go_wp2_with (first | ((with_reducible refine gate_dst (N := 10) rfl ?_); ((with_reducible refine gate_load rfl ?_); refine wpl_loadC rfl _ _ rfl _ rfl tFr.toAggT (frv f) (by simp [frv_length, *]) (fun j v hj => by rw [Addr.add_lit, Nat.zero_add]; exact (st.arg hb1 (by simp)).cellv hj) ?_)) | (go_at_call 82; refine (has_v ok h0 _).mono ?_; rintro _ _ ⟨rfl, hk⟩; replace st := st.call hk; clear hk))
    go_ret
    exact ⟨rfl, st.keep⟩
end Go.Proofs.Ytdiphapcjafbaaa
