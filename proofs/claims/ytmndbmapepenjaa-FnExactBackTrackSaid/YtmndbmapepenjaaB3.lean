/- The dots of a frame, one by one; no condition. -/
import Derived.Test.YtmndbmapepenjaaB2
import Derived.Test.YtmndbmapepenjaaSlice
namespace Go.Proofs.Ytmndbmapepenjaa
open Go.RowKit
set_option linter.unusedSimpArgs false
set_option linter.unusedVariables false

/-- The cells of a list of dots. -/
def dtv (l : List (Nat × Nat)) : List Value := l.flatMap fun d => [.int .i8 (d.1 : Int), .int .i8 (d.2 : Int)]
theorem dtv_length (l : List (Nat × Nat)) : (dtv l).length = l.length * 2 := by
  induction l with
  | nil => rfl
  | cons d l ih => simp only [dtv, List.flatMap_cons, List.length_append, List.length_cons, List.length_nil] at ih ⊢; omega
theorem dtv_append (l m : List (Nat × Nat)) : dtv (l ++ m) = dtv l ++ dtv m := by simp [dtv]
theorem dtv_one (l : List (Nat × Nat)) : ∀ v ∈ dtv l, v.oneCell' = true := by
  intro v hv
  simp only [dtv, List.mem_flatMap] at hv
  obtain ⟨d, _, hd⟩ := hv
  simp at hd
  rcases hd with rfl | rfl <;> rfl
theorem dtv_get (l : List (Nat × Nat)) : ∀ (i : Nat), i < l.length → (dtv l)[i * 2]? = some (.int .i8 ((l.getD i (0, 0)).1 : Int)) ∧ (dtv l)[i * 2 + 1]? = some (.int .i8 ((l.getD i (0, 0)).2 : Int)) := by
  induction l with
  | nil => intro i hi; simp at hi
  | cons d l ih =>
    intro i hi
    cases i with
    | zero => simp [dtv]
    | succ i =>
      have := ih i (by simpa using hi)
      simp only [dtv, List.flatMap_cons] at this ⊢
      rw [List.getElem?_append_right (by simp; omega), List.getElem?_append_right (by simp; omega)]
      simp only [List.length_cons, List.length_nil]
      rw [show (i + 1) * 2 - (0 + 1 + 1) = i * 2 by omega, show (i + 1) * 2 + 1 - (0 + 1 + 1) = i * 2 + 1 by omega]
      simpa using this
theorem built_dot (x y : Int) : Try.prog.built 107 [(0, .int .i8 x), (1, .int .i8 y)] = some [Value.int .i8 x, .int .i8 y].toArray := by kernel_rfl
theorem i8_wrap {n : Int} (h0 : -128 ≤ n) (h1 : n < 128) : IntKind.i8.wrap n = n := by
  simp [IntKind.wrap, IntKind.bits, IntKind.signed]; omega
def DotsPost (f : List Nat) (w : World) (e : Ending) (w' : World) : Prop := ∃ v, e = .returned v ∧ Gives 107 2 (dots f).length (dtv (dots f)) w v w' ∧ Keep [] w w'

set_option maxRecDepth 100000 in
theorem l01Dots_c (f : List Nat) (ok : FrOk f) (b o : Nat) (w : World) (hb : Cl w b o (frv f)) :
    Calls Try.prog 94 #[.pointer (some ⟨b, o, none⟩)] w (DotsPost f w) := by
  have hf := ok.len
  have st := St.start w
  go_enter Try.func94, Try.ntmps94
  go_wp2_with (first | ((with_reducible refine gate_bsl rfl ?_); refine wpl_buildSlice0 rfl _ rfl tDotS st ?_; clear st; intro B1 _ st))
  go_loopw [3, 4] (fun v i wr => ∃ (y g cap : Nat) (spare : List Value), y ≤ 12 ∧ i = .int .i64 y ∧ v = .slice (some ⟨g, 0, none⟩) (dotsTo f (12 * y)).length cap ∧
    St [] w wr [(g, dtv (dotsTo f (12 * y)) ++ spare, 107)] ∧ (dtv (dotsTo f (12 * y)) ++ spare).length = cap * 2 ∧ cap ≤ maxLen) (fun _ i _ => 12 - (intOf i).toNat)
  case atStart => exact ⟨0, B1, 0, [], by omega, rfl, rfl, st, rfl, Nat.zero_le _⟩
  case round =>
    clear st
    obtain ⟨y, g, cap, spare, hy, rfl, rfl, st, hcap, hcm⟩ := hrel
    by_cases hly : y < 12
    · obtain ⟨wo, rfl⟩ : ∃ wo : World, wo = wr := ⟨_, rfl⟩
      have hdy : decide ((y : Int) < 12) = true := by simp; omega
      have hcy := i8_wrap (n := (y : Int)) (by omega) (by omega)
      go_wp2_with fail
      go_loopw [3, 5] (fun v i wr => ∃ (x g cap : Nat) (spare : List Value), x ≤ 12 ∧ i = .int .i64 x ∧ v = .slice (some ⟨g, 0, none⟩) (dotsTo f (12 * y + x)).length cap ∧
        St [] w wr [(g, dtv (dotsTo f (12 * y + x)) ++ spare, 107)] ∧ (dtv (dotsTo f (12 * y + x)) ++ spare).length = cap * 2 ∧ cap ≤ maxLen) (fun _ i _ => 12 - (intOf i).toNat)
      case atStart => exact ⟨0, g, cap, spare, by omega, rfl, rfl, st, hcap, hcm⟩
      case round =>
        clear st hcap hcm
        obtain ⟨x, g, cap, spare, hx, rfl, rfl, st, hcap, hcm⟩ := hrel
        have HC := hid hcap
        clear hcap
        by_cases hlx : x < 12
        · have hcx := i8_wrap (n := (x : Int)) (by omega) (by omega)
          have hlen := dotsTo_length f (12 * y + x)
          by_cases hp : hasD f x y = true
          · have hI : hasI f x y = true := by rw [hasI_nat]; exact hp
            have HD := hid (dotsTo_hit f hlx hp)
            go_wp2_with (first | (go_at_call 78; refine (l01Has_c f ok b o x y _ (hb.keep st.keep (by simp))).mono ?_; rintro _ _ ⟨rfl, hk⟩; replace st := st.call hk; clear hk) | ((with_reducible refine gate_build rfl ?_); refine wpl_build rfl _ [(0, _), (1, _)] rfl _ (built_dot _ _) ?_) | ((with_reducible refine gate_bsl rfl ?_); refine wpl_buildSlice1 rfl _ _ rfl _ rfl _ rfl tDotS rfl (by decide) st ?_; clear st; intro _ _ st) | ((with_reducible refine gate_call rfl ?_); (refine wpl_append rfl _ _ _ rfl tDotS _ _ _ rfl _ _ _ rfl [.int .i8 (x : Int), .int .i8 (y : Int)] (by rfl) (fun j u hj => by rw [Addr.add_lit, Nat.zero_add]; exact (st.get (by repeat (first | exact At.here | apply At.there))).cellv hj) (by simp [Value.oneCell']) st (dtv (dotsTo f (12 * y + x))) spare _ (fun _ _ => (by repeat (first | exact Upd.here | apply Upd.there))) (dtv_length _) HC.out hcm (by unfold maxLen; omega) (by omega) ?_); clear st; intro g2 cap2 spare2 _ st hcap2 hcm2))
            go_roundw
            case rel =>
              have e : dtv (dotsTo f (12 * y + (x + 1))) = dtv (dotsTo f (12 * y + x)) ++ [.int .i8 (x : Int), .int .i8 (y : Int)] := by rw [HD.out, dtv_append]; rfl
              exact ⟨x + 1, g2, cap2, spare2, by omega, by go_num, by rw [HD.out, List.length_append]; rfl, by rw [e]; exact st.drop, by rw [e]; exact hcap2, hcm2⟩
            case measure => simp [intOf]; omega
          · have hp' : hasD f x y = false := by simpa using hp
            clear hp
            have hI : hasI f x y = false := by rw [hasI_nat]; exact hp'
            have HD := hid (dotsTo_miss f hlx hp')
            clear hp'
            go_wp2_with (first | (go_at_call 78; refine (l01Has_c f ok b o x y _ (hb.keep st.keep (by simp))).mono ?_; rintro _ _ ⟨rfl, hk⟩; replace st := st.call hk; clear hk))
            go_roundw
            case rel => exact ⟨x + 1, g, cap, spare, by omega, by go_num, by rw [HD.out], by rw [HD.out]; exact st, by rw [HD.out]; exact HC.out, hcm⟩
            case measure => simp [intOf]; omega
        · obtain rfl : x = 12 := by omega
          go_wp2_with fail
          go_roundw
          case rel => exact ⟨y + 1, g, cap, spare, by omega, by go_num, by rw [show 12 * (y + 1) = 12 * y + 12 by omega], by rw [show 12 * (y + 1) = 12 * y + 12 by omega]; exact st, by rw [show 12 * (y + 1) = 12 * y + 12 by omega]; exact HC.out, hcm⟩
          case measure => simp [intOf]; omega
    · obtain rfl : y = 12 := by omega
      have HC := hid hcap
      clear hcap
      go_wp2_with fail
      go_ret
      exact ⟨_, rfl, ⟨g, cap, spare, rfl, (st.ge _ List.mem_cons_self).elim id (fun h => by simp at h), st.get .here, HC.out, hcm⟩, st.keep⟩
set_option maxRecDepth 100000 in
theorem dots_c (f : List Nat) (ok : FrOk f) (w : World) :
    Calls Try.prog 82 #[.agg (frv f).toArray] w (DotsPost f w) := by
  have hf := ok.len
  have st := St.start w
  go_enter Try.func82, Try.ntmps82
  go_wp2_with (first | ((with_reducible refine gate_box rfl ?_); refine wpl_box rfl _ _ rfl _ rfl _ rfl st ?_; clear st; intro B0 _ st) | ((with_reducible refine gate_bsl rfl ?_); refine wpl_buildSlice0 rfl _ rfl tDotS st ?_; clear st; intro B1 _ st))
  go_loopw [3, 7] (fun v i wr => ∃ (y g cap : Nat) (spare : List Value), y ≤ 12 ∧ i = .int .i64 y ∧ v = .slice (some ⟨g, 0, none⟩) (dotsTo f (12 * y)).length cap ∧
    St [] w wr [(g, dtv (dotsTo f (12 * y)) ++ spare, 107), (B0, frv f, 44)] ∧ (dtv (dotsTo f (12 * y)) ++ spare).length = cap * 2 ∧ cap ≤ maxLen) (fun _ i _ => 12 - (intOf i).toNat)
  case atStart => exact ⟨0, B1, 0, [], by omega, rfl, rfl, st, rfl, Nat.zero_le _⟩
  case round =>
    clear st
    obtain ⟨y, g, cap, spare, hy, rfl, rfl, st, hcap, hcm⟩ := hrel
    by_cases hly : y < 12
    · obtain ⟨wo, rfl⟩ : ∃ wo : World, wo = wr := ⟨_, rfl⟩
      have hdy : decide ((y : Int) < 12) = true := by simp; omega
      have hcy := i8_wrap (n := (y : Int)) (by omega) (by omega)
      go_wp2_with fail
      go_loopw [3, 10] (fun v i wr => ∃ (x g cap : Nat) (spare : List Value), x ≤ 12 ∧ i = .int .i64 x ∧ v = .slice (some ⟨g, 0, none⟩) (dotsTo f (12 * y + x)).length cap ∧
        St [] w wr [(g, dtv (dotsTo f (12 * y + x)) ++ spare, 107), (B0, frv f, 44)] ∧ (dtv (dotsTo f (12 * y + x)) ++ spare).length = cap * 2 ∧ cap ≤ maxLen) (fun _ i _ => 12 - (intOf i).toNat)
      case atStart => exact ⟨0, g, cap, spare, by omega, rfl, rfl, st, hcap, hcm⟩
      case round =>
        clear st hcap hcm
        obtain ⟨x, g, cap, spare, hx, rfl, rfl, st, hcap, hcm⟩ := hrel
        have HC := hid hcap
        clear hcap
        by_cases hlx : x < 12
        · have hcx := i8_wrap (n := (x : Int)) (by omega) (by omega)
          have hlen := dotsTo_length f (12 * y + x)
          by_cases hp : hasD f x y = true
          · have hI : hasI f x y = true := by rw [hasI_nat]; exact hp
            have HD := hid (dotsTo_hit f hlx hp)
            go_wp2_with (first | ((with_reducible refine gate_load rfl ?_); refine wpl_loadAll rfl _ _ rfl _ rfl tFr.toAggT _ _ (st.get (by repeat (first | exact At.here | apply At.there))) (by simp [frv_length, zf_length, mk_length, withD_length, part_length, rowsOf_length, *]) ?_) | (go_at_call 92; refine (has_c f ok x y _).mono ?_; rintro _ _ ⟨rfl, hk⟩; replace st := st.call hk; clear hk) | ((with_reducible refine gate_build rfl ?_); refine wpl_build rfl _ [(0, _), (1, _)] rfl _ (built_dot _ _) ?_) | ((with_reducible refine gate_bsl rfl ?_); refine wpl_buildSlice1 rfl _ _ rfl _ rfl _ rfl tDotS rfl (by decide) st ?_; clear st; intro _ _ st) | ((with_reducible refine gate_call rfl ?_); (refine wpl_append rfl _ _ _ rfl tDotS _ _ _ rfl _ _ _ rfl [.int .i8 (x : Int), .int .i8 (y : Int)] (by rfl) (fun j u hj => by rw [Addr.add_lit, Nat.zero_add]; exact (st.get (by repeat (first | exact At.here | apply At.there))).cellv hj) (by simp [Value.oneCell']) st (dtv (dotsTo f (12 * y + x))) spare _ (fun _ _ => (by repeat (first | exact Upd.here | apply Upd.there))) (dtv_length _) HC.out hcm (by unfold maxLen; omega) (by omega) ?_); clear st; intro g2 cap2 spare2 _ st hcap2 hcm2))
            go_roundw
            case rel =>
              have e : dtv (dotsTo f (12 * y + (x + 1))) = dtv (dotsTo f (12 * y + x)) ++ [.int .i8 (x : Int), .int .i8 (y : Int)] := by rw [HD.out, dtv_append]; rfl
              exact ⟨x + 1, g2, cap2, spare2, by omega, by go_num, by rw [HD.out, List.length_append]; rfl, by rw [e]; exact st.drop, by rw [e]; exact hcap2, hcm2⟩
            case measure => simp [intOf]; omega
          · have hp' : hasD f x y = false := by simpa using hp
            clear hp
            have hI : hasI f x y = false := by rw [hasI_nat]; exact hp'
            have HD := hid (dotsTo_miss f hlx hp')
            clear hp'
            go_wp2_with (first | ((with_reducible refine gate_load rfl ?_); refine wpl_loadAll rfl _ _ rfl _ rfl tFr.toAggT _ _ (st.get (by repeat (first | exact At.here | apply At.there))) (by simp [frv_length, zf_length, mk_length, withD_length, part_length, rowsOf_length, *]) ?_) | (go_at_call 92; refine (has_c f ok x y _).mono ?_; rintro _ _ ⟨rfl, hk⟩; replace st := st.call hk; clear hk))
            go_roundw
            case rel => exact ⟨x + 1, g, cap, spare, by omega, by go_num, by rw [HD.out], by rw [HD.out]; exact st, by rw [HD.out]; exact HC.out, hcm⟩
            case measure => simp [intOf]; omega
        · obtain rfl : x = 12 := by omega
          go_wp2_with fail
          go_roundw
          case rel => exact ⟨y + 1, g, cap, spare, by omega, by go_num, by rw [show 12 * (y + 1) = 12 * y + 12 by omega], by rw [show 12 * (y + 1) = 12 * y + 12 by omega]; exact st, by rw [show 12 * (y + 1) = 12 * y + 12 by omega]; exact HC.out, hcm⟩
          case measure => simp [intOf]; omega
    · obtain rfl : y = 12 := by omega
      have HC := hid hcap
      clear hcap
      go_wp2_with fail
      go_ret
      exact ⟨_, rfl, ⟨g, cap, spare, rfl, (st.ge _ List.mem_cons_self).elim id (fun h => by simp at h), st.get .here, HC.out, hcm⟩, st.keep⟩
end Go.Proofs.Ytmndbmapepenjaa
