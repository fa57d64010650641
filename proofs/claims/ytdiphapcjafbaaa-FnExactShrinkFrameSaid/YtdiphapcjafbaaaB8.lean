/- Rolled frames; no condition. -/
import Derived.Test.YtdiphapcjafbaaaB7
namespace Go.Proofs.Ytdiphapcjafbaaa
open Go.RowKit
set_option linter.unusedSimpArgs false
set_option linter.unusedVariables false

theorem gate_int {P : Program} {w : World} {F : FuncId} {n lo hi : Int} {R : Ending → World → Prop} (h : Calls P F #[.int .i64 n, .int .i64 lo, .int .i64 hi] w R) : Calls P F #[.int .i64 n, .int .i64 lo, .int .i64 hi] w R := h
theorem l00In_v {n lo hi : Int} {v : Bool} (h : inB n lo hi = v) (w : World) : Calls Try.prog 115 #[.int .i64 n, .int .i64 lo, .int .i64 hi] w fun e w' => e = .returned (.bool v) ∧ Keep [] w w' := by
  subst h; exact l00In_c n lo hi w
theorem inRange_v {n lo hi : Int} {v : Bool} (h : inB n lo hi = v) (w : World) : Calls Try.prog 117 #[.int .i64 n, .int .i64 lo, .int .i64 hi] w fun e w' => e = .returned (.bool v) ∧ Keep [] w w' := by
  subst h; exact inRange_c n lo hi w
theorem l01Ok_w {f : List Nat} {v : Bool} (h : okB f = v) (hf : f.length = 12) (b o : Nat) (w : World) (hb : Cl w b o (frv f)) :
    Calls Try.prog 73 #[.pointer (some ⟨b, o, none⟩)] w fun e w' => e = .returned (.bool v) ∧ Keep [] w w' := by
  subst h; exact l01Ok_c f hf b o w hb
theorem ValidFrame_v {f : List Nat} {v : Bool} (h : okB f = v) (hf : f.length = 12) (w : World) :
    Calls Try.prog 25 #[.agg (frv f).toArray] w fun e w' => e = .returned (.bool v) ∧ Keep [] w w' := by
  subst h; exact ValidFrame_c f hf w
theorem run_rem12 {P : Program} {T : TypeId} {a : Int} (w : World) : (binOp .rem T (.int .i64 a) (.int .i64 12)).run P w = .ok (.int .i64 (a.tmod 12)) w := by
  have e := IntWalk.i64_in (a.tmod 12) (by
    by_cases h : 0 ≤ a
    · rw [Int.tmod_eq_emod_of_nonneg h]; omega
    · have h1 : a.tmod 12 = -((-a).tmod 12) := by rw [Int.neg_tmod]; omega
      rw [h1, Int.tmod_eq_emod_of_nonneg (by omega)]; omega)
  go_simp

/-- The code of a question about a way. -/
def wayC (f : List Nat) (e s : Int) : Int := if okB f = true then (if inB e (-12) 12 = true ∧ inB s (-12) 12 = true then 0 else 2) else 1
theorem wayC_0 {f : List Nat} {e s : Int} (h : okB f = true) (he : inB e (-12) 12 = true) (hs : inB s (-12) 12 = true) : wayC f e s = 0 := by simp [wayC, h, he, hs]
theorem wayC_1 {f : List Nat} {e s : Int} (h : okB f = false) : wayC f e s = 1 := by simp [wayC, h]
theorem wayC_2 {f : List Nat} {e s : Int} (h : okB f = true) (he : inB e (-12) 12 = false) : wayC f e s = 2 := by simp [wayC, h, he]
theorem wayC_3 {f : List Nat} {e s : Int} (h : okB f = true) (hs : inB s (-12) 12 = false) : wayC f e s = 2 := by simp [wayC, h, hs]
theorem wayC_in {f : List Nat} {e s : Int} (h : wayC f e s = 0) : -12 ≤ e ∧ e ≤ 12 ∧ -12 ≤ s ∧ s ≤ 12 := by
  unfold wayC at h
  split at h
  · split at h
    · rename_i h1
      have h2 := h1.1
      have h3 := h1.2
      simp [inB] at h2 h3
      omega
    · cases h
  · cases h
set_option maxRecDepth 100000 in
theorem l01Way_c (f : List Nat) (ok : FrOk f) (b o : Nat) (e s : Int) (w : World) (hb : Cl w b o (frv f)) :
    Calls Try.prog 111 #[.pointer (some ⟨b, o, none⟩), .int .i64 e, .int .i64 s] w fun e' w' => e' = .returned (.int .i64 (wayC f e s)) ∧ Keep [] w w' := by
  have hf := ok.len
  have st := St.start w
  rcases Bool.eq_false_or_eq_true (okB f) with h | h
  · rcases Bool.eq_false_or_eq_true (inB e (-12) 12) with he | he
    · rcases Bool.eq_false_or_eq_true (inB s (-12) 12) with hs | hs
      · rw [wayC_0 h he hs]
        go_enter Try.func111, Try.ntmps111
        go_wp2_with (first | (refine wpl_unguard rfl ?_) | (go_at_call 73; refine (l01Ok_w h hf _ _ _ hb).mono ?_; rintro _ _ ⟨rfl, hk⟩; replace st := st.call hk; clear hk) | (go_at_call 115; (with_reducible refine gate_int (n := e) ?_); refine (l00In_v he _).mono ?_; rintro _ _ ⟨rfl, hk⟩; replace st := st.call hk; clear hk) | (go_at_call 115; (with_reducible refine gate_int (n := s) ?_); refine (l00In_v hs _).mono ?_; rintro _ _ ⟨rfl, hk⟩; replace st := st.call hk; clear hk))
        go_ret
        exact ⟨rfl, st.keep⟩
      · rw [wayC_3 h hs]
        go_enter Try.func111, Try.ntmps111
        go_wp2_with (first | (refine wpl_unguard rfl ?_) | (go_at_call 73; refine (l01Ok_w h hf _ _ _ hb).mono ?_; rintro _ _ ⟨rfl, hk⟩; replace st := st.call hk; clear hk) | (go_at_call 115; (with_reducible refine gate_int (n := e) ?_); refine (l00In_v he _).mono ?_; rintro _ _ ⟨rfl, hk⟩; replace st := st.call hk; clear hk) | (go_at_call 115; (with_reducible refine gate_int (n := s) ?_); refine (l00In_v hs _).mono ?_; rintro _ _ ⟨rfl, hk⟩; replace st := st.call hk; clear hk))
        go_ret
        exact ⟨rfl, st.keep⟩
    · rw [wayC_2 h he]
      go_enter Try.func111, Try.ntmps111
      go_wp2_with (first | (refine wpl_unguard rfl ?_) | (go_at_call 73; refine (l01Ok_w h hf _ _ _ hb).mono ?_; rintro _ _ ⟨rfl, hk⟩; replace st := st.call hk; clear hk) | (go_at_call 115; (with_reducible refine gate_int (n := e) ?_); refine (l00In_v he _).mono ?_; rintro _ _ ⟨rfl, hk⟩; replace st := st.call hk; clear hk))
      go_ret
      exact ⟨rfl, st.keep⟩
  · rw [wayC_1 h]
    go_enter Try.func111, Try.ntmps111
    go_wp2_with (first | (go_at_call 73; refine (l01Ok_w h hf _ _ _ hb).mono ?_; rintro _ _ ⟨rfl, hk⟩; replace st := st.call hk; clear hk))
    go_ret
    exact ⟨rfl, st.keep⟩
set_option maxRecDepth 100000 in
theorem checkMove_c (f : List Nat) (ok : FrOk f) (e s : Int) (w : World) :
    Calls Try.prog 112 #[.agg (frv f).toArray, .int .i64 e, .int .i64 s] w fun e' w' => e' = .returned (.int .i64 (wayC f e s)) ∧ Keep [] w w' := by
  have hf := ok.len
  have st := St.start w
  rcases Bool.eq_false_or_eq_true (okB f) with h | h
  · rcases Bool.eq_false_or_eq_true (inB e (-12) 12) with he | he
    · rcases Bool.eq_false_or_eq_true (inB s (-12) 12) with hs | hs
      · rw [wayC_0 h he hs]
        go_enter Try.func112, Try.ntmps112
        go_wp2_with (first | (refine wpl_unguard rfl ?_) | ((with_reducible refine gate_box rfl ?_); refine wpl_box rfl _ _ rfl _ rfl _ rfl st ?_; clear st; intro _ _ st) | ((with_reducible refine gate_load rfl ?_); refine wpl_loadAll rfl _ _ rfl _ rfl tFr.toAggT _ _ (st.get (by repeat (first | exact At.here | apply At.there))) (by simp [frv_length, zf_length, mk_length, withD_length, part_length, rowsOf_length, *]) ?_) | (go_at_call 25; refine (ValidFrame_v h hf _).mono ?_; rintro _ _ ⟨rfl, hk⟩; replace st := st.call hk; clear hk) | (go_at_call 117; (with_reducible refine gate_int (n := e) ?_); refine (inRange_v he _).mono ?_; rintro _ _ ⟨rfl, hk⟩; replace st := st.call hk; clear hk) | (go_at_call 117; (with_reducible refine gate_int (n := s) ?_); refine (inRange_v hs _).mono ?_; rintro _ _ ⟨rfl, hk⟩; replace st := st.call hk; clear hk))
        go_ret
        exact ⟨rfl, st.keep⟩
      · rw [wayC_3 h hs]
        go_enter Try.func112, Try.ntmps112
        go_wp2_with (first | (refine wpl_unguard rfl ?_) | ((with_reducible refine gate_box rfl ?_); refine wpl_box rfl _ _ rfl _ rfl _ rfl st ?_; clear st; intro _ _ st) | ((with_reducible refine gate_load rfl ?_); refine wpl_loadAll rfl _ _ rfl _ rfl tFr.toAggT _ _ (st.get (by repeat (first | exact At.here | apply At.there))) (by simp [frv_length, zf_length, mk_length, withD_length, part_length, rowsOf_length, *]) ?_) | (go_at_call 25; refine (ValidFrame_v h hf _).mono ?_; rintro _ _ ⟨rfl, hk⟩; replace st := st.call hk; clear hk) | (go_at_call 117; (with_reducible refine gate_int (n := e) ?_); refine (inRange_v he _).mono ?_; rintro _ _ ⟨rfl, hk⟩; replace st := st.call hk; clear hk) | (go_at_call 117; (with_reducible refine gate_int (n := s) ?_); refine (inRange_v hs _).mono ?_; rintro _ _ ⟨rfl, hk⟩; replace st := st.call hk; clear hk))
        go_ret
        exact ⟨rfl, st.keep⟩
    · rw [wayC_2 h he]
      go_enter Try.func112, Try.ntmps112
      go_wp2_with (first | (refine wpl_unguard rfl ?_) | ((with_reducible refine gate_box rfl ?_); refine wpl_box rfl _ _ rfl _ rfl _ rfl st ?_; clear st; intro _ _ st) | ((with_reducible refine gate_load rfl ?_); refine wpl_loadAll rfl _ _ rfl _ rfl tFr.toAggT _ _ (st.get (by repeat (first | exact At.here | apply At.there))) (by simp [frv_length, zf_length, mk_length, withD_length, part_length, rowsOf_length, *]) ?_) | (go_at_call 25; refine (ValidFrame_v h hf _).mono ?_; rintro _ _ ⟨rfl, hk⟩; replace st := st.call hk; clear hk) | (go_at_call 117; (with_reducible refine gate_int (n := e) ?_); refine (inRange_v he _).mono ?_; rintro _ _ ⟨rfl, hk⟩; replace st := st.call hk; clear hk))
      go_ret
      exact ⟨rfl, st.keep⟩
  · rw [wayC_1 h]
    go_enter Try.func112, Try.ntmps112
    go_wp2_with (first | ((with_reducible refine gate_box rfl ?_); refine wpl_box rfl _ _ rfl _ rfl _ rfl st ?_; clear st; intro _ _ st) | ((with_reducible refine gate_load rfl ?_); refine wpl_loadAll rfl _ _ rfl _ rfl tFr.toAggT _ _ (st.get (by repeat (first | exact At.here | apply At.there))) (by simp [frv_length, zf_length, mk_length, withD_length, part_length, rowsOf_length, *]) ?_) | (go_at_call 25; refine (ValidFrame_v h hf _).mono ?_; rintro _ _ ⟨rfl, hk⟩; replace st := st.call hk; clear hk))
    go_ret
    exact ⟨rfl, st.keep⟩

def rolP (e s : Int) (f : List Nat) (x y : Nat) : Bool := hasI f (((x : Int) - e + 24).tmod 12) (((y : Int) - s + 24).tmod 12)
def rolT (e s : Int) (d : Nat × Nat) : Int × Int := (((d.1 : Int) + e + 12).tmod 12, ((d.2 : Int) + s + 12).tmod 12)
theorem rol_all (f : List Nat) {e s : Int} (h : -12 ≤ e ∧ e ≤ 12 ∧ -12 ≤ s ∧ s ≤ 12) : over (rolT e s) f (dots f).length = mk (rolP e s f) := over_all _ _ _ fun x y hx hy => by
  obtain ⟨g1, g2, g3, g4⟩ := h
  unfold rolP
  rw [hasI_in, Int.tmod_eq_emod_of_nonneg (by omega : (0 : Int) ≤ (x : Int) - e + 24), Int.tmod_eq_emod_of_nonneg (by omega : (0 : Int) ≤ (y : Int) - s + 24)]
  constructor
  · rintro ⟨h1, h2, h3, h4, h5⟩
    refine ⟨_, _, by omega, by omega, h5, ?_⟩
    unfold rolT
    simp only [Prod.mk.injEq]
    rw [Int.tmod_eq_emod_of_nonneg (by omega), Int.tmod_eq_emod_of_nonneg (by omega)]
    omega
  · rintro ⟨x', y', h1, h2, h3, h4⟩
    unfold rolT at h4
    simp only [Prod.mk.injEq] at h4
    rw [Int.tmod_eq_emod_of_nonneg (by omega), Int.tmod_eq_emod_of_nonneg (by omega)] at h4
    obtain ⟨h4, h5⟩ := h4
    refine ⟨by omega, by omega, by omega, by omega, ?_⟩
    rw [show (((x : Int) - e + 24) % 12).toNat = x' by omega, show (((y : Int) - s + 24) % 12).toNat = y' by omega]; exact h3
/-- What RollFrame answers. -/
def rolR (e s : Int) (f : List Nat) : List Nat := if wayC f e s = 0 then mk (rolP e s f) else zf
theorem rolR_ok (e s : Int) {f : List Nat} (ok : FrOk f) : FrOk (rolR e s f) := by
  unfold rolR
  split
  · exact mk_frOk _
  · exact zf_ok
set_option maxRecDepth 100000 in
theorem specRoll_c (f : List Nat) (ok : FrOk f) (e s : Int) (w : World) :
    Calls Try.prog 63 #[.agg (frv f).toArray, .int .i64 e, .int .i64 s] w fun e' w' => e' = .returned (.tuple #[.agg (frv (rolR e s f)).toArray, .int .i64 (wayC f e s)]) ∧ Keep [] w w' := by
  have hf := ok.len
  have st := St.start w
  unfold rolR
  by_cases hc : wayC f e s = 0
  · obtain ⟨he1, he2, hs1, hs2⟩ := wayC_in hc
    rw [if_pos hc, hc, ← rol_all f (wayC_in hc)]
    have hdl := dots_length f
    go_enter Try.func63, Try.ntmps63
    go_wp2_with (first | ((with_reducible refine gate_box rfl ?_); (with_reducible refine gate_dst (N := 3) rfl ?_); refine wpl_box rfl _ _ rfl _ rfl _ rfl st ?_; clear st; intro B1 _ st) | ((with_reducible refine gate_alloc rfl ?_); (with_reducible refine gate_dst (N := 6) rfl ?_); refine wpl_alloc rfl _ rfl tFr.toAggT st ?_; clear st; intro B2 _ st) | (go_at_call 111; refine (l01Way_c f ok _ _ e s _ (.of (st.get (.there .here)))).mono ?_; rintro _ _ ⟨rfl, hk⟩; replace st := st.call hk; clear hk) | ((with_reducible refine gate_build rfl ?_); refine wpl_zero rfl _ rfl _ tFrB ?_) | ((with_reducible refine gate_alloc rfl ?_); (with_reducible refine gate_dst (N := 9) rfl ?_); refine wpl_alloc rfl _ rfl tFr.toAggT st ?_; clear st; intro B4 _ st) | ((with_reducible refine gate_store rfl ?_); refine wpl_storeAll rfl _ _ _ rfl _ rfl _ rfl tFr.toAggT (by simp [frv_length, zf_length, mk_length, withD_length, part_length, rowsOf_length, *]) (frv_one _) st _ _ (by repeat (first | exact Upd.here | apply Upd.there)) (by simp [frv_length, zf_length, mk_length, withD_length, part_length, rowsOf_length, *]) ?_; clear st; intro _ st) | (go_at_call 94; refine (l01Dots_c f ok _ _ _ (.of (st.get (.there (.there .here))))).mono ?_; rintro _ _ ⟨v, rfl, ⟨g, cap, spare, rfl, hg, hbg, hcap, hcm⟩, hk⟩; replace st := st.adopt hk hg hbg; clear hk hg hbg hcap hcm))
    rw [← over_zero (rolT e s) f] at st
    go_loopw [11] (fun i wr => ∃ k : Nat, k ≤ (dots f).length ∧ i = .int .i64 k ∧ St [] w wr [(g, dtv (dots f) ++ spare, 88), (B4, frv (over (rolT e s) f k), 25), (B2, List.replicate 12 (Value.int .u16 0), 25), (B1, frv f, 25)]) (fun i _ => (dots f).length - (intOf i).toNat)
    case atStart => exact ⟨0, by omega, rfl, st⟩
    case round =>
      clear st
      obtain ⟨k, hk, rfl, st⟩ := hrel
      by_cases hlt : k < (dots f).length
      · have hdk : decide ((k : Int) < ((dots f).length : Int)) = true := by simpa using hlt
        obtain ⟨dx, dy, hdx, hdy, G0, G1, HS⟩ := dot_at hlt
        replace G0 := hid (G0 spare)
        replace G1 := hid (G1 spare)
        replace HS := hid (HS (rolT e s))
        have hol := over_length (rolT e s) f k
        obtain ⟨rx, hrx⟩ : ∃ r : Int, r = ((dx : Int) + e + 12).tmod 12 := ⟨_, rfl⟩
        obtain ⟨ry, hry⟩ : ∃ r : Int, r = ((dy : Int) + s + 12).tmod 12 := ⟨_, rfl⟩
        replace HS : Hid (putI (over (rolT e s) f k) rx ry = over (rolT e s) f (k + 1)) := by rw [hrx, hry]; exact HS
        replace hrx := hid hrx
        replace hry := hid hry
        go_wp2_with (first | ((with_reducible refine gate_addr rfl ?_); refine wpl_slcAddr rfl _ _ rfl _ _ _ _ rfl _ _ rfl tDotS k rfl hlt ?_) | ((with_reducible refine gate_dst (N := 32) rfl ?_); ((with_reducible refine gate_field rfl ?_); refine wpl_field rfl _ _ 0 rfl _ _ rfl 0 fld_dot0 ?_)) | ((with_reducible refine gate_dst (N := 42) rfl ?_); ((with_reducible refine gate_field rfl ?_); refine wpl_field rfl _ _ 1 rfl _ _ rfl 1 fld_dot1 ?_)) | ((with_reducible refine gate_dst (N := 33) rfl ?_); ((with_reducible refine gate_load rfl ?_); refine wpl_load1 rfl _ _ rfl _ rfl tI8 (.int .i8 (dx : Int)) ((st.get (by repeat (first | exact At.here | apply At.there))).cellv (by first | exact G0.out | (have := G0.out; simpa using this))) ?_)) | ((with_reducible refine gate_dst (N := 43) rfl ?_); ((with_reducible refine gate_load rfl ?_); refine wpl_load1 rfl _ _ rfl _ rfl tI8 (.int .i8 (dy : Int)) ((st.get (by repeat (first | exact At.here | apply At.there))).cellv (by first | exact G1.out | (have := G1.out; simpa using this))) ?_)) | ((with_reducible refine gate_dst (N := 34) rfl ?_); ((with_reducible refine gate_conv rfl ?_); refine wpl_conv rfl _ _ _ rfl _ _ _ (dx : Int) rfl rfl (by kernel_rfl) (IntWalk.i64_in _ (by omega)) ?_)) | ((with_reducible refine gate_dst (N := 44) rfl ?_); ((with_reducible refine gate_conv rfl ?_); refine wpl_conv rfl _ _ _ rfl _ _ _ (dy : Int) rfl rfl (by kernel_rfl) (IntWalk.i64_in _ (by omega)) ?_)) | ((with_reducible refine gate_dst (N := 36) rfl ?_); ((with_reducible refine gate_bin rfl ?_); refine wpl_bin rfl _ _ _ _ _ rfl _ _ _ _ rfl rfl (.int .i64 ((dx : Int) + e)) (fun w' => run_add64 (by omega) (by omega) w') ?_)) | ((with_reducible refine gate_dst (N := 37) rfl ?_); ((with_reducible refine gate_bin rfl ?_); refine wpl_bin rfl _ _ _ _ _ rfl _ _ _ _ rfl rfl (.int .i64 ((dx : Int) + e + 12)) (fun w' => run_add64 (by omega) (by omega) w') ?_)) | ((with_reducible refine gate_dst (N := 38) rfl ?_); ((with_reducible refine gate_bin rfl ?_); refine wpl_bin rfl _ _ _ _ _ rfl _ _ _ _ rfl rfl (.int .i64 rx) (fun w' => by rw [hrx.out]; exact run_rem12 w') ?_)) | ((with_reducible refine gate_dst (N := 46) rfl ?_); ((with_reducible refine gate_bin rfl ?_); refine wpl_bin rfl _ _ _ _ _ rfl _ _ _ _ rfl rfl (.int .i64 ((dy : Int) + s)) (fun w' => run_add64 (by omega) (by omega) w') ?_)) | ((with_reducible refine gate_dst (N := 47) rfl ?_); ((with_reducible refine gate_bin rfl ?_); refine wpl_bin rfl _ _ _ _ _ rfl _ _ _ _ rfl rfl (.int .i64 ((dy : Int) + s + 12)) (fun w' => run_add64 (by omega) (by omega) w') ?_)) | ((with_reducible refine gate_dst (N := 48) rfl ?_); ((with_reducible refine gate_bin rfl ?_); refine wpl_bin rfl _ _ _ _ _ rfl _ _ _ _ rfl rfl (.int .i64 ry) (fun w' => by rw [hry.out]; exact run_rem12 w') ?_)) | (go_at_call 92; refine (l01Put_c (over (rolT e s) f k) (over_frOk _ _ _) _ _ rx ry _ (st.get (.there .here))).mono ?_; rintro _ _ ⟨rfl, hk, hb1⟩; replace st := st.wrote (by repeat (first | exact Upd.here | apply Upd.there)) hk hb1; clear hk hb1))
        rw [HS.out] at st
        go_roundw
        case rel => exact ⟨k + 1, by omega, by go_num, st⟩
        case measure => simp [intOf]; omega
      · obtain rfl : k = (dots f).length := by omega
        have hol := over_length (rolT e s) f (dots f).length
        go_wp2_with (first | ((with_reducible refine gate_load rfl ?_); refine wpl_loadAll rfl _ _ rfl _ rfl tFr.toAggT _ _ (st.get (by repeat (first | exact At.here | apply At.there))) (by rw [frv_length, hol]) ?_) | ((with_reducible refine gate_store rfl ?_); refine wpl_storeAll rfl _ _ _ rfl _ rfl _ rfl tFr.toAggT (by rw [frv_length, hol]) (frv_one _) st _ _ (by repeat (first | exact Upd.here | apply Upd.there)) (by simp) ?_; clear st; intro _ st))
        refine bodyPost_cell_tmp rfl tFr.toAggT rfl _ rfl _ _ (st.get (by repeat (first | exact At.here | apply At.there))) (by rw [frv_length, hol]) _ rfl ?_
        exact ⟨rfl, st.keep⟩
  · rw [if_neg hc]
    go_enter Try.func63, Try.ntmps63
    go_wp2_with (first | ((with_reducible refine gate_box rfl ?_); refine wpl_box rfl _ _ rfl _ rfl _ rfl st ?_; clear st; intro _ _ st) | ((with_reducible refine gate_alloc rfl ?_); refine wpl_alloc rfl _ rfl tFr.toAggT st ?_; clear st; intro _ _ st) | (go_at_call 111; refine (l01Way_c f ok _ _ e s _ (.of (st.get (.there .here)))).mono ?_; rintro _ _ ⟨rfl, hk⟩; replace st := st.call hk; clear hk) | ((with_reducible refine gate_build rfl ?_); refine wpl_zero rfl _ rfl _ tFrB ?_) | ((with_reducible refine gate_store rfl ?_); refine wpl_storeAll rfl _ _ _ rfl _ rfl _ rfl tFr.toAggT (by simp [frv_length, zf_length, mk_length, withD_length, part_length, rowsOf_length, *]) (frv_one _) st _ _ (by repeat (first | exact Upd.here | apply Upd.there)) (by simp [frv_length, zf_length, mk_length, withD_length, part_length, rowsOf_length, *]) ?_; clear st; intro _ st))
    refine bodyPost_cell_tmp rfl tFr.toAggT rfl _ rfl _ _ (st.get (by repeat (first | exact At.here | apply At.there))) (by simp [frv_length, zf_length, mk_length, withD_length, part_length, rowsOf_length, *]) _ rfl ?_
    exact ⟨rfl, st.keep⟩
set_option maxRecDepth 100000 in
theorem Roll1_c (f : List Nat) (ok : FrOk f) (e s : Int) (h : -12 ≤ e ∧ e ≤ 12 ∧ -12 ≤ s ∧ s ≤ 12) (b1 b2 b3 : Nat) (T1 T2 T3 : TypeId) (x y : Nat) (hx : x < 12) (hy : y < 12) (w : World) (hb1 : Blk w b1 (frv f) T1) (hb2 : Blk w b2 [.int .i64 e] T2) (hb3 : Blk w b3 [.int .i64 s] T3) :
    Calls Try.prog 113 #[.int .i64 x, .int .i64 y, .pointer (some ⟨b1, 0, none⟩), .pointer (some ⟨b2, 0, none⟩), .pointer (some ⟨b3, 0, none⟩)] w fun e' w' => e' = .returned (.bool (rolP e s f x y)) ∧ Keep [] w w' := by
  have hf := ok.len
  obtain ⟨he1, he2, hs1, hs2⟩ := h
  have st := St.start w
  unfold rolP
  obtain ⟨rx, hrx⟩ : ∃ r : Int, r = ((x : Int) - e + 24).tmod 12 := ⟨_, rfl⟩
  obtain ⟨ry, hry⟩ : ∃ r : Int, r = ((y : Int) - s + 24).tmod 12 := ⟨_, rfl⟩
  rw [← hrx, ← hry]
  replace hrx := hid hrx
  replace hry := hid hry
  go_enter Try.func113, Try.ntmps113
  go_wp2_with (first | ((with_reducible refine gate_dst (N := 8) rfl ?_); ((with_reducible refine gate_load rfl ?_); refine wpl_loadC rfl _ _ rfl _ rfl tFr.toAggT (frv f) (by simp [frv_length, *]) (fun j v hj => by rw [Addr.add_lit, Nat.zero_add]; exact (st.arg hb1 (by simp)).cellv hj) ?_)) | ((with_reducible refine gate_dst (N := 10) rfl ?_); ((with_reducible refine gate_load rfl ?_); refine wpl_load1 rfl _ _ rfl _ rfl tI64 _ ((st.arg hb2 (by simp)).cellv rfl) ?_)) | ((with_reducible refine gate_dst (N := 15) rfl ?_); ((with_reducible refine gate_load rfl ?_); refine wpl_load1 rfl _ _ rfl _ rfl tI64 _ ((st.arg hb3 (by simp)).cellv rfl) ?_)) | ((with_reducible refine gate_dst (N := 11) rfl ?_); ((with_reducible refine gate_bin rfl ?_); refine wpl_bin rfl _ _ _ _ _ rfl _ _ _ _ rfl rfl (.int .i64 ((x : Int) - e)) (fun w' => run_sub64 (by omega) (by omega) w') ?_)) | ((with_reducible refine gate_dst (N := 12) rfl ?_); ((with_reducible refine gate_bin rfl ?_); refine wpl_bin rfl _ _ _ _ _ rfl _ _ _ _ rfl rfl (.int .i64 ((x : Int) - e + 24)) (fun w' => run_add64 (by omega) (by omega) w') ?_)) | ((with_reducible refine gate_dst (N := 13) rfl ?_); ((with_reducible refine gate_bin rfl ?_); refine wpl_bin rfl _ _ _ _ _ rfl _ _ _ _ rfl rfl (.int .i64 rx) (fun w' => by rw [hrx.out]; exact run_rem12 w') ?_)) | ((with_reducible refine gate_dst (N := 16) rfl ?_); ((with_reducible refine gate_bin rfl ?_); refine wpl_bin rfl _ _ _ _ _ rfl _ _ _ _ rfl rfl (.int .i64 ((y : Int) - s)) (fun w' => run_sub64 (by omega) (by omega) w') ?_)) | ((with_reducible refine gate_dst (N := 17) rfl ?_); ((with_reducible refine gate_bin rfl ?_); refine wpl_bin rfl _ _ _ _ _ rfl _ _ _ _ rfl rfl (.int .i64 ((y : Int) - s + 24)) (fun w' => run_add64 (by omega) (by omega) w') ?_)) | ((with_reducible refine gate_dst (N := 18) rfl ?_); ((with_reducible refine gate_bin rfl ?_); refine wpl_bin rfl _ _ _ _ _ rfl _ _ _ _ rfl rfl (.int .i64 ry) (fun w' => by rw [hry.out]; exact run_rem12 w') ?_)) | (go_at_call 82; refine (has_c f ok rx ry _).mono ?_; rintro _ _ ⟨rfl, hk⟩; replace st := st.call hk; clear hk))
  go_ret
  exact ⟨rfl, st.keep⟩
theorem Roll_tells (f : List Nat) (ok : FrOk f) (e s : Int) (h : -12 ≤ e ∧ e ≤ 12 ∧ -12 ≤ s ∧ s ≤ 12) (b1 b2 b3 : Nat) (T1 T2 T3 : TypeId) (w : World) (hb1 : Blk w b1 (frv f) T1) (hb2 : Blk w b2 [.int .i64 e] T2) (hb3 : Blk w b3 [.int .i64 s] T3) :
    Tells (.func (.func 113) #[] #[.pointer (some ⟨b1, 0, none⟩), .pointer (some ⟨b2, 0, none⟩), .pointer (some ⟨b3, 0, none⟩)]) (rolP e s f) w :=
  ⟨113, _, #[.pointer (some ⟨b1, 0, none⟩), .pointer (some ⟨b2, 0, none⟩), .pointer (some ⟨b3, 0, none⟩)], rfl, Try.func113, by kernel_rfl, by kernel_rfl, fun x y w1 hx hy hk => Roll1_c f ok e s h b1 b2 b3 T1 T2 T3 x y hx hy w1 (hb1.keep0 hk) (hb2.keep0 hk) (hb3.keep0 hk)⟩
set_option maxRecDepth 100000 in
theorem Roll_c (f : List Nat) (ok : FrOk f) (e s : Int) (w : World) :
    Calls Try.prog 64 #[.agg (frv f).toArray, .int .i64 e, .int .i64 s] w fun e' w' => e' = .returned (.tuple #[.agg (frv (rolR e s f)).toArray, .int .i64 (wayC f e s)]) ∧ Keep [] w w' := by
  have hf := ok.len
  have hm := mk_length (rolP e s f)
  have st := St.start w
  unfold rolR
  by_cases hc : wayC f e s = 0
  · have hi := hid (wayC_in hc)
    rw [if_pos hc, hc]
    go_enter Try.func64, Try.ntmps64
    go_wp2_with (first | ((with_reducible refine gate_box rfl ?_); (with_reducible refine gate_dst (N := 3) rfl ?_); refine wpl_box rfl _ _ rfl _ rfl _ rfl st ?_; clear st; intro B1 _ st) | ((with_reducible refine gate_box rfl ?_); (with_reducible refine gate_dst (N := 4) rfl ?_); refine wpl_box rfl _ _ rfl _ rfl _ rfl st ?_; clear st; intro B2 _ st) | ((with_reducible refine gate_box rfl ?_); (with_reducible refine gate_dst (N := 5) rfl ?_); refine wpl_box rfl _ _ rfl _ rfl _ rfl st ?_; clear st; intro B3 _ st) | ((with_reducible refine gate_alloc rfl ?_); refine wpl_alloc rfl _ rfl tFr.toAggT st ?_; clear st; intro _ _ st) | ((with_reducible refine gate_load rfl ?_); refine wpl_load1 rfl _ _ rfl _ rfl tI64 _ ((st.get (by repeat (first | exact At.here | apply At.there))).cellv rfl) ?_) | ((with_reducible refine gate_load rfl ?_); refine wpl_loadAll rfl _ _ rfl _ rfl tFr.toAggT _ _ (st.get (by repeat (first | exact At.here | apply At.there))) (by simp [frv_length, zf_length, mk_length, withD_length, part_length, rowsOf_length, *]) ?_) | (go_at_call 112; refine (checkMove_c f ok e s _).mono ?_; rintro _ _ ⟨rfl, hk⟩; replace st := st.call hk; clear hk) | (go_at_call 95; refine (where_c (.func (.func 113) #[] #[.pointer (some ⟨B1, 0, none⟩), .pointer (some ⟨B2, 0, none⟩), .pointer (some ⟨B3, 0, none⟩)]) (rolP e s f) _ (Roll_tells f ok e s hi.out B1 B2 B3 _ _ _ _ (st.get (.there (.there (.there .here)))) (st.get (.there (.there .here))) (st.get (.there .here)))).mono ?_; rintro _ _ ⟨rfl, hk⟩; replace st := st.call hk; clear hk) | ((with_reducible refine gate_store rfl ?_); refine wpl_storeAll rfl _ _ _ rfl _ rfl _ rfl tFr.toAggT (by rw [frv_length, hm]) (frv_one _) st _ _ (by repeat (first | exact Upd.here | apply Upd.there)) (by simp [frv_length, zf_length, mk_length, withD_length, part_length, rowsOf_length, *]) ?_; clear st; intro _ st))
    refine bodyPost_cell_tmp rfl tFr.toAggT rfl _ rfl _ _ (st.get (by repeat (first | exact At.here | apply At.there))) (by rw [frv_length, hm]) _ rfl ?_
    exact ⟨rfl, st.keep⟩
  · rw [if_neg hc]
    go_enter Try.func64, Try.ntmps64
    go_wp2_with (first | ((with_reducible refine gate_box rfl ?_); refine wpl_box rfl _ _ rfl _ rfl _ rfl st ?_; clear st; intro _ _ st) | ((with_reducible refine gate_alloc rfl ?_); refine wpl_alloc rfl _ rfl tFr.toAggT st ?_; clear st; intro _ _ st) | ((with_reducible refine gate_load rfl ?_); refine wpl_load1 rfl _ _ rfl _ rfl tI64 _ ((st.get (by repeat (first | exact At.here | apply At.there))).cellv rfl) ?_) | ((with_reducible refine gate_load rfl ?_); refine wpl_loadAll rfl _ _ rfl _ rfl tFr.toAggT _ _ (st.get (by repeat (first | exact At.here | apply At.there))) (by simp [frv_length, zf_length, mk_length, withD_length, part_length, rowsOf_length, *]) ?_) | (go_at_call 112; refine (checkMove_c f ok e s _).mono ?_; rintro _ _ ⟨rfl, hk⟩; replace st := st.call hk; clear hk) | ((with_reducible refine gate_build rfl ?_); refine wpl_zero rfl _ rfl _ tFrB ?_) | ((with_reducible refine gate_store rfl ?_); refine wpl_storeAll rfl _ _ _ rfl _ rfl _ rfl tFr.toAggT (by simp [frv_length, zf_length, mk_length, withD_length, part_length, rowsOf_length, *]) (frv_one _) st _ _ (by repeat (first | exact Upd.here | apply Upd.there)) (by simp [frv_length, zf_length, mk_length, withD_length, part_length, rowsOf_length, *]) ?_; clear st; intro _ st))
    refine bodyPost_cell_tmp rfl tFr.toAggT rfl _ rfl _ _ (st.get (by repeat (first | exact At.here | apply At.there))) (by simp [frv_length, zf_length, mk_length, withD_length, part_length, rowsOf_length, *]) _ rfl ?_
    exact ⟨rfl, st.keep⟩
end Go.Proofs.Ytdiphapcjafbaaa
