/- The box of a frame; no condition. -/
import Derived.Test.YtdiphapcjafbaaaB7
import Derived.Test.YtdiphapcjafbaaaRules
namespace Go.Proofs.Ytdiphapcjafbaaa
open Go.RowKit
set_option linter.unusedSimpArgs false
set_option linter.unusedVariables false

theorem l00Min_c (a b : Int) (w : World) : Calls Try.prog 132 #[.int .i64 a, .int .i64 b] w fun e w' => e = .returned (.int .i64 (min a b)) ∧ Keep [] w w' := by
  by_cases h : a < b
  · rw [show min a b = a by omega]
    go_enter Try.func132, Try.ntmps132
    go_wp2_with fail
    go_ret
    exact ⟨rfl, Keep.refl _ _⟩
  · rw [show min a b = b by omega]
    go_enter Try.func132, Try.ntmps132
    go_wp2_with fail
    go_ret
    exact ⟨rfl, Keep.refl _ _⟩
theorem l00Max_c (a b : Int) (w : World) : Calls Try.prog 133 #[.int .i64 a, .int .i64 b] w fun e w' => e = .returned (.int .i64 (max a b)) ∧ Keep [] w w' := by
  by_cases h : a > b
  · rw [show max a b = a by omega]
    go_enter Try.func133, Try.ntmps133
    go_wp2_with fail
    go_ret
    exact ⟨rfl, Keep.refl _ _⟩
  · rw [show max a b = b by omega]
    go_enter Try.func133, Try.ntmps133
    go_wp2_with fail
    go_ret
    exact ⟨rfl, Keep.refl _ _⟩
/-- The least x among the first k dots (12 if there is none), and the greatest (0). -/
def loX (l : List (Nat × Nat)) : Nat → Nat
  | 0 => 12
  | k + 1 => min (loX l k) (l.getD k (0, 0)).1
def hiX (l : List (Nat × Nat)) : Nat → Nat
  | 0 => 0
  | k + 1 => max (hiX l k) (l.getD k (0, 0)).1
theorem loX_le (l : List (Nat × Nat)) (k : Nat) : loX l k ≤ 12 := by
  induction k with
  | zero => exact Nat.le_refl _
  | succ k ih => simp only [loX]; omega
theorem hiX_le {f : List Nat} {k : Nat} (hk : k ≤ (dots f).length) : hiX (dots f) k ≤ 11 := by
  induction k with
  | zero => exact Nat.zero_le _
  | succ k ih => have := (dot_mem (f := f) (i := k) (by omega)).1; have := ih (by omega); simp only [hiX]; omega
theorem loX_first (l : List (Nat × Nat)) {k : Nat} (hk : 1 ≤ k) : loX l k ≤ (l.getD 0 (0, 0)).1 := by
  induction k with
  | zero => omega
  | succ k ih =>
    simp only [loX]
    by_cases h : k = 0
    · subst h; omega
    · have := ih (by omega); omega
theorem hiX_first (l : List (Nat × Nat)) {k : Nat} (hk : 1 ≤ k) : (l.getD 0 (0, 0)).1 ≤ hiX l k := by
  induction k with
  | zero => omega
  | succ k ih =>
    simp only [hiX]
    by_cases h : k = 0
    · subst h; omega
    · have := ih (by omega); omega
/-- The box's four numbers. -/
def boxN (f : List Nat) : Int × Int × Int × Int :=
  let n := (dots f).length
  let y0 := ((dots f).getD 0 (0, 0)).2
  let y1 := ((dots f).getD (n - 1) (0, 0)).2
  ((loX (dots f) n : Int), (y0 : Int), (hiX (dots f) n : Int) - (loX (dots f) n : Int) + 1, (y1 : Int) - (y0 : Int) + 1)
def bxv (b : Int × Int × Int × Int) : List Value := [.int .i8 b.1, .int .i8 b.2.1, .int .i8 b.2.2.1, .int .i8 b.2.2.2]
theorem built_box (a b c d : Int) : Try.prog.built 57 [(0, .int .i8 a), (1, .int .i8 b), (2, .int .i8 c), (3, .int .i8 d)] = some [Value.int .i8 a, .int .i8 b, .int .i8 c, .int .i8 d].toArray := by kernel_rfl
theorem bxv_one (a b c d : Int) : ∀ v ∈ [Value.int .i8 a, .int .i8 b, .int .i8 c, .int .i8 d], v.oneCell' = true := by simp [Value.oneCell']
theorem built_box0 : Try.prog.built 57 [] = some (bxv (0, 0, 0, 0)).toArray := by kernel_rfl
def DotsPostN (f : List Nat) (n : Nat) (w : World) (e : Ending) (w' : World) : Prop := ∃ v, e = .returned v ∧ Gives 88 2 n (dtv (dots f)) w v w' ∧ Keep [] w w'
theorem l01Dots_n (f : List Nat) (ok : FrOk f) (n : Nat) (hn : (dots f).length = n) (b o : Nat) (w : World) (hb : Cl w b o (frv f)) : Calls Try.prog 94 #[.pointer (some ⟨b, o, none⟩)] w (DotsPostN f n w) := by
  subst hn; exact l01Dots_c f ok b o w hb
theorem dots_n (f : List Nat) (ok : FrOk f) (n : Nat) (hn : (dots f).length = n) (w : World) : Calls Try.prog 109 #[.agg (frv f).toArray] w (DotsPostN f n w) := by
  subst hn; exact dots_c f ok w
/-- The cells of the k-th dot, n dots in all. -/
theorem dot_k {f : List Nat} {n k : Nat} (hn : (dots f).length = n) (hk : k < n) (spare : List Value) : ∃ dx dy : Nat, dx < 12 ∧ dy < 12 ∧ dx = ((dots f).getD k (0, 0)).1 ∧ dy = ((dots f).getD k (0, 0)).2 ∧
    (dtv (dots f) ++ spare)[0 + k * 2 + 0]? = some (.int .i8 (dx : Int)) ∧ (dtv (dots f) ++ spare)[0 + k * 2 + 1]? = some (.int .i8 (dy : Int)) := by
  subst hn
  exact ⟨_, _, (dot_mem hk).1, (dot_mem hk).2, rfl, rfl, dot_get0 hk, dot_get1 hk⟩
set_option maxHeartbeats 1000000 in
set_option maxRecDepth 100000 in
theorem l01Box_c (f : List Nat) (ok : FrOk f) (n : Nat) (hdn : (dots f).length = n) (hn : 0 < n) (b o : Nat) (w : World) (hb : Cl w b o (frv f)) :
    Calls Try.prog 121 #[.pointer (some ⟨b, o, none⟩)] w fun e w' => e = .returned (.tuple #[.agg (bxv (boxN f)).toArray, .bool true]) ∧ Keep [] w w' := by
  have hf := ok.len
  have hdl : n ≤ 144 := by rw [← hdn]; exact dots_length f
  have st := St.start w
  have hne : ((n : Int) == 0) = false := by simp; omega
  go_enter Try.func121, Try.ntmps121
  go_wp2_with (first | ((with_reducible refine gate_alloc rfl ?_); (with_reducible refine gate_dst (N := 2) rfl ?_); refine wpl_alloc rfl _ rfl tBox st ?_; clear st; intro B2 _ st) | (go_at_call 94; refine (l01Dots_n f ok n hdn _ _ _ (hb.keep st.keep (by simp))).mono ?_; rintro _ _ ⟨v, rfl, ⟨g, cap, spare, rfl, hg, hbg, hcap, hcm⟩, hk⟩; replace st := st.adopt hk hg hbg; clear hk hg hbg hcap hcm))
  go_loopw [5, 6, 7] (fun lo hi i wr => ∃ k : Nat, k ≤ n ∧ i = .int .i64 k ∧ lo = .int .i64 (loX (dots f) k : Nat) ∧ hi = .int .i64 (hiX (dots f) k : Nat) ∧ St [] w wr [(g, dtv (dots f) ++ spare, 88), (B2, [.int .i8 0, .int .i8 0, .int .i8 0, .int .i8 0], 57)]) (fun _ _ i _ => n - (intOf i).toNat)
  case atStart => exact ⟨0, by omega, rfl, rfl, rfl, st⟩
  case round =>
    clear st
    obtain ⟨k, hk, rfl, rfl, rfl, st⟩ := hrel
    by_cases hlt : k < n
    · have hdk : decide ((k : Int) < (n : Int)) = true := by simpa using hlt
      obtain ⟨dx, dy, hd, _, hdx, _, G0, _⟩ := dot_k hdn hlt spare
      replace G0 := hid G0
      have L1 : ((loX (dots f) (k + 1) : Nat) : Int) = min (loX (dots f) k : Int) (dx : Int) := by rw [hdx]; simp only [loX]; omega
      have H1 : ((hiX (dots f) (k + 1) : Nat) : Int) = max (hiX (dots f) k : Int) (dx : Int) := by rw [hdx]; simp only [hiX]; omega
      obtain ⟨lo, hlo⟩ : ∃ z : Int, z = min (loX (dots f) k : Int) (dx : Int) := ⟨_, rfl⟩
      obtain ⟨hi, hhi⟩ : ∃ z : Int, z = max (hiX (dots f) k : Int) (dx : Int) := ⟨_, rfl⟩
      have CL : ∀ w', Calls Try.prog 132 #[.int .i64 (loX (dots f) k : Nat), .int .i64 dx] w' fun e w'' => e = .returned (.int .i64 lo) ∧ Keep [] w' w'' := fun w' => by rw [hlo]; exact l00Min_c _ _ _
      have CH : ∀ w', Calls Try.prog 133 #[.int .i64 (hiX (dots f) k : Nat), .int .i64 dx] w' fun e w'' => e = .returned (.int .i64 hi) ∧ Keep [] w' w'' := fun w' => by rw [hhi]; exact l00Max_c _ _ _
      rw [← hlo] at L1
      rw [← hhi] at H1
      replace CL := hid CL
      replace CH := hid CH
      replace L1 := hid L1
      replace H1 := hid H1
      clear hdx hlo hhi
      go_wp2_with (first | ((with_reducible refine gate_addr rfl ?_); refine wpl_slcAddr rfl _ _ rfl _ _ _ _ rfl _ _ rfl tDotS k rfl hlt ?_) | ((with_reducible refine gate_field rfl ?_); refine wpl_field rfl _ _ 0 rfl _ _ rfl 0 fld_dot0 ?_) | ((with_reducible refine gate_load rfl ?_); refine wpl_load1 rfl _ _ rfl _ rfl tI8 (.int .i8 (dx : Int)) ((st.get (by repeat (first | exact At.here | apply At.there))).cellv (by first | exact G0.out | (have := G0.out; simpa using this))) ?_) | ((with_reducible refine gate_conv rfl ?_); refine wpl_conv rfl _ _ _ rfl _ _ _ (dx : Int) rfl rfl (by kernel_rfl) (IntWalk.i64_in _ (by omega)) ?_) | (go_at_call 132; refine (CL.out _).mono ?_; rintro _ _ ⟨rfl, hk⟩; replace st := st.call hk; clear hk) | (go_at_call 133; refine (CH.out _).mono ?_; rintro _ _ ⟨rfl, hk⟩; replace st := st.call hk; clear hk))
      go_roundw
      case rel => exact ⟨k + 1, by omega, by go_num, by rw [L1.out], by rw [H1.out], st⟩
      case measure => simp [intOf]; omega
    · obtain rfl : n = k := by omega
      have hl1 := loX_le (dots f) n
      have hh1 := hiX_le (f := f) (k := n) (by omega)
      obtain ⟨_, y0, _, hy0, _, ey0, _, G0⟩ := dot_k hdn hn spare
      obtain ⟨_, y1, _, hy1, _, ey1, _, G1⟩ := dot_k hdn (by omega : n - 1 < n) spare
      have hj : (n : Int) - 1 = ((n - 1 : Nat) : Int) := by omega
      have eb : boxN f = ((loX (dots f) n : Int), (y0 : Int), (hiX (dots f) n : Int) - (loX (dots f) n : Int) + 1, (y1 : Int) - (y0 : Int) + 1) := by
        unfold boxN; simp only; rw [hdn, ey0, ey1]
      replace G0 := hid G0
      replace G1 := hid G1
      clear ey0 ey1
      generalize loX (dots f) n = lo at *
      generalize hiX (dots f) n = hi at *
      replace eb := hid eb
      go_wp2_with (first | ((with_reducible refine gate_dst (N := 39) rfl ?_); ((with_reducible refine gate_addr rfl ?_); refine wpl_slcAddr rfl _ _ _ rfl _ _ _ _ rfl _ _ rfl tDotS 0 rfl hn ?_)) | ((with_reducible refine gate_dst (N := 47) rfl ?_); ((with_reducible refine gate_addr rfl ?_); refine wpl_slcAddr rfl _ _ _ rfl _ _ _ _ rfl _ _ rfl tDotS (n - 1) rfl (by omega) ?_)) | ((with_reducible refine gate_field rfl ?_); refine wpl_field rfl _ _ 1 rfl _ _ rfl 1 fld_dot1 ?_) | ((with_reducible refine gate_dst (N := 46) rfl ?_); ((with_reducible refine gate_bin rfl ?_); refine wpl_bin rfl _ _ _ _ _ rfl _ _ _ _ rfl rfl (.int .i64 ((n - 1 : Nat) : Int)) (fun w' => by rw [← hj]; exact run_sub64 (by omega) (by omega) w') ?_)) | ((with_reducible refine gate_dst (N := 41) rfl ?_); ((with_reducible refine gate_load rfl ?_); refine wpl_load1 rfl _ _ rfl _ rfl tI8 (.int .i8 (y0 : Int)) ((st.get (by repeat (first | exact At.here | apply At.there))).cellv (by first | exact G0.out | (have := G0.out; simpa using this))) ?_)) | ((with_reducible refine gate_dst (N := 49) rfl ?_); ((with_reducible refine gate_load rfl ?_); refine wpl_load1 rfl _ _ rfl _ rfl tI8 (.int .i8 (y1 : Int)) ((st.get (by repeat (first | exact At.here | apply At.there))).cellv (by first | exact G1.out | (have := G1.out; simpa using this))) ?_)) | ((with_reducible refine gate_dst (N := 42) rfl ?_); ((with_reducible refine gate_conv rfl ?_); refine wpl_conv rfl _ _ _ rfl _ _ _ (y0 : Int) rfl rfl (by kernel_rfl) (IntWalk.i64_in _ (by omega)) ?_)) | ((with_reducible refine gate_dst (N := 50) rfl ?_); ((with_reducible refine gate_conv rfl ?_); refine wpl_conv rfl _ _ _ rfl _ _ _ (y1 : Int) rfl rfl (by kernel_rfl) (IntWalk.i64_in _ (by omega)) ?_)) | ((with_reducible refine gate_dst (N := 52) rfl ?_); ((with_reducible refine gate_conv rfl ?_); refine wpl_conv rfl _ _ _ rfl _ _ _ (lo : Int) rfl rfl (by kernel_rfl) (i8_wrap (by omega) (by omega)) ?_)) | ((with_reducible refine gate_dst (N := 54) rfl ?_); ((with_reducible refine gate_conv rfl ?_); refine wpl_conv rfl _ _ _ rfl _ _ _ (y0 : Int) rfl rfl (by kernel_rfl) (i8_wrap (by omega) (by omega)) ?_)) | ((with_reducible refine gate_dst (N := 57) rfl ?_); ((with_reducible refine gate_bin rfl ?_); refine wpl_bin rfl _ _ _ _ _ rfl _ _ _ _ rfl rfl (.int .i64 ((hi : Int) - (lo : Int))) (fun w' => run_sub64 (by omega) (by omega) w') ?_)) | ((with_reducible refine gate_dst (N := 58) rfl ?_); ((with_reducible refine gate_bin rfl ?_); refine wpl_bin rfl _ _ _ _ _ rfl _ _ _ _ rfl rfl (.int .i64 ((hi : Int) - (lo : Int) + 1)) (fun w' => run_add64 (by omega) (by omega) w') ?_)) | ((with_reducible refine gate_dst (N := 59) rfl ?_); ((with_reducible refine gate_conv rfl ?_); refine wpl_conv rfl _ _ _ rfl _ _ _ ((hi : Int) - (lo : Int) + 1) rfl rfl (by kernel_rfl) (i8_wrap (by omega) (by omega)) ?_)) | ((with_reducible refine gate_dst (N := 62) rfl ?_); ((with_reducible refine gate_bin rfl ?_); refine wpl_bin rfl _ _ _ _ _ rfl _ _ _ _ rfl rfl (.int .i64 ((y1 : Int) - (y0 : Int))) (fun w' => run_sub64 (by omega) (by omega) w') ?_)) | ((with_reducible refine gate_dst (N := 63) rfl ?_); ((with_reducible refine gate_bin rfl ?_); refine wpl_bin rfl _ _ _ _ _ rfl _ _ _ _ rfl rfl (.int .i64 ((y1 : Int) - (y0 : Int) + 1)) (fun w' => run_add64 (by omega) (by omega) w') ?_)) | ((with_reducible refine gate_dst (N := 64) rfl ?_); ((with_reducible refine gate_conv rfl ?_); refine wpl_conv rfl _ _ _ rfl _ _ _ ((y1 : Int) - (y0 : Int) + 1) rfl rfl (by kernel_rfl) (i8_wrap (by omega) (by omega)) ?_)) | ((with_reducible refine gate_build rfl ?_); refine wpl_build rfl _ [(0, _), (1, _), (2, _), (3, _)] rfl _ (built_box _ _ _ _) ?_) | ((with_reducible refine gate_store rfl ?_); refine wpl_storeAll rfl _ _ _ rfl _ rfl _ rfl tBox rfl (bxv_one _ _ _ _) st _ _ (by repeat (first | exact Upd.here | apply Upd.there)) rfl ?_; clear st; intro _ st))
      refine bodyPost_cell_tmp rfl tBox rfl _ rfl _ _ (st.get (by repeat (first | exact At.here | apply At.there))) rfl _ rfl ?_
      exact ⟨by rw [eb.out]; rfl, st.keep⟩
end Go.Proofs.Ytdiphapcjafbaaa
