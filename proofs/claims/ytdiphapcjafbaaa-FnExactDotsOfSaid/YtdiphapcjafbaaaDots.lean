/- Lists of dots compared, marked and looked at again; DotsOf; no condition. -/
import Derived.Test.YtdiphapcjafbaaaB7
import Derived.Test.YtdiphapcjafbaaaRules
namespace Go.Proofs.Ytdiphapcjafbaaa
open Go.RowKit
set_option linter.unusedSimpArgs false
set_option linter.unusedVariables false

theorem eqDot_c (x y : Int) (w : World) : Calls Try.prog 110 #[.agg #[.int .i8 x, .int .i8 y], .agg #[.int .i8 x, .int .i8 y]] w fun e w' => e = .returned (.bool true) ∧ Keep [] w w' := by
  have st := St.start w
  go_enter Try.func110, Try.ntmps110
  go_wp2_with (first | ((with_reducible refine gate_box rfl ?_); refine wpl_box rfl _ _ rfl _ rfl _ rfl st ?_; clear st; intro _ _ st) | ((with_reducible refine gate_dst (N := 5) rfl ?_); ((with_reducible refine gate_field rfl ?_); refine wpl_field rfl _ _ 0 rfl _ _ rfl 0 fld_dot0 ?_)) | ((with_reducible refine gate_dst (N := 7) rfl ?_); ((with_reducible refine gate_field rfl ?_); refine wpl_field rfl _ _ 0 rfl _ _ rfl 0 fld_dot0 ?_)) | ((with_reducible refine gate_dst (N := 10) rfl ?_); ((with_reducible refine gate_field rfl ?_); refine wpl_field rfl _ _ 1 rfl _ _ rfl 1 fld_dot1 ?_)) | ((with_reducible refine gate_dst (N := 12) rfl ?_); ((with_reducible refine gate_field rfl ?_); refine wpl_field rfl _ _ 1 rfl _ _ rfl 1 fld_dot1 ?_)) | ((with_reducible refine gate_load rfl ?_); refine wpl_load1 rfl _ _ rfl _ rfl tI8 _ ((st.get (by repeat (first | exact At.here | apply At.there))).cellv rfl) ?_))
  go_ret
  exact ⟨rfl, st.keep⟩
theorem seg_of {w : World} {l : List (Nat × Nat)} {g : Nat} {spare : List Value} {T : TypeId} (hb : Blk w g (dtv l ++ spare) T) {k : Nat} (hk : k < l.length) :
    ∀ j v, [Value.int .i8 ((l.getD k (0, 0)).1 : Int), .int .i8 ((l.getD k (0, 0)).2 : Int)][j]? = some v → w.cell? ((⟨g, 0 + k * 2, none⟩ : Addr).add j) = some v := by
  intro j v hj
  rw [Addr.add_lit]
  match j, hj with
  | 0, hj => rw [← hj]; exact hb.cellv (dot_get0 hk)
  | 1, hj => rw [← hj]; exact hb.cellv (dot_get1 hk)
  | j + 2, hj => simp at hj
set_option maxRecDepth 100000 in
theorem eqDotS_c (l : List (Nat × Nat)) (hn : l.length ≤ 144) (g cap g' cap' : Nat) (spare spare' : List Value) (T T' : TypeId) (w : World) (hb : Blk w g (dtv l ++ spare) T) (hb' : Blk w g' (dtv l ++ spare') T') :
    Calls Try.prog 60 #[.slice (some ⟨g, 0, none⟩) l.length cap, .slice (some ⟨g', 0, none⟩) l.length cap'] w fun e w' => e = .returned (.bool true) ∧ Keep [] w w' := by
  have st := St.start w
  go_enter Try.func60, Try.ntmps60
  go_wp2_with fail
  go_loopw [5] (fun i wr => ∃ k : Nat, k ≤ l.length ∧ i = .int .i64 k ∧ St [] w wr []) (fun i _ => l.length - (intOf i).toNat)
  case atStart => exact ⟨0, by omega, rfl, st⟩
  case round =>
    clear st
    obtain ⟨k, hk, rfl, st⟩ := hrel
    by_cases hlt : k < l.length
    · have hd : decide ((k : Int) < (l.length : Int)) = true := by simpa using hlt
      obtain ⟨cs, hcs⟩ : ∃ cs : List Value, cs = [Value.int .i8 ((l.getD k (0, 0)).1 : Int), .int .i8 ((l.getD k (0, 0)).2 : Int)] := ⟨_, rfl⟩
      have hs1 : ∀ w', St [] w w' [] → ∀ j v, cs[j]? = some v → w'.cell? ((⟨g, 0 + k * 2, none⟩ : Addr).add j) = some v := fun w' st' => by rw [hcs]; exact seg_of (st'.arg hb (by simp)) hlt
      have hs2 : ∀ w', St [] w w' [] → ∀ j v, cs[j]? = some v → w'.cell? ((⟨g', 0 + k * 2, none⟩ : Addr).add j) = some v := fun w' st' => by rw [hcs]; exact seg_of (st'.arg hb' (by simp)) hlt
      have hl : cs.length = 2 := by rw [hcs]; rfl
      have hq : ∀ w', Calls Try.prog 110 #[.agg cs.toArray, .agg cs.toArray] w' fun e w'' => e = .returned (.bool true) ∧ Keep [] w' w'' := fun w' => by rw [hcs]; exact eqDot_c _ _ w'
      replace hs1 := hid hs1
      replace hs2 := hid hs2
      replace hq := hid hq
      clear hcs
      go_wp2_with fail
      (refine wp_region_quiet_st st (by kernel_rfl) (by kernel_rfl) ?_; clear st; (repeat ((first | (refine wpq_move rfl _ rfl _ rfl ?_) | ((with_reducible refine qgate_dst (N := 19) rfl ?_); ((with_reducible refine qgate_addr rfl ?_); refine wpq_slcAddr rfl _ _ _ rfl _ _ _ _ rfl _ _ rfl tDotS k rfl hlt ?_)) | ((with_reducible refine qgate_dst (N := 23) rfl ?_); ((with_reducible refine qgate_addr rfl ?_); refine wpq_slcAddr rfl _ _ _ rfl _ _ _ _ rfl _ _ rfl tDotS k rfl hlt ?_)) | ((with_reducible refine qgate_dst (N := 20) rfl ?_); (refine wpq_loadSeg rfl _ _ rfl _ rfl tDot cs hs1.out hl ?_)) | ((with_reducible refine qgate_dst (N := 24) rfl ?_); (refine wpq_loadSeg rfl _ _ rfl _ rfl tDot cs hs2.out hl ?_)) | ((with_reducible refine qgate_dst (N := 25) rfl ?_); ((with_reducible refine qgate_call rfl ?_); refine wpq_call rfl _ rfl _ rfl 110 _ _ rfl _ Try.func110 (by kernel_rfl) (by kernel_rfl) #[.agg cs.toArray, .agg cs.toArray] (by simp [Act.eval, Act.put]) (.bool true) (fun w' hw => (hq.out _).mono fun _ _ h => ⟨h.1, hw.call h.2⟩) ?_)) | ((with_reducible refine qgate_dst (N := 26) rfl ?_); (refine wpq_val rfl _ (fun _ _ => rfl) ?_))); (simp only [Act.put, Act.eval, Array.getD_eq_getD_getElem?, List.getElem?_toArray, List.getElem?_cons_succ, List.getElem?_cons_zero, Option.getD_some, List.setIfInBounds_toArray, List.set_cons_succ, List.set_cons_zero, List.getElem_toArray, List.getElem_cons_succ, List.getElem_cons_zero]))); refine wpQuiet_nil ?_; intro _ st)
      go_wp2_with fail
      go_roundw
      case rel => exact ⟨k + 1, by omega, by go_num, st⟩
      case measure => simp [intOf]; omega
    · obtain rfl : k = l.length := by omega
      go_wp2_with fail
      go_ret
      exact ⟨rfl, st.keep⟩
theorem eqDotS_0 (a a' : Option Addr) (c c' : Nat) (w : World) :
    Calls Try.prog 60 #[.slice a 0 c, .slice a' 0 c'] w fun e w' => e = .returned (.bool true) ∧ Keep [] w w' := by
  have st := St.start w
  go_enter Try.func60, Try.ntmps60
  go_wp2_with fail
  go_loopw [5] (fun i wr => i = .int .i64 0 ∧ St [] w wr []) (fun i _ => 0)
  case atStart => exact ⟨rfl, st⟩
  case round =>
    clear st
    obtain ⟨rfl, st⟩ := hrel
    go_wp2_with fail
    go_ret
    exact ⟨rfl, st.keep⟩

/-! ### Marked -/
def mkV (j : Nat) : Value := .int .i8 (IntKind.i8.wrap (101 + (j : Int)))
/-- The first i dots marked. -/
def mkd (i : Nat) (cs : List Value) : List Value := (List.range (2 * i)).map mkV ++ cs.drop (2 * i)
theorem mkd_zero (cs : List Value) : mkd 0 cs = cs := by simp [mkd]
theorem mkd_get (i : Nat) (cs : List Value) (j : Nat) : (mkd i cs)[j]? = if j < 2 * i then some (mkV j) else cs[j]? := by
  unfold mkd
  by_cases h : j < 2 * i
  · rw [if_pos h, List.getElem?_append_left (by simpa using h), List.getElem?_map, List.getElem?_range h]; rfl
  · rw [if_neg h, List.getElem?_append_right (by simp; omega), List.getElem?_drop]
    congr 1
    simp
    omega
theorem mkd_length {i : Nat} {cs : List Value} (h : 2 * i ≤ cs.length) : (mkd i cs).length = cs.length := by simp [mkd]; omega
theorem mkd_step {i : Nat} {cs : List Value} (h : 2 * (i + 1) ≤ cs.length) : ((mkd i cs).set (i * 2) (mkV (2 * i))).set (i * 2 + 1) (mkV (2 * i + 1)) = mkd (i + 1) cs := by
  apply List.ext_getElem?
  intro j
  rw [List.getElem?_set, List.getElem?_set, mkd_get, mkd_get, List.length_set, mkd_length (by omega)]
  by_cases e1 : i * 2 + 1 = j
  · subst e1; rw [if_pos rfl, if_pos (by omega), if_pos (by omega), show i * 2 + 1 = 2 * i + 1 by omega]
  · rw [if_neg e1]
    by_cases e2 : i * 2 = j
    · subst e2; rw [if_pos rfl, if_pos (by omega), if_pos (by omega), show i * 2 = 2 * i by omega]
    · rw [if_neg e2]
      by_cases h1 : j < 2 * i
      · rw [if_pos h1, if_pos (by omega)]
      · rw [if_neg h1, if_neg (by omega)]
set_option maxRecDepth 100000 in
theorem markDotS_c (n cap : Nat) (hn : n ≤ 1000000) (g : Nat) (cs : List Value) (hcs : 2 * n ≤ cs.length) (T : TypeId) (w : World) (hb : Blk w g cs T) :
    Calls Try.prog 61 #[.slice (some ⟨g, 0, none⟩) n cap, .int .i64 101] w fun e w' => e = .returned (.int .i64 (101 + 2 * (n : Int))) ∧ Keep [g] w w' ∧ Blk w' g (mkd n cs) T := by
  have st := St.start1 hb
  rw [← mkd_zero cs] at st
  go_enter Try.func61, Try.ntmps61
  go_wp2_with fail
  go_loopw [1, 5] (fun m i wr => ∃ k : Nat, k ≤ n ∧ i = .int .i64 k ∧ m = .int .i64 (101 + 2 * (k : Int)) ∧ St [g] w wr [(g, mkd k cs, T)]) (fun _ i _ => n - (intOf i).toNat)
  case atStart => exact ⟨0, by omega, rfl, rfl, st⟩
  case round =>
    clear st
    obtain ⟨k, hk, rfl, rfl, st⟩ := hrel
    by_cases hlt : k < n
    · have hd : decide ((k : Int) < (n : Int)) = true := by simpa using hlt
      have HM := hid (mkd_step (i := k) (cs := cs) (by omega))
      have hl := mkd_length (i := k) (cs := cs) (by omega)
      go_wp2_with (first | ((with_reducible refine gate_dst (N := 15) rfl ?_); ((with_reducible refine gate_conv rfl ?_); refine wpl_conv rfl _ _ _ rfl _ _ _ (IntKind.i8.wrap (101 + 2 * (k : Int))) rfl rfl (by kernel_rfl) rfl ?_)) | ((with_reducible refine gate_dst (N := 23) rfl ?_); ((with_reducible refine gate_conv rfl ?_); refine wpl_conv rfl _ _ _ rfl _ _ _ (IntKind.i8.wrap (101 + 2 * (k : Int) + 1)) rfl rfl (by kernel_rfl) rfl ?_)) | ((with_reducible refine gate_addr rfl ?_); refine wpl_slcAddr rfl _ _ rfl _ _ _ _ rfl _ _ rfl tDotS k rfl hlt ?_) | ((with_reducible refine gate_dst (N := 17) rfl ?_); ((with_reducible refine gate_field rfl ?_); refine wpl_field rfl _ _ 0 rfl _ _ rfl 0 fld_dot0 ?_)) | ((with_reducible refine gate_dst (N := 25) rfl ?_); ((with_reducible refine gate_field rfl ?_); refine wpl_field rfl _ _ 1 rfl _ _ rfl 1 fld_dot1 ?_)) | ((with_reducible refine gate_store rfl ?_); refine wpl_store1 rfl _ _ _ rfl _ _ rfl (.int .i8 _) rfl tI8 rfl rfl st _ _ (by repeat (first | exact Upd.here | apply Upd.there)) (by first | omega | (simp only [List.length_set]; omega)) ?_; clear st; intro _ st) | ((with_reducible refine gate_dst (N := 19) rfl ?_); ((with_reducible refine gate_bin rfl ?_); refine wpl_bin rfl _ _ _ _ _ rfl _ _ _ _ rfl rfl (.int .i64 (101 + 2 * (k : Int) + 1)) (fun w' => run_add64 (by omega) (by omega) w') ?_)) | ((with_reducible refine gate_dst (N := 27) rfl ?_); ((with_reducible refine gate_bin rfl ?_); refine wpl_bin rfl _ _ _ _ _ rfl _ _ _ _ rfl rfl (.int .i64 (101 + 2 * (k : Int) + 1 + 1)) (fun w' => run_add64 (by omega) (by omega) w') ?_)))
      simp only [Nat.zero_add, Nat.add_zero] at st
      have e1 : mkV (2 * k) = .int .i8 (IntKind.i8.wrap (101 + 2 * (k : Int))) := by simp [mkV]
      have e2 : mkV (2 * k + 1) = .int .i8 (IntKind.i8.wrap (101 + 2 * (k : Int) + 1)) := by unfold mkV; rw [show (101 : Int) + ((2 * k + 1 : Nat) : Int) = 101 + 2 * (k : Int) + 1 by omega]
      rw [← e1, ← e2, HM.out] at st
      go_roundw
      case rel => exact ⟨k + 1, by omega, by go_num, by go_num, st⟩
      case measure => simp [intOf]; omega
    · obtain rfl : k = n := by omega
      go_wp2_with fail
      go_ret
      exact ⟨rfl, st.keep1⟩
theorem mkV0 (k : Nat) : mkV (2 * k) = .int .i8 (IntKind.i8.wrap (101 + 2 * (k : Int))) := by unfold mkV; rw [show (101 : Int) + ((2 * k : Nat) : Int) = 101 + 2 * (k : Int) by omega]
theorem mkV1 (k : Nat) : mkV (2 * k + 1) = .int .i8 (IntKind.i8.wrap (101 + 2 * (k : Int) + 1)) := by unfold mkV; rw [show (101 : Int) + ((2 * k + 1 : Nat) : Int) = 101 + 2 * (k : Int) + 1 by omega]
theorem mkd_get0 {n k : Nat} (cs : List Value) (h : k < n) : (mkd n cs)[0 + k * 2 + 0]? = some (.int .i8 (IntKind.i8.wrap (101 + 2 * (k : Int)))) := by
  rw [mkd_get, if_pos (by omega), show 0 + k * 2 + 0 = 2 * k by omega, mkV0]
theorem mkd_get1 {n k : Nat} (cs : List Value) (h : k < n) : (mkd n cs)[0 + k * 2 + 1]? = some (.int .i8 (IntKind.i8.wrap (101 + 2 * (k : Int) + 1))) := by
  rw [mkd_get, if_pos (by omega), show 0 + k * 2 + 1 = 2 * k + 1 by omega, mkV1]
set_option maxRecDepth 100000 in
theorem heldDotS_c (n cap : Nat) (hn : n ≤ 1000000) (g : Nat) (cs : List Value) (T : TypeId) (w : World) (hb : Blk w g (mkd n cs) T) :
    Calls Try.prog 62 #[.slice (some ⟨g, 0, none⟩) n cap, .int .i64 101] w fun e w' => e = .returned (.int .i64 (101 + 2 * (n : Int))) ∧ Keep [] w w' := by
  have st := St.start w
  go_enter Try.func62, Try.ntmps62
  go_wp2_with fail
  go_loopw [1, 5] (fun m i wr => ∃ k : Nat, k ≤ n ∧ i = .int .i64 k ∧ m = .int .i64 (101 + 2 * (k : Int)) ∧ St [] w wr []) (fun _ i _ => n - (intOf i).toNat)
  case atStart => exact ⟨0, by omega, rfl, rfl, st⟩
  case round =>
    clear st
    obtain ⟨k, hk, rfl, rfl, st⟩ := hrel
    by_cases hlt : k < n
    · have hd : decide ((k : Int) < (n : Int)) = true := by simpa using hlt
      have G0 := hid (mkd_get0 cs hlt)
      have G1 := hid (mkd_get1 cs hlt)
      obtain ⟨v0, hv0⟩ : ∃ v : Int, v = IntKind.i8.wrap (101 + 2 * (k : Int)) := ⟨_, rfl⟩
      obtain ⟨v1, hv1⟩ : ∃ v : Int, v = IntKind.i8.wrap (101 + 2 * (k : Int) + 1) := ⟨_, rfl⟩
      rw [← hv0] at G0
      rw [← hv1] at G1
      have V0 := hid hv0.symm
      have V1 := hid hv1.symm
      clear hv0 hv1
      go_wp2_with (first | ((with_reducible refine gate_dst (N := 18) rfl ?_); ((with_reducible refine gate_conv rfl ?_); refine wpl_conv rfl _ _ _ rfl _ _ _ v0 rfl rfl (by kernel_rfl) V0.out ?_)) | ((with_reducible refine gate_dst (N := 28) rfl ?_); ((with_reducible refine gate_conv rfl ?_); refine wpl_conv rfl _ _ _ rfl _ _ _ v1 rfl rfl (by kernel_rfl) V1.out ?_)) | ((with_reducible refine gate_addr rfl ?_); refine wpl_slcAddr rfl _ _ rfl _ _ _ _ rfl _ _ rfl tDotS k rfl hlt ?_) | ((with_reducible refine gate_dst (N := 15) rfl ?_); ((with_reducible refine gate_field rfl ?_); refine wpl_field rfl _ _ 0 rfl _ _ rfl 0 fld_dot0 ?_)) | ((with_reducible refine gate_dst (N := 25) rfl ?_); ((with_reducible refine gate_field rfl ?_); refine wpl_field rfl _ _ 1 rfl _ _ rfl 1 fld_dot1 ?_)) | ((with_reducible refine gate_dst (N := 16) rfl ?_); ((with_reducible refine gate_load rfl ?_); refine wpl_load1 rfl _ _ rfl _ rfl tI8 (.int .i8 v0) ((st.arg hb (by simp)).cellv (by first | exact G0.out | (have := G0.out; simpa using this))) ?_)) | ((with_reducible refine gate_dst (N := 26) rfl ?_); ((with_reducible refine gate_load rfl ?_); refine wpl_load1 rfl _ _ rfl _ rfl tI8 (.int .i8 v1) ((st.arg hb (by simp)).cellv (by first | exact G1.out | (have := G1.out; simpa using this))) ?_)) | ((with_reducible refine gate_dst (N := 21) rfl ?_); ((with_reducible refine gate_bin rfl ?_); refine wpl_bin rfl _ _ _ _ _ rfl _ _ _ _ rfl rfl (.int .i64 (101 + 2 * (k : Int) + 1)) (fun w' => run_add64 (by omega) (by omega) w') ?_)) | ((with_reducible refine gate_dst (N := 31) rfl ?_); ((with_reducible refine gate_bin rfl ?_); refine wpl_bin rfl _ _ _ _ _ rfl _ _ _ _ rfl rfl (.int .i64 (101 + 2 * (k : Int) + 1 + 1)) (fun w' => run_add64 (by omega) (by omega) w') ?_)))
      go_roundw
      case rel => exact ⟨k + 1, by omega, by go_num, by go_num, st⟩
      case measure => simp [intOf]; omega
    · obtain rfl : k = n := by omega
      go_wp2_with fail
      go_ret
      exact ⟨rfl, st.keep⟩
theorem markDotS_0 (a : Option Addr) (c : Nat) (w : World) :
    Calls Try.prog 61 #[.slice a 0 c, .int .i64 101] w fun e w' => e = .returned (.int .i64 101) ∧ Keep [] w w' := by
  have st := St.start w
  go_enter Try.func61, Try.ntmps61
  go_wp2_with fail
  go_loopw [1, 5] (fun m i wr => m = .int .i64 101 ∧ i = .int .i64 0 ∧ St [] w wr []) (fun _ i _ => 0)
  case atStart => exact ⟨rfl, rfl, st⟩
  case round =>
    clear st
    obtain ⟨rfl, rfl, st⟩ := hrel
    go_wp2_with fail
    go_ret
    exact ⟨rfl, st.keep⟩
theorem heldDotS_0 (a : Option Addr) (c : Nat) (w : World) :
    Calls Try.prog 62 #[.slice a 0 c, .int .i64 101] w fun e w' => e = .returned (.int .i64 101) ∧ Keep [] w w' := by
  have st := St.start w
  go_enter Try.func62, Try.ntmps62
  go_wp2_with fail
  go_loopw [1, 5] (fun m i wr => m = .int .i64 101 ∧ i = .int .i64 0 ∧ St [] w wr []) (fun _ i _ => 0)
  case atStart => exact ⟨rfl, rfl, st⟩
  case round =>
    clear st
    obtain ⟨rfl, rfl, st⟩ := hrel
    go_wp2_with fail
    go_ret
    exact ⟨rfl, st.keep⟩

/-! ### DotsOf -/
def DofPost (f : List Nat) (w : World) (e : Ending) (w' : World) : Prop := ∃ v, e = .returned (.tuple #[v, .int .i64 0]) ∧ Gives 88 2 (dots f).length (dtv (dots f)) w v w' ∧ Keep [] w w'
theorem specDotsOf_c (f : List Nat) (ok : FrOk f) (h : okB f = true) (w : World) : Calls Try.prog 58 #[.agg (frv f).toArray] w (DofPost f w) := by
  have hf := ok.len
  have st := St.start w
  have hbelow : w.heap.size ≤ w.heap.size := Nat.le_refl _
  go_enter Try.func58, Try.ntmps58
  go_wp2_with (first | ((with_reducible refine gate_box rfl ?_); refine wpl_box rfl _ _ rfl _ rfl _ rfl st ?_; clear st; intro B1 _ st) | (go_at_call 73; refine (l01Ok_c f hf _ _ _ (.of (st.get .here))).mono ?_; rintro _ _ ⟨rfl, hk⟩; replace st := st.call hk; clear hk) | (go_at_call 94; refine (l01Dots_c f ok _ _ _ (.of (st.get .here))).mono ?_; rintro _ _ ⟨v, rfl, ⟨g, cap, spare, rfl, hg, hbg, hcap, hcm⟩, hk⟩; replace hg := Nat.le_trans st.keep.size hg; replace st := st.call hk; clear hk))
  ((try simp only [Exit.inBlock, Exit.then]); refine bodyPost_ret (results_tmp2 rfl _ _ _) rfl ?_)
  exact ⟨_, rfl, ⟨g, cap, spare, rfl, hg, hbg, hcap, hcm⟩, st.keep⟩
theorem DotsOf_c (f : List Nat) (ok : FrOk f) (h : okB f = true) (w : World) : Calls Try.prog 59 #[.agg (frv f).toArray] w (DofPost f w) := by
  have hf := ok.len
  have st := St.start w
  go_enter Try.func59, Try.ntmps59
  go_wp2_with (first | ((with_reducible refine gate_box rfl ?_); refine wpl_box rfl _ _ rfl _ rfl _ rfl st ?_; clear st; intro B1 _ st) | ((with_reducible refine gate_load rfl ?_); refine wpl_loadAll rfl _ _ rfl _ rfl tFr.toAggT _ _ (st.get (by repeat (first | exact At.here | apply At.there))) (by simp [frv_length, zf_length, mk_length, withD_length, part_length, rowsOf_length, *]) ?_) | (go_at_call 25; refine (ValidFrame_c f hf _).mono ?_; rintro _ _ ⟨rfl, hk⟩; replace st := st.call hk; clear hk) | (go_at_call 109; refine (dots_c f ok _).mono ?_; rintro _ _ ⟨v, rfl, ⟨g, cap, spare, rfl, hg, hbg, hcap, hcm⟩, hk⟩; replace hg := Nat.le_trans st.keep.size hg; replace st := st.call hk; clear hk))
  ((try simp only [Exit.inBlock, Exit.then]); refine bodyPost_ret (results_tmp2 rfl _ _ _) rfl ?_)
  exact ⟨_, rfl, ⟨g, cap, spare, rfl, hg, hbg, hcap, hcm⟩, st.keep⟩
theorem specDotsOf_0 (f : List Nat) (ok : FrOk f) (h : okB f = false) (w : World) : Calls Try.prog 58 #[.agg (frv f).toArray] w fun e w' => ∃ B, e = .returned (.tuple #[.slice (some ⟨B, 0, none⟩) 0 0, .int .i64 1]) ∧ Keep [] w w' := by
  have hf := ok.len
  have st := St.start w
  go_enter Try.func58, Try.ntmps58
  go_wp2_with (first | ((with_reducible refine gate_box rfl ?_); refine wpl_box rfl _ _ rfl _ rfl _ rfl st ?_; clear st; intro B1 _ st) | (go_at_call 73; refine (l01Ok_c f hf _ _ _ (.of (st.get .here))).mono ?_; rintro _ _ ⟨rfl, hk⟩; replace st := st.call hk; clear hk) | ((with_reducible refine gate_bsl rfl ?_); refine wpl_buildSlice0 rfl _ rfl tDotS st ?_; clear st; intro B2 _ st))
  ((try simp only [Exit.inBlock, Exit.then]); refine bodyPost_ret (results_tmp2 rfl _ _ _) rfl ?_)
  exact ⟨B2, rfl, st.keep⟩
theorem DotsOf_0 (f : List Nat) (ok : FrOk f) (h : okB f = false) (w : World) : Calls Try.prog 59 #[.agg (frv f).toArray] w fun e w' => e = .returned (.tuple #[.slice none 0 0, .int .i64 1]) ∧ Keep [] w w' := by
  have hf := ok.len
  have st := St.start w
  go_enter Try.func59, Try.ntmps59
  go_wp2_with (first | ((with_reducible refine gate_box rfl ?_); refine wpl_box rfl _ _ rfl _ rfl _ rfl st ?_; clear st; intro B1 _ st) | ((with_reducible refine gate_load rfl ?_); refine wpl_loadAll rfl _ _ rfl _ rfl tFr.toAggT _ _ (st.get (by repeat (first | exact At.here | apply At.there))) (by simp [frv_length, zf_length, mk_length, withD_length, part_length, rowsOf_length, *]) ?_) | (go_at_call 25; refine (ValidFrame_c f hf _).mono ?_; rintro _ _ ⟨rfl, hk⟩; replace st := st.call hk; clear hk))
  ((try simp only [Exit.inBlock, Exit.then]); refine bodyPost_ret (results_tmp2 rfl _ _ _) rfl ?_)
  exact ⟨rfl, st.keep⟩
end Go.Proofs.Ytdiphapcjafbaaa
