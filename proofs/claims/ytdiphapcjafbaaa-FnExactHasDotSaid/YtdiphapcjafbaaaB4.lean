/- Asked places: HasDot and WithDot; no condition. -/
import Derived.Test.YtdiphapcjafbaaaB2
import Derived.Test.YtdiphapcjafbaaaRules
namespace Go.Proofs.Ytdiphapcjafbaaa
open Go.RowKit
set_option linter.unusedSimpArgs false
set_option linter.unusedVariables false

/-- The code of a question about a place. -/
def askC (f : List Nat) (x y : Int) : Int := if okB f = true then (if placeB x y = true then 0 else 2) else 1
theorem askC_0 {f : List Nat} {x y : Int} (h : okB f = true) (hp : placeB x y = true) : askC f x y = 0 := by simp [askC, h, hp]
theorem askC_1 {f : List Nat} {x y : Int} (h : okB f = false) : askC f x y = 1 := by simp [askC, h]
theorem askC_2 {f : List Nat} {x y : Int} (h : okB f = true) (hp : placeB x y = false) : askC f x y = 2 := by simp [askC, h, hp]
theorem l01Asked_c (f : List Nat) (ok : FrOk f) (b o : Nat) (x y : Int) (w : World) (hb : Cl w b o (frv f)) :
    Calls Try.prog 79 #[.pointer (some ⟨b, o, none⟩), .int .i64 x, .int .i64 y] w fun e w' => e = .returned (.int .i64 (askC f x y)) ∧ Keep [] w w' := by
  have hf := ok.len
  have st := St.start w
  rcases Bool.eq_false_or_eq_true (okB f) with h | h
  · rcases Bool.eq_false_or_eq_true (placeB x y) with hp | hp
    · rw [askC_0 h hp]
      go_enter Try.func79, Try.ntmps79
      go_wp2_with (first | (go_at_call 73; refine (l01Ok_c f hf _ _ _ hb).mono ?_; rintro _ _ ⟨rfl, hk⟩; replace st := st.call hk; clear hk) | (go_at_call 102; refine (l01Place_c _ _ _).mono ?_; rintro _ _ ⟨rfl, hk⟩; replace st := st.call hk; clear hk))
      go_ret
      exact ⟨rfl, st.keep⟩
    · rw [askC_2 h hp]
      go_enter Try.func79, Try.ntmps79
      go_wp2_with (first | (go_at_call 73; refine (l01Ok_c f hf _ _ _ hb).mono ?_; rintro _ _ ⟨rfl, hk⟩; replace st := st.call hk; clear hk) | (go_at_call 102; refine (l01Place_c _ _ _).mono ?_; rintro _ _ ⟨rfl, hk⟩; replace st := st.call hk; clear hk))
      go_ret
      exact ⟨rfl, st.keep⟩
  · rw [askC_1 h]
    go_enter Try.func79, Try.ntmps79
    go_wp2_with (first | (go_at_call 73; refine (l01Ok_c f hf _ _ _ hb).mono ?_; rintro _ _ ⟨rfl, hk⟩; replace st := st.call hk; clear hk))
    go_ret
    exact ⟨rfl, st.keep⟩
theorem checkPlace_c (f : List Nat) (ok : FrOk f) (x y : Int) (w : World) :
    Calls Try.prog 81 #[.agg (frv f).toArray, .int .i64 x, .int .i64 y] w fun e w' => e = .returned (.int .i64 (askC f x y)) ∧ Keep [] w w' := by
  have hf := ok.len
  have st := St.start w
  rcases Bool.eq_false_or_eq_true (okB f) with h | h
  · rcases Bool.eq_false_or_eq_true (placeB x y) with hp | hp
    · rw [askC_0 h hp]
      go_enter Try.func81, Try.ntmps81
      go_wp2_with (first | ((with_reducible refine gate_box rfl ?_); refine wpl_box rfl _ _ rfl _ rfl _ rfl st ?_; clear st; intro _ _ st) | ((with_reducible refine gate_load rfl ?_); refine wpl_loadAll rfl _ _ rfl _ rfl tFr.toAggT _ _ (st.get (by repeat (first | exact At.here | apply At.there))) (by simp [frv_length, zf_length, mk_length, withD_length, part_length, rowsOf_length, *]) ?_) | (go_at_call 25; refine (ValidFrame_c f hf _).mono ?_; rintro _ _ ⟨rfl, hk⟩; replace st := st.call hk; clear hk) | (go_at_call 106; refine (isPlace_c _ _ _).mono ?_; rintro _ _ ⟨rfl, hk⟩; replace st := st.call hk; clear hk))
      go_ret
      exact ⟨rfl, st.keep⟩
    · rw [askC_2 h hp]
      go_enter Try.func81, Try.ntmps81
      go_wp2_with (first | ((with_reducible refine gate_box rfl ?_); refine wpl_box rfl _ _ rfl _ rfl _ rfl st ?_; clear st; intro _ _ st) | ((with_reducible refine gate_load rfl ?_); refine wpl_loadAll rfl _ _ rfl _ rfl tFr.toAggT _ _ (st.get (by repeat (first | exact At.here | apply At.there))) (by simp [frv_length, zf_length, mk_length, withD_length, part_length, rowsOf_length, *]) ?_) | (go_at_call 25; refine (ValidFrame_c f hf _).mono ?_; rintro _ _ ⟨rfl, hk⟩; replace st := st.call hk; clear hk) | (go_at_call 106; refine (isPlace_c _ _ _).mono ?_; rintro _ _ ⟨rfl, hk⟩; replace st := st.call hk; clear hk))
      go_ret
      exact ⟨rfl, st.keep⟩
  · rw [askC_1 h]
    go_enter Try.func81, Try.ntmps81
    go_wp2_with (first | ((with_reducible refine gate_box rfl ?_); refine wpl_box rfl _ _ rfl _ rfl _ rfl st ?_; clear st; intro _ _ st) | ((with_reducible refine gate_load rfl ?_); refine wpl_loadAll rfl _ _ rfl _ rfl tFr.toAggT _ _ (st.get (by repeat (first | exact At.here | apply At.there))) (by simp [frv_length, zf_length, mk_length, withD_length, part_length, rowsOf_length, *]) ?_) | (go_at_call 25; refine (ValidFrame_c f hf _).mono ?_; rintro _ _ ⟨rfl, hk⟩; replace st := st.call hk; clear hk))
    go_ret
    exact ⟨rfl, st.keep⟩

/-- What HasDot answers. -/
def hasR (f : List Nat) (x y : Int) : Bool := if askC f x y = 0 then hasI f x y else false
theorem specHasDot_c (f : List Nat) (ok : FrOk f) (x y : Int) (w : World) :
    Calls Try.prog 31 #[.agg (frv f).toArray, .int .i64 x, .int .i64 y] w fun e w' => e = .returned (.tuple #[.bool (hasR f x y), .int .i64 (askC f x y)]) ∧ Keep [] w w' := by
  have hf := ok.len
  have st := St.start w
  unfold hasR
  by_cases hc : askC f x y = 0
  · rw [if_pos hc, hc]
    go_enter Try.func31, Try.ntmps31
    go_wp2_with (first | ((with_reducible refine gate_box rfl ?_); refine wpl_box rfl _ _ rfl _ rfl _ rfl st ?_; clear st; intro _ _ st) | (go_at_call 79; refine (l01Asked_c f ok _ _ x y _ (.of (st.get .here))).mono ?_; rintro _ _ ⟨rfl, hk⟩; replace st := st.call hk; clear hk) | (go_at_call 80; refine (l01Has_c f ok _ _ x y _ (.of (st.get .here))).mono ?_; rintro _ _ ⟨rfl, hk⟩; replace st := st.call hk; clear hk))
    ((try simp only [Exit.inBlock, Exit.then]); refine bodyPost_ret (results_tmp2 rfl _ _ _) rfl ?_)
    exact ⟨rfl, st.keep⟩
  · rw [if_neg hc]
    go_enter Try.func31, Try.ntmps31
    go_wp2_with (first | ((with_reducible refine gate_box rfl ?_); refine wpl_box rfl _ _ rfl _ rfl _ rfl st ?_; clear st; intro _ _ st) | (go_at_call 79; refine (l01Asked_c f ok _ _ x y _ (.of (st.get .here))).mono ?_; rintro _ _ ⟨rfl, hk⟩; replace st := st.call hk; clear hk))
    ((try simp only [Exit.inBlock, Exit.then]); refine bodyPost_ret (results_tmp2 rfl _ _ _) rfl ?_)
    exact ⟨rfl, st.keep⟩
theorem HasDot_c (f : List Nat) (ok : FrOk f) (x y : Int) (w : World) :
    Calls Try.prog 32 #[.agg (frv f).toArray, .int .i64 x, .int .i64 y] w fun e w' => e = .returned (.tuple #[.bool (hasR f x y), .int .i64 (askC f x y)]) ∧ Keep [] w w' := by
  have hf := ok.len
  have st := St.start w
  unfold hasR
  by_cases hc : askC f x y = 0
  · rw [if_pos hc, hc]
    go_enter Try.func32, Try.ntmps32
    go_wp2_with (first | ((with_reducible refine gate_box rfl ?_); refine wpl_box rfl _ _ rfl _ rfl _ rfl st ?_; clear st; intro _ _ st) | ((with_reducible refine gate_load rfl ?_); refine wpl_loadAll rfl _ _ rfl _ rfl tFr.toAggT _ _ (st.get (by repeat (first | exact At.here | apply At.there))) (by simp [frv_length, zf_length, mk_length, withD_length, part_length, rowsOf_length, *]) ?_) | (go_at_call 81; refine (checkPlace_c f ok x y _).mono ?_; rintro _ _ ⟨rfl, hk⟩; replace st := st.call hk; clear hk) | (go_at_call 82; refine (has_c f ok x y _).mono ?_; rintro _ _ ⟨rfl, hk⟩; replace st := st.call hk; clear hk))
    ((try simp only [Exit.inBlock, Exit.then]); refine bodyPost_ret (results_tmp2 rfl _ _ _) rfl ?_)
    exact ⟨rfl, st.keep⟩
  · rw [if_neg hc]
    go_enter Try.func32, Try.ntmps32
    go_wp2_with (first | ((with_reducible refine gate_box rfl ?_); refine wpl_box rfl _ _ rfl _ rfl _ rfl st ?_; clear st; intro _ _ st) | ((with_reducible refine gate_load rfl ?_); refine wpl_loadAll rfl _ _ rfl _ rfl tFr.toAggT _ _ (st.get (by repeat (first | exact At.here | apply At.there))) (by simp [frv_length, zf_length, mk_length, withD_length, part_length, rowsOf_length, *]) ?_) | (go_at_call 81; refine (checkPlace_c f ok x y _).mono ?_; rintro _ _ ⟨rfl, hk⟩; replace st := st.call hk; clear hk))
    ((try simp only [Exit.inBlock, Exit.then]); refine bodyPost_ret (results_tmp2 rfl _ _ _) rfl ?_)
    exact ⟨rfl, st.keep⟩

theorem FrOk.set {f : List Nat} (ok : FrOk f) (y n : Nat) (hn : n < 65536) : FrOk (f.set y n) := ⟨by rw [List.length_set]; exact ok.len, fun x hx => by
  rcases List.mem_or_eq_of_mem_set hx with h | h
  · exact ok.lt x h
  · omega⟩
/-- f without the dot at x, y. -/
def dropD (f : List Nat) (x y : Nat) : List Nat := f.set y (andNot (ro f y) (2 ^ x))
theorem dropD_ok {f : List Nat} (ok : FrOk f) (x y : Nat) : FrOk (dropD f x y) := ok.set _ _ (andNot_lt _ _)
theorem withD_frOk {f : List Nat} (ok : FrOk f) {x y : Nat} (hx : x < 12) : FrOk (withD f x y) := ok.set _ _ (Nat.or_lt_two_pow (n := 16) (ok.ro_lt y) (two_pow_lt hx))
/-- What WithDot answers. -/
def setR (f : List Nat) (x y : Int) (black : Bool) : List Nat := if askC f x y = 0 then (if black then withD (dropD f x.toNat y.toNat) x.toNat y.toNat else dropD f x.toNat y.toNat) else zf
theorem askC_place {f : List Nat} {x y : Int} (h : askC f x y = 0) : okB f = true ∧ placeB x y = true := by
  unfold askC at h
  split at h
  · split at h
    · exact ⟨by assumption, by assumption⟩
    · cases h
  · cases h
theorem setR_ok {f : List Nat} (ok : FrOk f) (x y : Int) (black : Bool) : FrOk (setR f x y black) := by
  unfold setR
  split
  · obtain ⟨_, hp⟩ := askC_place (by assumption)
    have := placeB_iff.1 hp
    cases black
    · exact dropD_ok ok _ _
    · exact withD_frOk (dropD_ok ok _ _) (by omega)
  · exact zf_ok
set_option maxRecDepth 100000 in
theorem specWithDot_c (f : List Nat) (ok : FrOk f) (x y : Int) (black : Bool) (w : World) :
    Calls Try.prog 41 #[.agg (frv f).toArray, .int .i64 x, .int .i64 y, .bool black] w fun e w' => e = .returned (.tuple #[.agg (frv (setR f x y black)).toArray, .int .i64 (askC f x y)]) ∧ Keep [] w w' := by
  have hf := ok.len
  have st := St.start w
  by_cases hc : askC f x y = 0
  · obtain ⟨_, hp⟩ := askC_place hc
    obtain ⟨h1, h2, h3, h4⟩ := placeB_iff.1 hp
    clear hp
    obtain ⟨x, rfl⟩ : ∃ n : Nat, x = n := ⟨x.toNat, by omega⟩
    obtain ⟨y, rfl⟩ : ∃ n : Nat, y = n := ⟨y.toNat, by omega⟩
    have hx : x < 12 := by omega
    have hy : y < 12 := by omega
    clear h1 h2 h3 h4
    have okd := dropD_ok ok x y
    have hb1 := ok.ro_lt y
    have hcv := hid (conv_u64 hx)
    have hlw := withD_length (dropD f x y) x y
    unfold setR
    rw [if_pos hc, hc, Int.toNat_natCast, Int.toNat_natCast]
    cases black
    · go_enter Try.func41, Try.ntmps41
      go_wp2_with (first | ((with_reducible refine gate_box rfl ?_); refine wpl_box rfl _ _ rfl _ rfl _ rfl st ?_; clear st; intro _ _ st) | ((with_reducible refine gate_alloc rfl ?_); refine wpl_alloc rfl _ rfl tFr.toAggT st ?_; clear st; intro _ _ st) | (go_at_call 79; refine (l01Asked_c f ok _ _ x y _ (.of (st.get (.there .here)))).mono ?_; rintro _ _ ⟨rfl, hk⟩; replace st := st.call hk; clear hk) | ((with_reducible refine gate_addr rfl ?_); refine wpl_indexAddr0 rfl _ _ rfl _ rfl _ _ rfl tFr y rfl hy ?_) | ((with_reducible refine gate_load rfl ?_); refine wpl_load1 rfl _ _ rfl _ rfl tU16 _ ((st.get (by repeat (first | exact At.here | apply At.there))).cellv (frv_get _ _ (by omega))) ?_) | ((with_reducible refine gate_conv rfl ?_); refine wpl_conv rfl _ _ _ rfl _ _ _ _ rfl rfl (by kernel_rfl) hcv.out ?_) | ((with_reducible refine gate_dst (N := 24) rfl ?_); ((with_reducible refine gate_bin rfl ?_); refine wpl_bin rfl _ _ _ _ _ rfl _ _ _ _ rfl rfl (.int .u16 ((2 ^ x : Nat) : Int)) (fun w' => run_shl1 hx w') ?_)) | ((with_reducible refine gate_dst (N := 25) rfl ?_); ((with_reducible refine gate_bin rfl ?_); refine wpl_bin rfl _ _ _ _ _ rfl _ _ _ _ rfl rfl (.int .u16 ((andNot (ro f y) (2 ^ x) : Nat) : Int)) (fun w' => run_andNot hb1 (two_pow_lt hx) w') ?_)) | ((with_reducible refine gate_store rfl ?_); refine wpl_store1 rfl _ _ _ rfl _ _ rfl (.int .u16 _) rfl tU16 rfl rfl st _ _ (by repeat (first | exact Upd.here | apply Upd.there)) (by rw [frv_length]; omega) ?_; rw [frv_set, show f.set y (andNot (ro f y) (2 ^ x)) = dropD f x y from rfl];clear st; intro _ st) | ((with_reducible refine gate_load rfl ?_); refine wpl_loadAll rfl _ _ rfl _ rfl tFr.toAggT _ _ (st.get (by repeat (first | exact At.here | apply At.there))) (by rw [frv_length, okd.len]) ?_) | ((with_reducible refine gate_store rfl ?_); refine wpl_storeAll rfl _ _ _ rfl _ rfl _ rfl tFr.toAggT (by rw [frv_length, okd.len]) (frv_one _) st _ _ (by repeat (first | exact Upd.here | apply Upd.there)) (by simp [frv_length, zf_length, mk_length, withD_length, part_length, rowsOf_length, *]) ?_; clear st; intro _ st))
      refine bodyPost_cell_tmp rfl tFr.toAggT rfl _ rfl _ _ (st.get (by repeat (first | exact At.here | apply At.there))) (by rw [frv_length, okd.len]) _ rfl ?_
      exact ⟨rfl, st.keep⟩
    · go_enter Try.func41, Try.ntmps41
      go_wp2_with (first | ((with_reducible refine gate_box rfl ?_); refine wpl_box rfl _ _ rfl _ rfl _ rfl st ?_; clear st; intro _ _ st) | ((with_reducible refine gate_alloc rfl ?_); refine wpl_alloc rfl _ rfl tFr.toAggT st ?_; clear st; intro _ _ st) | (go_at_call 79; refine (l01Asked_c f ok _ _ x y _ (.of (st.get (.there .here)))).mono ?_; rintro _ _ ⟨rfl, hk⟩; replace st := st.call hk; clear hk) | ((with_reducible refine gate_addr rfl ?_); refine wpl_indexAddr0 rfl _ _ rfl _ rfl _ _ rfl tFr y rfl hy ?_) | ((with_reducible refine gate_load rfl ?_); refine wpl_load1 rfl _ _ rfl _ rfl tU16 _ ((st.get (by repeat (first | exact At.here | apply At.there))).cellv (frv_get _ _ (by omega))) ?_) | ((with_reducible refine gate_conv rfl ?_); refine wpl_conv rfl _ _ _ rfl _ _ _ _ rfl rfl (by kernel_rfl) hcv.out ?_) | ((with_reducible refine gate_dst (N := 24) rfl ?_); ((with_reducible refine gate_bin rfl ?_); refine wpl_bin rfl _ _ _ _ _ rfl _ _ _ _ rfl rfl (.int .u16 ((2 ^ x : Nat) : Int)) (fun w' => run_shl1 hx w') ?_)) | ((with_reducible refine gate_dst (N := 25) rfl ?_); ((with_reducible refine gate_bin rfl ?_); refine wpl_bin rfl _ _ _ _ _ rfl _ _ _ _ rfl rfl (.int .u16 ((andNot (ro f y) (2 ^ x) : Nat) : Int)) (fun w' => run_andNot hb1 (two_pow_lt hx) w') ?_)) | ((with_reducible refine gate_store rfl ?_); refine wpl_store1 rfl _ _ _ rfl _ _ rfl (.int .u16 _) rfl tU16 rfl rfl st _ _ (by repeat (first | exact Upd.here | apply Upd.there)) (by rw [frv_length]; omega) ?_; rw [frv_set, show f.set y (andNot (ro f y) (2 ^ x)) = dropD f x y from rfl];clear st; intro _ st) | (go_at_call 92; refine (l01Put_in (dropD f x y) okd _ _ x y hx hy _ (st.get (.there .here))).mono ?_; rintro _ _ ⟨rfl, hk, hb1⟩; replace st := st.wrote (by repeat (first | exact Upd.here | apply Upd.there)) hk hb1; clear hk hb1) | ((with_reducible refine gate_load rfl ?_); refine wpl_loadAll rfl _ _ rfl _ rfl tFr.toAggT _ _ (st.get (by repeat (first | exact At.here | apply At.there))) (by rw [frv_length, hlw, okd.len]) ?_) | ((with_reducible refine gate_store rfl ?_); refine wpl_storeAll rfl _ _ _ rfl _ rfl _ rfl tFr.toAggT (by rw [frv_length, hlw, okd.len]) (frv_one _) st _ _ (by repeat (first | exact Upd.here | apply Upd.there)) (by simp [frv_length, zf_length, mk_length, withD_length, part_length, rowsOf_length, *]) ?_; clear st; intro _ st))
      refine bodyPost_cell_tmp rfl tFr.toAggT rfl _ rfl _ _ (st.get (by repeat (first | exact At.here | apply At.there))) (by rw [frv_length, hlw, okd.len]) _ rfl ?_
      exact ⟨rfl, st.keep⟩
  · unfold setR
    rw [if_neg hc]
    go_enter Try.func41, Try.ntmps41
    go_wp2_with (first | ((with_reducible refine gate_box rfl ?_); refine wpl_box rfl _ _ rfl _ rfl _ rfl st ?_; clear st; intro _ _ st) | ((with_reducible refine gate_alloc rfl ?_); refine wpl_alloc rfl _ rfl tFr.toAggT st ?_; clear st; intro _ _ st) | (go_at_call 79; refine (l01Asked_c f ok _ _ x y _ (.of (st.get (.there .here)))).mono ?_; rintro _ _ ⟨rfl, hk⟩; replace st := st.call hk; clear hk) | ((with_reducible refine gate_build rfl ?_); refine wpl_zero rfl _ rfl _ tFrB ?_) | ((with_reducible refine gate_store rfl ?_); refine wpl_storeAll rfl _ _ _ rfl _ rfl _ rfl tFr.toAggT (by simp [frv_length, zf_length, mk_length, withD_length, part_length, rowsOf_length, *]) (frv_one _) st _ _ (by repeat (first | exact Upd.here | apply Upd.there)) (by simp [frv_length, zf_length, mk_length, withD_length, part_length, rowsOf_length, *]) ?_; clear st; intro _ st))
    refine bodyPost_cell_tmp rfl tFr.toAggT rfl _ rfl _ _ (st.get (by repeat (first | exact At.here | apply At.there))) (by simp [frv_length, zf_length, mk_length, withD_length, part_length, rowsOf_length, *]) _ rfl ?_
    exact ⟨rfl, st.keep⟩
set_option maxRecDepth 100000 in
theorem WithDot_c (f : List Nat) (ok : FrOk f) (x y : Int) (black : Bool) (w : World) :
    Calls Try.prog 42 #[.agg (frv f).toArray, .int .i64 x, .int .i64 y, .bool black] w fun e w' => e = .returned (.tuple #[.agg (frv (setR f x y black)).toArray, .int .i64 (askC f x y)]) ∧ Keep [] w w' := by
  have hf := ok.len
  have st := St.start w
  by_cases hc : askC f x y = 0
  · obtain ⟨_, hp⟩ := askC_place hc
    obtain ⟨h1, h2, h3, h4⟩ := placeB_iff.1 hp
    clear hp
    obtain ⟨x, rfl⟩ : ∃ n : Nat, x = n := ⟨x.toNat, by omega⟩
    obtain ⟨y, rfl⟩ : ∃ n : Nat, y = n := ⟨y.toNat, by omega⟩
    have hx : x < 12 := by omega
    have hy : y < 12 := by omega
    clear h1 h2 h3 h4
    have okd := dropD_ok ok x y
    have hb1 := ok.ro_lt y
    have hlw := withD_length (dropD f x y) x y
    unfold setR
    rw [if_pos hc, hc, Int.toNat_natCast, Int.toNat_natCast]
    cases black
    · go_enter Try.func42, Try.ntmps42
      go_wp2_with (first | ((with_reducible refine gate_box rfl ?_); refine wpl_box rfl _ _ rfl _ rfl _ rfl st ?_; clear st; intro _ _ st) | ((with_reducible refine gate_alloc rfl ?_); refine wpl_alloc rfl _ rfl tFr.toAggT st ?_; clear st; intro _ _ st) | ((with_reducible refine gate_load rfl ?_); refine wpl_loadAll rfl _ _ rfl _ rfl tFr.toAggT _ _ (st.get (by repeat (first | exact At.here | apply At.there))) (by simp [frv_length, zf_length, mk_length, withD_length, part_length, rowsOf_length, *]) ?_) | (go_at_call 81; refine (checkPlace_c f ok x y _).mono ?_; rintro _ _ ⟨rfl, hk⟩; replace st := st.call hk; clear hk))
      (refine wp_region_tail_st st 7 (by kernel_rfl) (by kernel_rfl) ?_; clear st; simp only [List.take_succ_cons, List.take_zero, List.drop_succ_cons, List.drop_zero]; (repeat ((first | (refine wpq_move rfl _ rfl _ rfl ?_) | ((with_reducible refine qgate_addr rfl ?_); refine wpq_indexAddr0 rfl _ _ _ rfl _ rfl _ _ rfl tFr y rfl hy ?_) | ((with_reducible refine qgate_load rfl ?_); refine wpq_load1 rfl _ _ rfl _ rfl tU16 _ (fun _ hw => (hw.get (by repeat (first | exact At.here | apply At.there))).cellv (frv_get _ _ (by omega))) ?_) | ((with_reducible refine qgate_dst (N := 23) rfl ?_); ((with_reducible refine qgate_bin rfl ?_); refine wpq_bin rfl _ _ _ _ _ rfl _ _ _ _ rfl rfl (.int .u16 ((2 ^ x : Nat) : Int)) (fun w' => run_shl1 hx w') ?_)) | ((with_reducible refine qgate_dst (N := 24) rfl ?_); ((with_reducible refine qgate_bin rfl ?_); refine wpq_bin rfl _ _ _ _ _ rfl _ _ _ _ rfl rfl (.int .u16 ((andNot (ro f y) (2 ^ x) : Nat) : Int)) (fun w' => run_andNot hb1 (two_pow_lt hx) w') ?_))); (simp only [Act.put, Act.eval, Array.getD_eq_getD_getElem?, List.getElem?_toArray, List.getElem?_cons_succ, List.getElem?_cons_zero, Option.getD_some, List.setIfInBounds_toArray, List.set_cons_succ, List.set_cons_zero]))); refine wpQuiet_nil ?_; intro _ st)
      go_wp2_with (first | ((with_reducible refine gate_store rfl ?_); refine wpl_store1 rfl _ _ _ rfl _ _ rfl (.int .u16 _) rfl tU16 rfl rfl st _ _ (by repeat (first | exact Upd.here | apply Upd.there)) (by rw [frv_length]; omega) ?_; rw [frv_set, show f.set y (andNot (ro f y) (2 ^ x)) = dropD f x y from rfl];clear st; intro _ st) | ((with_reducible refine gate_load rfl ?_); refine wpl_loadAll rfl _ _ rfl _ rfl tFr.toAggT _ _ (st.get (by repeat (first | exact At.here | apply At.there))) (by rw [frv_length, okd.len]) ?_) | ((with_reducible refine gate_store rfl ?_); refine wpl_storeAll rfl _ _ _ rfl _ rfl _ rfl tFr.toAggT (by rw [frv_length, okd.len]) (frv_one _) st _ _ (by repeat (first | exact Upd.here | apply Upd.there)) (by simp [frv_length, zf_length, mk_length, withD_length, part_length, rowsOf_length, *]) ?_; clear st; intro _ st))
      refine bodyPost_cell_tmp rfl tFr.toAggT rfl _ rfl _ _ (st.get (by repeat (first | exact At.here | apply At.there))) (by rw [frv_length, okd.len]) _ rfl ?_
      exact ⟨rfl, st.keep⟩
    · go_enter Try.func42, Try.ntmps42
      go_wp2_with (first | ((with_reducible refine gate_box rfl ?_); refine wpl_box rfl _ _ rfl _ rfl _ rfl st ?_; clear st; intro _ _ st) | ((with_reducible refine gate_alloc rfl ?_); refine wpl_alloc rfl _ rfl tFr.toAggT st ?_; clear st; intro _ _ st) | ((with_reducible refine gate_load rfl ?_); refine wpl_loadAll rfl _ _ rfl _ rfl tFr.toAggT _ _ (st.get (by repeat (first | exact At.here | apply At.there))) (by simp [frv_length, zf_length, mk_length, withD_length, part_length, rowsOf_length, *]) ?_) | (go_at_call 81; refine (checkPlace_c f ok x y _).mono ?_; rintro _ _ ⟨rfl, hk⟩; replace st := st.call hk; clear hk))
      (refine wp_region_tail_st st 7 (by kernel_rfl) (by kernel_rfl) ?_; clear st; simp only [List.take_succ_cons, List.take_zero, List.drop_succ_cons, List.drop_zero]; (repeat ((first | (refine wpq_move rfl _ rfl _ rfl ?_) | ((with_reducible refine qgate_addr rfl ?_); refine wpq_indexAddr0 rfl _ _ _ rfl _ rfl _ _ rfl tFr y rfl hy ?_) | ((with_reducible refine qgate_load rfl ?_); refine wpq_load1 rfl _ _ rfl _ rfl tU16 _ (fun _ hw => (hw.get (by repeat (first | exact At.here | apply At.there))).cellv (frv_get _ _ (by omega))) ?_) | ((with_reducible refine qgate_dst (N := 23) rfl ?_); ((with_reducible refine qgate_bin rfl ?_); refine wpq_bin rfl _ _ _ _ _ rfl _ _ _ _ rfl rfl (.int .u16 ((2 ^ x : Nat) : Int)) (fun w' => run_shl1 hx w') ?_)) | ((with_reducible refine qgate_dst (N := 24) rfl ?_); ((with_reducible refine qgate_bin rfl ?_); refine wpq_bin rfl _ _ _ _ _ rfl _ _ _ _ rfl rfl (.int .u16 ((andNot (ro f y) (2 ^ x) : Nat) : Int)) (fun w' => run_andNot hb1 (two_pow_lt hx) w') ?_))); (simp only [Act.put, Act.eval, Array.getD_eq_getD_getElem?, List.getElem?_toArray, List.getElem?_cons_succ, List.getElem?_cons_zero, Option.getD_some, List.setIfInBounds_toArray, List.set_cons_succ, List.set_cons_zero]))); refine wpQuiet_nil ?_; intro _ st)
      go_wp2_with (first | ((with_reducible refine gate_store rfl ?_); refine wpl_store1 rfl _ _ _ rfl _ _ rfl (.int .u16 _) rfl tU16 rfl rfl st _ _ (by repeat (first | exact Upd.here | apply Upd.there)) (by rw [frv_length]; omega) ?_; rw [frv_set, show f.set y (andNot (ro f y) (2 ^ x)) = dropD f x y from rfl];clear st; intro _ st) | (go_at_call 93; refine (with_c _ okd x y hx hy _).mono ?_; rintro _ _ ⟨rfl, hk⟩; replace st := st.call hk; clear hk) | ((with_reducible refine gate_load rfl ?_); refine wpl_loadAll rfl _ _ rfl _ rfl tFr.toAggT _ _ (st.get (by repeat (first | exact At.here | apply At.there))) (by first | rw [frv_length, okd.len] | rw [frv_length, hlw, okd.len]) ?_) | ((with_reducible refine gate_store rfl ?_); refine wpl_storeAll rfl _ _ _ rfl _ rfl _ rfl tFr.toAggT (by rw [frv_length, hlw, okd.len]) (frv_one _) st _ _ (by repeat (first | exact Upd.here | apply Upd.there)) (by first | rw [frv_length, okd.len] | simp) ?_; clear st; intro _ st))
      refine bodyPost_cell_tmp rfl tFr.toAggT rfl _ rfl _ _ (st.get (by repeat (first | exact At.here | apply At.there))) (by rw [frv_length, hlw, okd.len]) _ rfl ?_
      exact ⟨rfl, st.keep⟩
  · unfold setR
    rw [if_neg hc]
    go_enter Try.func42, Try.ntmps42
    go_wp2_with (first | ((with_reducible refine gate_box rfl ?_); refine wpl_box rfl _ _ rfl _ rfl _ rfl st ?_; clear st; intro _ _ st) | ((with_reducible refine gate_alloc rfl ?_); refine wpl_alloc rfl _ rfl tFr.toAggT st ?_; clear st; intro _ _ st) | ((with_reducible refine gate_load rfl ?_); refine wpl_loadAll rfl _ _ rfl _ rfl tFr.toAggT _ _ (st.get (by repeat (first | exact At.here | apply At.there))) (by simp [frv_length, zf_length, mk_length, withD_length, part_length, rowsOf_length, *]) ?_) | (go_at_call 81; refine (checkPlace_c f ok x y _).mono ?_; rintro _ _ ⟨rfl, hk⟩; replace st := st.call hk; clear hk) | ((with_reducible refine gate_build rfl ?_); refine wpl_zero rfl _ rfl _ tFrB ?_) | ((with_reducible refine gate_store rfl ?_); refine wpl_storeAll rfl _ _ _ rfl _ rfl _ rfl tFr.toAggT (by simp [frv_length, zf_length, mk_length, withD_length, part_length, rowsOf_length, *]) (frv_one _) st _ _ (by repeat (first | exact Upd.here | apply Upd.there)) (by simp [frv_length, zf_length, mk_length, withD_length, part_length, rowsOf_length, *]) ?_; clear st; intro _ st))
    refine bodyPost_cell_tmp rfl tFr.toAggT rfl _ rfl _ _ (st.get (by repeat (first | exact At.here | apply At.there))) (by simp [frv_length, zf_length, mk_length, withD_length, part_length, rowsOf_length, *]) _ rfl ?_
    exact ⟨rfl, st.keep⟩
end Go.Proofs.Ytdiphapcjafbaaa
