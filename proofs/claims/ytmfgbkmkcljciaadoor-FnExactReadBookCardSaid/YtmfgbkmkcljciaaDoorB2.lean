/- Dots put, joined and told: the small functions on frames that write; no condition. -/
import Derived.Test.YtmfgbkmkcljciaaDoorB1
import Derived.Test.YtmfgbkmkcljciaaDoorTail
namespace Go.Proofs.YtmfgbkmkcljciaaDoor
open Go.RowKit
set_option linter.unusedSimpArgs false
set_option linter.unusedVariables false

theorem u16_wrap {n : Int} (h0 : 0 ≤ n) (h1 : n < 65536) : IntKind.u16.wrap n = n := by
  simp [IntKind.wrap, IntKind.bits, IntKind.signed]; omega
theorem bits_u16 (op : BinOp) (a b : Nat) (ha : a < 65536) (hb : b < 65536) (r : Nat) (hr : r < 65536)
    (h : (match op with | .and => BitVec.ofNat 16 a &&& BitVec.ofNat 16 b | .or => BitVec.ofNat 16 a ||| BitVec.ofNat 16 b | .xor => BitVec.ofNat 16 a ^^^ BitVec.ofNat 16 b | _ => BitVec.ofNat 16 a &&& ~~~BitVec.ofNat 16 b).toNat = r) : bits op .u16 a b = r := by
  have e1 : BitVec.ofInt IntKind.u16.bits (a : Int) = BitVec.ofNat 16 a := by simp [IntKind.bits]
  have e2 : BitVec.ofInt IntKind.u16.bits (b : Int) = BitVec.ofNat 16 b := by simp [IntKind.bits]
  unfold bits
  simp only [e1, e2]
  exact (congrArg (fun n : Nat => IntKind.u16.wrap (n : Int)) h).trans (u16_wrap (by omega) (by omega))
theorem or_u16 (a b : Nat) (ha : a < 65536) (hb : b < 65536) : bits .or .u16 a b = ((a ||| b : Nat) : Int) :=
  bits_u16 .or a b ha hb _ (Nat.or_lt_two_pow (n := 16) ha hb) (by simp [Nat.mod_eq_of_lt ha, Nat.mod_eq_of_lt hb])
theorem and_u16 (a b : Nat) (ha : a < 65536) (hb : b < 65536) : bits .and .u16 a b = ((a &&& b : Nat) : Int) :=
  bits_u16 .and a b ha hb _ (Nat.and_lt_two_pow (n := 16) a hb) (by simp [Nat.mod_eq_of_lt ha, Nat.mod_eq_of_lt hb])
theorem xor_u16 (a b : Nat) (ha : a < 65536) (hb : b < 65536) : bits .xor .u16 a b = ((a ^^^ b : Nat) : Int) :=
  bits_u16 .xor a b ha hb _ (Nat.xor_lt_two_pow (n := 16) ha hb) (by simp [Nat.mod_eq_of_lt ha, Nat.mod_eq_of_lt hb])
/-- a without the bits of b. -/
def andNot (a b : Nat) : Nat := a &&& (65535 - b)
theorem andNot_lt (a b : Nat) : andNot a b < 65536 := Nat.and_lt_two_pow (n := 16) a (by omega)
theorem andNot_u16 (a b : Nat) (ha : a < 65536) (hb : b < 65536) : bits .andNot .u16 a b = ((andNot a b : Nat) : Int) :=
  bits_u16 .andNot a b ha hb _ (andNot_lt a b) (by simp [andNot, Nat.mod_eq_of_lt ha, Nat.mod_eq_of_lt hb, BitVec.toNat_not])
theorem testBit_andNot (a b i : Nat) (hb : b < 65536) (hi : i < 16) : (andNot a b).testBit i = (a.testBit i && !b.testBit i) := by
  unfold andNot
  rw [Nat.testBit_and]
  congr 1
  have := Nat.testBit_two_pow_sub_succ (n := 16) hb i
  rw [show (2 : Nat) ^ 16 - (b + 1) = 65535 - b by omega] at this
  rw [this]; simp [hi]

theorem shl_one {x : Nat} (hx : x < 12) : IntKind.u16.wrap (1 * 2 ^ x) = ((2 ^ x : Nat) : Int) := by
  rw [Int.one_mul]
  have h : (2 : Nat) ^ x ≤ 2 ^ 11 := Nat.pow_le_pow_right (by omega) (by omega)
  have e : ((2 : Int) ^ x) = ((2 ^ x : Nat) : Int) := by simp
  rw [e]
  generalize 2 ^ x = n at h ⊢
  exact u16_wrap (by omega) (by omega)
theorem two_pow_lt {x : Nat} (hx : x < 12) : 2 ^ x < 65536 := by
  have h : (2 : Nat) ^ x ≤ 2 ^ 11 := Nat.pow_le_pow_right (by omega) (by omega)
  omega
theorem conv_u64 {x : Nat} (hx : x < 12) : IntKind.u64.wrap (x : Int) = (x : Int) := by
  simp [IntKind.wrap, IntKind.bits, IntKind.signed]; omega

section
variable {P : Program} {T : TypeId}
theorem run_shl1 {k : IntKind} {x : Nat} (hx : x < 12) (w : World) : (binOp .shl T (.int .u16 1) (.int k (x : Int))).run P w = .ok (.int .u16 ((2 ^ x : Nat) : Int)) w := by
  rw [binOp_shl, shift_shl_u16 k 1 (x : Int) (by omega) (by omega), Int.toNat_natCast, shl_one hx]; rfl
theorem run_or {a b : Nat} (ha : a < 65536) (hb : b < 65536) (w : World) : (binOp .or T (.int .u16 a) (.int .u16 b)).run P w = .ok (.int .u16 ((a ||| b : Nat) : Int)) w := by
  rw [binOp_or, intBits_or, or_u16 a b ha hb]; rfl
theorem run_and {a b : Nat} (ha : a < 65536) (hb : b < 65536) (w : World) : (binOp .and T (.int .u16 a) (.int .u16 b)).run P w = .ok (.int .u16 ((a &&& b : Nat) : Int)) w := by
  rw [binOp_and, intBits_and, and_u16 a b ha hb]; rfl
theorem run_xor {a b : Nat} (ha : a < 65536) (hb : b < 65536) (w : World) : (binOp .xor T (.int .u16 a) (.int .u16 b)).run P w = .ok (.int .u16 ((a ^^^ b : Nat) : Int)) w := by
  rw [binOp_xor, intBits_xor, xor_u16 a b ha hb]; rfl
theorem run_andNot {a b : Nat} (ha : a < 65536) (hb : b < 65536) (w : World) : (binOp .andNot T (.int .u16 a) (.int .u16 b)).run P w = .ok (.int .u16 ((andNot a b : Nat) : Int)) w := by
  rw [binOp_andNot, intBits_andNot, andNot_u16 a b ha hb]; rfl
end

theorem placeB_nat {x y : Nat} (hx : x < 12) (hy : y < 12) : placeB x y = true := by
  simp [placeB, inB]; omega
theorem placeB_iff {x y : Int} : placeB x y = true ↔ 0 ≤ x ∧ x < 12 ∧ 0 ≤ y ∧ y < 12 := by
  simp [placeB, inB]; omega
/-- A dot is put, if there is such a place. -/
def putI (f : List Nat) (x y : Int) : List Nat := if placeB x y = true then withD f x.toNat y.toNat else f
set_option maxRecDepth 100000 in
theorem l01Put_in (f : List Nat) (ok : FrOk f) (b : Nat) (T : TypeId) (x y : Nat) (hx : x < 12) (hy : y < 12) (w : World) (hb : Blk w b (frv f) T) :
    Calls Tryd.prog 16 #[.pointer (some ⟨b, 0, none⟩), .int .i64 x, .int .i64 y] w fun e w' => e = .returned (.tuple #[]) ∧ Keep [b] w w' ∧ Blk w' b (frv (withD f x y)) T := by
  have hf := ok.len
  have st := St.start1 hb
  have hp := placeB_nat hx hy
  have hb1 := ok.ro_lt y
  have hcv := hid (conv_u64 hx)
  go_enter Tryd.func16, Tryd.ntmps16
  go_wp2_with (first | (go_at_call 24; refine (l01Place_c _ _ _).mono ?_; rintro _ _ ⟨rfl, hk⟩; replace st := st.call hk; clear hk))
  (refine wp_region_tail_st st 13 (by kernel_rfl) (by kernel_rfl) ?_; clear st; simp only [List.take_succ_cons, List.take_zero, List.drop_succ_cons, List.drop_zero]; (repeat ((first | (refine wpq_move rfl _ rfl _ rfl ?_) | (refine wpq_nil rfl _ rfl _ rfl ?_) | ((with_reducible refine qgate_addr rfl ?_); refine wpq_indexAddr0 rfl _ _ _ rfl _ rfl _ _ rfl tFr y rfl hy ?_) | ((with_reducible refine qgate_load rfl ?_); refine wpq_load1 rfl _ _ rfl _ rfl tU16 _ (fun _ hw => (hw.get (by repeat (first | exact At.here | apply At.there))).cellv (frv_get _ _ (by omega))) ?_) | ((with_reducible refine qgate_conv rfl ?_); refine wpq_conv rfl _ _ _ rfl _ _ _ _ rfl rfl (by kernel_rfl) hcv.out ?_) | ((with_reducible refine qgate_dst (N := 18) rfl ?_); ((with_reducible refine qgate_bin rfl ?_); refine wpq_bin rfl _ _ _ _ _ rfl _ _ _ _ rfl rfl (.int .u16 ((2 ^ x : Nat) : Int)) (fun w' => run_shl1 hx w') ?_)) | ((with_reducible refine qgate_dst (N := 19) rfl ?_); ((with_reducible refine qgate_bin rfl ?_); refine wpq_bin rfl _ _ _ _ _ rfl _ _ _ _ rfl rfl (.int .u16 ((ro f y ||| 2 ^ x : Nat) : Int)) (fun w' => run_or hb1 (two_pow_lt hx) w') ?_))); (simp only [Act.put, Act.eval, Array.getD_eq_getD_getElem?, List.getElem?_toArray, List.getElem?_cons_succ, List.getElem?_cons_zero, Option.getD_some, List.setIfInBounds_toArray, List.set_cons_succ, List.set_cons_zero, List.getElem_toArray, List.getElem_cons_succ, List.getElem_cons_zero]))); refine wpQuiet_nil ?_; intro _ st)
  go_wp2_with (first | ((with_reducible refine gate_store rfl ?_); refine wpl_store1 rfl _ _ _ rfl _ _ rfl (.int .u16 _) rfl tU16 rfl rfl st _ _ (by repeat (first | exact Upd.here | apply Upd.there)) (by rw [frv_length]; omega) ?_; rw [frv_set];clear st; intro _ st))
  go_end0
  exact ⟨rfl, st.keep1⟩
theorem l01Put_c (f : List Nat) (ok : FrOk f) (b : Nat) (T : TypeId) (x y : Int) (w : World) (hb : Blk w b (frv f) T) :
    Calls Tryd.prog 16 #[.pointer (some ⟨b, 0, none⟩), .int .i64 x, .int .i64 y] w fun e w' => e = .returned (.tuple #[]) ∧ Keep [b] w w' ∧ Blk w' b (frv (putI f x y)) T := by
  by_cases hp : placeB x y = true
  · obtain ⟨h1, h2, h3, h4⟩ := placeB_iff.1 hp
    have := l01Put_in f ok b T x.toNat y.toNat (by omega) (by omega) w hb
    rw [Int.toNat_of_nonneg h1, Int.toNat_of_nonneg h3] at this
    unfold putI
    rw [if_pos hp]
    exact this
  · have hp' : placeB x y = false := by simpa using hp
    have st := St.start1 hb
    unfold putI
    rw [if_neg hp]
    clear hp
    go_enter Tryd.func16, Tryd.ntmps16
    go_wp2_with (first | (go_at_call 24; refine (l01Place_c _ _ _).mono ?_; rintro _ _ ⟨rfl, hk⟩; replace st := st.call hk; clear hk))
    go_end0
    exact ⟨rfl, st.keep1⟩

theorem with_c (f : List Nat) (ok : FrOk f) (x y : Nat) (hx : x < 12) (hy : y < 12) (w : World) :
    Calls Tryd.prog 29 #[.agg (frv f).toArray, .int .i64 x, .int .i64 y] w fun e w' => e = .returned (.agg (frv (withD f x y)).toArray) ∧ Keep [] w w' := by
  have hf := ok.len
  have hl := withD_length f x y
  have st := St.start w
  have hb1 := ok.ro_lt y
  go_enter Tryd.func29, Tryd.ntmps29
  go_wp2_with (first | ((with_reducible refine gate_box rfl ?_); refine wpl_box rfl _ _ rfl _ rfl _ rfl st ?_; clear st; intro _ _ st) | ((with_reducible refine gate_alloc rfl ?_); refine wpl_alloc rfl _ rfl tFr.toAggT st ?_; clear st; intro _ _ st))
  (refine wp_region_tail_st st 7 (by kernel_rfl) (by kernel_rfl) ?_; clear st; simp only [List.take_succ_cons, List.take_zero, List.drop_succ_cons, List.drop_zero]; (repeat ((first | (refine wpq_move rfl _ rfl _ rfl ?_) | ((with_reducible refine qgate_addr rfl ?_); refine wpq_indexAddr0 rfl _ _ _ rfl _ rfl _ _ rfl tFr y rfl hy ?_) | ((with_reducible refine qgate_load rfl ?_); refine wpq_load1 rfl _ _ rfl _ rfl tU16 _ (fun _ hw => (hw.get (by repeat (first | exact At.here | apply At.there))).cellv (frv_get _ _ (by omega))) ?_) | ((with_reducible refine qgate_dst (N := 11) rfl ?_); ((with_reducible refine qgate_bin rfl ?_); refine wpq_bin rfl _ _ _ _ _ rfl _ _ _ _ rfl rfl (.int .u16 ((2 ^ x : Nat) : Int)) (fun w' => run_shl1 hx w') ?_)) | ((with_reducible refine qgate_dst (N := 12) rfl ?_); ((with_reducible refine qgate_bin rfl ?_); refine wpq_bin rfl _ _ _ _ _ rfl _ _ _ _ rfl rfl (.int .u16 ((ro f y ||| 2 ^ x : Nat) : Int)) (fun w' => run_or hb1 (two_pow_lt hx) w') ?_))); (simp only [Act.put, Act.eval, Array.getD_eq_getD_getElem?, List.getElem?_toArray, List.getElem?_cons_succ, List.getElem?_cons_zero, Option.getD_some, List.setIfInBounds_toArray, List.set_cons_succ, List.set_cons_zero, List.getElem_toArray, List.getElem_cons_succ, List.getElem_cons_zero]))); refine wpQuiet_nil ?_; intro _ st)
  go_wp2_with (first | ((with_reducible refine gate_store rfl ?_); refine wpl_store1 rfl _ _ _ rfl _ _ rfl (.int .u16 _) rfl tU16 rfl rfl st _ _ (by repeat (first | exact Upd.here | apply Upd.there)) (by rw [frv_length]; omega) ?_; rw [frv_set, show f.set y (ro f y ||| 2 ^ x) = withD f x y from rfl];clear st; intro _ st) | ((with_reducible refine gate_load rfl ?_); refine wpl_loadAll rfl _ _ rfl _ rfl tFr.toAggT _ _ (st.get (by repeat (first | exact At.here | apply At.there))) (by simp [frv_length, zf_length, mk_length, withD_length, part_length, rowsOf_length, *]) ?_) | ((with_reducible refine gate_store rfl ?_); refine wpl_storeAll rfl _ _ _ rfl _ rfl _ rfl tFr.toAggT (by simp [frv_length, zf_length, mk_length, withD_length, part_length, rowsOf_length, *]) (frv_one _) st _ _ (by repeat (first | exact Upd.here | apply Upd.there)) (by simp [frv_length, zf_length, mk_length, withD_length, part_length, rowsOf_length, *]) ?_; clear st; intro _ st))
  refine bodyPost_cell rfl tFr.toAggT rfl _ rfl _ _ (st.get (by repeat (first | exact At.here | apply At.there))) (by simp [frv_length, zf_length, mk_length, withD_length, part_length, rowsOf_length, *]) ?_
  exact ⟨rfl, st.keep⟩

theorem ret_bool {a b : Bool} (h : a = b) : Ending.returned (.bool a) = .returned (.bool b) := by rw [h]
theorem ret_int {k : IntKind} {a b : Int} (h : a = b) : Ending.returned (.int k a) = .returned (.int k b) := by rw [h]
theorem hasI_yes (f : List Nat) {x y : Nat} (hx : x < 12) (hy : y < 12) : hasI f x y = (ro f y).testBit x := by
  rw [hasI_nat, hasD_in f hx hy]
theorem hasI_no (f : List Nat) {x y : Int} (h : placeB x y = false) : hasI f x y = false := by
  have : ¬ (0 ≤ x ∧ x < 12 ∧ 0 ≤ y ∧ y < 12) := fun h' => by rw [placeB_iff.2 h'] at h; cases h
  simp [hasI, this]
theorem has_rem (r x : Nat) : (((r : Int) / 2 ^ x).tmod 2 == 1) = r.testBit x := by
  have e : ((r : Int) / 2 ^ x) = ((r / 2 ^ x : Nat) : Int) := by simp
  rw [e, Int.tmod_eq_emod_of_nonneg (Int.natCast_nonneg _), Nat.testBit_eq_decide_div_mod_eq]
  rw [Bool.eq_iff_iff]; simp; omega
theorem has_and (r x : Nat) (hr : r < 65536) : (bits .and .u16 ((r : Int) / 2 ^ x) 1 == 1) = r.testBit x := by
  have e : ((r : Int) / 2 ^ x) = ((r / 2 ^ x : Nat) : Int) := by simp
  have h1 : r / 2 ^ x < 65536 := Nat.lt_of_le_of_lt (Nat.div_le_self _ _) hr
  have h2 := and_u16 (r / 2 ^ x) 1 h1 (by omega)
  rw [e, show ((1 : Int)) = ((1 : Nat) : Int) from rfl, h2, Nat.and_one_is_mod, Nat.testBit_eq_decide_div_mod_eq]
  rw [Bool.eq_iff_iff]; simp; omega
theorem has_c (f : List Nat) (ok : FrOk f) (x y : Int) (w : World) :
    Calls Tryd.prog 30 #[.agg (frv f).toArray, .int .i64 x, .int .i64 y] w fun e w' => e = .returned (.bool (hasI f x y)) ∧ Keep [] w w' := by
  have hf := ok.len
  have st := St.start w
  by_cases hp : placeB x y = true
  · obtain ⟨h1, h2, h3, h4⟩ := placeB_iff.1 hp
    obtain ⟨x, rfl⟩ : ∃ n : Nat, x = n := ⟨x.toNat, by omega⟩
    obtain ⟨y, rfl⟩ : ∃ n : Nat, y = n := ⟨y.toNat, by omega⟩
    have hx : x < 12 := by omega
    have hy : y < 12 := by omega
    clear h1 h2 h3 h4
    have hb1 := ok.ro_lt y
    go_enter Tryd.func30, Tryd.ntmps30
    go_wp2_with (first | (refine wpl_unguard rfl ?_) | ((with_reducible refine gate_box rfl ?_); refine wpl_box rfl _ _ rfl _ rfl _ rfl st ?_; clear st; intro _ _ st) | (go_at_call 41; refine (isPlace_c _ _ _).mono ?_; rintro _ _ ⟨rfl, hk⟩; replace st := st.call hk; clear hk) | ((with_reducible refine gate_addr rfl ?_); refine wpl_indexAddr0 rfl _ _ rfl _ rfl _ _ rfl tFr y rfl hy ?_) | ((with_reducible refine gate_load rfl ?_); refine wpl_load1 rfl _ _ rfl _ rfl tU16 _ ((st.get (by repeat (first | exact At.here | apply At.there))).cellv (frv_get _ _ (by omega))) ?_))
    go_ret
    exact ⟨ret_bool (by rw [has_and _ _ hb1, hasI_yes f hx hy]), st.keep⟩
  · have hp' : placeB x y = false := by simpa using hp
    clear hp
    go_enter Tryd.func30, Tryd.ntmps30
    go_wp2_with (first | ((with_reducible refine gate_box rfl ?_); refine wpl_box rfl _ _ rfl _ rfl _ rfl st ?_; clear st; intro _ _ st) | (go_at_call 41; refine (isPlace_c _ _ _).mono ?_; rintro _ _ ⟨rfl, hk⟩; replace st := st.call hk; clear hk))
    go_ret
    exact ⟨ret_bool (hasI_no f hp').symm, st.keep⟩
/-- A closure that tells of each place whether p is true there, in every world that keeps what w holds. -/
def Tells (fv : Value) (p : Nat → Nat → Bool) (w : World) : Prop :=
  ∃ (F : FuncId) (fn : Func) (cap : Array Value), fv = .func (.func F) #[] cap ∧ Tryd.prog.funcs[F]? = some fn ∧ (fn.name == "runtime.NumGoroutine") = false ∧ fn.body.isNone = false ∧
    ∀ (x y : Nat) (w1 : World), x < 12 → y < 12 → Keep [] w w1 → Calls Tryd.prog F (#[.int .i64 x, .int .i64 y] ++ cap) w1 fun e w' => e = .returned (.bool (p x y)) ∧ Keep [] w1 w'
set_option maxRecDepth 100000 in
theorem where_c (fv : Value) (p : Nat → Nat → Bool) (w : World) (ht : Tells fv p w) :
    Calls Tryd.prog 19 #[fv] w fun e w' => e = .returned (.agg (frv (mk p)).toArray) ∧ Keep [] w w' := by
  obtain ⟨F, fn, cap, rfl, hF, hn, hbd, hall⟩ := ht
  have HA := hid hall
  clear hall
  have HF := hid hF
  have HN := hid hn
  have HB := hid hbd
  clear hF hn hbd
  have st := St.start w
  go_enter Tryd.func19, Tryd.ntmps19
  go_wp2_with (first | ((with_reducible refine gate_alloc rfl ?_); (with_reducible refine gate_dst (N := 2) rfl ?_); refine wpl_alloc rfl _ rfl tFr.toAggT st ?_; clear st; intro B2 _ st) | ((with_reducible refine gate_alloc rfl ?_); (with_reducible refine gate_dst (N := 3) rfl ?_); refine wpl_alloc rfl _ rfl tFr.toAggT st ?_; clear st; intro B3 _ st) | ((with_reducible refine gate_build rfl ?_); refine wpl_zero rfl _ rfl _ tFrB ?_) | ((with_reducible refine gate_store rfl ?_); refine wpl_storeAll rfl _ _ _ rfl _ rfl _ rfl tFr.toAggT (by simp [frv_length, zf_length, mk_length, withD_length, part_length, rowsOf_length, *]) (frv_one _) st _ _ (by repeat (first | exact Upd.here | apply Upd.there)) (by simp [frv_length, zf_length, mk_length, withD_length, part_length, rowsOf_length, *]) ?_; clear st; intro _ st))
  rw [← upTo_zero p] at st
  go_loopw [7] (fun i wr => ∃ y : Nat, y ≤ 12 ∧ i = .int .i64 y ∧ St [] w wr [(B3, frv (mk (upTo p (12 * y))), 33), (B2, List.replicate 12 (Value.int .u16 0), 33)]) (fun i _ => 12 - (intOf i).toNat)
  case atStart => exact ⟨0, by omega, rfl, st⟩
  case round =>
    clear st
    obtain ⟨y, hy, rfl, st⟩ := hrel
    by_cases hly : y < 12
    · obtain ⟨wo, rfl⟩ : ∃ wo : World, wo = wr := ⟨_, rfl⟩
      have hdy : decide ((y : Int) < 12) = true := by simp; omega
      go_wp2_with fail
      go_loopw [10] (fun i wr => ∃ x : Nat, x ≤ 12 ∧ i = .int .i64 x ∧ St [] w wr [(B3, frv (mk (upTo p (12 * y + x))), 33), (B2, List.replicate 12 (Value.int .u16 0), 33)]) (fun i _ => 12 - (intOf i).toNat)
      case atStart => exact ⟨0, by omega, rfl, st⟩
      case round =>
        clear st
        obtain ⟨x, hx, rfl, st⟩ := hrel
        by_cases hlx : x < 12
        · by_cases hp : p x y = true
          · go_wp2_with (first | ((with_reducible refine gate_call rfl ?_); (with_reducible refine gate_dst (N := 16) rfl ?_); refine wpl_call rfl _ rfl _ rfl F #[] cap rfl fn HF.out HN.out HB.out (#[.int .i64 x, .int .i64 y] ++ cap) (by simp [Act.eval]) ?_; refine (HA.out x y _ hlx hly st.keep).mono ?_; rintro _ _ ⟨rfl, hk⟩; refine ⟨.bool true, by rw [hp], ?_⟩; replace st := st.call hk; clear hk) | ((with_reducible refine gate_load rfl ?_); refine wpl_loadAll rfl _ _ rfl _ rfl tFr.toAggT _ _ (st.get (by repeat (first | exact At.here | apply At.there))) (by rw [frv_length, mk_length]) ?_) | (go_at_call 29; refine (with_c _ (mk_frOk _) x y hlx hly _).mono ?_; rintro _ _ ⟨rfl, hk⟩; replace st := st.call hk; clear hk) | ((with_reducible refine gate_store rfl ?_); refine wpl_storeAll rfl _ _ _ rfl _ rfl _ rfl tFr.toAggT (by rw [frv_length, withD_length, mk_length]) (frv_one _) st _ _ (by repeat (first | exact Upd.here | apply Upd.there)) (by rw [frv_length, mk_length]) ?_; clear st; intro _ st))
            rw [upTo_hit p hlx hly hp] at st
            go_roundw
            case rel => exact ⟨x + 1, by omega, by go_num, st⟩
            case measure => simp [intOf]; omega
          · have hp' : p x y = false := by simpa using hp
            clear hp
            go_wp2_with (first | ((with_reducible refine gate_call rfl ?_); (with_reducible refine gate_dst (N := 16) rfl ?_); refine wpl_call rfl _ rfl _ rfl F #[] cap rfl fn HF.out HN.out HB.out (#[.int .i64 x, .int .i64 y] ++ cap) (by simp [Act.eval]) ?_; refine (HA.out x y _ hlx hly st.keep).mono ?_; rintro _ _ ⟨rfl, hk⟩; refine ⟨.bool false, by rw [hp'], ?_⟩; replace st := st.call hk; clear hk))
            rw [upTo_miss p hlx hly hp'] at st
            go_roundw
            case rel => exact ⟨x + 1, by omega, by go_num, st⟩
            case measure => simp [intOf]; omega
        · obtain rfl : x = 12 := by omega
          go_wp2_with fail
          go_roundw
          case rel => exact ⟨y + 1, by omega, by go_num, by rw [show 12 * (y + 1) = 12 * y + 12 by omega]; exact st⟩
          case measure => simp [intOf]; omega
    · obtain rfl : y = 12 := by omega
      rw [show 12 * 12 = 144 by rfl, upTo_all] at st
      go_wp2_with (first | ((with_reducible refine gate_load rfl ?_); refine wpl_loadAll rfl _ _ rfl _ rfl tFr.toAggT _ _ (st.get (by repeat (first | exact At.here | apply At.there))) (by rw [frv_length, mk_length]) ?_) | ((with_reducible refine gate_store rfl ?_); refine wpl_storeAll rfl _ _ _ rfl _ rfl _ rfl tFr.toAggT (by rw [frv_length, mk_length]) (frv_one _) st _ _ (by repeat (first | exact Upd.here | apply Upd.there)) (by simp) ?_; clear st; intro _ st))
      refine bodyPost_cell rfl tFr.toAggT rfl _ rfl _ _ (st.get (by repeat (first | exact At.here | apply At.there))) (by rw [frv_length, mk_length]) ?_
      exact ⟨rfl, st.keep⟩
end Go.Proofs.YtmfgbkmkcljciaaDoor
