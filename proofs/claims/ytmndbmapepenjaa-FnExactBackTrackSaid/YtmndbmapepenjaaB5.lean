/- Row by row: inverted, met, joined, cut out, flipped; no condition. -/
import Derived.Test.YtmndbmapepenjaaB2
import Derived.Test.YtmndbmapepenjaaRules
namespace Go.Proofs.Ytmndbmapepenjaa
open Go.RowKit
set_option linter.unusedSimpArgs false
set_option linter.unusedVariables false

theorem run_sub4095 {P : Program} {T : TypeId} {a : Nat} (ha : a < 4096) (w : World) : (binOp .sub T (.int .u16 4095) (.int .u16 a)).run P w = .ok (.int .u16 ((4095 - a : Nat) : Int)) w := by
  have e : IntKind.u16.wrap (4095 - (a : Int)) = ((4095 - a : Nat) : Int) := by rw [u16_wrap (by omega) (by omega)]; omega
  go_simp
theorem part_get (h : Nat → Nat) (base : List Nat) (y k : Nat) (hk : k < 12) (hy : y ≤ k) : (frv (part h base y))[k]? = some (.int .u16 (ro base k : Nat)) := by
  rw [frv_get _ _ (by rw [part_length]; exact hk), ro_part _ _ _ _ hk, if_neg (by omega)]
/-- A closure that tells a row of two. -/
def Rows2 (fv : Value) (g : Nat → Nat → Nat) : Prop :=
  ∃ (F : FuncId) (fn : Func), fv = .func (.func F) #[] #[] ∧ Try.prog.funcs[F]? = some fn ∧ (fn.name == "runtime.NumGoroutine") = false ∧ fn.body.isNone = false ∧
    ∀ (a b : Nat) (w : World), a < 65536 → b < 65536 → Calls Try.prog F #[.int .u16 a, .int .u16 b] w fun e w' => e = .returned (.int .u16 (g a b : Nat)) ∧ Keep [] w w'
def mixR (k : Nat → Nat → Nat) (f g : List Nat) : List Nat := rowsOf fun y => k (ro f y) (ro g y)
set_option maxRecDepth 100000 in
theorem mix_c (fv : Value) (k : Nat → Nat → Nat) (ht : Rows2 fv k) (f g : List Nat) (okf : FrOk f) (okg : FrOk g) (w : World) :
    Calls Try.prog 90 #[.agg (frv f).toArray, .agg (frv g).toArray, fv] w fun e w' => e = .returned (.agg (frv (mixR k f g)).toArray) ∧ Keep [] w w' := by
  obtain ⟨F, fn, rfl, hF, hn, hbd, hall⟩ := ht
  have HA := hid hall
  clear hall
  have HF := hid hF
  have HN := hid hn
  have HB := hid hbd
  clear hF hn hbd
  have hf := okf.len
  have hg := okg.len
  have st := St.start w
  go_enter Try.func90, Try.ntmps90
  go_wp2_with (first | ((with_reducible refine gate_box rfl ?_); (with_reducible refine gate_dst (N := 3) rfl ?_); refine wpl_box rfl _ _ rfl _ rfl _ rfl st ?_; clear st; intro B3 _ st) | ((with_reducible refine gate_box rfl ?_); (with_reducible refine gate_dst (N := 4) rfl ?_); refine wpl_box rfl _ _ rfl _ rfl _ rfl st ?_; clear st; intro B4 _ st) | ((with_reducible refine gate_alloc rfl ?_); (with_reducible refine gate_dst (N := 6) rfl ?_); refine wpl_alloc rfl _ rfl tFr.toAggT st ?_; clear st; intro B6 _ st) | ((with_reducible refine gate_load rfl ?_); refine wpl_loadAll rfl _ _ rfl _ rfl tFr.toAggT _ _ (st.get (by repeat (first | exact At.here | apply At.there))) (by simp [frv_length, zf_length, mk_length, withD_length, part_length, rowsOf_length, *]) ?_))
  rw [frv_zero] at st
  go_loopw [10] (fun i wr => ∃ y : Nat, y ≤ 12 ∧ i = .int .i64 y ∧ St [] w wr [(B6, frv zf, 44), (B4, frv g, 44), (B3, frv (part (fun y => k (ro f y) (ro g y)) f y), 44)]) (fun i _ => 12 - (intOf i).toNat)
  case atStart => exact ⟨0, by omega, rfl, by rw [part_zero _ _ hf]; exact st⟩
  case round =>
    clear st
    obtain ⟨y, hy, rfl, st⟩ := hrel
    by_cases hlt : y < 12
    · have hdy : decide ((y : Int) < 12) = true := by simp; omega
      go_wp2_with (first | ((with_reducible refine gate_index rfl ?_); refine wpl_index rfl _ _ _ rfl _ rfl _ _ rfl tFr y rfl hlt _ (frv_get _ _ (by omega)) ?_) | ((with_reducible refine gate_addr rfl ?_); refine wpl_indexAddr0 rfl _ _ rfl _ rfl _ _ rfl tFr y rfl hlt ?_) | ((with_reducible refine gate_load rfl ?_); refine wpl_load1 rfl _ _ rfl _ rfl tU16 _ ((st.get (by repeat (first | exact At.here | apply At.there))).cellv (frv_get _ _ (by omega))) ?_) | ((with_reducible refine gate_call rfl ?_); (with_reducible refine gate_dst (N := 20) rfl ?_); refine wpl_call rfl _ rfl _ rfl F #[] #[] rfl fn HF.out HN.out HB.out #[.int .u16 (ro f y : Nat), .int .u16 (ro g y : Nat)] (by simp [Act.eval, Act.put]) ?_; refine (HA.out (ro f y) (ro g y) _ (okf.ro_lt y) (okg.ro_lt y)).mono ?_; rintro _ _ ⟨rfl, hk⟩; refine ⟨(.int .u16 (k (ro f y) (ro g y) : Nat)), rfl, ?_⟩; replace st := st.call hk; clear hk) | ((with_reducible refine gate_store rfl ?_); refine wpl_store1 rfl _ _ _ rfl _ _ rfl (.int .u16 _) rfl tU16 rfl rfl st _ _ (by repeat (first | exact Upd.here | apply Upd.there)) (by rw [frv_length, part_length]; omega) ?_; rw [frv_set, part_set (fun y => k (ro f y) (ro g y)) f y hlt];clear st; intro _ st))
      go_roundw
      case rel => exact ⟨y + 1, by omega, by go_num, st⟩
      case measure => simp [intOf]; omega
    · obtain rfl : y = 12 := by omega
      rw [part_all] at st
      go_wp2_with (first | ((with_reducible refine gate_load rfl ?_); refine wpl_loadAll rfl _ _ rfl _ rfl tFr.toAggT _ _ (st.get (by repeat (first | exact At.here | apply At.there))) (by rw [frv_length, rowsOf_length]) ?_) | ((with_reducible refine gate_store rfl ?_); refine wpl_storeAll rfl _ _ _ rfl _ rfl _ rfl tFr.toAggT (by rw [frv_length, rowsOf_length]) (frv_one _) st _ _ (by repeat (first | exact Upd.here | apply Upd.there)) (by simp [frv_length, zf_length]) ?_; clear st; intro _ st))
      refine bodyPost_cell rfl tFr.toAggT rfl _ rfl _ _ (st.get (by repeat (first | exact At.here | apply At.there))) (by rw [frv_length, rowsOf_length]) ?_
      exact ⟨rfl, st.keep⟩

theorem differ1_c (a b : Nat) (w : World) (ha : a < 65536) (hb : b < 65536) : Calls Try.prog 91 #[.int .u16 a, .int .u16 b] w fun e w' => e = .returned (.int .u16 (a ^^^ b : Nat)) ∧ Keep [] w w' := by
  go_enter Try.func91, Try.ntmps91
  go_wp2_with (first | ((with_reducible refine gate_bin rfl ?_); refine wpl_bin rfl _ _ _ _ _ rfl _ _ _ _ rfl rfl (.int .u16 ((a ^^^ b : Nat) : Int)) (fun w' => run_xor ha hb w') ?_))
  go_ret
  exact ⟨rfl, Keep.refl _ _⟩
theorem rows2_differ : Rows2 (.func (.func 91) #[] #[]) (fun a b => a ^^^ b) := ⟨_, _, rfl, Try.func91, by kernel_rfl, by kernel_rfl, fun a b w ha hb => differ1_c a b w ha hb⟩
def mixOp (k : Nat → Nat → Nat) (f g : List Nat) (w : World) (e : Ending) (w' : World) : Prop := e = .returned (.agg (frv (mixR k f g)).toArray) ∧ Keep [] w w'
theorem mixR_length (k : Nat → Nat → Nat) (f g : List Nat) : (mixR k f g).length = 12 := rowsOf_length _
theorem differ_c (f g : List Nat) (okf : FrOk f) (okg : FrOk g) (w : World) : Calls Try.prog 81 #[.agg (frv f).toArray, .agg (frv g).toArray] w fun e w' => e = .returned (.agg (frv (mixR (fun a b => a ^^^ b) f g)).toArray) ∧ Keep [] w w' := by
  have hf := okf.len
  have hg := okg.len
  have st := St.start w
  go_enter Try.func81, Try.ntmps81
  go_wp2_with (first | ((with_reducible refine gate_box rfl ?_); refine wpl_box rfl _ _ rfl _ rfl _ rfl st ?_; clear st; intro _ _ st) | ((with_reducible refine gate_alloc rfl ?_); refine wpl_alloc rfl _ rfl tFr.toAggT st ?_; clear st; intro _ _ st) | ((with_reducible refine gate_load rfl ?_); refine wpl_loadAll rfl _ _ rfl _ rfl tFr.toAggT _ _ (st.get (by repeat (first | exact At.here | apply At.there))) (by simp [frv_length, zf_length, mk_length, withD_length, part_length, rowsOf_length, *]) ?_) | (go_at_call 90; refine (mix_c _ _ rows2_differ f g okf okg _).mono ?_; rintro _ _ ⟨rfl, hk⟩; replace st := st.call hk; clear hk) | ((with_reducible refine gate_store rfl ?_); refine wpl_storeAll rfl _ _ _ rfl _ rfl _ rfl tFr.toAggT (by rw [frv_length, mixR_length]) (frv_one _) st _ _ (by repeat (first | exact Upd.here | apply Upd.there)) (by simp [frv_length, zf_length, mk_length, withD_length, part_length, rowsOf_length, *]) ?_; clear st; intro _ st))
  refine bodyPost_cell rfl tFr.toAggT rfl _ rfl _ _ (st.get (by repeat (first | exact At.here | apply At.there))) (by rw [frv_length, mixR_length]) ?_
  exact ⟨rfl, st.keep⟩

/-! ### Invert -/
/-- The code of a question about one frame. -/
def codeF (f : List Nat) : Int := if okB f = true then 0 else 1
theorem codeF_0 {f : List Nat} (h : okB f = true) : codeF f = 0 := by simp [codeF, h]
theorem codeF_1 {f : List Nat} (h : okB f = false) : codeF f = 1 := by simp [codeF, h]
def invR (f : List Nat) : List Nat := if okB f = true then rowsOf (fun y => 4095 - ro f y) else zf
theorem invR_ok {f : List Nat} (ok : FrOk f) : FrOk (invR f) := by
  unfold invR
  split
  · exact rowsOf_ok fun y _ => by omega
  · exact zf_ok
end Go.Proofs.Ytmndbmapepenjaa
