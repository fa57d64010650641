/- In how many places two frames differ; no condition. -/
import Derived.Test.YtmndbmapepenjaaB9
namespace Go.Proofs.Ytmndbmapepenjaa
open Go.RowKit
set_option linter.unusedSimpArgs false
set_option linter.unusedVariables false

theorem mixX_frOk {f g : List Nat} (okf : FrOk f) (okg : FrOk g) : FrOk (mixR (fun a b => a ^^^ b) f g) := rowsOf_ok fun y _ => Nat.xor_lt_two_pow (n := 16) (okf.ro_lt y) (okg.ro_lt y)
theorem mixX_ok {f g : List Nat} (hf : okB f = true) (hg : okB g = true) : okB (mixR (fun a b => a ^^^ b) f g) = true := by
  apply okB_of
  intro y hy
  rw [mixR_length] at hy
  unfold mixR
  rw [ro_rowsOf _ _ hy]
  have : ro f y ^^^ ro g y < 4096 := Nat.xor_lt_two_pow (n := 12) (okB_ro hf y) (okB_ro hg y)
  simp only
  omega
set_option maxRecDepth 100000 in
theorem l01Differ_c (f g : List Nat) (okf : FrOk f) (okg : FrOk g) (b o b' o' : Nat) (w : World) (hb : Cl w b o (frv f)) (hb' : Cl w b' o' (frv g)) :
    Calls Try.prog 77 #[.pointer (some ⟨b, o, none⟩), .pointer (some ⟨b', o', none⟩)] w fun e w' => e = .returned (.int .i64 ((dots (mixR (fun a b => a ^^^ b) f g)).length : Nat)) ∧ Keep [] w w' := by
  have hf := okf.len
  have hg := okg.len
  have st := St.start w
  go_enter Try.func77, Try.ntmps77
  go_wp2_with (first | ((with_reducible refine gate_alloc rfl ?_); (with_reducible refine gate_dst (N := 5) rfl ?_); refine wpl_alloc rfl _ rfl tFr.toAggT st ?_; clear st; intro B5 _ st) | ((with_reducible refine gate_build rfl ?_); refine wpl_zero rfl _ rfl _ tFrB ?_) | ((with_reducible refine gate_store rfl ?_); refine wpl_storeAll rfl _ _ _ rfl _ rfl _ rfl tFr.toAggT (by simp [frv_length, zf_length, mk_length, withD_length, part_length, rowsOf_length, *]) (frv_one _) st _ _ (by repeat (first | exact Upd.here | apply Upd.there)) (by simp [frv_length, zf_length, mk_length, withD_length, part_length, rowsOf_length, *]) ?_; clear st; intro _ st))
  go_loopw [6] (fun i wr => ∃ y : Nat, y ≤ 12 ∧ i = .int .i64 y ∧ St [] w wr [(B5, frv (part (fun y => ro f y ^^^ ro g y) zf y), 44)]) (fun i _ => 12 - (intOf i).toNat)
  case atStart => exact ⟨0, by omega, rfl, by rw [part_zero _ _ zf_length]; exact st⟩
  case round =>
    clear st
    obtain ⟨y, hy, rfl, st⟩ := hrel
    by_cases hlt : y < 12
    · have hdy : decide ((y : Int) < 12) = true := by simp; omega
      have hb1 := okf.ro_lt y
      have hb2 := okg.ro_lt y
      go_wp2_with fail
      (refine wp_region_tail_st st 13 (by kernel_rfl) (by kernel_rfl) ?_; clear st; simp only [List.take_succ_cons, List.take_zero, List.drop_succ_cons, List.drop_zero]; (repeat ((first | (refine wpq_move rfl _ rfl _ rfl ?_) | (refine wpq_nil rfl _ rfl _ rfl ?_) | ((with_reducible refine qgate_dst (N := 24) rfl ?_); ((with_reducible refine qgate_addr rfl ?_); refine wpq_indexAddr0 rfl _ _ _ rfl _ rfl _ _ rfl tFr y rfl hlt ?_)) | ((with_reducible refine qgate_addr rfl ?_); refine wpq_indexAddr rfl _ _ _ rfl _ _ rfl _ _ rfl tFr y rfl hlt ?_) | ((with_reducible refine qgate_dst (N := 17) rfl ?_); ((with_reducible refine qgate_load rfl ?_); refine wpq_load1 rfl _ _ rfl _ rfl tU16 _ (fun _ hw => ((hb.keep hw.keep (by simp)).cellv (frv_get _ _ (by omega)))) ?_)) | ((with_reducible refine qgate_dst (N := 22) rfl ?_); ((with_reducible refine qgate_load rfl ?_); refine wpq_load1 rfl _ _ rfl _ rfl tU16 _ (fun _ hw => ((hb'.keep hw.keep (by simp)).cellv (frv_get _ _ (by omega)))) ?_)) | ((with_reducible refine qgate_bin rfl ?_); refine wpq_bin rfl _ _ _ _ _ rfl _ _ _ _ rfl rfl (.int .u16 ((ro f y ^^^ ro g y : Nat) : Int)) (fun w' => run_xor hb1 hb2 w') ?_)); (simp only [Act.put, Act.eval, Array.getD_eq_getD_getElem?, List.getElem?_toArray, List.getElem?_cons_succ, List.getElem?_cons_zero, Option.getD_some, List.setIfInBounds_toArray, List.set_cons_succ, List.set_cons_zero, List.getElem_toArray, List.getElem_cons_succ, List.getElem_cons_zero]))); refine wpQuiet_nil ?_; intro _ st)
      go_wp2_with (first | ((with_reducible refine gate_store rfl ?_); refine wpl_store1 rfl _ _ _ rfl _ _ rfl (.int .u16 _) rfl tU16 rfl rfl st _ _ (by repeat (first | exact Upd.here | apply Upd.there)) (by rw [frv_length, part_length]; omega) ?_; rw [frv_set, part_set (fun y => ro f y ^^^ ro g y) zf y hlt];clear st; intro _ st))
      go_roundw
      case rel => exact ⟨y + 1, by omega, by go_num, st⟩
      case measure => simp [intOf]; omega
    · obtain rfl : y = 12 := by omega
      rw [part_all] at st
      go_wp2_with (first | (go_at_call 87; refine (l01Count_c (mixR (fun a b => a ^^^ b) f g) (mixX_frOk okf okg) _ _ _ (.of (st.get .here))).mono ?_; rintro _ _ ⟨rfl, hk⟩; replace st := st.call hk; clear hk))
      go_ret
      exact ⟨rfl, st.keep⟩
/-- In how many places f and g differ, if both are valid. -/
def difR (f g : List Nat) : Int := if codeG f g = 0 then ((dots (mixR (fun a b => a ^^^ b) f g)).length : Int) else 0
end Go.Proofs.Ytmndbmapepenjaa
