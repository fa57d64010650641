/- A frame flipped; no condition. -/
import Derived.Test.YtdiphapcjafbaaaB7
import Derived.Test.YtdiphapcjafbaaaOrd0
namespace Go.Proofs.Ytdiphapcjafbaaa
open Go.RowKit
set_option linter.unusedSimpArgs false
set_option linter.unusedVariables false

/-- The first i rows and the last i have changed places. -/
def flipTo (f : List Nat) (i : Nat) : List Nat := rowsOf fun y => if y < i ∨ 11 < y + i then ro f (11 - y) else ro f y
theorem flipTo_length (f : List Nat) (i : Nat) : (flipTo f i).length = 12 := rowsOf_length _
theorem flipTo_zero {f : List Nat} (hf : f.length = 12) : flipTo f 0 = f :=
  fr_ext (flipTo_length _ _) hf fun y hy => by unfold flipTo; rw [ro_rowsOf _ _ hy, if_neg (by omega)]
theorem flipTo_all (f : List Nat) : flipTo f 6 = rowsOf fun y => ro f (11 - y) :=
  rowsOf_congr fun y hy => by rw [if_pos (by omega)]
theorem ro_flipTo (f : List Nat) {i k : Nat} (hk : k < 12) (h1 : i ≤ k) (h2 : k + i ≤ 11) : ro (flipTo f i) k = ro f k := by
  unfold flipTo; rw [ro_rowsOf _ _ hk, if_neg (by omega)]
theorem flipTo_step (f : List Nat) {i : Nat} (hi : i < 6) : ((flipTo f i).set i (ro f (11 - i))).set (11 - i) (ro f i) = flipTo f (i + 1) := by
  refine fr_ext (by simp [flipTo_length]) (flipTo_length _ _) fun y hy => ?_
  rw [ro_set _ _ _ _ (by rw [List.length_set, flipTo_length]; omega), ro_set _ _ _ _ (by rw [flipTo_length]; omega)]
  unfold flipTo
  rw [ro_rowsOf _ _ hy, ro_rowsOf _ _ hy]
  by_cases e1 : y = 11 - i
  · subst e1; rw [if_pos rfl, if_pos (by omega), show 11 - (11 - i) = i by omega]
  · rw [if_neg e1]
    by_cases e2 : y = i
    · subst e2; rw [if_pos rfl, if_pos (by omega)]
    · rw [if_neg e2]
      by_cases h : y < i ∨ 11 < y + i
      · rw [if_pos h, if_pos (by omega)]
      · rw [if_neg h, if_neg (by omega)]
theorem flip_get (f : List Nat) {i k : Nat} (hk : k < 12) (h1 : i ≤ k) (h2 : k + i ≤ 11) : (frv (flipTo f i))[0 + k]? = some (.int .u16 (ro f k : Nat)) := by
  rw [Nat.zero_add, frv_get _ _ (by rw [flipTo_length]; exact hk), ro_flipTo f hk h1 h2]
set_option maxRecDepth 100000 in
theorem reverse_c (f : List Nat) (hf : f.length = 12) (b : Nat) (T : TypeId) (w : World) (hb : Blk w b (frv f) T) :
    Calls Try.prog 78 #[.slice (some ⟨b, 0, none⟩) 12 12] w fun e w' => e = .returned (.tuple #[]) ∧ Keep [b] w w' ∧ Blk w' b (frv (rowsOf fun y => ro f (11 - y))) T := by
  have st := St.start1 hb
  rw [← flipTo_zero hf] at st
  go_enter Try.func78, Try.ntmps78
  go_wp2_with fail
  go_loopw [2, 3] (fun i j wr => ∃ k : Nat, k ≤ 6 ∧ i = .int .i64 k ∧ j = .int .i64 (11 - (k : Int)) ∧ St [b] w wr [(b, frv (flipTo f k), T)]) (fun i _ _ => 12 - (intOf i).toNat)
  case atStart => exact ⟨0, by omega, rfl, rfl, st⟩
  case round =>
    clear st
    obtain ⟨k, hk, rfl, rfl, st⟩ := hrel
    by_cases hlt : k < 6
    · have hd : decide ((k : Int) < 11 - (k : Int)) = true := by simp; omega
      have hl0 := flipTo_length f k
      have hj : (11 : Int) - (k : Int) = ((11 - k : Nat) : Int) := by omega
      go_wp2_with fail
      apply wp_region_meet0 st 16 rfl (by kernel_rfl)
      case h =>
        intro _ st
        refine take_pure' (i := 0) rfl (by kernel_rfl) (by kernel_rfl) (by kernel_rfl) (fun _ _ _ h => h) rfl (fun _ => rfl) ?_
        (simp only [Act.put, Act.eval, Array.getD_eq_getD_getElem?, List.getElem?_toArray, List.getElem?_cons_succ, List.getElem?_cons_zero, Option.getD_some, List.setIfInBounds_toArray, List.set_cons_succ, List.set_cons_zero, List.getElem_toArray, List.getElem_cons_succ, List.getElem_cons_zero])
        refine take_pure' (i := 1) rfl (by kernel_rfl) (by kernel_rfl) (by kernel_rfl) (fun _ _ _ h => h) rfl (fun _ => rfl) ?_
        (simp only [Act.put, Act.eval, Array.getD_eq_getD_getElem?, List.getElem?_toArray, List.getElem?_cons_succ, List.getElem?_cons_zero, Option.getD_some, List.setIfInBounds_toArray, List.set_cons_succ, List.set_cons_zero, List.getElem_toArray, List.getElem_cons_succ, List.getElem_cons_zero])
        refine take_pure' (i := 2) rfl (by kernel_rfl) (by kernel_rfl) (by kernel_rfl) (fun _ _ _ h => h) rfl (fun _ => rfl) ?_
        (simp only [Act.put, Act.eval, Array.getD_eq_getD_getElem?, List.getElem?_toArray, List.getElem?_cons_succ, List.getElem?_cons_zero, Option.getD_some, List.setIfInBounds_toArray, List.set_cons_succ, List.set_cons_zero, List.getElem_toArray, List.getElem_cons_succ, List.getElem_cons_zero])
        refine take_pure' (i := 3) rfl (by kernel_rfl) (by kernel_rfl) (by kernel_rfl) (fun _ _ _ h => h) rfl (fun _ => rfl) ?_
        (simp only [Act.put, Act.eval, Array.getD_eq_getD_getElem?, List.getElem?_toArray, List.getElem?_cons_succ, List.getElem?_cons_zero, Option.getD_some, List.setIfInBounds_toArray, List.set_cons_succ, List.set_cons_zero, List.getElem_toArray, List.getElem_cons_succ, List.getElem_cons_zero])
        refine take_pure' (i := 4) rfl (by kernel_rfl) (by kernel_rfl) (by kernel_rfl) (fun _ _ _ h => h) rfl (fun _ => rfl) ?_
        (simp only [Act.put, Act.eval, Array.getD_eq_getD_getElem?, List.getElem?_toArray, List.getElem?_cons_succ, List.getElem?_cons_zero, Option.getD_some, List.setIfInBounds_toArray, List.set_cons_succ, List.set_cons_zero, List.getElem_toArray, List.getElem_cons_succ, List.getElem_cons_zero])
        refine take_pure' (i := 5) rfl (by kernel_rfl) (by kernel_rfl) (by kernel_rfl) (fun _ _ _ h => h) rfl (fun _ => rfl) ?_
        (simp only [Act.put, Act.eval, Array.getD_eq_getD_getElem?, List.getElem?_toArray, List.getElem?_cons_succ, List.getElem?_cons_zero, Option.getD_some, List.setIfInBounds_toArray, List.set_cons_succ, List.set_cons_zero, List.getElem_toArray, List.getElem_cons_succ, List.getElem_cons_zero])
        refine take_pure' (i := 6) rfl (by kernel_rfl) (by kernel_rfl) (by kernel_rfl) (fun _ _ _ h => h) rfl (slcAddr0_run _ _ _ rfl _ _ _ rfl _ _ rfl tU16S (11 - k) hj (by omega)) ?_
        (simp only [Act.put, Act.eval, Array.getD_eq_getD_getElem?, List.getElem?_toArray, List.getElem?_cons_succ, List.getElem?_cons_zero, Option.getD_some, List.setIfInBounds_toArray, List.set_cons_succ, List.set_cons_zero, List.getElem_toArray, List.getElem_cons_succ, List.getElem_cons_zero])
        refine take_pure' (i := 8) rfl (by kernel_rfl) (by kernel_rfl) (by kernel_rfl) (fun _ _ _ h => h) rfl (fun _ => rfl) ?_
        (simp only [Act.put, Act.eval, Array.getD_eq_getD_getElem?, List.getElem?_toArray, List.getElem?_cons_succ, List.getElem?_cons_zero, Option.getD_some, List.setIfInBounds_toArray, List.set_cons_succ, List.set_cons_zero, List.getElem_toArray, List.getElem_cons_succ, List.getElem_cons_zero])
        refine take_pure' (i := 9) rfl (by kernel_rfl) (by kernel_rfl) (by kernel_rfl) (fun _ _ _ h => h) rfl (fun _ => rfl) ?_
        (simp only [Act.put, Act.eval, Array.getD_eq_getD_getElem?, List.getElem?_toArray, List.getElem?_cons_succ, List.getElem?_cons_zero, Option.getD_some, List.setIfInBounds_toArray, List.set_cons_succ, List.set_cons_zero, List.getElem_toArray, List.getElem_cons_succ, List.getElem_cons_zero])
        refine take_pure' (i := 10) rfl (by kernel_rfl) (by kernel_rfl) (by kernel_rfl) (fun _ _ _ h => h) rfl (slcAddr0_run _ _ _ rfl _ _ _ rfl _ _ rfl tU16S k rfl (by omega)) ?_
        (simp only [Act.put, Act.eval, Array.getD_eq_getD_getElem?, List.getElem?_toArray, List.getElem?_cons_succ, List.getElem?_cons_zero, Option.getD_some, List.setIfInBounds_toArray, List.set_cons_succ, List.set_cons_zero, List.getElem_toArray, List.getElem_cons_succ, List.getElem_cons_zero])
        refine wpAny_ready (rs := [7, 11]) (by kernel_rfl) (by simp) ?_
        refine AllReady.one' rfl rfl ?_ ?_
        · ((with_reducible refine gate_load rfl ?_); refine wpl_load1 rfl _ _ rfl _ rfl tU16 (.int .u16 (ro f (11 - k) : Nat)) ((st.get (by repeat (first | exact At.here | apply At.there))).cellv (flip_get f (by omega) (by omega) (by omega))) ?_)
          (simp only [Act.put, Act.eval, Array.getD_eq_getD_getElem?, List.getElem?_toArray, List.getElem?_cons_succ, List.getElem?_cons_zero, Option.getD_some, List.setIfInBounds_toArray, List.set_cons_succ, List.set_cons_zero, List.getElem_toArray, List.getElem_cons_succ, List.getElem_cons_zero])
          refine wpList_aft ?_
          refine wpAny_ready (rs := [11]) (by kernel_rfl) (by simp) ?_
          refine AllReady.one' rfl rfl ?_ ?_
          · ((with_reducible refine gate_load rfl ?_); refine wpl_load1 rfl _ _ rfl _ rfl tU16 (.int .u16 (ro f k : Nat)) ((st.get (by repeat (first | exact At.here | apply At.there))).cellv (flip_get f (by omega) (by omega) (by omega))) ?_)
            (simp only [Act.put, Act.eval, Array.getD_eq_getD_getElem?, List.getElem?_toArray, List.getElem?_cons_succ, List.getElem?_cons_zero, Option.getD_some, List.setIfInBounds_toArray, List.set_cons_succ, List.set_cons_zero, List.getElem_toArray, List.getElem_cons_succ, List.getElem_cons_zero])
            refine wpList_aft ?_
            refine wpAny_ready (rs := [12]) (by kernel_rfl) (by simp) ?_
            refine AllReady.one' rfl rfl ?_ ?_
            · ((with_reducible refine gate_addr rfl ?_); refine wpl_slcAddr0 rfl _ _ _ rfl _ _ _ rfl _ _ rfl tU16S k rfl (by omega) ?_)
              (simp only [Act.put, Act.eval, Array.getD_eq_getD_getElem?, List.getElem?_toArray, List.getElem?_cons_succ, List.getElem?_cons_zero, Option.getD_some, List.setIfInBounds_toArray, List.set_cons_succ, List.set_cons_zero, List.getElem_toArray, List.getElem_cons_succ, List.getElem_cons_zero])
              refine wpList_aft ?_
              refine wpAny_ready (rs := [13]) (by kernel_rfl) (by simp) ?_
              refine AllReady.one' rfl rfl ?_ ?_
              · ((with_reducible refine gate_store rfl ?_); refine wpl_store1 rfl _ _ _ rfl _ _ rfl (.int .u16 _) rfl tU16 rfl rfl st _ _ (by repeat (first | exact Upd.here | apply Upd.there)) (by rw [frv_length]; omega) ?_; rw [Nat.zero_add, frv_set];clear st; intro _ st)
                (simp only [Act.put, Act.eval, Array.getD_eq_getD_getElem?, List.getElem?_toArray, List.getElem?_cons_succ, List.getElem?_cons_zero, Option.getD_some, List.setIfInBounds_toArray, List.set_cons_succ, List.set_cons_zero, List.getElem_toArray, List.getElem_cons_succ, List.getElem_cons_zero])
                refine wpList_aft ?_
                refine wpAny_ready (rs := [14]) (by kernel_rfl) (by simp) ?_
                refine AllReady.one' rfl rfl ?_ ?_
                · ((with_reducible refine gate_addr rfl ?_); refine wpl_slcAddr0 rfl _ _ _ rfl _ _ _ rfl _ _ rfl tU16S (11 - k) hj (by omega) ?_)
                  (simp only [Act.put, Act.eval, Array.getD_eq_getD_getElem?, List.getElem?_toArray, List.getElem?_cons_succ, List.getElem?_cons_zero, Option.getD_some, List.setIfInBounds_toArray, List.set_cons_succ, List.set_cons_zero, List.getElem_toArray, List.getElem_cons_succ, List.getElem_cons_zero])
                  refine wpList_aft ?_
                  refine wpAny_ready (rs := [15]) (by kernel_rfl) (by simp) ?_
                  refine AllReady.one' rfl rfl ?_ ?_
                  · ((with_reducible refine gate_store rfl ?_); refine wpl_store1 rfl _ _ _ rfl _ _ rfl (.int .u16 _) rfl tU16 rfl rfl st _ _ (by repeat (first | exact Upd.here | apply Upd.there)) (by rw [frv_length, List.length_set]; omega) ?_; rw [Nat.zero_add, frv_set, flipTo_step f hlt];clear st; intro _ st)
                    (simp only [Act.put, Act.eval, Array.getD_eq_getD_getElem?, List.getElem?_toArray, List.getElem?_cons_succ, List.getElem?_cons_zero, Option.getD_some, List.setIfInBounds_toArray, List.set_cons_succ, List.set_cons_zero, List.getElem_toArray, List.getElem_cons_succ, List.getElem_cons_zero])
                    refine wpList_aft ?_
                    refine wpAny_done (by kernel_rfl) ?_ _; exact ⟨rfl, st⟩
                  exact AllReady.nil
                exact AllReady.nil
              exact AllReady.nil
            exact AllReady.nil
          exact AllReady.nil
        refine AllReady.one' rfl rfl ?_ ?_
        · ((with_reducible refine gate_load rfl ?_); refine wpl_load1 rfl _ _ rfl _ rfl tU16 (.int .u16 (ro f k : Nat)) ((st.get (by repeat (first | exact At.here | apply At.there))).cellv (flip_get f (by omega) (by omega) (by omega))) ?_)
          (simp only [Act.put, Act.eval, Array.getD_eq_getD_getElem?, List.getElem?_toArray, List.getElem?_cons_succ, List.getElem?_cons_zero, Option.getD_some, List.setIfInBounds_toArray, List.set_cons_succ, List.set_cons_zero, List.getElem_toArray, List.getElem_cons_succ, List.getElem_cons_zero])
          refine wpList_aft ?_
          refine wpAny_ready (rs := [7]) (by kernel_rfl) (by simp) ?_
          refine AllReady.one' rfl rfl ?_ ?_
          · ((with_reducible refine gate_load rfl ?_); refine wpl_load1 rfl _ _ rfl _ rfl tU16 (.int .u16 (ro f (11 - k) : Nat)) ((st.get (by repeat (first | exact At.here | apply At.there))).cellv (flip_get f (by omega) (by omega) (by omega))) ?_)
            (simp only [Act.put, Act.eval, Array.getD_eq_getD_getElem?, List.getElem?_toArray, List.getElem?_cons_succ, List.getElem?_cons_zero, Option.getD_some, List.setIfInBounds_toArray, List.set_cons_succ, List.set_cons_zero, List.getElem_toArray, List.getElem_cons_succ, List.getElem_cons_zero])
            refine wpList_aft ?_
            refine wpAny_ready (rs := [12]) (by kernel_rfl) (by simp) ?_
            refine AllReady.one' rfl rfl ?_ ?_
            · ((with_reducible refine gate_addr rfl ?_); refine wpl_slcAddr0 rfl _ _ _ rfl _ _ _ rfl _ _ rfl tU16S k rfl (by omega) ?_)
              (simp only [Act.put, Act.eval, Array.getD_eq_getD_getElem?, List.getElem?_toArray, List.getElem?_cons_succ, List.getElem?_cons_zero, Option.getD_some, List.setIfInBounds_toArray, List.set_cons_succ, List.set_cons_zero, List.getElem_toArray, List.getElem_cons_succ, List.getElem_cons_zero])
              refine wpList_aft ?_
              refine wpAny_ready (rs := [13]) (by kernel_rfl) (by simp) ?_
              refine AllReady.one' rfl rfl ?_ ?_
              · ((with_reducible refine gate_store rfl ?_); refine wpl_store1 rfl _ _ _ rfl _ _ rfl (.int .u16 _) rfl tU16 rfl rfl st _ _ (by repeat (first | exact Upd.here | apply Upd.there)) (by rw [frv_length]; omega) ?_; rw [Nat.zero_add, frv_set];clear st; intro _ st)
                (simp only [Act.put, Act.eval, Array.getD_eq_getD_getElem?, List.getElem?_toArray, List.getElem?_cons_succ, List.getElem?_cons_zero, Option.getD_some, List.setIfInBounds_toArray, List.set_cons_succ, List.set_cons_zero, List.getElem_toArray, List.getElem_cons_succ, List.getElem_cons_zero])
                refine wpList_aft ?_
                refine wpAny_ready (rs := [14]) (by kernel_rfl) (by simp) ?_
                refine AllReady.one' rfl rfl ?_ ?_
                · ((with_reducible refine gate_addr rfl ?_); refine wpl_slcAddr0 rfl _ _ _ rfl _ _ _ rfl _ _ rfl tU16S (11 - k) hj (by omega) ?_)
                  (simp only [Act.put, Act.eval, Array.getD_eq_getD_getElem?, List.getElem?_toArray, List.getElem?_cons_succ, List.getElem?_cons_zero, Option.getD_some, List.setIfInBounds_toArray, List.set_cons_succ, List.set_cons_zero, List.getElem_toArray, List.getElem_cons_succ, List.getElem_cons_zero])
                  refine wpList_aft ?_
                  refine wpAny_ready (rs := [15]) (by kernel_rfl) (by simp) ?_
                  refine AllReady.one' rfl rfl ?_ ?_
                  · ((with_reducible refine gate_store rfl ?_); refine wpl_store1 rfl _ _ _ rfl _ _ rfl (.int .u16 _) rfl tU16 rfl rfl st _ _ (by repeat (first | exact Upd.here | apply Upd.there)) (by rw [frv_length, List.length_set]; omega) ?_; rw [Nat.zero_add, frv_set, flipTo_step f hlt];clear st; intro _ st)
                    (simp only [Act.put, Act.eval, Array.getD_eq_getD_getElem?, List.getElem?_toArray, List.getElem?_cons_succ, List.getElem?_cons_zero, Option.getD_some, List.setIfInBounds_toArray, List.set_cons_succ, List.set_cons_zero, List.getElem_toArray, List.getElem_cons_succ, List.getElem_cons_zero])
                    refine wpList_aft ?_
                    refine wpAny_done (by kernel_rfl) ?_ _; exact ⟨rfl, st⟩
                  exact AllReady.nil
                exact AllReady.nil
              exact AllReady.nil
            exact AllReady.nil
          exact AllReady.nil
        exact AllReady.nil
      clear st; intro _ st
      go_wp2_with fail
      go_roundw
      case rel => exact ⟨k + 1, by omega, by go_num, by go_num, st⟩
      case measure => simp [intOf]; omega
    · obtain rfl : k = 6 := by omega
      rw [flipTo_all] at st
      go_wp2_with fail
      go_end0
      exact ⟨rfl, st.keep1⟩

def fliR (f : List Nat) : List Nat := if okB f = true then rowsOf (fun y => ro f (11 - y)) else zf
theorem fliR_ok {f : List Nat} (ok : FrOk f) : FrOk (fliR f) := by
  unfold fliR
  split
  · exact rowsOf_ok fun y _ => ok.ro_lt _
  · exact zf_ok
set_option maxRecDepth 100000 in
theorem specFlip_c (f : List Nat) (ok : FrOk f) (w : World) :
    Calls Try.prog 29 #[.agg (frv f).toArray] w fun e w' => e = .returned (.tuple #[.agg (frv (fliR f)).toArray, .int .i64 (codeF f)]) ∧ Keep [] w w' := by
  have hf := ok.len
  have st := St.start w
  unfold fliR
  rcases Bool.eq_false_or_eq_true (okB f) with h | h
  · rw [codeF_0 h, h, if_pos rfl]
    go_enter Try.func29, Try.ntmps29
    go_wp2_with (first | ((with_reducible refine gate_box rfl ?_); (with_reducible refine gate_dst (N := 1) rfl ?_); refine wpl_box rfl _ _ rfl _ rfl _ rfl st ?_; clear st; intro B1 _ st) | ((with_reducible refine gate_alloc rfl ?_); (with_reducible refine gate_dst (N := 2) rfl ?_); refine wpl_alloc rfl _ rfl tFr.toAggT st ?_; clear st; intro B2 _ st) | (go_at_call 73; refine (l01Ok_c f hf _ _ _ (.of (st.get (.there .here)))).mono ?_; rintro _ _ ⟨rfl, hk⟩; replace st := st.call hk; clear hk) | ((with_reducible refine gate_build rfl ?_); refine wpl_zero rfl _ rfl _ tFrB ?_) | ((with_reducible refine gate_alloc rfl ?_); (with_reducible refine gate_dst (N := 4) rfl ?_); refine wpl_alloc rfl _ rfl tFr.toAggT st ?_; clear st; intro B4 _ st) | ((with_reducible refine gate_store rfl ?_); refine wpl_storeAll rfl _ _ _ rfl _ rfl _ rfl tFr.toAggT (by simp [frv_length, zf_length, mk_length, withD_length, part_length, rowsOf_length, *]) (frv_one _) st _ _ (by repeat (first | exact Upd.here | apply Upd.there)) (by simp [frv_length, zf_length, mk_length, withD_length, part_length, rowsOf_length, *]) ?_; clear st; intro _ st))
    go_loopw [5] (fun i wr => ∃ y : Nat, y ≤ 12 ∧ i = .int .i64 y ∧ St [] w wr [(B4, frv (part (fun y => ro f (11 - y)) zf y), 25), (B2, List.replicate 12 (Value.int .u16 0), 25), (B1, frv f, 25)]) (fun i _ => 12 - (intOf i).toNat)
    case atStart => exact ⟨0, by omega, rfl, by rw [part_zero _ _ zf_length]; exact st⟩
    case round =>
      clear st
      obtain ⟨y, hy, rfl, st⟩ := hrel
      by_cases hlt : y < 12
      · have hdy : decide ((y : Int) < 12) = true := by simp; omega
        have hj : (11 : Int) - (y : Int) = ((11 - y : Nat) : Int) := by omega
        go_wp2_with (first | ((with_reducible refine gate_dst (N := 16) rfl ?_); ((with_reducible refine gate_bin rfl ?_); refine wpl_bin rfl _ _ _ _ _ rfl _ _ _ _ rfl rfl (.int .i64 ((11 - y : Nat) : Int)) (fun w' => by rw [← hj]; exact run_sub64 (by omega) (by omega) w') ?_)) | ((with_reducible refine gate_dst (N := 17) rfl ?_); ((with_reducible refine gate_addr rfl ?_); refine wpl_indexAddr0 rfl _ _ _ rfl _ rfl _ _ rfl tFr (11 - y) rfl (by omega) ?_)) | ((with_reducible refine gate_dst (N := 19) rfl ?_); ((with_reducible refine gate_addr rfl ?_); refine wpl_indexAddr0 rfl _ _ _ rfl _ rfl _ _ rfl tFr y rfl hlt ?_)) | ((with_reducible refine gate_load rfl ?_); refine wpl_load1 rfl _ _ rfl _ rfl tU16 _ ((st.get (by repeat (first | exact At.here | apply At.there))).cellv (frv_get _ _ (by omega))) ?_) | ((with_reducible refine gate_store rfl ?_); refine wpl_store1 rfl _ _ _ rfl _ _ rfl (.int .u16 _) rfl tU16 rfl rfl st _ _ (by repeat (first | exact Upd.here | apply Upd.there)) (by rw [frv_length, part_length]; omega) ?_; rw [frv_set, part_set (fun y => ro f (11 - y)) zf y hlt];clear st; intro _ st))
        go_roundw
        case rel => exact ⟨y + 1, by omega, by go_num, st⟩
        case measure => simp [intOf]; omega
      · obtain rfl : y = 12 := by omega
        rw [part_all] at st
        go_wp2_with (first | ((with_reducible refine gate_load rfl ?_); refine wpl_loadAll rfl _ _ rfl _ rfl tFr.toAggT _ _ (st.get (by repeat (first | exact At.here | apply At.there))) (by rw [frv_length, rowsOf_length]) ?_) | ((with_reducible refine gate_store rfl ?_); refine wpl_storeAll rfl _ _ _ rfl _ rfl _ rfl tFr.toAggT (by rw [frv_length, rowsOf_length]) (frv_one _) st _ _ (by repeat (first | exact Upd.here | apply Upd.there)) (by simp) ?_; clear st; intro _ st))
        refine bodyPost_cell_tmp rfl tFr.toAggT rfl _ rfl _ _ (st.get (by repeat (first | exact At.here | apply At.there))) (by rw [frv_length, rowsOf_length]) _ rfl ?_
        exact ⟨rfl, st.keep⟩
  · rw [codeF_1 h, if_neg (by rw [h]; decide)]
    go_enter Try.func29, Try.ntmps29
    go_wp2_with (first | ((with_reducible refine gate_box rfl ?_); refine wpl_box rfl _ _ rfl _ rfl _ rfl st ?_; clear st; intro _ _ st) | ((with_reducible refine gate_alloc rfl ?_); refine wpl_alloc rfl _ rfl tFr.toAggT st ?_; clear st; intro _ _ st) | (go_at_call 73; refine (l01Ok_c f hf _ _ _ (.of (st.get (.there .here)))).mono ?_; rintro _ _ ⟨rfl, hk⟩; replace st := st.call hk; clear hk) | ((with_reducible refine gate_build rfl ?_); refine wpl_zero rfl _ rfl _ tFrB ?_) | ((with_reducible refine gate_store rfl ?_); refine wpl_storeAll rfl _ _ _ rfl _ rfl _ rfl tFr.toAggT (by simp [frv_length, zf_length, mk_length, withD_length, part_length, rowsOf_length, *]) (frv_one _) st _ _ (by repeat (first | exact Upd.here | apply Upd.there)) (by simp [frv_length, zf_length, mk_length, withD_length, part_length, rowsOf_length, *]) ?_; clear st; intro _ st))
    refine bodyPost_cell_tmp rfl tFr.toAggT rfl _ rfl _ _ (st.get (by repeat (first | exact At.here | apply At.there))) (by simp [frv_length, zf_length, mk_length, withD_length, part_length, rowsOf_length, *]) _ rfl ?_
    exact ⟨rfl, st.keep⟩
set_option maxRecDepth 100000 in
theorem Flip_c (f : List Nat) (ok : FrOk f) (w : World) :
    Calls Try.prog 30 #[.agg (frv f).toArray] w fun e w' => e = .returned (.tuple #[.agg (frv (fliR f)).toArray, .int .i64 (codeF f)]) ∧ Keep [] w w' := by
  have hf := ok.len
  have st := St.start w
  unfold fliR
  rcases Bool.eq_false_or_eq_true (okB f) with h | h
  · rw [codeF_0 h, h, if_pos rfl]
    go_enter Try.func30, Try.ntmps30
    go_wp2_with (first | ((with_reducible refine gate_box rfl ?_); refine wpl_box rfl _ _ rfl _ rfl _ rfl st ?_; clear st; intro _ _ st) | ((with_reducible refine gate_alloc rfl ?_); refine wpl_alloc rfl _ rfl tFr.toAggT st ?_; clear st; intro _ _ st) | ((with_reducible refine gate_load rfl ?_); refine wpl_loadAll rfl _ _ rfl _ rfl tFr.toAggT _ _ (st.get (by repeat (first | exact At.here | apply At.there))) (by first | rw [frv_length, hf] | rw [frv_length, rowsOf_length]) ?_) | (go_at_call 25; refine (ValidFrame_c f hf _).mono ?_; rintro _ _ ⟨rfl, hk⟩; replace st := st.call hk; clear hk) | (go_at_call 78; refine (reverse_c f hf _ _ _ (st.get (.there .here))).mono ?_; rintro _ _ ⟨rfl, hk, hb1⟩; replace st := st.wrote (by repeat (first | exact Upd.here | apply Upd.there)) hk hb1; clear hk hb1) | ((with_reducible refine gate_store rfl ?_); refine wpl_storeAll rfl _ _ _ rfl _ rfl _ rfl tFr.toAggT (by rw [frv_length, rowsOf_length]) (frv_one _) st _ _ (by repeat (first | exact Upd.here | apply Upd.there)) (by simp [frv_length, zf_length, mk_length, withD_length, part_length, rowsOf_length, *]) ?_; clear st; intro _ st))
    refine bodyPost_cell_tmp rfl tFr.toAggT rfl _ rfl _ _ (st.get (by repeat (first | exact At.here | apply At.there))) (by rw [frv_length, rowsOf_length]) _ rfl ?_
    exact ⟨rfl, st.keep⟩
  · rw [codeF_1 h, if_neg (by rw [h]; decide)]
    go_enter Try.func30, Try.ntmps30
    go_wp2_with (first | ((with_reducible refine gate_box rfl ?_); refine wpl_box rfl _ _ rfl _ rfl _ rfl st ?_; clear st; intro _ _ st) | ((with_reducible refine gate_alloc rfl ?_); refine wpl_alloc rfl _ rfl tFr.toAggT st ?_; clear st; intro _ _ st) | ((with_reducible refine gate_load rfl ?_); refine wpl_loadAll rfl _ _ rfl _ rfl tFr.toAggT _ _ (st.get (by repeat (first | exact At.here | apply At.there))) (by simp [frv_length, zf_length, mk_length, withD_length, part_length, rowsOf_length, *]) ?_) | (go_at_call 25; refine (ValidFrame_c f hf _).mono ?_; rintro _ _ ⟨rfl, hk⟩; replace st := st.call hk; clear hk) | ((with_reducible refine gate_build rfl ?_); refine wpl_zero rfl _ rfl _ tFrB ?_) | ((with_reducible refine gate_store rfl ?_); refine wpl_storeAll rfl _ _ _ rfl _ rfl _ rfl tFr.toAggT (by simp [frv_length, zf_length, mk_length, withD_length, part_length, rowsOf_length, *]) (frv_one _) st _ _ (by repeat (first | exact Upd.here | apply Upd.there)) (by simp [frv_length, zf_length, mk_length, withD_length, part_length, rowsOf_length, *]) ?_; clear st; intro _ st))
    refine bodyPost_cell_tmp rfl tFr.toAggT rfl _ rfl _ _ (st.get (by repeat (first | exact At.here | apply At.there))) (by simp [frv_length, zf_length, mk_length, withD_length, part_length, rowsOf_length, *]) _ rfl ?_
    exact ⟨rfl, st.keep⟩
set_option maxRecDepth 100000 in
theorem law_FlipFrame (f : List Nat) (ok : FrOk f) (w : World) :
    Calls Try.prog 5 #[.agg (frv f).toArray] w fun e w' => e = .returned (.bool true) ∧ Keep [] w w' := by
  have hf := ok.len
  have hR : (fliR f).length = 12 := (fliR_ok ok).len
  have st := St.start w
  go_enter Try.func5, Try.ntmps5
  go_wp2_with (first | ((with_reducible refine gate_box rfl ?_); refine wpl_box rfl _ _ rfl _ rfl _ rfl st ?_; clear st; intro _ _ st) | ((with_reducible refine gate_load rfl ?_); refine wpl_loadAll rfl _ _ rfl _ rfl tRaw.toAggT _ _ (st.get (by repeat (first | exact At.here | apply At.there))) (by rw [frv_length, hf]) ?_) | (go_at_call 24; refine (toFrame_c f hf _).mono ?_; rintro _ _ ⟨rfl, hk⟩; replace st := st.call hk; clear hk) | (go_at_call 29; refine (specFlip_c f ok _).mono ?_; rintro _ _ ⟨rfl, hk⟩; replace st := st.call hk; clear hk) | (go_at_call 30; refine (Flip_c f ok _).mono ?_; rintro _ _ ⟨rfl, hk⟩; replace st := st.call hk; clear hk) | ((with_reducible refine gate_alloc rfl ?_); refine wpl_alloc rfl _ rfl tFr.toAggT st ?_; clear st; intro _ _ st) | ((with_reducible refine gate_store rfl ?_); refine wpl_storeAll rfl _ _ _ rfl _ rfl _ rfl tFr.toAggT (by rw [frv_length, hR]) (frv_one _) st _ _ (by repeat (first | exact Upd.here | apply Upd.there)) (by simp [frv_length, zf_length, mk_length, withD_length, part_length, rowsOf_length, *]) ?_; clear st; intro _ st) | ((with_reducible refine gate_load rfl ?_); refine wpl_loadAll rfl _ _ rfl _ rfl tFr.toAggT _ _ (st.get (by repeat (first | exact At.here | apply At.there))) (by rw [frv_length, hR]) ?_) | (go_at_call 28; refine (eqFrame_same _ hR _).mono ?_; rintro _ _ ⟨rfl, hk⟩; replace st := st.call hk; clear hk) | (refine wpl_unguard rfl ?_))
  go_ret
  exact ⟨rfl, st.keep⟩
end Go.Proofs.Ytdiphapcjafbaaa
