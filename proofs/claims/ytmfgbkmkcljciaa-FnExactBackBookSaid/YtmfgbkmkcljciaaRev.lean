/- Books turned round in place; no condition. -/
import Derived.Test.YtmfgbkmkcljciaaBack
import Derived.Test.YtmfgbkmkcljciaaOrd0
namespace Go.Proofs.Ytmfgbkmkcljciaa
open Go.RowKit
set_option linter.unusedSimpArgs false
set_option linter.unusedVariables false

/-- The first i elements and the last i have changed places. -/
def revTo {α : Type} (d : α) (B : List α) (i : Nat) : List α := (List.range B.length).map fun y => if y < i ∨ B.length ≤ y + i then B.getD (B.length - 1 - y) d else B.getD y d
theorem revTo_length {α : Type} (d : α) (B : List α) (i : Nat) : (revTo d B i).length = B.length := by simp [revTo]
theorem revTo_get {α : Type} (d : α) (B : List α) (i y : Nat) (hy : y < B.length) : (revTo d B i)[y]? = some (if y < i ∨ B.length ≤ y + i then B.getD (B.length - 1 - y) d else B.getD y d) := by
  unfold revTo
  rw [List.getElem?_map, List.getElem?_range hy]; rfl
theorem revTo_zero {α : Type} (d : α) (B : List α) : revTo d B 0 = B := by
  apply List.ext_getElem?
  intro y
  by_cases hy : y < B.length
  · rw [revTo_get d B 0 y hy, if_neg (by omega), List.getD_eq_getElem?_getD, List.getElem?_eq_getElem hy]; rfl
  · rw [List.getElem?_eq_none (by rw [revTo_length]; omega), List.getElem?_eq_none (by omega)]
theorem revTo_all {α : Type} (d : α) (B : List α) (i : Nat) (hi : B.length ≤ 2 * i + 1) : revTo d B i = B.reverse := by
  apply List.ext_getElem?
  intro y
  by_cases hy : y < B.length
  · rw [revTo_get d B i y hy, List.getElem?_reverse hy]
    by_cases h : y < i ∨ B.length ≤ y + i
    · rw [if_pos h, List.getD_eq_getElem?_getD, List.getElem?_eq_getElem (by omega)]; rfl
    · rw [if_neg h, show B.length - 1 - y = y by omega, List.getD_eq_getElem?_getD, List.getElem?_eq_getElem hy]; rfl
  · rw [List.getElem?_eq_none (by rw [revTo_length]; omega), List.getElem?_eq_none (by simp; omega)]
theorem revTo_step {α : Type} (d : α) (B : List α) {i : Nat} (hi : 2 * i + 1 < B.length) : ((revTo d B i).set i (B.getD (B.length - 1 - i) d)).set (B.length - 1 - i) (B.getD i d) = revTo d B (i + 1) := by
  apply List.ext_getElem?
  intro y
  by_cases hy : y < B.length
  · rw [revTo_get d B (i + 1) y hy, List.getElem?_set, List.getElem?_set, revTo_get d B i y hy, List.length_set, revTo_length]
    by_cases e1 : B.length - 1 - i = y
    · rw [if_pos e1, if_pos (by omega), if_pos (by omega), show B.length - 1 - y = i by omega]
    · rw [if_neg e1]
      by_cases e2 : i = y
      · subst e2; rw [if_pos rfl, if_pos (by omega), if_pos (by omega)]
      · rw [if_neg e2]
        by_cases h : y < i ∨ B.length ≤ y + i
        · rw [if_pos h, if_pos (by omega)]
        · rw [if_neg h, if_neg (by omega)]
  · rw [List.getElem?_eq_none (by rw [List.length_set, List.length_set, revTo_length]; omega), List.getElem?_eq_none (by rw [revTo_length]; omega)]
theorem slcAddr_run {P : Program} {a : Act} {o : Oper} (T : TypeId) (x ix : Operand) (ho : o.op = .indexAddr T x ix) (b m c : Nat) (hx : a.eval x = .slice (some ⟨b, 0, none⟩) m c) (k : IntKind) (i : Int) (hi : a.eval ix = .int k i)
    {E : TypeId} {s y : Nat} {z : List Value} (hT : SlcT P T E s y z) (j : Nat) (hj : i = j) (h1 : j < m) : ∀ w : World, (execOp a.eval o).run P w = .ok (.value (.pointer (some ⟨b, j * s, none⟩))) w := by
  subst hj
  intro w
  have hsz := hT.sizeOf w
  have h1' : (j : Int) < m := by omega
  have h0 : (0 : Int) ≤ j := by omega
  unfold execOp
  simp only [ho, hx, hi, Instr.indexAt, asIntOf, Sem.run_bind, Sem.run_pure, Result.andThen_ok, run_underlying hT.u w, h0, h1', and_self, if_true, hsz, Addr.add_lit, Int.toNat_natCast, Nat.zero_add]
theorem encs_setA {α : Type} {e : α → List Value} {s : Nat} (hs : ∀ a, (e a).length = s) (l : List α) (sp : List Value) (k : Nat) (hk : k < l.length) (x : α) : (encs e l ++ sp).take (k * s) ++ e x ++ (encs e l ++ sp).drop (k * s + s) = encs e (l.set k x) ++ sp := by
  have h1 : k * s + s ≤ l.length * s := by rw [← Nat.succ_mul]; exact Nat.mul_le_mul_right _ hk
  have hl := encs_length hs l
  rw [List.take_append_of_le_length (by omega), List.drop_append_of_le_length (by omega), ← encs_set hs l k hk x]
  simp
theorem revTo_cl {w : World} {g : Nat} {B : List Fm} {k y n : Nat} {sp : List Value} {T : TypeId} (h : Blk w g (encs fv (revTo fz B k) ++ sp) T) (hn : B.length = n) (hy : y < n) (h1 : k ≤ y) (h2 : y + k < n) : Cl w g (y * 12) (fv (B.getD y fz)) := by
  have hl : y < (revTo fz B k).length := by rw [revTo_length]; omega
  have := h.seg fv_len hl
  have e := revTo_get fz B k y (by omega)
  rw [List.getElem?_eq_getElem hl, if_neg (by omega)] at e
  injection e with e
  rwa [e] at this
set_option maxHeartbeats 1000000 in
set_option maxRecDepth 100000 in
theorem Reverse_c (B : List Fm) (n : Nat) (hB : B.length = n) (hn : n ≤ 1000000) (g c : Nat) (spare : List Value) (T : TypeId) (w : World) (hb0 : Blk w g (encs fv B ++ spare) T) :
    Calls Try.prog 66 #[.slice (some ⟨g, 0, none⟩) n c] w fun e w' => e = .returned (.tuple #[]) ∧ Keep [g] w w' ∧ Blk w' g (encs fv B.reverse ++ spare) T := by
  have st := St.start1 hb0
  replace hB := hid hB
  go_enter Try.func66, Try.ntmps66
  go_wp2_with fail
  go_loopw [2, 3] (fun i j wr => ∃ k : Nat, 2 * k ≤ n + 1 ∧ i = .int .i64 k ∧ j = .int .i64 ((n : Int) - 1 - (k : Int)) ∧ St [g] w wr [(g, encs fv (revTo fz B k) ++ spare, T)]) (fun i _ _ => n - (intOf i).toNat)
  case atStart => exact ⟨0, by omega, rfl, by simp, by rw [revTo_zero]; exact st⟩
  case round =>
    clear st hb0
    obtain ⟨k, hk, rfl, rfl, st⟩ := hrel
    by_cases hlt : 2 * k + 1 < n
    · have hd : decide ((k : Int) < (n : Int) - 1 - (k : Int)) = true := by simp; omega
      obtain ⟨q, hq⟩ : ∃ q : Nat, q = n - 1 - k := ⟨_, rfl⟩
      have hj : (n : Int) - 1 - (k : Int) = ((q : Nat) : Int) := by omega
      have hqn : q < n := by omega
      have hkn : k < n := by omega
      have HX := hid (fun w' (h : Blk w' g (encs fv (revTo fz B k) ++ spare) T) => revTo_cl (y := q) h hB.out hqn (by omega) (by omega))
      have HY := hid (fun w' (h : Blk w' g (encs fv (revTo fz B k) ++ spare) T) => revTo_cl (y := k) h hB.out hkn (by omega) (by omega))
      have HE1 := hid (encs_setA fv_len (revTo fz B k) spare k (by rw [revTo_length, hB.out]; omega) (B.getD q fz))
      have HE2 := hid (encs_setA fv_len ((revTo fz B k).set k (B.getD q fz)) spare q (by rw [List.length_set, revTo_length, hB.out]; omega) (B.getD k fz))
      have HS := hid (revTo_step fz B (i := k) (by rw [hB.out]; omega))
      rw [show B.length - 1 - k = q by rw [hB.out, hq]] at HS
      have HL := hid (show (encs fv (revTo fz B k) ++ spare).length = n * 12 + spare.length by rw [List.length_append, encs_fv_length, revTo_length, hB.out])
      have HL2 := hid (show (encs fv ((revTo fz B k).set k (B.getD q fz)) ++ spare).length = n * 12 + spare.length by rw [List.length_append, encs_fv_length, List.length_set, revTo_length, hB.out])
      obtain ⟨X, hX⟩ : ∃ X, B.getD q fz = X := ⟨_, rfl⟩
      obtain ⟨Y, hY⟩ : ∃ Y, B.getD k fz = Y := ⟨_, rfl⟩
      rw [hX] at HX HE1 HE2 HS HL2
      rw [hY] at HY HE2 HS
      have HQ := hid hq
      clear hX hY hq hd
      rw [hj]
      have HJ := hid hj
      clear hj
      have hd2 : decide (k < q) = true := by rw [decide_eq_true_eq]; have := HQ.out; omega
      go_wp2_with fail
      apply wp_region_meet0 st 16 rfl (by kernel_rfl)
      case h =>
        intro _ st
        refine take_pure' (i := 0) rfl (by kernel_rfl) (by kernel_rfl) (by kernel_rfl) (fun _ _ _ h => h) rfl (fun _ => rfl) ?_
        (simp only [Act.put, Act.eval, Array.getD_eq_getD_getElem?, List.getElem?_toArray, List.getElem?_cons_succ, List.getElem?_cons_zero, Option.getD_some, List.setIfInBounds_toArray, List.set_cons_succ, List.set_cons_zero, List.getElem_toArray, List.getElem_cons_succ, List.getElem_cons_zero])
        refine take_pure' (i := 1) rfl (by kernel_rfl) (by kernel_rfl) (by kernel_rfl) (fun _ _ _ h => h) rfl (fun _ => rfl) ?_
        (simp only [Act.put, Act.eval, Array.getD_eq_getD_getElem?, List.getElem?_toArray, List.getElem?_cons_succ, List.getElem?_cons_zero, Option.getD_some, List.setIfInBounds_toArray, List.set_cons_succ, List.set_cons_zero, List.getElem_toArray, List.getElem_cons_succ, List.getElem_cons_zero])
        refine take_pure' (i := 2) rfl (by kernel_rfl) (by kernel_rfl) (by kernel_rfl) (fun _ _ _ h => h) rfl (fun _ => rfl) ?_
        (simp only [Act.put, Act.eval, Array.getD_eq_getD_getElem?, List.getElem?_toArray, List.getElem?_cons_succ, List.getElem?_cons_zero, Option.getD_some, List.setIfInBounds_toArray, List.set_cons_succ, List.set_cons_zero, List.getElem_toArray, List.getElem_cons_succ, List.getElem_cons_zero])
        refine take_pure' (i := 3) rfl (by kernel_rfl) (by kernel_rfl) (by kernel_rfl) (fun _ _ _ h => h) rfl (fun _ => rfl) ?_
        (simp only [Act.put, Act.eval, Array.getD_eq_getD_getElem?, List.getElem?_toArray, List.getElem?_cons_succ, List.getElem?_cons_zero, Option.getD_some, List.setIfInBounds_toArray, List.set_cons_succ, List.set_cons_zero, List.getElem_toArray, List.getElem_cons_succ, List.getElem_cons_zero])
        refine take_pure' (i := 4) rfl (by kernel_rfl) (by kernel_rfl) (by kernel_rfl) (fun _ _ _ h => h) rfl (fun _ => rfl) ?_
        (simp only [Act.put, Act.eval, Array.getD_eq_getD_getElem?, List.getElem?_toArray, List.getElem?_cons_succ, List.getElem?_cons_zero, Option.getD_some, List.setIfInBounds_toArray, List.set_cons_succ, List.set_cons_zero, List.getElem_toArray, List.getElem_cons_succ, List.getElem_cons_zero])
        refine take_pure' (i := 5) rfl (by kernel_rfl) (by kernel_rfl) (by kernel_rfl) (fun _ _ _ h => h) rfl (fun _ => rfl) ?_
        (simp only [Act.put, Act.eval, Array.getD_eq_getD_getElem?, List.getElem?_toArray, List.getElem?_cons_succ, List.getElem?_cons_zero, Option.getD_some, List.setIfInBounds_toArray, List.set_cons_succ, List.set_cons_zero, List.getElem_toArray, List.getElem_cons_succ, List.getElem_cons_zero])
        refine take_pure' (i := 6) rfl (by kernel_rfl) (by kernel_rfl) (by kernel_rfl) (fun _ _ _ h => h) rfl (slcAddr_run _ _ _ rfl _ _ _ rfl _ _ rfl tBook q rfl hqn) ?_
        (simp only [Act.put, Act.eval, Array.getD_eq_getD_getElem?, List.getElem?_toArray, List.getElem?_cons_succ, List.getElem?_cons_zero, Option.getD_some, List.setIfInBounds_toArray, List.set_cons_succ, List.set_cons_zero, List.getElem_toArray, List.getElem_cons_succ, List.getElem_cons_zero])
        refine take_pure' (i := 8) rfl (by kernel_rfl) (by kernel_rfl) (by kernel_rfl) (fun _ _ _ h => h) rfl (fun _ => rfl) ?_
        (simp only [Act.put, Act.eval, Array.getD_eq_getD_getElem?, List.getElem?_toArray, List.getElem?_cons_succ, List.getElem?_cons_zero, Option.getD_some, List.setIfInBounds_toArray, List.set_cons_succ, List.set_cons_zero, List.getElem_toArray, List.getElem_cons_succ, List.getElem_cons_zero])
        refine take_pure' (i := 9) rfl (by kernel_rfl) (by kernel_rfl) (by kernel_rfl) (fun _ _ _ h => h) rfl (fun _ => rfl) ?_
        (simp only [Act.put, Act.eval, Array.getD_eq_getD_getElem?, List.getElem?_toArray, List.getElem?_cons_succ, List.getElem?_cons_zero, Option.getD_some, List.setIfInBounds_toArray, List.set_cons_succ, List.set_cons_zero, List.getElem_toArray, List.getElem_cons_succ, List.getElem_cons_zero])
        refine take_pure' (i := 10) rfl (by kernel_rfl) (by kernel_rfl) (by kernel_rfl) (fun _ _ _ h => h) rfl (slcAddr_run _ _ _ rfl _ _ _ rfl _ _ rfl tBook k rfl hkn) ?_
        (simp only [Act.put, Act.eval, Array.getD_eq_getD_getElem?, List.getElem?_toArray, List.getElem?_cons_succ, List.getElem?_cons_zero, Option.getD_some, List.setIfInBounds_toArray, List.set_cons_succ, List.set_cons_zero, List.getElem_toArray, List.getElem_cons_succ, List.getElem_cons_zero])
        refine wpAny_ready (rs := [7, 11]) (by kernel_rfl) (by simp) ?_
        refine AllReady.one' rfl rfl ?_ ?_
        · ((with_reducible refine gate_load rfl ?_); refine ia_loadC (HX.out _ (st.get (by repeat (first | exact At.here | apply At.there)))) rfl rfl rfl (fv_len _) ?_)
          (simp only [Act.put, Act.eval, Array.getD_eq_getD_getElem?, List.getElem?_toArray, List.getElem?_cons_succ, List.getElem?_cons_zero, Option.getD_some, List.setIfInBounds_toArray, List.set_cons_succ, List.set_cons_zero, List.getElem_toArray, List.getElem_cons_succ, List.getElem_cons_zero])
          refine wpList_aft ?_
          refine wpAny_ready (rs := [11]) (by kernel_rfl) (by simp) ?_
          refine AllReady.one' rfl rfl ?_ ?_
          · ((with_reducible refine gate_load rfl ?_); refine ia_loadC (HY.out _ (st.get (by repeat (first | exact At.here | apply At.there)))) rfl rfl rfl (fv_len _) ?_)
            (simp only [Act.put, Act.eval, Array.getD_eq_getD_getElem?, List.getElem?_toArray, List.getElem?_cons_succ, List.getElem?_cons_zero, Option.getD_some, List.setIfInBounds_toArray, List.set_cons_succ, List.set_cons_zero, List.getElem_toArray, List.getElem_cons_succ, List.getElem_cons_zero])
            refine wpList_aft ?_
            refine wpAny_ready (rs := [12]) (by kernel_rfl) (by simp) ?_
            refine AllReady.one' rfl rfl ?_ ?_
            · ((with_reducible refine gate_addr rfl ?_); refine wpl_slcAddr rfl _ _ _ rfl _ _ _ _ rfl _ _ rfl tBook k rfl hkn ?_)
              (simp only [Act.put, Act.eval, Array.getD_eq_getD_getElem?, List.getElem?_toArray, List.getElem?_cons_succ, List.getElem?_cons_zero, Option.getD_some, List.setIfInBounds_toArray, List.set_cons_succ, List.set_cons_zero, List.getElem_toArray, List.getElem_cons_succ, List.getElem_cons_zero])
              refine wpList_aft ?_
              refine wpAny_ready (rs := [13]) (by kernel_rfl) (by simp) ?_
              refine AllReady.one' rfl rfl ?_ ?_
              · ((with_reducible refine gate_store rfl ?_); refine ia_storeSeg st rfl rfl rfl rfl (fv_len _) (fv_one _) (by rw [HL.out]; omega) ?_; clear st; intro _ st; simp only [List.set_cons_zero, Nat.zero_add] at st; rw [HE1.out] at st)
                (simp only [Act.put, Act.eval, Array.getD_eq_getD_getElem?, List.getElem?_toArray, List.getElem?_cons_succ, List.getElem?_cons_zero, Option.getD_some, List.setIfInBounds_toArray, List.set_cons_succ, List.set_cons_zero, List.getElem_toArray, List.getElem_cons_succ, List.getElem_cons_zero])
                refine wpList_aft ?_
                refine wpAny_ready (rs := [14]) (by kernel_rfl) (by simp) ?_
                refine AllReady.one' rfl rfl ?_ ?_
                · ((with_reducible refine gate_addr rfl ?_); refine wpl_slcAddr rfl _ _ _ rfl _ _ _ _ rfl _ _ rfl tBook q rfl hqn ?_)
                  (simp only [Act.put, Act.eval, Array.getD_eq_getD_getElem?, List.getElem?_toArray, List.getElem?_cons_succ, List.getElem?_cons_zero, Option.getD_some, List.setIfInBounds_toArray, List.set_cons_succ, List.set_cons_zero, List.getElem_toArray, List.getElem_cons_succ, List.getElem_cons_zero])
                  refine wpList_aft ?_
                  refine wpAny_ready (rs := [15]) (by kernel_rfl) (by simp) ?_
                  refine AllReady.one' rfl rfl ?_ ?_
                  · ((with_reducible refine gate_store rfl ?_); refine ia_storeSeg st rfl rfl rfl rfl (fv_len _) (fv_one _) (by rw [HL2.out]; omega) ?_; clear st; intro _ st; simp only [List.set_cons_zero, Nat.zero_add] at st; rw [HE2.out, HS.out] at st)
                    (simp only [Act.put, Act.eval, Array.getD_eq_getD_getElem?, List.getElem?_toArray, List.getElem?_cons_succ, List.getElem?_cons_zero, Option.getD_some, List.setIfInBounds_toArray, List.set_cons_succ, List.set_cons_zero, List.getElem_toArray, List.getElem_cons_succ, List.getElem_cons_zero])
                    refine wpList_aft ?_
                    refine wpAny_done (by kernel_rfl) ?_ _; exact ⟨rfl, st⟩
                  exact AllReady.nil
                exact AllReady.nil
              exact AllReady.nil
            exact AllReady.nil
          exact AllReady.nil
        refine AllReady.one' rfl rfl ?_ ?_
        · ((with_reducible refine gate_load rfl ?_); refine ia_loadC (HY.out _ (st.get (by repeat (first | exact At.here | apply At.there)))) rfl rfl rfl (fv_len _) ?_)
          (simp only [Act.put, Act.eval, Array.getD_eq_getD_getElem?, List.getElem?_toArray, List.getElem?_cons_succ, List.getElem?_cons_zero, Option.getD_some, List.setIfInBounds_toArray, List.set_cons_succ, List.set_cons_zero, List.getElem_toArray, List.getElem_cons_succ, List.getElem_cons_zero])
          refine wpList_aft ?_
          refine wpAny_ready (rs := [7]) (by kernel_rfl) (by simp) ?_
          refine AllReady.one' rfl rfl ?_ ?_
          · ((with_reducible refine gate_load rfl ?_); refine ia_loadC (HX.out _ (st.get (by repeat (first | exact At.here | apply At.there)))) rfl rfl rfl (fv_len _) ?_)
            (simp only [Act.put, Act.eval, Array.getD_eq_getD_getElem?, List.getElem?_toArray, List.getElem?_cons_succ, List.getElem?_cons_zero, Option.getD_some, List.setIfInBounds_toArray, List.set_cons_succ, List.set_cons_zero, List.getElem_toArray, List.getElem_cons_succ, List.getElem_cons_zero])
            refine wpList_aft ?_
            refine wpAny_ready (rs := [12]) (by kernel_rfl) (by simp) ?_
            refine AllReady.one' rfl rfl ?_ ?_
            · ((with_reducible refine gate_addr rfl ?_); refine wpl_slcAddr rfl _ _ _ rfl _ _ _ _ rfl _ _ rfl tBook k rfl hkn ?_)
              (simp only [Act.put, Act.eval, Array.getD_eq_getD_getElem?, List.getElem?_toArray, List.getElem?_cons_succ, List.getElem?_cons_zero, Option.getD_some, List.setIfInBounds_toArray, List.set_cons_succ, List.set_cons_zero, List.getElem_toArray, List.getElem_cons_succ, List.getElem_cons_zero])
              refine wpList_aft ?_
              refine wpAny_ready (rs := [13]) (by kernel_rfl) (by simp) ?_
              refine AllReady.one' rfl rfl ?_ ?_
              · ((with_reducible refine gate_store rfl ?_); refine ia_storeSeg st rfl rfl rfl rfl (fv_len _) (fv_one _) (by rw [HL.out]; omega) ?_; clear st; intro _ st; simp only [List.set_cons_zero, Nat.zero_add] at st; rw [HE1.out] at st)
                (simp only [Act.put, Act.eval, Array.getD_eq_getD_getElem?, List.getElem?_toArray, List.getElem?_cons_succ, List.getElem?_cons_zero, Option.getD_some, List.setIfInBounds_toArray, List.set_cons_succ, List.set_cons_zero, List.getElem_toArray, List.getElem_cons_succ, List.getElem_cons_zero])
                refine wpList_aft ?_
                refine wpAny_ready (rs := [14]) (by kernel_rfl) (by simp) ?_
                refine AllReady.one' rfl rfl ?_ ?_
                · ((with_reducible refine gate_addr rfl ?_); refine wpl_slcAddr rfl _ _ _ rfl _ _ _ _ rfl _ _ rfl tBook q rfl hqn ?_)
                  (simp only [Act.put, Act.eval, Array.getD_eq_getD_getElem?, List.getElem?_toArray, List.getElem?_cons_succ, List.getElem?_cons_zero, Option.getD_some, List.setIfInBounds_toArray, List.set_cons_succ, List.set_cons_zero, List.getElem_toArray, List.getElem_cons_succ, List.getElem_cons_zero])
                  refine wpList_aft ?_
                  refine wpAny_ready (rs := [15]) (by kernel_rfl) (by simp) ?_
                  refine AllReady.one' rfl rfl ?_ ?_
                  · ((with_reducible refine gate_store rfl ?_); refine ia_storeSeg st rfl rfl rfl rfl (fv_len _) (fv_one _) (by rw [HL2.out]; omega) ?_; clear st; intro _ st; simp only [List.set_cons_zero, Nat.zero_add] at st; rw [HE2.out, HS.out] at st)
                    (simp only [Act.put, Act.eval, Array.getD_eq_getD_getElem?, List.getElem?_toArray, List.getElem?_cons_succ, List.getElem?_cons_zero, Option.getD_some, List.setIfInBounds_toArray, List.set_cons_succ, List.set_cons_zero, List.getElem_toArray, List.getElem_cons_succ, List.getElem_cons_zero])
                    refine wpList_aft ?_
                    refine wpAny_done (by kernel_rfl) ?_ _; exact ⟨rfl, st⟩
                  exact AllReady.nil
                exact AllReady.nil
              exact AllReady.nil
            exact AllReady.nil
          exact AllReady.nil
        exact AllReady.nil
      clear st; intro _ st
      go_wp2_with fail
      go_roundw
      case rel => exact ⟨k + 1, by omega, by go_num, by rw [show (q : Int) - 1 = (n : Int) - 1 - ((k + 1 : Nat) : Int) by have := HJ.out; omega], st⟩
      case measure => simp [intOf]; omega
    · have hd : decide ((k : Int) < (n : Int) - 1 - (k : Int)) = false := by simp; omega
      rw [revTo_all fz B k (by rw [hB.out]; omega)] at st
      go_wp2_with fail
      go_end0
      exact ⟨rfl, st.keep1⟩
theorem Reverse_z (p : Option Addr) (c : Nat) (w : World) : Calls Try.prog 66 #[.slice p 0 c] w fun e w' => e = .returned (.tuple #[]) ∧ Keep [] w w' := by
  have st := St.start w
  go_enter Try.func66, Try.ntmps66
  go_wp2_with fail
  go_loopw [2, 3] (fun i j wr => i = .int .i64 0 ∧ j = .int .i64 (-1) ∧ St [] w wr []) (fun i _ _ => 0)
  case atStart => exact ⟨rfl, rfl, st⟩
  case round =>
    clear st
    obtain ⟨rfl, rfl, st⟩ := hrel
    go_wp2_with fail
    go_end0
    exact ⟨rfl, st.keep⟩
end Go.Proofs.Ytmfgbkmkcljciaa
