/- Texts of this seat, one behind the other: ShT, Rs, DoorW, Door, B10, I64, Jmp, Idx, I64b, LJmp, Rep, Dist, FsP; no condition. -/
import Derived.Test.YtlljflmbnbjccaaGreatDoorM3
import Derived.Test.YtlljflmbnbjccaaGreatDoorM2
import Derived.Test.YtlljflmbnbjccaaGreatDoorM1
import Derived.Test.YtlljflmbnbjccaaGreatDoorRows
import Derived.HandedShaped
import Derived.MakeChecks
import Derived.LaidHandle
import Derived.Stop.LaidErr
import Derived.Shelf.Vars
/- SheetText: the reference and the program; no condition. -/
namespace Go.Proofs.YtlljflmbnbjccaaGreatDoor
open Go.RowKit
set_option linter.unusedSimpArgs false
set_option linter.unusedVariables false
theorem fld_shotA (b f : Nat) (w' : World) : (Instr.fieldAt 55 (.pointer (some ⟨b, f, none⟩)) 0).run Tryz.prog w' = .ok (.pointer (some ⟨b, f + 0, none⟩)) w' := by
  simp [Instr.fieldAt, run_underlying Tryz.underlying55, Instr.sureAddr]
  go_simp
theorem fld_shotB (b f : Nat) (w' : World) : (Instr.fieldAt 55 (.pointer (some ⟨b, f, none⟩)) 1).run Tryz.prog w' = .ok (.pointer (some ⟨b, f + 1, none⟩)) w' := by
  simp [Instr.fieldAt, run_underlying Tryz.underlying55, Instr.sureAddr]
  go_simp
instance iFldShotA : FldC Tryz.prog 55 0 0 := ⟨fld_shotA⟩
instance iFldShotB : FldC Tryz.prog 55 1 1 := ⟨fld_shotB⟩
theorem St.sbl {M : List Nat} {w0 w : World} {L L' : List (Nat × List Value × TypeId)} (st : St M w0 w L) (h : ∀ p ∈ L', p ∈ L) (hn : (L'.map (·.1)).Nodup) : St M w0 w L' := ⟨st.keep, fun p hp => st.has p (h p hp), fun p hp => st.ge p (h p hp), hn⟩
/-- One shot's word. -/
def wd (x : Int × Int) : List UInt8 := (dec x.1.toNat ++ [120]) ++ dec x.2.toNat
theorem wd_len (x : Int × Int) : (wd x).length ≤ 5 := by
  unfold wd
  have := dec_len x.1.toNat
  have := dec_len x.2.toNat
  simp; omega
def sh0 : Int × Int := (0, 0)
/-- The text of the first k shots. -/
def stx (S : List (Int × Int)) : Nat → List UInt8
  | 0 => []
  | k + 1 => (if 0 < k then stx S k ++ [32] else stx S k) ++ wd (S.getD k sh0)
theorem stx_length (S : List (Int × Int)) : ∀ k, (stx S k).length ≤ 6 * k
  | 0 => Nat.le_refl _
  | k + 1 => by
    have := stx_length S k
    have := wd_len (S.getD k sh0)
    rw [stx, List.length_append]
    obtain ⟨W, hW⟩ : ∃ W, wd (S.getD k sh0) = W := ⟨_, rfl⟩
    rw [hW] at this ⊢
    split
    · rw [List.length_append]; simp; omega
    · omega
theorem stx_one (S : List (Int × Int)) : stx S 1 = [] ++ wd (S.getD 0 sh0) := by simp [stx]
theorem stx_more (S : List (Int × Int)) {k : Nat} (hk : 0 < k) : stx S (k + 1) = (stx S k ++ [32]) ++ wd (S.getD k sh0) := by rw [stx, if_pos hk]
theorem stx_join (S : List (Int × Int)) : ∀ k, k ≤ S.length → Lib.join ((S.take k).map wd) [32] = stx S k := by
  intro k
  induction k with
  | zero => intro _; simp [Lib.join, stx]
  | succ k ih =>
    intro hk
    have hkl : k < S.length := by omega
    rw [List.take_succ_eq_append_getElem hkl, List.map_append, List.map_singleton]
    have snoc : ∀ (l : List (List UInt8)) (x : List UInt8), l ≠ [] → Lib.join (l ++ [x]) [32] = (Lib.join l [32] ++ [32]) ++ x := by
      intro l x h
      cases l with
      | nil => exact absurd rfl h
      | cons a r => rw [List.cons_append, Lib.join_cons, Lib.join_cons]; simp [Lib.joinTail]
    have hg : S[k] = S.getD k sh0 := by rw [List.getD_eq_getElem?_getD, List.getElem?_eq_getElem hkl]; rfl
    rcases Nat.eq_zero_or_pos k with h0 | hpos
    · subst h0
      simp [Lib.join, stx, hg]
    · rw [snoc _ _ (by intro e; have h1 := congrArg List.length e; rw [List.length_map, List.length_take, List.length_nil] at h1; omega), ih (by omega), stx_more S hpos, hg]
def sks (S : List (Int × Int)) (k : Nat) : List (List UInt8) := (S.take k).map wd
theorem sks_length {S : List (Int × Int)} {k n : Nat} (hB : S.length = n) (hk : k ≤ n) : (sks S k).length = k := by unfold sks; rw [List.length_map, List.length_take]; omega
theorem sks_step {S : List (Int × Int)} {k : Nat} (hk : k < S.length) : sks S k ++ [wd S[k]] = sks S (k + 1) := by unfold sks; rw [List.take_succ_eq_append_getElem hk, List.map_append]; rfl
section
variable {P : Program} {ops : Array Oper} {rest : List Oper} {o : Oper} {a : Act} {C : World → Prop} {Q : Act → Prop}
theorem qa_sadd {T U : TypeId} {x y : Operand} {l m : List UInt8} (hgd : o.guard = none) (ho : o.op = .binOp .add T x y U) (hx : a.eval x = .string ⟨l.toArray⟩) (hy : a.eval y = .string ⟨m.toArray⟩) (hl : l.length + m.length ≤ 9223372036854775807)
    (h : wpQuiet P ops C Q rest (a.put o.dst (.string ⟨(l ++ m).toArray⟩))) : wpQuiet P ops C Q (o :: rest) a :=
  wpq_val hgd _ (fun w _ => by
    have hr := run_string_add_sum (P := P) w ⟨l.toArray⟩ ⟨m.toArray⟩ (by simpa [ByteArray.size] using hl)
    rw [ByteArray.mk_append_mk] at hr
    unfold execOp
    simp [ho, hx, hy, eqGuard, binOp_string_add, hr]) h
end
theorem shB40 {x : Int × Int} (h : shB 40 x = true) : (0 ≤ x.1 ∧ x.1 ≤ 39) ∧ 1 ≤ x.2 ∧ x.2 ≤ 24 := by
  unfold shB at h
  simp at h
  omega
def shX2 (S : List Sh) : List UInt8 := if shotsB 40 S = true then stx S S.length else []
theorem shotsB_len {S : List Sh} (h : shotsB 40 S = true) : S.length ≤ 80 ∧ allSh 40 S = true := by
  unfold shotsB at h
  simpa using h
set_option maxHeartbeats 1000000 in
set_option maxRecDepth 100000 in
theorem SheetText_c (S : List Sh) (n : Nat) (hS : S.length = n) (hn : n ≤ 1000000) (h8 : R8 S) (p : Option Addr) (c : Nat) (w : World) (hr : Rd w p n (encs p8 S)) :
    Calls Tryz.prog 8 #[.slice p n c] w fun e w' => e = .returned (.string ⟨(shX2 S).toArray⟩) ∧ Keep [] w w' := by
  have st := St.start w
  unfold shX2
  have HV := hid (fun w' (hk : Keep [] w w') => areShots_c S n hS (by omega) h8 40 (by omega) p c w' (hr.keep hk))
  rcases Bool.eq_false_or_eq_true (shotsB 40 S) with h | h
  · have hl := shotsB_len h
    rw [show shotsB ((40 : Nat) : Int) S = shotsB 40 S from rfl, h] at HV
    rw [if_pos h]
    have HJ : Hid (Lib.join (sks S n) [32] = stx S S.length) := hid (by unfold sks; rw [stx_join S n (by omega), hS])
    have HJL : Hid ((Lib.join (sks S n) [32]).length ≤ 140737488355328) := hid (by rw [HJ.out]; have := stx_length S S.length; omega)
    have HA := hid (fun (k : Nat) (hk : k < S.length) => allSh_get hl.2 hk)
    have hn80 : n ≤ 80 := by omega
    replace hS := hid hS
    clear h hl h8 hn
    go_enter Tryz.func8, Tryz.ntmps8
    go_wp2_with (first | (go_at_call 33; refine (HV.out _ st.keep).mono ?_; rintro _ _ ⟨rfl, hk⟩; replace st := st.call hk; clear hk) | ((with_reducible refine gate_bsl rfl ?_); refine ia_bsl0 (sl := 9) st rfl rfl rfl ?_; clear st; intro B9 _ st) | ((with_reducible refine gate_lst ?_); (first | ((with_reducible refine gate_alloc rfl ?_); (first | (refine ia_alloc (sl := 5) st rfl rfl rfl ?_; clear st; intro B5 _ st))) | ((with_reducible refine gate_load rfl ?_); (first | (refine' ia_load1 st rfl rfl rfl ?_ ?_; rotate_left 1; (focus (first | exact N0.out | exact N1.out | exact N2.out | exact N3.out | exact N4.out | exact N5.out | exact G2.out | exact G3.out | exact G4.out | exact G0.out | exact G1.out | (refine frv_get _ _ ?_; (first | omega | (simp; done) | (simp; omega) | (simp [*]; omega))) | exact rfl))) | (refine' ia_load1Z (hb.keep st.keep (by simp)) rfl rfl rfl ?_ ?_; rotate_left 1; (focus exact rfl)) | (refine' ia_load1Z (hb'.keep st.keep (by simp)) rfl rfl rfl ?_ ?_; rotate_left 1; (focus exact rfl)) | (refine' ia_load1C (hb.keep st.keep (by simp)) rfl rfl rfl ?_ ?_; rotate_left 1; (focus (first | exact N0.out | exact N1.out | exact N2.out | exact N3.out | exact N4.out | exact N5.out | exact G2.out | exact G3.out | exact G4.out | exact G0.out | exact G1.out | (refine frv_get _ _ ?_; (first | omega | (simp; done) | (simp; omega) | (simp [*]; omega))) | exact rfl))) | (refine' ia_load1C (hb'.keep st.keep (by simp)) rfl rfl rfl ?_ ?_; rotate_left 1; (focus (first | exact N0.out | exact N1.out | exact N2.out | exact N3.out | exact N4.out | exact N5.out | exact G2.out | exact G3.out | exact G4.out | exact G0.out | exact G1.out | (refine frv_get _ _ ?_; (first | omega | (simp; done) | (simp; omega) | (simp [*]; omega))) | exact rfl))) | (refine' ia_load1B (hb1.keep st.keep (by simp)) rfl rfl rfl ?_ ?_; rotate_left 1; (focus (first | exact N0.out | exact N1.out | exact N2.out | exact N3.out | exact N4.out | exact N5.out | exact G2.out | exact G3.out | exact G4.out | exact G0.out | exact G1.out | (refine frv_get _ _ ?_; (first | omega | (simp; done) | (simp; omega) | (simp [*]; omega))) | exact rfl))) | (refine' ia_load1B (hb2.keep st.keep (by simp)) rfl rfl rfl ?_ ?_; rotate_left 1; (focus (first | exact N0.out | exact N1.out | exact N2.out | exact N3.out | exact N4.out | exact N5.out | exact G2.out | exact G3.out | exact G4.out | exact G0.out | exact G1.out | (refine frv_get _ _ ?_; (first | omega | (simp; done) | (simp; omega) | (simp [*]; omega))) | exact rfl))) | (refine ia_loadAll st rfl rfl rfl ?_ ?_; (focus (first | rfl | (simp; done) | (simp; assumption) | (simp; omega) | (simp [*]; done)))) | (refine ia_loadC (hb.keep st.keep (by simp)) rfl rfl rfl ?_ ?_; (focus (first | rfl | (simp; done) | (simp; assumption) | (simp; omega) | (simp [*]; done)))) | (refine ia_loadC (hb'.keep st.keep (by simp)) rfl rfl rfl ?_ ?_; (focus (first | rfl | (simp; done) | (simp; assumption) | (simp; omega) | (simp [*]; done)))) | (refine ia_loadC (Cl.of (hb1.keep st.keep (by simp))) rfl rfl rfl ?_ ?_; (focus (first | rfl | (simp; done) | (simp; assumption) | (simp; omega) | (simp [*]; done)))) | (refine ia_loadC (Cl.of (hb2.keep st.keep (by simp))) rfl rfl rfl ?_ ?_; (focus (first | rfl | (simp; done) | (simp; assumption) | (simp; omega) | (simp [*]; done)))))) | ((with_reducible refine gate_store rfl ?_); (first | (refine ia_storeAll st rfl rfl rfl rfl ?_ ?_ ?_ ?_; (focus (first | rfl | (simp; done) | (simp; assumption) | (simp; omega) | (simp [*]; done))); (focus (first | exact frv_one _ | exact fv_one _ | exact p8_one _ | exact k3_one _ | exact i1_one _ | (simp [Value.oneCell']; done))); (focus (first | rfl | (simp; done) | (simp; assumption) | (simp; omega) | (simp [*]; done))); clear st; intro _ st; (try simp only [List.set_cons_zero, List.set_cons_succ] at st)) | (refine ia_storeSeg st rfl rfl rfl rfl ?_ ?_ ?_ ?_; (focus (first | rfl | (simp; done) | (simp; assumption) | (simp; omega) | (simp [*]; done))); (focus (first | exact frv_one _ | exact fv_one _ | exact p8_one _ | exact k3_one _ | exact i1_one _ | (simp [Value.oneCell']; done))); (focus (first | omega | (simp; done) | (simp; omega) | (simp [*]; omega))); clear st; intro _ st; (try simp only [List.set_cons_zero, List.set_cons_succ] at st)))) | ((with_reducible refine gate_addr rfl ?_); (first | (refine' ia_slcP HP.out rfl rfl rfl rfl ?_ ?_ ?_) | (refine' ia_slcP HP2.out rfl rfl rfl rfl ?_ ?_ ?_)); rotate_left 1; (focus (first | exact (rfl : (0 : Int) = ((0 : Nat) : Int)) | exact (rfl : (1 : Int) = ((1 : Nat) : Int)) | exact rfl | exact HE1.out | exact HE2.out)); (focus (first | omega | (simp; done) | (simp; omega) | (simp [*]; omega)))))) | ((with_reducible refine qgate_nil ?_); refine wpQuiet_nil ?_; (try intro _ st)) | ((with_reducible refine qgate_any ?_); (first | ((first | (with_reducible refine qg_assign rfl ?_) | (with_reducible refine qg_move rfl ?_)); refine qa_val (fun _ _ => rfl) rfl ?_) | ((with_reducible refine qgate_load rfl ?_); (first | (refine' iq_load1 rfl rfl rfl ?_ ?_; rotate_left 1; (focus (first | exact N0.out | exact N1.out | exact N2.out | exact N3.out | exact N4.out | exact N5.out | exact G2.out | exact G3.out | exact G4.out | exact G0.out | exact G1.out | (refine frv_get _ _ ?_; (first | omega | (simp; done) | (simp; omega) | (simp [*]; omega))) | exact rfl))) | (refine' iq_load1Z hb rfl rfl rfl ?_ ?_; rotate_left 1; (focus exact rfl)) | (refine' iq_load1Z hb' rfl rfl rfl ?_ ?_; rotate_left 1; (focus exact rfl)) | (refine' iq_load1C hb rfl rfl rfl ?_ ?_; rotate_left 1; (focus (first | exact N0.out | exact N1.out | exact N2.out | exact N3.out | exact N4.out | exact N5.out | exact G2.out | exact G3.out | exact G4.out | exact G0.out | exact G1.out | (refine frv_get _ _ ?_; (first | omega | (simp; done) | (simp; omega) | (simp [*]; omega))) | exact rfl))) | (refine' iq_load1C hb' rfl rfl rfl ?_ ?_; rotate_left 1; (focus (first | exact N0.out | exact N1.out | exact N2.out | exact N3.out | exact N4.out | exact N5.out | exact G2.out | exact G3.out | exact G4.out | exact G0.out | exact G1.out | (refine frv_get _ _ ?_; (first | omega | (simp; done) | (simp; omega) | (simp [*]; omega))) | exact rfl))))) | ((with_reducible refine qgate_field rfl ?_); refine iq_field rfl rfl rfl ?_) | ((with_reducible refine qgate_conv rfl ?_); refine' iq_conv rfl rfl rfl ?_ ?_; rotate_left 1; (focus (first | (refine IntWalk.i64_in _ ?_; omega) | (refine i8_wrap ?_ ?_ <;> omega) | exact rfl))) | ((with_reducible refine qgate_bin rfl ?_); refine' qa_bin ?_ rfl rfl rfl rfl ?_; rotate_left 1; (focus (first | exact run_add64 (by omega) (by omega) | exact run_sub64 (by omega) (by omega) | (intro w'; go_simp; exact rfl))))); all_goals (try (simp only [Nat.zero_add, Nat.add_zero, Nat.mul_one, Nat.zero_mul, Act.put, Act.eval, Array.getD_eq_getD_getElem?, List.getElem?_toArray, List.getElem?_cons_succ, List.getElem?_cons_zero, Option.getD_some, List.setIfInBounds_toArray, List.set_cons_succ, List.set_cons_zero, List.getElem_toArray, List.getElem_cons_succ, List.getElem_cons_zero]))) | ((with_reducible refine rgate (id := 7) ?_); refine wp_region_sched2_st (id := 7) st [0, 1, 2, 3, 6, 7, 8] [4] [5] [9, 10, 11, 12, 13] [] (fun _ h => h.nil) (by kernel_rfl) (by kernel_rfl) ?_; clear st; simp only [sel, List.filterMap_cons, List.filterMap_nil, List.getElem?_cons_succ, List.getElem?_cons_zero]) | (with_reducible refine loudK_go ?_) | (with_reducible refine loudK_nil ?_) | (with_reducible refine loud_go ?_) | ((with_reducible refine aftS_go ?_ ?_); (focus exact st.nil)) | (with_reducible refine loud_nil ?_))
    go_loopw [3, 12] (fun v i wr => ∃ k : Nat, k ≤ n ∧ i = .int .i64 k ∧ Own 9 1 k (encs sv (sks S k)) [] w wr [] v) (fun _ i _ => n - (intOf i).toNat)
    case atStart => exact ⟨0, by omega, rfl, B9, 0, [], rfl, st, rfl, Nat.zero_le _⟩
    case round =>
      clear st
      obtain ⟨k, hk, rfl, g, cap, spare, rfl, st, hcap, hcm⟩ := hrel
      have HC := hid hcap
      clear hcap
      by_cases hlt : k < n
      · have hd : decide ((k : Int) < (n : Int)) = true := by simpa using hlt
        obtain ⟨b, f, hp, hcl⟩ := hr (by omega)
        have HP := hid hp
        have hkB : k < S.length := by rw [hS.out]; exact hlt
        have hb := hcl.seg p8_len hkB
        have HS := hid (sks_step hkB)
        have hx2 := shB40 (HA.out k hkB)
        obtain ⟨x, hx⟩ : ∃ x, S[k] = x := ⟨_, rfl⟩
        rw [hx] at hb HS hx2
        obtain ⟨x0, x1⟩ := x
        simp only at hx2
        obtain ⟨⟨h1, h2⟩, h3, h4⟩ := hx2
        obtain ⟨i, rfl⟩ := Int.eq_ofNat_of_zero_le h1
        obtain ⟨j, rfl⟩ := Int.eq_ofNat_of_zero_le (show 0 ≤ x1 by omega)
        have HI := hid (decimal_c i (by omega))
        have HJ2 := hid (decimal_c j (by omega))
        have li := dec_len i
        have lj := dec_len j
        rw [show wd ((i : Int), (j : Int)) = (dec i ++ [120]) ++ dec j from rfl] at HS
        obtain ⟨D, hD⟩ : ∃ D, dec i = D := ⟨_, rfl⟩
        obtain ⟨E, hE⟩ : ∃ E, dec j = E := ⟨_, rfl⟩
        rw [hD] at HI HS li
        rw [hE] at HJ2 HS lj
        obtain ⟨T, hT⟩ : ∃ T, D ++ [120] ++ E = T := ⟨_, rfl⟩
        have HT := hid hT
        rw [hT] at HS
        clear hx hp hcl hkB hD hE hT
        
        go_wp2_with (first | (go_at_call 34; (first | (with_reducible refine (HI.out _).mono ?_) | (with_reducible refine (HJ2.out _).mono ?_)); rintro _ _ ⟨rfl, hk⟩; replace st := st.call hk; clear hk) | ((with_reducible refine gate_dst (N := 26) rfl ?_); refine la_sadd (l := D ++ [120]) (m := E) rfl rfl rfl rfl (by simp; omega) ?_; rw [HT.out]) | ((with_reducible refine gate_bsl rfl ?_); refine ia_bsl1 (sl := 27) st rfl rfl rfl rfl rfl ?_ (by decide) ?_; (focus (first | rfl | (simp; done) | (simp; assumption) | (simp; omega) | (simp [*]; done))); clear st; intro B27 _ st) | ((with_reducible refine gate_app rfl ?_); refine ia_appendR (news := (sv T)) (xs := (encs sv (sks S k))) (spare := spare) st rfl rfl rfl rfl (by rw [encs_sv_length, sks_length hS.out hk, Nat.mul_one]) HC.out hcm (.fr (st.get (by repeat (first | exact At.here | apply At.there)))) (fun h => by cases h) (sv_len _) (sv_one _) (by unfold maxLen; omega) (by omega) ?_; clear st; intro g2 cap2 spare2 _ st hcap2 hcm2; (try simp only [List.set_cons_zero, List.set_cons_succ] at st)) | ((with_reducible refine gate_lst ?_); (first | ((with_reducible refine gate_alloc rfl ?_); (first | (refine ia_alloc (sl := 5) st rfl rfl rfl ?_; clear st; intro B5 _ st))) | ((with_reducible refine gate_load rfl ?_); (first | (refine' ia_load1 st rfl rfl rfl ?_ ?_; rotate_left 1; (focus (first | exact N0.out | exact N1.out | exact N2.out | exact N3.out | exact N4.out | exact N5.out | exact G2.out | exact G3.out | exact G4.out | exact G0.out | exact G1.out | (refine frv_get _ _ ?_; (first | omega | (simp; done) | (simp; omega) | (simp [*]; omega))) | exact rfl))) | (refine' ia_load1Z (hb.keep st.keep (by simp)) rfl rfl rfl ?_ ?_; rotate_left 1; (focus exact rfl)) | (refine' ia_load1Z (hb'.keep st.keep (by simp)) rfl rfl rfl ?_ ?_; rotate_left 1; (focus exact rfl)) | (refine' ia_load1C (hb.keep st.keep (by simp)) rfl rfl rfl ?_ ?_; rotate_left 1; (focus (first | exact N0.out | exact N1.out | exact N2.out | exact N3.out | exact N4.out | exact N5.out | exact G2.out | exact G3.out | exact G4.out | exact G0.out | exact G1.out | (refine frv_get _ _ ?_; (first | omega | (simp; done) | (simp; omega) | (simp [*]; omega))) | exact rfl))) | (refine' ia_load1C (hb'.keep st.keep (by simp)) rfl rfl rfl ?_ ?_; rotate_left 1; (focus (first | exact N0.out | exact N1.out | exact N2.out | exact N3.out | exact N4.out | exact N5.out | exact G2.out | exact G3.out | exact G4.out | exact G0.out | exact G1.out | (refine frv_get _ _ ?_; (first | omega | (simp; done) | (simp; omega) | (simp [*]; omega))) | exact rfl))) | (refine' ia_load1B (hb1.keep st.keep (by simp)) rfl rfl rfl ?_ ?_; rotate_left 1; (focus (first | exact N0.out | exact N1.out | exact N2.out | exact N3.out | exact N4.out | exact N5.out | exact G2.out | exact G3.out | exact G4.out | exact G0.out | exact G1.out | (refine frv_get _ _ ?_; (first | omega | (simp; done) | (simp; omega) | (simp [*]; omega))) | exact rfl))) | (refine' ia_load1B (hb2.keep st.keep (by simp)) rfl rfl rfl ?_ ?_; rotate_left 1; (focus (first | exact N0.out | exact N1.out | exact N2.out | exact N3.out | exact N4.out | exact N5.out | exact G2.out | exact G3.out | exact G4.out | exact G0.out | exact G1.out | (refine frv_get _ _ ?_; (first | omega | (simp; done) | (simp; omega) | (simp [*]; omega))) | exact rfl))) | (refine ia_loadAll st rfl rfl rfl ?_ ?_; (focus (first | rfl | (simp; done) | (simp; assumption) | (simp; omega) | (simp [*]; done)))) | (refine ia_loadC (hb.keep st.keep (by simp)) rfl rfl rfl ?_ ?_; (focus (first | rfl | (simp; done) | (simp; assumption) | (simp; omega) | (simp [*]; done)))) | (refine ia_loadC (hb'.keep st.keep (by simp)) rfl rfl rfl ?_ ?_; (focus (first | rfl | (simp; done) | (simp; assumption) | (simp; omega) | (simp [*]; done)))) | (refine ia_loadC (Cl.of (hb1.keep st.keep (by simp))) rfl rfl rfl ?_ ?_; (focus (first | rfl | (simp; done) | (simp; assumption) | (simp; omega) | (simp [*]; done)))) | (refine ia_loadC (Cl.of (hb2.keep st.keep (by simp))) rfl rfl rfl ?_ ?_; (focus (first | rfl | (simp; done) | (simp; assumption) | (simp; omega) | (simp [*]; done)))))) | ((with_reducible refine gate_store rfl ?_); (first | (refine ia_storeAll st rfl rfl rfl rfl ?_ ?_ ?_ ?_; (focus (first | rfl | (simp; done) | (simp; assumption) | (simp; omega) | (simp [*]; done))); (focus (first | exact frv_one _ | exact fv_one _ | exact p8_one _ | exact k3_one _ | exact i1_one _ | (simp [Value.oneCell']; done))); (focus (first | rfl | (simp; done) | (simp; assumption) | (simp; omega) | (simp [*]; done))); clear st; intro _ st; (try simp only [List.set_cons_zero, List.set_cons_succ] at st)) | (refine ia_storeSeg st rfl rfl rfl rfl ?_ ?_ ?_ ?_; (focus (first | rfl | (simp; done) | (simp; assumption) | (simp; omega) | (simp [*]; done))); (focus (first | exact frv_one _ | exact fv_one _ | exact p8_one _ | exact k3_one _ | exact i1_one _ | (simp [Value.oneCell']; done))); (focus (first | omega | (simp; done) | (simp; omega) | (simp [*]; omega))); clear st; intro _ st; (try simp only [List.set_cons_zero, List.set_cons_succ] at st)))) | ((with_reducible refine gate_addr rfl ?_); (first | (refine' ia_slcP HP.out rfl rfl rfl rfl ?_ ?_ ?_) | (refine' ia_slcP HP2.out rfl rfl rfl rfl ?_ ?_ ?_)); rotate_left 1; (focus (first | exact (rfl : (0 : Int) = ((0 : Nat) : Int)) | exact (rfl : (1 : Int) = ((1 : Nat) : Int)) | exact rfl | exact HE1.out | exact HE2.out)); (focus (first | omega | (simp; done) | (simp; omega) | (simp [*]; omega)))))) | ((with_reducible refine qgate_nil ?_); refine wpQuiet_nil ?_; (try intro _ st)) | ((with_reducible refine qgate_any ?_); (first | ((with_reducible refine qgate_call rfl ?_); refine' qa_call (F := 34) Tryz.func34 (by kernel_rfl) (by kernel_rfl) rfl rfl rfl rfl ?_ ?_ ?_; rotate_left 2; (focus (simp only [Act.eval, Act.put, List.map_toArray, List.map_cons, List.map_nil, Array.empty_append, Array.append_empty, Array.map_empty]; exact rfl)); (focus (intro w1 st; (first | with_reducible exact qcall st (HI.out _) | with_reducible exact qcall st (HJ2.out _))))) | ((with_reducible refine qgate_dst (N := 21) rfl ?_); refine qa_sadd (l := D) (m := [120]) rfl rfl rfl rfl (by simp; omega) ?_) | ((first | (with_reducible refine qg_assign rfl ?_) | (with_reducible refine qg_move rfl ?_)); refine qa_val (fun _ _ => rfl) rfl ?_) | ((with_reducible refine qgate_load rfl ?_); (first | (refine' iq_load1 rfl rfl rfl ?_ ?_; rotate_left 1; (focus (first | exact N0.out | exact N1.out | exact N2.out | exact N3.out | exact N4.out | exact N5.out | exact G2.out | exact G3.out | exact G4.out | exact G0.out | exact G1.out | (refine frv_get _ _ ?_; (first | omega | (simp; done) | (simp; omega) | (simp [*]; omega))) | exact rfl))) | (refine' iq_load1Z hb rfl rfl rfl ?_ ?_; rotate_left 1; (focus exact rfl)) | (refine' iq_load1Z hb' rfl rfl rfl ?_ ?_; rotate_left 1; (focus exact rfl)) | (refine' iq_load1C hb rfl rfl rfl ?_ ?_; rotate_left 1; (focus (first | exact N0.out | exact N1.out | exact N2.out | exact N3.out | exact N4.out | exact N5.out | exact G2.out | exact G3.out | exact G4.out | exact G0.out | exact G1.out | (refine frv_get _ _ ?_; (first | omega | (simp; done) | (simp; omega) | (simp [*]; omega))) | exact rfl))) | (refine' iq_load1C hb' rfl rfl rfl ?_ ?_; rotate_left 1; (focus (first | exact N0.out | exact N1.out | exact N2.out | exact N3.out | exact N4.out | exact N5.out | exact G2.out | exact G3.out | exact G4.out | exact G0.out | exact G1.out | (refine frv_get _ _ ?_; (first | omega | (simp; done) | (simp; omega) | (simp [*]; omega))) | exact rfl))))) | ((with_reducible refine qgate_field rfl ?_); refine iq_field rfl rfl rfl ?_) | ((with_reducible refine qgate_conv rfl ?_); refine' iq_conv rfl rfl rfl ?_ ?_; rotate_left 1; (focus (first | (refine IntWalk.i64_in _ ?_; omega) | (refine i8_wrap ?_ ?_ <;> omega) | exact rfl))) | ((with_reducible refine qgate_bin rfl ?_); refine' qa_bin ?_ rfl rfl rfl rfl ?_; rotate_left 1; (focus (first | exact run_add64 (by omega) (by omega) | exact run_sub64 (by omega) (by omega) | (intro w'; go_simp; exact rfl))))); all_goals (try (simp only [Nat.zero_add, Nat.add_zero, Nat.mul_one, Nat.zero_mul, Act.put, Act.eval, Array.getD_eq_getD_getElem?, List.getElem?_toArray, List.getElem?_cons_succ, List.getElem?_cons_zero, Option.getD_some, List.setIfInBounds_toArray, List.set_cons_succ, List.set_cons_zero, List.getElem_toArray, List.getElem_cons_succ, List.getElem_cons_zero]))) | ((with_reducible refine rgate (id := 7) ?_); refine wp_region_sched2_st (id := 7) st [0, 1, 2, 3, 6, 7, 8] [4] [5] [9, 10, 11, 12, 13] [(B5, p8 ((i : Int), (j : Int)), 55)] (fun _ h => h.sbl (by simp) (by simp)) (by kernel_rfl) (by kernel_rfl) ?_; clear st; simp only [sel, List.filterMap_cons, List.filterMap_nil, List.getElem?_cons_succ, List.getElem?_cons_zero]) | (with_reducible refine loudK_go ?_) | (with_reducible refine loudK_nil ?_) | (with_reducible refine loud_go ?_) | ((with_reducible refine aftS_go ?_ ?_); (focus exact (st.sbl (by simp) (by simp)))) | (with_reducible refine loud_nil ?_))
        
        have e : encs sv (sks S (k + 1)) = encs sv (sks S k) ++ sv T := by rw [← HS.out, encs_append]; simp [encs]
        go_roundw
        case rel => exact ⟨k + 1, by omega, by go_num, g2, cap2, spare2, rfl, by rw [e]; exact st.sbl (by simp) (by simp), by rw [e]; exact hcap2, hcm2⟩
        case measure => first | (simp [intOf]; done) | (simp [intOf]; omega)
      · obtain rfl : k = n := by omega
        have hkc : k ≤ cap := by have := HC.out; rw [List.length_append, encs_sv_length, sks_length hS.out (Nat.le_refl _)] at this; omega
        go_wp2_with (first | (go_at_call 35; refine (join_b (sks S k) k (sks_length hS.out (Nat.le_refl _)) (by omega) [32] HJL.out _ _ hkc _ spare _ (st.get (by repeat (first | exact At.here | apply At.there)))).mono ?_; rintro _ _ ⟨rfl, hk⟩; replace st := st.call hk; clear hk) | ((with_reducible refine gate_lst ?_); (first | ((with_reducible refine gate_alloc rfl ?_); (first | (refine ia_alloc (sl := 5) st rfl rfl rfl ?_; clear st; intro B5 _ st))) | ((with_reducible refine gate_load rfl ?_); (first | (refine' ia_load1 st rfl rfl rfl ?_ ?_; rotate_left 1; (focus (first | exact N0.out | exact N1.out | exact N2.out | exact N3.out | exact N4.out | exact N5.out | exact G2.out | exact G3.out | exact G4.out | exact G0.out | exact G1.out | (refine frv_get _ _ ?_; (first | omega | (simp; done) | (simp; omega) | (simp [*]; omega))) | exact rfl))) | (refine' ia_load1Z (hb.keep st.keep (by simp)) rfl rfl rfl ?_ ?_; rotate_left 1; (focus exact rfl)) | (refine' ia_load1Z (hb'.keep st.keep (by simp)) rfl rfl rfl ?_ ?_; rotate_left 1; (focus exact rfl)) | (refine' ia_load1C (hb.keep st.keep (by simp)) rfl rfl rfl ?_ ?_; rotate_left 1; (focus (first | exact N0.out | exact N1.out | exact N2.out | exact N3.out | exact N4.out | exact N5.out | exact G2.out | exact G3.out | exact G4.out | exact G0.out | exact G1.out | (refine frv_get _ _ ?_; (first | omega | (simp; done) | (simp; omega) | (simp [*]; omega))) | exact rfl))) | (refine' ia_load1C (hb'.keep st.keep (by simp)) rfl rfl rfl ?_ ?_; rotate_left 1; (focus (first | exact N0.out | exact N1.out | exact N2.out | exact N3.out | exact N4.out | exact N5.out | exact G2.out | exact G3.out | exact G4.out | exact G0.out | exact G1.out | (refine frv_get _ _ ?_; (first | omega | (simp; done) | (simp; omega) | (simp [*]; omega))) | exact rfl))) | (refine' ia_load1B (hb1.keep st.keep (by simp)) rfl rfl rfl ?_ ?_; rotate_left 1; (focus (first | exact N0.out | exact N1.out | exact N2.out | exact N3.out | exact N4.out | exact N5.out | exact G2.out | exact G3.out | exact G4.out | exact G0.out | exact G1.out | (refine frv_get _ _ ?_; (first | omega | (simp; done) | (simp; omega) | (simp [*]; omega))) | exact rfl))) | (refine' ia_load1B (hb2.keep st.keep (by simp)) rfl rfl rfl ?_ ?_; rotate_left 1; (focus (first | exact N0.out | exact N1.out | exact N2.out | exact N3.out | exact N4.out | exact N5.out | exact G2.out | exact G3.out | exact G4.out | exact G0.out | exact G1.out | (refine frv_get _ _ ?_; (first | omega | (simp; done) | (simp; omega) | (simp [*]; omega))) | exact rfl))) | (refine ia_loadAll st rfl rfl rfl ?_ ?_; (focus (first | rfl | (simp; done) | (simp; assumption) | (simp; omega) | (simp [*]; done)))) | (refine ia_loadC (hb.keep st.keep (by simp)) rfl rfl rfl ?_ ?_; (focus (first | rfl | (simp; done) | (simp; assumption) | (simp; omega) | (simp [*]; done)))) | (refine ia_loadC (hb'.keep st.keep (by simp)) rfl rfl rfl ?_ ?_; (focus (first | rfl | (simp; done) | (simp; assumption) | (simp; omega) | (simp [*]; done)))) | (refine ia_loadC (Cl.of (hb1.keep st.keep (by simp))) rfl rfl rfl ?_ ?_; (focus (first | rfl | (simp; done) | (simp; assumption) | (simp; omega) | (simp [*]; done)))) | (refine ia_loadC (Cl.of (hb2.keep st.keep (by simp))) rfl rfl rfl ?_ ?_; (focus (first | rfl | (simp; done) | (simp; assumption) | (simp; omega) | (simp [*]; done)))))) | ((with_reducible refine gate_store rfl ?_); (first | (refine ia_storeAll st rfl rfl rfl rfl ?_ ?_ ?_ ?_; (focus (first | rfl | (simp; done) | (simp; assumption) | (simp; omega) | (simp [*]; done))); (focus (first | exact frv_one _ | exact fv_one _ | exact p8_one _ | exact k3_one _ | exact i1_one _ | (simp [Value.oneCell']; done))); (focus (first | rfl | (simp; done) | (simp; assumption) | (simp; omega) | (simp [*]; done))); clear st; intro _ st; (try simp only [List.set_cons_zero, List.set_cons_succ] at st)) | (refine ia_storeSeg st rfl rfl rfl rfl ?_ ?_ ?_ ?_; (focus (first | rfl | (simp; done) | (simp; assumption) | (simp; omega) | (simp [*]; done))); (focus (first | exact frv_one _ | exact fv_one _ | exact p8_one _ | exact k3_one _ | exact i1_one _ | (simp [Value.oneCell']; done))); (focus (first | omega | (simp; done) | (simp; omega) | (simp [*]; omega))); clear st; intro _ st; (try simp only [List.set_cons_zero, List.set_cons_succ] at st)))) | ((with_reducible refine gate_addr rfl ?_); (first | (refine' ia_slcP HP.out rfl rfl rfl rfl ?_ ?_ ?_) | (refine' ia_slcP HP2.out rfl rfl rfl rfl ?_ ?_ ?_)); rotate_left 1; (focus (first | exact (rfl : (0 : Int) = ((0 : Nat) : Int)) | exact (rfl : (1 : Int) = ((1 : Nat) : Int)) | exact rfl | exact HE1.out | exact HE2.out)); (focus (first | omega | (simp; done) | (simp; omega) | (simp [*]; omega)))))) | ((with_reducible refine qgate_nil ?_); refine wpQuiet_nil ?_; (try intro _ st)) | ((with_reducible refine qgate_any ?_); (first | ((first | (with_reducible refine qg_assign rfl ?_) | (with_reducible refine qg_move rfl ?_)); refine qa_val (fun _ _ => rfl) rfl ?_) | ((with_reducible refine qgate_load rfl ?_); (first | (refine' iq_load1 rfl rfl rfl ?_ ?_; rotate_left 1; (focus (first | exact N0.out | exact N1.out | exact N2.out | exact N3.out | exact N4.out | exact N5.out | exact G2.out | exact G3.out | exact G4.out | exact G0.out | exact G1.out | (refine frv_get _ _ ?_; (first | omega | (simp; done) | (simp; omega) | (simp [*]; omega))) | exact rfl))) | (refine' iq_load1Z hb rfl rfl rfl ?_ ?_; rotate_left 1; (focus exact rfl)) | (refine' iq_load1Z hb' rfl rfl rfl ?_ ?_; rotate_left 1; (focus exact rfl)) | (refine' iq_load1C hb rfl rfl rfl ?_ ?_; rotate_left 1; (focus (first | exact N0.out | exact N1.out | exact N2.out | exact N3.out | exact N4.out | exact N5.out | exact G2.out | exact G3.out | exact G4.out | exact G0.out | exact G1.out | (refine frv_get _ _ ?_; (first | omega | (simp; done) | (simp; omega) | (simp [*]; omega))) | exact rfl))) | (refine' iq_load1C hb' rfl rfl rfl ?_ ?_; rotate_left 1; (focus (first | exact N0.out | exact N1.out | exact N2.out | exact N3.out | exact N4.out | exact N5.out | exact G2.out | exact G3.out | exact G4.out | exact G0.out | exact G1.out | (refine frv_get _ _ ?_; (first | omega | (simp; done) | (simp; omega) | (simp [*]; omega))) | exact rfl))))) | ((with_reducible refine qgate_field rfl ?_); refine iq_field rfl rfl rfl ?_) | ((with_reducible refine qgate_conv rfl ?_); refine' iq_conv rfl rfl rfl ?_ ?_; rotate_left 1; (focus (first | (refine IntWalk.i64_in _ ?_; omega) | (refine i8_wrap ?_ ?_ <;> omega) | exact rfl))) | ((with_reducible refine qgate_bin rfl ?_); refine' qa_bin ?_ rfl rfl rfl rfl ?_; rotate_left 1; (focus (first | exact run_add64 (by omega) (by omega) | exact run_sub64 (by omega) (by omega) | (intro w'; go_simp; exact rfl))))); all_goals (try (simp only [Nat.zero_add, Nat.add_zero, Nat.mul_one, Nat.zero_mul, Act.put, Act.eval, Array.getD_eq_getD_getElem?, List.getElem?_toArray, List.getElem?_cons_succ, List.getElem?_cons_zero, Option.getD_some, List.setIfInBounds_toArray, List.set_cons_succ, List.set_cons_zero, List.getElem_toArray, List.getElem_cons_succ, List.getElem_cons_zero]))) | ((with_reducible refine rgate (id := 7) ?_); refine wp_region_sched2_st (id := 7) st [0, 1, 2, 3, 6, 7, 8] [4] [5] [9, 10, 11, 12, 13] [] (fun _ h => h.nil) (by kernel_rfl) (by kernel_rfl) ?_; clear st; simp only [sel, List.filterMap_cons, List.filterMap_nil, List.getElem?_cons_succ, List.getElem?_cons_zero]) | (with_reducible refine loudK_go ?_) | (with_reducible refine loudK_nil ?_) | (with_reducible refine loud_go ?_) | ((with_reducible refine aftS_go ?_ ?_); (focus exact st.nil)) | (with_reducible refine loud_nil ?_))
        go_ret
        exact ⟨by rw [HJ.out]; rfl, st.keep⟩
  · rw [show shotsB ((40 : Nat) : Int) S = shotsB 40 S from rfl, h] at HV
    rw [if_neg (by rw [h]; decide)]
    go_enter Tryz.func8, Tryz.ntmps8
    go_wp2_with (first | (go_at_call 33; refine (HV.out _ st.keep).mono ?_; rintro _ _ ⟨rfl, hk⟩; replace st := st.call hk; clear hk) | ((with_reducible refine gate_lst ?_); (first | ((with_reducible refine gate_alloc rfl ?_); (first | (refine ia_alloc (sl := 5) st rfl rfl rfl ?_; clear st; intro B5 _ st))) | ((with_reducible refine gate_load rfl ?_); (first | (refine' ia_load1 st rfl rfl rfl ?_ ?_; rotate_left 1; (focus (first | exact N0.out | exact N1.out | exact N2.out | exact N3.out | exact N4.out | exact N5.out | exact G2.out | exact G3.out | exact G4.out | exact G0.out | exact G1.out | (refine frv_get _ _ ?_; (first | omega | (simp; done) | (simp; omega) | (simp [*]; omega))) | exact rfl))) | (refine' ia_load1Z (hb.keep st.keep (by simp)) rfl rfl rfl ?_ ?_; rotate_left 1; (focus exact rfl)) | (refine' ia_load1Z (hb'.keep st.keep (by simp)) rfl rfl rfl ?_ ?_; rotate_left 1; (focus exact rfl)) | (refine' ia_load1C (hb.keep st.keep (by simp)) rfl rfl rfl ?_ ?_; rotate_left 1; (focus (first | exact N0.out | exact N1.out | exact N2.out | exact N3.out | exact N4.out | exact N5.out | exact G2.out | exact G3.out | exact G4.out | exact G0.out | exact G1.out | (refine frv_get _ _ ?_; (first | omega | (simp; done) | (simp; omega) | (simp [*]; omega))) | exact rfl))) | (refine' ia_load1C (hb'.keep st.keep (by simp)) rfl rfl rfl ?_ ?_; rotate_left 1; (focus (first | exact N0.out | exact N1.out | exact N2.out | exact N3.out | exact N4.out | exact N5.out | exact G2.out | exact G3.out | exact G4.out | exact G0.out | exact G1.out | (refine frv_get _ _ ?_; (first | omega | (simp; done) | (simp; omega) | (simp [*]; omega))) | exact rfl))) | (refine' ia_load1B (hb1.keep st.keep (by simp)) rfl rfl rfl ?_ ?_; rotate_left 1; (focus (first | exact N0.out | exact N1.out | exact N2.out | exact N3.out | exact N4.out | exact N5.out | exact G2.out | exact G3.out | exact G4.out | exact G0.out | exact G1.out | (refine frv_get _ _ ?_; (first | omega | (simp; done) | (simp; omega) | (simp [*]; omega))) | exact rfl))) | (refine' ia_load1B (hb2.keep st.keep (by simp)) rfl rfl rfl ?_ ?_; rotate_left 1; (focus (first | exact N0.out | exact N1.out | exact N2.out | exact N3.out | exact N4.out | exact N5.out | exact G2.out | exact G3.out | exact G4.out | exact G0.out | exact G1.out | (refine frv_get _ _ ?_; (first | omega | (simp; done) | (simp; omega) | (simp [*]; omega))) | exact rfl))) | (refine ia_loadAll st rfl rfl rfl ?_ ?_; (focus (first | rfl | (simp; done) | (simp; assumption) | (simp; omega) | (simp [*]; done)))) | (refine ia_loadC (hb.keep st.keep (by simp)) rfl rfl rfl ?_ ?_; (focus (first | rfl | (simp; done) | (simp; assumption) | (simp; omega) | (simp [*]; done)))) | (refine ia_loadC (hb'.keep st.keep (by simp)) rfl rfl rfl ?_ ?_; (focus (first | rfl | (simp; done) | (simp; assumption) | (simp; omega) | (simp [*]; done)))) | (refine ia_loadC (Cl.of (hb1.keep st.keep (by simp))) rfl rfl rfl ?_ ?_; (focus (first | rfl | (simp; done) | (simp; assumption) | (simp; omega) | (simp [*]; done)))) | (refine ia_loadC (Cl.of (hb2.keep st.keep (by simp))) rfl rfl rfl ?_ ?_; (focus (first | rfl | (simp; done) | (simp; assumption) | (simp; omega) | (simp [*]; done)))))) | ((with_reducible refine gate_store rfl ?_); (first | (refine ia_storeAll st rfl rfl rfl rfl ?_ ?_ ?_ ?_; (focus (first | rfl | (simp; done) | (simp; assumption) | (simp; omega) | (simp [*]; done))); (focus (first | exact frv_one _ | exact fv_one _ | exact p8_one _ | exact k3_one _ | exact i1_one _ | (simp [Value.oneCell']; done))); (focus (first | rfl | (simp; done) | (simp; assumption) | (simp; omega) | (simp [*]; done))); clear st; intro _ st; (try simp only [List.set_cons_zero, List.set_cons_succ] at st)) | (refine ia_storeSeg st rfl rfl rfl rfl ?_ ?_ ?_ ?_; (focus (first | rfl | (simp; done) | (simp; assumption) | (simp; omega) | (simp [*]; done))); (focus (first | exact frv_one _ | exact fv_one _ | exact p8_one _ | exact k3_one _ | exact i1_one _ | (simp [Value.oneCell']; done))); (focus (first | omega | (simp; done) | (simp; omega) | (simp [*]; omega))); clear st; intro _ st; (try simp only [List.set_cons_zero, List.set_cons_succ] at st)))) | ((with_reducible refine gate_addr rfl ?_); (first | (refine' ia_slcP HP.out rfl rfl rfl rfl ?_ ?_ ?_) | (refine' ia_slcP HP2.out rfl rfl rfl rfl ?_ ?_ ?_)); rotate_left 1; (focus (first | exact (rfl : (0 : Int) = ((0 : Nat) : Int)) | exact (rfl : (1 : Int) = ((1 : Nat) : Int)) | exact rfl | exact HE1.out | exact HE2.out)); (focus (first | omega | (simp; done) | (simp; omega) | (simp [*]; omega)))))) | ((with_reducible refine qgate_nil ?_); refine wpQuiet_nil ?_; (try intro _ st)) | ((with_reducible refine qgate_any ?_); (first | ((first | (with_reducible refine qg_assign rfl ?_) | (with_reducible refine qg_move rfl ?_)); refine qa_val (fun _ _ => rfl) rfl ?_) | ((with_reducible refine qgate_load rfl ?_); (first | (refine' iq_load1 rfl rfl rfl ?_ ?_; rotate_left 1; (focus (first | exact N0.out | exact N1.out | exact N2.out | exact N3.out | exact N4.out | exact N5.out | exact G2.out | exact G3.out | exact G4.out | exact G0.out | exact G1.out | (refine frv_get _ _ ?_; (first | omega | (simp; done) | (simp; omega) | (simp [*]; omega))) | exact rfl))) | (refine' iq_load1Z hb rfl rfl rfl ?_ ?_; rotate_left 1; (focus exact rfl)) | (refine' iq_load1Z hb' rfl rfl rfl ?_ ?_; rotate_left 1; (focus exact rfl)) | (refine' iq_load1C hb rfl rfl rfl ?_ ?_; rotate_left 1; (focus (first | exact N0.out | exact N1.out | exact N2.out | exact N3.out | exact N4.out | exact N5.out | exact G2.out | exact G3.out | exact G4.out | exact G0.out | exact G1.out | (refine frv_get _ _ ?_; (first | omega | (simp; done) | (simp; omega) | (simp [*]; omega))) | exact rfl))) | (refine' iq_load1C hb' rfl rfl rfl ?_ ?_; rotate_left 1; (focus (first | exact N0.out | exact N1.out | exact N2.out | exact N3.out | exact N4.out | exact N5.out | exact G2.out | exact G3.out | exact G4.out | exact G0.out | exact G1.out | (refine frv_get _ _ ?_; (first | omega | (simp; done) | (simp; omega) | (simp [*]; omega))) | exact rfl))))) | ((with_reducible refine qgate_field rfl ?_); refine iq_field rfl rfl rfl ?_) | ((with_reducible refine qgate_conv rfl ?_); refine' iq_conv rfl rfl rfl ?_ ?_; rotate_left 1; (focus (first | (refine IntWalk.i64_in _ ?_; omega) | (refine i8_wrap ?_ ?_ <;> omega) | exact rfl))) | ((with_reducible refine qgate_bin rfl ?_); refine' qa_bin ?_ rfl rfl rfl rfl ?_; rotate_left 1; (focus (first | exact run_add64 (by omega) (by omega) | exact run_sub64 (by omega) (by omega) | (intro w'; go_simp; exact rfl))))); all_goals (try (simp only [Nat.zero_add, Nat.add_zero, Nat.mul_one, Nat.zero_mul, Act.put, Act.eval, Array.getD_eq_getD_getElem?, List.getElem?_toArray, List.getElem?_cons_succ, List.getElem?_cons_zero, Option.getD_some, List.setIfInBounds_toArray, List.set_cons_succ, List.set_cons_zero, List.getElem_toArray, List.getElem_cons_succ, List.getElem_cons_zero]))) | ((with_reducible refine rgate (id := 7) ?_); refine wp_region_sched2_st (id := 7) st [0, 1, 2, 3, 6, 7, 8] [4] [5] [9, 10, 11, 12, 13] [] (fun _ h => h.nil) (by kernel_rfl) (by kernel_rfl) ?_; clear st; simp only [sel, List.filterMap_cons, List.filterMap_nil, List.getElem?_cons_succ, List.getElem?_cons_zero]) | (with_reducible refine loudK_go ?_) | (with_reducible refine loudK_nil ?_) | (with_reducible refine loud_go ?_) | ((with_reducible refine aftS_go ?_ ?_); (focus exact st.nil)) | (with_reducible refine loud_nil ?_))
    go_ret
    exact ⟨rfl, st.keep⟩
end Go.Proofs.YtlljflmbnbjccaaGreatDoor
/- Texts read as sheets: the walks; no condition. -/
namespace Go.Proofs.YtlljflmbnbjccaaGreatDoor
open Go.RowKit
set_option linter.unusedSimpArgs false
set_option linter.unusedVariables false
def numR (s : List UInt8) : Nat := if numok s = true then numv 0 s else 0
def NumPost (s : List UInt8) (w : World) (e : Ending) (w' : World) : Prop := e = .returned (.tuple #[.int .i64 (numR s : Nat), .bool (numok s)]) ∧ Keep [] w w'
theorem numok_nil : numok [] = false := by decide
theorem numok_long {s : List UInt8} (h : 10 < s.length) : numok s = false := by unfold numok; simp [h]
theorem numok_zero {s : List UInt8} (h : s.getD 0 0 = 48) (h1 : 1 < s.length) : numok s = false := by
  unfold numok
  have : decide (s.getD 0 0 = 48) = true := by simpa using h
  rw [this]; simp [h1]
theorem numok_bad {s : List UInt8} {k : Nat} (hk : k < s.length) (h : dig (s.getD k 0) = false) : numok s = false := by
  unfold numok
  have : s.all dig = false := by
    rw [List.all_eq_false]
    refine ⟨s[k], List.getElem_mem hk, ?_⟩
    rw [List.getD_eq_getElem?_getD, List.getElem?_eq_getElem hk] at h
    rw [show dig s[k] = false from h]; decide
  rw [this]; simp
theorem numok_good {s : List UInt8} (h0 : s ≠ []) (h1 : s.length ≤ 10) (h2 : s.getD 0 0 ≠ 48 ∨ s.length ≤ 1) (h : ∀ j, j < s.length → dig (s.getD j 0) = true) : numok s = true := by
  unfold numok
  have : s.all dig = true := by
    rw [List.all_eq_true]
    intro x hx
    obtain ⟨j, hj, rfl⟩ := List.mem_iff_getElem.1 hx
    have := h j hj
    rw [List.getD_eq_getElem?_getD, List.getElem?_eq_getElem hj] at this
    exact this
  rw [this, Bool.and_true, Bool.not_eq_true']
  have e1 : decide (s = []) = false := by simpa using h0
  have e2 : decide (10 < s.length) = false := by simp; omega
  rw [e1, e2, Bool.false_or, Bool.false_or]
  rcases h2 with h2 | h2
  · rw [show decide (s.getD 0 0 = 48) = false by simpa using h2]; rfl
  · rw [show decide (1 < s.length) = false by simp; omega, Bool.and_false]
theorem numv_take {s : List UInt8} {k : Nat} (hk : k < s.length) : numv 0 (s.take (k + 1)) = 10 * numv 0 (s.take k) + ((s.getD k 0).toNat - 48) := by
  rw [List.take_succ_eq_append_getElem hk]
  unfold numv
  rw [List.foldl_append, List.foldl_cons, List.foldl_nil, List.getD_eq_getElem?_getD, List.getElem?_eq_getElem hk]
  rfl
theorem numv_small {s : List UInt8} {k : Nat} (h : ∀ j, j < k → dig (s.getD j 0) = true) (hk : k ≤ s.length) (h10 : s.length ≤ 10) : numv 0 (s.take k) < 10000000000 := by
  have := numv_lt (s.take k) 0 (fun c hc => by
    obtain ⟨j, hj, rfl⟩ := List.mem_iff_getElem.1 hc
    rw [List.length_take] at hj
    have := h j (by omega)
    rw [List.getD_eq_getElem?_getD, List.getElem?_eq_getElem (by omega)] at this
    rw [List.getElem_take]; exact this)
  have h5 : 10 ^ (s.take k).length ≤ 10 ^ 10 := Nat.pow_le_pow_right (by decide) (by rw [List.length_take]; omega)
  omega
theorem run_subu8 {P : Program} {T : TypeId} {a b : Nat} (h : b ≤ a) (h2 : a < 256) (w : World) : (binOp .sub T (.int .u8 (a : Nat)) (.int .u8 (b : Nat))).run P w = .ok (.int .u8 ((a - b : Nat) : Int)) w := by
  have e : IntKind.wrap .u8 ((a : Int) - (b : Int)) = ((a - b : Nat) : Int) := by
    show ((a : Int) - (b : Int)) % 256 = _
    omega
  go_simp
  try exact e
/-! A number in a range, as the program reads one. -/
def rdn (lo hi : Nat) (s : List UInt8) : Option Nat := match und s with
  | some n => if lo ≤ n ∧ n ≤ hi then some n else none
  | none => none
theorem rdn_some {lo hi n : Nat} {s : List UInt8} (h : rdn lo hi s = some n) : n < 100 ∧ s = dec n ∧ lo ≤ n ∧ n ≤ hi := by
  unfold rdn at h
  cases hu : und s with
  | none => rw [hu] at h; cases h
  | some m =>
    rw [hu] at h
    obtain ⟨h1, h2⟩ := und_some hu
    simp only at h
    split at h
    · rename_i hr
      cases h
      exact ⟨h1, h2, hr⟩
    · cases h
def okN : Lib.NumEnd Int → Int → Bool
  | .ok v, n => decide (v = n)
  | _, _ => false
theorem parse_dec {n : Nat} (h : n < 100) : Lib.parseIntB 64 (dec n) = .ok (n : Int) := by
  have : ∀ n ∈ List.range 100, okN (Lib.parseIntB 64 (dec n)) (n : Int) = true := by decide +kernel
  have h1 := this n (List.mem_range.2 h)
  rcases hp : Lib.parseIntB 64 (dec n) with v | _ | _
  · rw [hp] at h1; rw [of_decide_eq_true (show decide (v = (n : Int)) = true from h1)]
  · rw [hp] at h1; cases h1
  · rw [hp] at h1; cases h1
/-- The cells of the library that are read. -/
structure Glob (w : World) : Prop where
  max : ∃ m, w.cell? ⟨shR.g 1, 0, none⟩ = some (.int .i64 m)
  syn : ∃ te pe, w.cell? ⟨shR.g 15, 0, none⟩ = some (.iface te pe)
  ran : ∃ te pe, w.cell? ⟨shR.g 16, 0, none⟩ = some (.iface te pe)
theorem Glob.keep {w w' : World} (h : Glob w) (hk : Keep [] w w') : Glob w' :=
  ⟨h.max.imp fun _ h => cell_keep hk h, h.syn.imp fun _ h => h.imp fun _ h => cell_keep hk h, h.ran.imp fun _ h => h.imp fun _ h => cell_keep hk h⟩
theorem Keep.bytes (w : World) (e : TypeId) (t : ByteArray) : Keep [] w (Lib.bytesWorld w e t) := Keep.of_below (Lib.bytesWorld_below w e t)
/-- What strconv.ParseInt answers: a number and no error, or an error. -/
theorem ParseInt_c (s : List UInt8) (n : Nat) (hn : s.length = n) (hn1 : n ≤ 1000000) (w : World) (hg : Glob w) :
    Calls Tryz.prog 55 #[.string ⟨s.toArray⟩, .int .i64 10, .int .i64 64] w fun e w' => (∃ v, Lib.parseIntB 64 s = .ok v ∧ e = .returned (.tuple #[.int .i64 v, .nilIface]) ∧ Keep [] w w') ∨ ((∀ v, Lib.parseIntB 64 s ≠ .ok v) ∧ ∃ v N, e = .returned (.tuple #[.int .i64 v, .iface (shR.t 168) (.pointer (some ⟨N, 0, none⟩))]) ∧ Keep [] w w') := by
  have hsz : (⟨s.toArray⟩ : ByteArray).size = n := by rw [← hn]; rfl
  have hdl : (⟨s.toArray⟩ : ByteArray).data.toList = s := by simp
  rcases hp : Lib.parseIntB 64 s with v | _ | _
  · skip
    refine (Any.strconv_ParseInt_10_at64_ok sh174 ⟨s.toArray⟩ (by omega) v (by rw [hdl, hp]) w).mono fun e w' ⟨h1, h2⟩ => ?_
    refine Or.inl ⟨v, rfl, h1, ?_⟩
    rcases h2 with rfl | ⟨t, rfl⟩
    · exact Keep.refl [] _
    · exact Keep.bytes _ _ _
  · skip
    obtain ⟨te, pe, hv⟩ := hg.syn
    refine (Any.strconv_ParseInt_10_at64_syntax sh174 ⟨s.toArray⟩ (by omega) (by rw [hdl, hp]) _ w hv (Or.inr ⟨te, pe, rfl⟩)).mono fun e w' ⟨N, h1, _, _, h2⟩ => ?_
    exact Or.inr ⟨(fun v h => (by cases h)), _, N, h1, Keep.of_below h2⟩
  · skip
    obtain ⟨te, pe, hv⟩ := hg.ran
    refine (Any.strconv_ParseInt_10_at64_range sh174 ⟨s.toArray⟩ (by omega) (by rw [hdl, hp]) _ w hv (Or.inr ⟨te, pe, rfl⟩)).mono fun e w' ⟨N, h1, _, _, h2⟩ => ?_
    exact Or.inr ⟨(fun v h => (by cases h)), _, N, h1, Keep.of_below h2⟩
def RdPost (lo hi : Nat) (s : List UInt8) (w : World) (e : Ending) (w' : World) : Prop := ∃ v : Int, e = .returned (.tuple #[.int .i64 v, .bool (rdn lo hi s).isSome]) ∧ (∀ n, rdn lo hi s = some n → v = (n : Int)) ∧ Keep [] w w'
theorem rdn_no {lo hi : Nat} {s : List UInt8} (h : ∀ v, Lib.parseIntB 64 s ≠ .ok v) : rdn lo hi s = none := by
  cases hr : rdn lo hi s with
  | none => rfl
  | some n =>
    obtain ⟨h1, h2, _⟩ := rdn_some hr
    rw [h2] at h
    exact absurd (parse_dec h1) (h _)
theorem rdn_ok {lo hi : Nat} {s : List UInt8} {v : Int} (h : Lib.parseIntB 64 s = .ok v) : (∀ n, rdn lo hi s = some n → v = (n : Int) ∧ s = dec n ∧ lo ≤ n ∧ n ≤ hi) := fun n hr => by
  obtain ⟨h1, h2, h3⟩ := rdn_some hr
  rw [h2, parse_dec h1] at h
  cases h
  exact ⟨rfl, h2, h3⟩
set_option maxHeartbeats 1000000 in
set_option maxRecDepth 100000 in
theorem readDecimal_c (s : List UInt8) (n : Nat) (hn : s.length = n) (hn1 : n ≤ 1000000) (lo hi : Nat) (hhi : hi < 100) (w : World) (hg : Glob w) :
    Calls Tryz.prog 32 #[.string ⟨s.toArray⟩, .int .i64 (lo : Nat), .int .i64 (hi : Nat)] w (RdPost lo hi s w) := by
  have st := St.start w
  have HPI := hid (ParseInt_c s n hn hn1 w hg)
  have HR := hid (fun (v : Int) => inRange_c v (lo : Int) (hi : Int))
  by_cases hno : ∀ v, Lib.parseIntB 64 s ≠ .ok v
  · have e := rdn_no (lo := lo) (hi := hi) hno
    unfold RdPost
    rw [e]
    have HNO := hid hno
    clear hno hn e
    go_enter Tryz.func32, Tryz.ntmps32
    go_wp2_with (first | (go_at_call 55; refine (HPI.out).mono ?_; rintro _ _ (⟨v, hv, rfl, hk⟩ | ⟨hno2, v, N, rfl, hk⟩); (exact absurd hv (HNO.out v)); replace st := st.call hk; clear hk hno2) | ((with_reducible refine gate_lst ?_); (first | ((with_reducible refine' wpl_ung ?_ ?_ ?_); rotate_left 1; (focus exact rfl); (focus exact rfl)))))
    go_ret2
    exact ⟨v, rfl, (fun n h => (by cases h)), st.keep⟩
  · obtain ⟨v, hv⟩ : ∃ v, Lib.parseIntB 64 s = .ok v := by
      by_cases h : ∃ v, Lib.parseIntB 64 s = .ok v
      · exact h
      · exact absurd (fun v e => h ⟨v, e⟩) hno
    have HOK := hid (rdn_ok (lo := lo) (hi := hi) hv)
    have HV := hid hv
    rcases Bool.eq_false_or_eq_true (inB v (lo : Int) (hi : Int)) with q | q
    · have hq := q
      unfold inB at hq
      have hrange : (lo : Int) ≤ v ∧ v ≤ (hi : Int) := by simpa using hq
      obtain ⟨m, rfl⟩ := Int.eq_ofNat_of_zero_le (show 0 ≤ v by omega)
      have HDC := hid (decimal_c m (by omega))
      have hr := HR.out (m : Int)
      rw [q] at hr
      have HRR := hid hr
      by_cases heq : dec m = s
      · have hu : rdn lo hi s = some m := by
          unfold rdn
          rw [← heq, und_dec (by omega)]
          exact if_pos ⟨by omega, by omega⟩
        have HE : Hid (decide (dec m = s) = true) := hid (by simpa using heq)
        unfold RdPost
        rw [hu]
        clear hno hn hv hq hrange q hr heq hu HR HOK
        go_enter Tryz.func32, Tryz.ntmps32
        go_wp2_with (first | (go_at_call 55; refine (HPI.out).mono ?_; rintro _ _ (⟨v, hv, rfl, hk⟩ | ⟨hno2, v, N, rfl, hk⟩); rotate_left 1; (exact absurd HV.out (hno2 _)); obtain rfl : (m : Int) = v := (by rw [HV.out] at hv; cases hv; rfl); replace st := st.call hk; clear hk hv) | (go_at_call 42; refine (HRR.out _).mono ?_; rintro _ _ ⟨rfl, hk⟩; replace st := st.call hk; clear hk) | (go_at_call 34; refine (HDC.out _).mono ?_; rintro _ _ ⟨rfl, hk⟩; replace st := st.call hk; clear hk) | ((with_reducible refine gate_sq rfl ?_); (with_reducible refine gate_dst (N := 28) rfl ?_); refine la_seq (l := dec m) (m := s) HE.out rfl rfl rfl rfl ?_) | ((with_reducible refine gate_lst ?_); (first | ((with_reducible refine' wpl_ung ?_ ?_ ?_); rotate_left 1; (focus exact rfl); (focus exact rfl)))))
        go_ret2
        exact ⟨(m : Int), rfl, (fun n h => (by cases h; rfl)), st.keep⟩
      · have hu : rdn lo hi s = none := by
          cases hr : rdn lo hi s with
          | none => rfl
          | some n =>
            obtain ⟨h1, h2, _⟩ := HOK.out n hr
            exact absurd (by rw [h2, Int.ofNat_inj.1 h1]) heq
        have HE : Hid (decide (dec m = s) = false) := hid (by simpa using heq)
        unfold RdPost
        rw [hu]
        clear hno hn hv hq hrange q hr heq hu HR HOK
        go_enter Tryz.func32, Tryz.ntmps32
        go_wp2_with (first | (go_at_call 55; refine (HPI.out).mono ?_; rintro _ _ (⟨v, hv, rfl, hk⟩ | ⟨hno2, v, N, rfl, hk⟩); rotate_left 1; (exact absurd HV.out (hno2 _)); obtain rfl : (m : Int) = v := (by rw [HV.out] at hv; cases hv; rfl); replace st := st.call hk; clear hk hv) | (go_at_call 42; refine (HRR.out _).mono ?_; rintro _ _ ⟨rfl, hk⟩; replace st := st.call hk; clear hk) | (go_at_call 34; refine (HDC.out _).mono ?_; rintro _ _ ⟨rfl, hk⟩; replace st := st.call hk; clear hk) | ((with_reducible refine gate_sq rfl ?_); (with_reducible refine gate_dst (N := 28) rfl ?_); refine la_seq (l := dec m) (m := s) HE.out rfl rfl rfl rfl ?_) | ((with_reducible refine gate_lst ?_); (first | ((with_reducible refine' wpl_ung ?_ ?_ ?_); rotate_left 1; (focus exact rfl); (focus exact rfl)))))
        go_ret2
        exact ⟨(m : Int), rfl, (fun n h => (by cases h)), st.keep⟩
    · have hu : rdn lo hi s = none := by
        cases hr : rdn lo hi s with
        | none => rfl
        | some n =>
          obtain ⟨h1, _, h2, h3⟩ := HOK.out n hr
          subst h1
          unfold inB at q
          have : ¬ ((lo : Int) ≤ (n : Int) ∧ (n : Int) ≤ (hi : Int)) := by simpa using q
          exact absurd ⟨by omega, by omega⟩ this
      have hr := HR.out v
      rw [q] at hr
      have HRR := hid hr
      unfold RdPost
      rw [hu]
      clear hno hn hv q hr hu HR HOK
      go_enter Tryz.func32, Tryz.ntmps32
      go_wp2_with (first | (go_at_call 55; refine (HPI.out).mono ?_; rintro _ _ (⟨v2, hv, rfl, hk⟩ | ⟨hno2, v2, N, rfl, hk⟩); rotate_left 1; (exact absurd HV.out (hno2 _)); obtain rfl : v = v2 := (by rw [HV.out] at hv; cases hv; rfl); replace st := st.call hk; clear hk hv) | (go_at_call 42; refine (HRR.out _).mono ?_; rintro _ _ ⟨rfl, hk⟩; replace st := st.call hk; clear hk) | ((with_reducible refine gate_lst ?_); (first | ((with_reducible refine' wpl_ung ?_ ?_ ?_); rotate_left 1; (focus exact rfl); (focus exact rfl)))))
      go_ret2
      exact ⟨v, rfl, (fun n h => (by cases h)), st.keep⟩
end Go.Proofs.YtlljflmbnbjccaaGreatDoor
/- The wrap of a door's row, and the library's cell of which the world's shape tells; no condition. -/
namespace Go.Proofs.YtlljflmbnbjccaaGreatDoor
open Go.RowKit
/-- The wrap of a row that lists variables: the world's shape is told too. -/
theorem returns_and_shaped {H : Type} {enc : TypeId × Value → H} {a : Assume} {C : Checked} {os : Os} {f : FuncId} {fn : Func} {s : ChangeSpec} {conds : List PathCond} {apart fresh handsOn again : Bool} {X : World → Array Value → Prop}
    (hX : ∀ (w w' : World) (args : Array Value), w.heap = w'.heap → X w args → X w' args)
    (own : ownKnob C.prog.godebug = none) (started : os.Started) (noInit : C.prog.inits.idxOf? f = none) (hfn : C.prog.funcs[f]? = some fn)
    (witness : ∃ (w : World) (tape : Tape) (i : Input), w.os = os ∧ (w.forCall tape i).Shaped C.prog ∧ i.vars = [] ∧ Input.okWide C.prog (w.forCall tape i) .any w.heap.size f i ∧
      ((s.pre enc C.prog fn conds apart (w.forCall tape i).memory i.args ∧ X (w.forCall tape i).memory i.args) ∧ sizedMet enc C.prog fn (OpenSpec.ofChange s) apart (w.forCall tape i).memory i.args) ∧ a.holds C.prog (lone (Frame.enter C.prog f i.args .normal) [] (w.forCall tape i)))
    (contract : ∀ (W : World) (base : Nat) (args : Array Value) (ds gs : List (DataW H)) (before : List MemPlace),
      (∀ (j : Nat) t v, fn.params[j]? = some t → args[j]? = some v → Value.okWide C.prog W .any base t v) →
      DataW.Whole enc C.prog fn.params.toList s.vars apart W args.toList ds gs before →
      conds.all (PathCond.test C.prog ⟨fn.params.toList, ds, s.plain.varTypes C.prog, gs⟩) = true →
      (DataW.weightsEach C.prog (fn.params.toList ++ s.plain.varTypes C.prog) (ds ++ gs)).all (· ≤ reachBytes) = true → X W args → W.ShapedOpen C.prog →
      Calls C.prog f args W fun e W' => ∃ v, e = .returned v ∧ s.post enc C.prog fn apart fresh handsOn again W args v W') :
    ReturnsInHanded a C os f .any (fun w args => (s.pre enc C.prog fn conds apart w args ∧ X w args) ∧ sizedMet enc C.prog fn (OpenSpec.ofChange s) apart w args) (s.post enc C.prog fn apart fresh handsOn again) :=
  returnsInHanded_of_calls own started noInit witness fun w tape i _ hsh _ hok hpre _ => by
    obtain ⟨_, _, _, fn', hfn', _, _, _, _, hval⟩ := hok
    obtain rfl : fn' = fn := Option.some.inj (hfn'.symm.trans hfn)
    obtain ⟨⟨⟨ds, gs, before, hw, hc⟩, hx⟩, hz⟩ := hpre
    refine (contract (w.forCall tape i) w.heap.size i.args ds gs before hval (DataW.Whole.of_heap (w' := w.forCall tape i) (by rfl) hw) hc (hz.weights hw) (hX _ _ _ (by rfl) hx) hsh).mono fun e W' ⟨v, he, hp⟩ => ?_
    subst he
    exact ChangeSpec.post_blind hp
theorem max_of {W : World} (h : W.ShapedOpen Tryz.prog) : ∃ m, W.cell? ⟨shR.g 1, 0, none⟩ = some (.int .i64 m) :=
  Go.Proofs.cell_of_shapedOpen_int (P := Tryz.prog) (g := shR.g 1) (t := 3) (zero := #[.int .i64 0]) h (of_decide_eq_true (by kernel_rfl)) (by kernel_rfl) rfl (by kernel_rfl) (by kernel_rfl) Tryz.underlying3
end Go.Proofs.YtlljflmbnbjccaaGreatDoor
/- What a row of a door tells of the library's cells; no condition. -/
namespace Go.Proofs.YtlljflmbnbjccaaGreatDoor
open Go.RowKit
theorem star_eS : "*" ++ "errors.errorString" = "*errors.errorString" := by decide
theorem rowES (u : TypeId) (h : Tryz.prog.typeName? 3 u = some "*errors.errorString") : u = 165 :=
  typeName_ptr_named (nm := "errors.errorString") (by rw [star_eS]; kernel_rfl) (by kernel_rfl) (by decide) u (by rw [star_eS]; exact h)
theorem sen_of {n : String} {g : Nat} {text : List UInt8} {r : List (String × DataW Unit)} {W : World} (h : laidMet Tryz.prog ((n, .iface "*errors.errorString" (.ptr (.agg [.lit (.string text)]))) :: r) W)
    (hg : Tryz.prog.globalNamed n = some g) (ht : (Tryz.prog.globals[g]?).map (·.type) = some 87) : ∃ te pe, W.cell? ⟨g, 0, none⟩ = some (.iface te pe) := by
  obtain ⟨a, s, hv, _, _, _⟩ := laid_sentinel h hg ht Tryz.underlying87 rowES Tryz.underlying165 Tryz.underlying167 rfl rfl Tryz.underlying9 (by kernel_rfl) (by kernel_rfl)
  exact ⟨_, _, by rw [World.var?_cell hg hv 0]; rfl⟩
theorem globs {x1 x2 x3 x4 x7 : String × DataW Unit} {W : World} (hL : laidMet Tryz.prog [x1, x2, x3, x4, ("strconv.ErrRange", Rows.laid_strconv_ErrRange), ("strconv.ErrSyntax", Rows.laid_strconv_ErrSyntax), x7] W) (h : W.ShapedOpen Tryz.prog) : Glob W :=
  ⟨max_of h, sen_of (n := "strconv.ErrSyntax") hL.tail.tail.tail.tail.tail (by kernel_rfl) (by kernel_rfl), sen_of (n := "strconv.ErrRange") hL.tail.tail.tail.tail (by kernel_rfl) (by kernel_rfl)⟩
end Go.Proofs.YtlljflmbnbjccaaGreatDoor
/- In how many places two frames differ; no condition. -/
namespace Go.Proofs.YtlljflmbnbjccaaGreatDoor
open Go.RowKit
set_option linter.unusedSimpArgs false
set_option linter.unusedVariables false

theorem mixX_frOk {f g : List Nat} (okf : FrOk f) (okg : FrOk g) : FrOk (mixR (fun a b => a ^^^ b) f g) := rowsOf_ok fun y _ => Nat.xor_lt_two_pow (n := 16) (okf.ro_lt y) (okg.ro_lt y)
theorem mixX_ok {f g : List Nat} (hf : okB f = true) (hg : okB g = true) : okB (mixR (fun a b => a ^^^ b) f g) = true := by
  apply okB_of
  intro y hy
  rw [mixR_length] at hy
  unfold mixR
  rw [ro_rowsOf _ _ hy]
  have : ro f y ^^^ ro g y < 4096 := Nat.xor_lt_two_pow (n := 12) (okB_ro hf y) (okB_ro hg y)
  simp only
  omega
/-- In how many places f and g differ, if both are valid. -/
def difR (f g : List Nat) : Int := if codeG f g = 0 then ((dots (mixR (fun a b => a ^^^ b) f g)).length : Int) else 0
end Go.Proofs.YtlljflmbnbjccaaGreatDoor
/- The laws' own helpers on lists of numbers: compared, marked and looked at again; no condition. -/
namespace Go.Proofs.YtlljflmbnbjccaaGreatDoor
open Go.RowKit
set_option linter.unusedSimpArgs false
set_option linter.unusedVariables false
def mkI (k0 m : Nat) : Value := .int .i64 ((k0 + m : Nat) : Int)
end Go.Proofs.YtlljflmbnbjccaaGreatDoor
/- The jumps of a book: the reference and the program; no condition. -/
namespace Go.Proofs.YtlljflmbnbjccaaGreatDoor
open Go.RowKit
set_option linter.unusedSimpArgs false
set_option linter.unusedVariables false

/-- In how many places two frames differ. -/
def jmp (x y : Fm) : Int := ((dots (mixR (fun a b => a ^^^ b) x.1 y.1)).length : Nat)
theorem jmp_range (x y : Fm) : 0 ≤ jmp x y ∧ jmp x y ≤ 144 := by
  have := dots_length (mixR (fun a b => a ^^^ b) x.1 y.1)
  unfold jmp
  omega
/-- The first k jumps. -/
def jmpK (B : List Fm) (k : Nat) : List Int := (List.range k).map fun i => jmp (B.getD i fz) (B.getD (i + 1) fz)
@[simp] theorem jmpK_length (B : List Fm) (k : Nat) : (jmpK B k).length = k := by simp [jmpK]
theorem jmpK_step (B : List Fm) (k : Nat) : jmpK B k ++ [jmp (B.getD k fz) (B.getD (k + 1) fz)] = jmpK B (k + 1) := by simp [jmpK, List.range_succ]
def jmpL (B : List Fm) : List Int := jmpK B (B.length - 1)
theorem jmpL_length (B : List Fm) : (jmpL B).length = B.length - 1 := jmpK_length _ _
theorem jmpL_range (B : List Fm) : ∀ x ∈ jmpL B, 0 ≤ x ∧ x ≤ 144 := by
  intro x hx
  obtain ⟨i, _, rfl⟩ := List.mem_map.1 hx
  exact jmp_range _ _
theorem getD_get {α : Type} {B : List α} {k : Nat} {d : α} (hk : k < B.length) : B.getD k d = B[k] := by
  rw [List.getD_eq_getElem?_getD, List.getElem?_eq_getElem hk]; rfl
theorem okL_get {B : List Fm} (h : okL B = true) {k : Nat} (hk : k < B.length) : okB B[k].1 = true := by
  unfold okL at h
  exact List.all_eq_true.1 h _ (List.getElem_mem hk)
theorem bkB_ok {B : List Fm} (h : bkB B = true) : okL B = true := by unfold bkB at h; simp at h; exact h.1
theorem bkB_len {B : List Fm} (h : bkB B = true) : B.length ≤ 40 := by unfold bkB at h; simp at h; exact h.2
/-- What a maker of lists of numbers answers. -/
def IntsPost (R : List Int) (n : Nat) (w : World) (e : Ending) (w' : World) : Prop := ∃ v, e = .returned v ∧ Gives 2 1 n (encs i1 R) w v w' ∧ Keep [] w w'
theorem encs_snoc {α : Type} (e : α → List Value) (l : List α) (x : α) : encs e (l ++ [x]) = encs e l ++ e x := by rw [encs_append]; simp [encs]
end Go.Proofs.YtlljflmbnbjccaaGreatDoor
/- The first place of a frame, or of a number, in a list; the greatest number, the sum: the library and the reference; no condition. -/
namespace Go.Proofs.YtlljflmbnbjccaaGreatDoor
open Go.RowKit
set_option linter.unusedSimpArgs false
set_option linter.unusedVariables false

/-- The first place, or -1. -/
def idxZ {α : Type} [DecidableEq α] (x : α) (l : List α) : Int := if fidx x l < l.length then (fidx x l : Nat) else -1
theorem idxZ_at {α : Type} [DecidableEq α] {x : α} {l : List α} {k : Nat} (hk : k < l.length) (h : x = l[k]) (h0 : k ≤ fidx x l) : idxZ x l = (k : Nat) := by
  unfold idxZ
  rw [fidx_at hk h h0, if_pos hk]
theorem idxZ_no {α : Type} [DecidableEq α] {x : α} {l : List α} (h : l.length ≤ fidx x l) : idxZ x l = -1 := by
  unfold idxZ
  rw [if_neg (by omega)]
theorem idxZ_mem {α : Type} [DecidableEq α] {x : α} {l : List α} (h : x ∈ l) : idxZ x l = (fidx x l : Nat) := by
  unfold idxZ
  rw [if_pos (fidx_lt h)]
set_option maxHeartbeats 1000000 in
set_option maxRecDepth 100000 in
theorem indexF_c (x : Fm) (B : List Fm) (n : Nat) (hB : B.length = n) (hn : n ≤ 4000000) (p : Option Addr) (c : Nat) (w : World) (hr : Rd w p n (encs fv B)) :
    Calls Tryz.prog 64 #[.slice p n c, .agg (fv x).toArray] w fun e w' => e = .returned (.int .i64 (idxZ x B)) ∧ Keep [] w w' := by
  have st := St.start w
  replace hB := hid hB
  go_enter Tryz.func64, Tryz.ntmps64
  go_wp2_with (first | ((with_reducible refine gate_lst ?_); (first | ((with_reducible refine gate_box rfl ?_); (first | (refine ia_box (sl := 3) st rfl rfl rfl rfl rfl ?_; clear st; intro B3 _ st))) | ((with_reducible refine gate_load rfl ?_); (first | (refine ia_loadAll st rfl rfl rfl ?_ ?_; (focus (first | rfl | (simp; done) | (simp; assumption) | (simp; omega) | (simp [*]; done)))) | (refine ia_loadC (hb.keep st.keep (by simp)) rfl rfl rfl ?_ ?_; (focus (first | rfl | (simp; done) | (simp; assumption) | (simp; omega) | (simp [*]; done)))) | (refine ia_loadC (hb'.keep st.keep (by simp)) rfl rfl rfl ?_ ?_; (focus (first | rfl | (simp; done) | (simp; assumption) | (simp; omega) | (simp [*]; done)))) | (refine ia_loadC (Cl.of (hb1.keep st.keep (by simp))) rfl rfl rfl ?_ ?_; (focus (first | rfl | (simp; done) | (simp; assumption) | (simp; omega) | (simp [*]; done)))) | (refine ia_loadC (Cl.of (hb2.keep st.keep (by simp))) rfl rfl rfl ?_ ?_; (focus (first | rfl | (simp; done) | (simp; assumption) | (simp; omega) | (simp [*]; done)))))) | ((with_reducible refine gate_addr rfl ?_); (first | (refine' ia_slcP HP.out rfl rfl rfl rfl ?_ ?_ ?_) | (refine' ia_slcP HP2.out rfl rfl rfl rfl ?_ ?_ ?_)); rotate_left 1; (focus (first | exact (rfl : (0 : Int) = ((0 : Nat) : Int)) | exact (rfl : (1 : Int) = ((1 : Nat) : Int)) | exact rfl | exact HE1.out | exact HE2.out)); (focus (first | omega | (simp; done) | (simp; omega) | (simp [*]; omega)))))) | ((with_reducible refine qgate_nil ?_); refine wpQuiet_nil ?_; (try intro _ st)) | ((with_reducible refine qgate_any ?_); (first | ((first | (with_reducible refine qg_move rfl ?_)); refine qa_val (fun _ _ => rfl) rfl ?_) | ((with_reducible refine qgate_load rfl ?_); (first | (refine iq_loadAll rfl rfl rfl ?_ ?_; (focus (first | rfl | (simp; done) | (simp; assumption) | (simp; omega) | (simp [*]; done)))) | (refine iq_loadC hb rfl rfl rfl ?_ ?_; (focus (first | rfl | (simp; done) | (simp; assumption) | (simp; omega) | (simp [*]; done)))) | (refine iq_loadC hb' rfl rfl rfl ?_ ?_; (focus (first | rfl | (simp; done) | (simp; assumption) | (simp; omega) | (simp [*]; done)))))) | ((with_reducible refine qgate_addr rfl ?_); (first | (refine' iq_slc rfl rfl rfl rfl ?_ ?_ ?_) | (refine' iq_slcP HP.out rfl rfl rfl rfl ?_ ?_ ?_) | (refine' iq_slcP HP2.out rfl rfl rfl rfl ?_ ?_ ?_) | (refine' iq_arr rfl rfl rfl rfl ?_ ?_ ?_)); rotate_left 1; (focus (first | exact (rfl : (0 : Int) = ((0 : Nat) : Int)) | exact (rfl : (1 : Int) = ((1 : Nat) : Int)) | exact rfl | exact HE1.out | exact HE2.out)); (focus (first | omega | (simp; done) | (simp; omega) | (simp [*]; omega)))) | ((with_reducible refine qgate_bin rfl ?_); refine' qa_bin ?_ rfl rfl rfl rfl ?_; rotate_left 1; (focus (first | exact run_add64 (by omega) (by omega) | exact run_sub64 (by omega) (by omega) | (intro w'; go_simp; exact rfl))))); all_goals (try (simp only [Nat.zero_add, Nat.add_zero, Nat.mul_one, Nat.zero_mul, Act.put, Act.eval, Array.getD_eq_getD_getElem?, List.getElem?_toArray, List.getElem?_cons_succ, List.getElem?_cons_zero, Option.getD_some, List.setIfInBounds_toArray, List.set_cons_succ, List.set_cons_zero, List.getElem_toArray, List.getElem_cons_succ, List.getElem_cons_zero]))) | ((with_reducible refine rgate (id := 4) ?_); refine wp_region_quiet_st (id := 4) st (by kernel_rfl) (by kernel_rfl) ?_; clear st))
  go_loopw [8] (fun i wr => ∃ k : Nat, k ≤ n ∧ i = .int .i64 k ∧ Hid (k ≤ fidx x B) ∧ St [] w wr [(B3, fv x, 72)]) (fun i _ => n - (intOf i).toNat)
  case atStart => exact ⟨0, by omega, rfl, hid (Nat.zero_le _), st⟩
  case round =>
    clear st
    obtain ⟨k, hk, rfl, hs, st⟩ := hrel
    by_cases hlt : k < n
    · have hd : decide ((k : Int) < (n : Int)) = true := by simpa using hlt
      obtain ⟨b, f, hp, hcl⟩ := hr (by omega)
      have HP := hid hp
      have hkB : k < B.length := by rw [hB.out]; exact hlt
      have hb := hcl.seg fv_len hkB
      have HY := hid (fun h => idxZ_at (x := x) hkB h hs.out)
      have HN := hid (fun h => fidx_step (x := x) hkB h hs.out)
      obtain ⟨y, hy⟩ : ∃ y, B[k] = y := ⟨_, rfl⟩
      rw [hy] at hb HY HN
      clear hy hp hcl hkB
      go_wp2_with (first | ((with_reducible refine gate_lst ?_); (first | ((with_reducible refine gate_box rfl ?_); (first | (refine ia_box (sl := 3) st rfl rfl rfl rfl rfl ?_; clear st; intro B3 _ st))) | ((with_reducible refine gate_load rfl ?_); (first | (refine ia_loadAll st rfl rfl rfl ?_ ?_; (focus (first | rfl | (simp; done) | (simp; assumption) | (simp; omega) | (simp [*]; done)))) | (refine ia_loadC (hb.keep st.keep (by simp)) rfl rfl rfl ?_ ?_; (focus (first | rfl | (simp; done) | (simp; assumption) | (simp; omega) | (simp [*]; done)))) | (refine ia_loadC (hb'.keep st.keep (by simp)) rfl rfl rfl ?_ ?_; (focus (first | rfl | (simp; done) | (simp; assumption) | (simp; omega) | (simp [*]; done)))) | (refine ia_loadC (Cl.of (hb1.keep st.keep (by simp))) rfl rfl rfl ?_ ?_; (focus (first | rfl | (simp; done) | (simp; assumption) | (simp; omega) | (simp [*]; done)))) | (refine ia_loadC (Cl.of (hb2.keep st.keep (by simp))) rfl rfl rfl ?_ ?_; (focus (first | rfl | (simp; done) | (simp; assumption) | (simp; omega) | (simp [*]; done)))))) | ((with_reducible refine gate_addr rfl ?_); (first | (refine' ia_slcP HP.out rfl rfl rfl rfl ?_ ?_ ?_) | (refine' ia_slcP HP2.out rfl rfl rfl rfl ?_ ?_ ?_)); rotate_left 1; (focus (first | exact (rfl : (0 : Int) = ((0 : Nat) : Int)) | exact (rfl : (1 : Int) = ((1 : Nat) : Int)) | exact rfl | exact HE1.out | exact HE2.out)); (focus (first | omega | (simp; done) | (simp; omega) | (simp [*]; omega)))))) | ((with_reducible refine qgate_nil ?_); refine wpQuiet_nil ?_; (try intro _ st)) | ((with_reducible refine qgate_any ?_); (first | ((with_reducible refine qgate_eq (P := Tryz.prog) rfl ?_); refine qa_eqF rfl rfl rfl rfl ?_ ?_ <;> (intro hE; (simp only [Nat.zero_add, Nat.add_zero, Nat.mul_one, Nat.zero_mul, Act.put, Act.eval, Array.getD_eq_getD_getElem?, List.getElem?_toArray, List.getElem?_cons_succ, List.getElem?_cons_zero, Option.getD_some, List.setIfInBounds_toArray, List.set_cons_succ, List.set_cons_zero, List.getElem_toArray, List.getElem_cons_succ, List.getElem_cons_zero]))) | ((first | (with_reducible refine qg_move rfl ?_)); refine qa_val (fun _ _ => rfl) rfl ?_) | ((with_reducible refine qgate_load rfl ?_); (first | (refine iq_loadAll rfl rfl rfl ?_ ?_; (focus (first | rfl | (simp; done) | (simp; assumption) | (simp; omega) | (simp [*]; done)))) | (refine iq_loadC hb rfl rfl rfl ?_ ?_; (focus (first | rfl | (simp; done) | (simp; assumption) | (simp; omega) | (simp [*]; done)))) | (refine iq_loadC hb' rfl rfl rfl ?_ ?_; (focus (first | rfl | (simp; done) | (simp; assumption) | (simp; omega) | (simp [*]; done)))))) | ((with_reducible refine qgate_addr rfl ?_); (first | (refine' iq_slc rfl rfl rfl rfl ?_ ?_ ?_) | (refine' iq_slcP HP.out rfl rfl rfl rfl ?_ ?_ ?_) | (refine' iq_slcP HP2.out rfl rfl rfl rfl ?_ ?_ ?_) | (refine' iq_arr rfl rfl rfl rfl ?_ ?_ ?_)); rotate_left 1; (focus (first | exact (rfl : (0 : Int) = ((0 : Nat) : Int)) | exact (rfl : (1 : Int) = ((1 : Nat) : Int)) | exact rfl | exact HE1.out | exact HE2.out)); (focus (first | omega | (simp; done) | (simp; omega) | (simp [*]; omega)))) | ((with_reducible refine qgate_bin rfl ?_); refine' qa_bin ?_ rfl rfl rfl rfl ?_; rotate_left 1; (focus (first | exact run_add64 (by omega) (by omega) | exact run_sub64 (by omega) (by omega) | (intro w'; go_simp; exact rfl))))); all_goals (try (simp only [Nat.zero_add, Nat.add_zero, Nat.mul_one, Nat.zero_mul, Act.put, Act.eval, Array.getD_eq_getD_getElem?, List.getElem?_toArray, List.getElem?_cons_succ, List.getElem?_cons_zero, Option.getD_some, List.setIfInBounds_toArray, List.set_cons_succ, List.set_cons_zero, List.getElem_toArray, List.getElem_cons_succ, List.getElem_cons_zero]))) | ((with_reducible refine rgate (id := 4) ?_); refine wp_region_quiet_st (id := 4) st (by kernel_rfl) (by kernel_rfl) ?_; clear st))
      · go_ret
        exact ⟨ret_int (HY.out hE).symm, st.keep⟩
      · go_roundw
        case rel => exact ⟨k + 1, by omega, by go_num, hid (HN.out hE), st⟩
        case measure => simp [intOf]; omega
    · obtain rfl : k = n := by omega
      have HZ := hid (idxZ_no (x := x) (l := B) (by rw [hB.out]; exact hs.out))
      go_wp2_with (first | ((with_reducible refine gate_lst ?_); (first | ((with_reducible refine gate_box rfl ?_); (first | (refine ia_box (sl := 3) st rfl rfl rfl rfl rfl ?_; clear st; intro B3 _ st))) | ((with_reducible refine gate_load rfl ?_); (first | (refine ia_loadAll st rfl rfl rfl ?_ ?_; (focus (first | rfl | (simp; done) | (simp; assumption) | (simp; omega) | (simp [*]; done)))) | (refine ia_loadC (hb.keep st.keep (by simp)) rfl rfl rfl ?_ ?_; (focus (first | rfl | (simp; done) | (simp; assumption) | (simp; omega) | (simp [*]; done)))) | (refine ia_loadC (hb'.keep st.keep (by simp)) rfl rfl rfl ?_ ?_; (focus (first | rfl | (simp; done) | (simp; assumption) | (simp; omega) | (simp [*]; done)))) | (refine ia_loadC (Cl.of (hb1.keep st.keep (by simp))) rfl rfl rfl ?_ ?_; (focus (first | rfl | (simp; done) | (simp; assumption) | (simp; omega) | (simp [*]; done)))) | (refine ia_loadC (Cl.of (hb2.keep st.keep (by simp))) rfl rfl rfl ?_ ?_; (focus (first | rfl | (simp; done) | (simp; assumption) | (simp; omega) | (simp [*]; done)))))) | ((with_reducible refine gate_addr rfl ?_); (first | (refine' ia_slcP HP.out rfl rfl rfl rfl ?_ ?_ ?_) | (refine' ia_slcP HP2.out rfl rfl rfl rfl ?_ ?_ ?_)); rotate_left 1; (focus (first | exact (rfl : (0 : Int) = ((0 : Nat) : Int)) | exact (rfl : (1 : Int) = ((1 : Nat) : Int)) | exact rfl | exact HE1.out | exact HE2.out)); (focus (first | omega | (simp; done) | (simp; omega) | (simp [*]; omega)))))) | ((with_reducible refine qgate_nil ?_); refine wpQuiet_nil ?_; (try intro _ st)) | ((with_reducible refine qgate_any ?_); (first | ((first | (with_reducible refine qg_move rfl ?_)); refine qa_val (fun _ _ => rfl) rfl ?_) | ((with_reducible refine qgate_load rfl ?_); (first | (refine iq_loadAll rfl rfl rfl ?_ ?_; (focus (first | rfl | (simp; done) | (simp; assumption) | (simp; omega) | (simp [*]; done)))) | (refine iq_loadC hb rfl rfl rfl ?_ ?_; (focus (first | rfl | (simp; done) | (simp; assumption) | (simp; omega) | (simp [*]; done)))) | (refine iq_loadC hb' rfl rfl rfl ?_ ?_; (focus (first | rfl | (simp; done) | (simp; assumption) | (simp; omega) | (simp [*]; done)))))) | ((with_reducible refine qgate_addr rfl ?_); (first | (refine' iq_slc rfl rfl rfl rfl ?_ ?_ ?_) | (refine' iq_slcP HP.out rfl rfl rfl rfl ?_ ?_ ?_) | (refine' iq_slcP HP2.out rfl rfl rfl rfl ?_ ?_ ?_) | (refine' iq_arr rfl rfl rfl rfl ?_ ?_ ?_)); rotate_left 1; (focus (first | exact (rfl : (0 : Int) = ((0 : Nat) : Int)) | exact (rfl : (1 : Int) = ((1 : Nat) : Int)) | exact rfl | exact HE1.out | exact HE2.out)); (focus (first | omega | (simp; done) | (simp; omega) | (simp [*]; omega)))) | ((with_reducible refine qgate_bin rfl ?_); refine' qa_bin ?_ rfl rfl rfl rfl ?_; rotate_left 1; (focus (first | exact run_add64 (by omega) (by omega) | exact run_sub64 (by omega) (by omega) | (intro w'; go_simp; exact rfl))))); all_goals (try (simp only [Nat.zero_add, Nat.add_zero, Nat.mul_one, Nat.zero_mul, Act.put, Act.eval, Array.getD_eq_getD_getElem?, List.getElem?_toArray, List.getElem?_cons_succ, List.getElem?_cons_zero, Option.getD_some, List.setIfInBounds_toArray, List.set_cons_succ, List.set_cons_zero, List.getElem_toArray, List.getElem_cons_succ, List.getElem_cons_zero]))) | ((with_reducible refine rgate (id := 4) ?_); refine wp_region_quiet_st (id := 4) st (by kernel_rfl) (by kernel_rfl) ?_; clear st))
      go_ret
      exact ⟨ret_int HZ.out.symm, st.keep⟩
theorem run_max64 {P : Program} (ats : Array TypeId) (ty : TypeId) (a b : Int) (w : World) : (Builtin.max_ ats ty #[.int .i64 a, .int .i64 b]).run P w = .ok (.int .i64 (max a b)) w := by
  by_cases h : a < b
  · simp [Builtin.max_, Builtin.max2, h, show max a b = b by omega]
  · simp [Builtin.max_, Builtin.max2, h, show max a b = a by omega]
section
variable {P : Program} {ops : Array Oper} {rest : List Oper} {o : Oper} {a : Act} {w : World} {Q : Exit → Act → World → Prop}
theorem gate_max {x y : Operand} {T U : TypeId} (_ho : o.op = .call { callee := .builtin .max, args := #[x, y], argTypes := #[T, U] }) (h : wpList P ops Q (o :: rest) a w) : wpList P ops Q (o :: rest) a w := h
theorem ia_max {x y : Operand} {T U : TypeId} {n m : Int} (hgd : o.guard = none) (ho : o.op = .call { callee := .builtin .max, args := #[x, y], argTypes := #[T, U] }) (hx : a.eval x = .int .i64 n) (hy : a.eval y = .int .i64 m)
    (h : wpList P ops Q rest (a.put o.dst (.int .i64 (max n m))) w) : wpList P ops Q (o :: rest) a w := by
  refine wpl_val hgd (.int .i64 (max n m)) ?_ h
  unfold execOp
  simp only [ho, resolve, invoke, builtin, Sem.run_bind, Sem.run_pure, Result.andThen_ok, List.map_toArray, List.map_cons, List.map_nil, hx, hy, run_max64]
end
end Go.Proofs.YtlljflmbnbjccaaGreatDoor
/- The laws' own helpers on lists of numbers, as the laws' walks ask for them; no condition. -/
namespace Go.Proofs.YtlljflmbnbjccaaGreatDoor
open Go.RowKit
set_option linter.unusedSimpArgs false
set_option linter.unusedVariables false
end Go.Proofs.YtlljflmbnbjccaaGreatDoor
/- The law JumpsOf: what it answers; no condition. -/
namespace Go.Proofs.YtlljflmbnbjccaaGreatDoor
open Go.RowKit
set_option linter.unusedSimpArgs false
set_option linter.unusedVariables false
def IntsCode (R : List Int) (n : Nat) (code : Int) (nilOk : Prop) (w : World) (e : Ending) (w' : World) : Prop := ∃ v, e = .returned (.tuple #[v, .int .i64 code]) ∧ SlOut 2 1 n (encs i1 R) nilOk w v w' ∧ Keep [] w w'
def okC (B : List Fm) : Int := if bkB B = true then 0 else 1
def jmpR (B : List Fm) : List Int := if bkB B = true then jmpL B else []
end Go.Proofs.YtlljflmbnbjccaaGreatDoor
/- Pages that were there before: the reference and the program; no condition. -/
namespace Go.Proofs.YtlljflmbnbjccaaGreatDoor
open Go.RowKit
set_option linter.unusedSimpArgs false
set_option linter.unusedVariables false
def repK (B : List Fm) (k : Nat) : List Int := (B.take k).map fun x => ((fidx x B : Nat) : Int)
theorem repK_length {B : List Fm} {k n : Nat} (hB : B.length = n) (hk : k ≤ n) : (repK B k).length = k := by unfold repK; rw [List.length_map, List.length_take]; omega
theorem repK_step {B : List Fm} {k : Nat} (hk : k < B.length) : repK B k ++ [((fidx B[k] B : Nat) : Int)] = repK B (k + 1) := by
  unfold repK
  rw [List.take_succ_eq_append_getElem hk, List.map_append]
  rfl
def repL (B : List Fm) : List Int := repK B B.length
theorem repL_length (B : List Fm) : (repL B).length = B.length := repK_length rfl (Nat.le_refl _)
theorem repL_get {B : List Fm} {k : Nat} (hk : k < B.length) : (repL B)[k]? = some ((fidx B[k] B : Nat) : Int) := by
  unfold repL repK
  rw [List.take_length, List.getElem?_map, List.getElem?_eq_getElem hk]
  rfl
set_option maxHeartbeats 1000000 in
set_option maxRecDepth 100000 in
theorem l02Repeats_c (B : List Fm) (n : Nat) (hB : B.length = n) (hn : n ≤ 1000000) (p : Option Addr) (c : Nat) (w : World) (hr : Rd w p n (encs fv B)) :
    Calls Tryz.prog 66 #[.slice p n c] w (IntsPost (repL B) n w) := by
  have st := St.start w
  have HJ : Hid (repL B = repK B n) := hid (by unfold repL; rw [hB])
  replace hB := hid hB
  go_enter Tryz.func66, Tryz.ntmps66
  go_wp2_with (first | ((with_reducible refine gate_bsl rfl ?_); refine ia_bsl0 (sl := 6) st rfl rfl rfl ?_; clear st; intro B6 _ st) | ((with_reducible refine gate_lst ?_); (first | ((with_reducible refine gate_load rfl ?_); (first | (refine ia_loadAll st rfl rfl rfl ?_ ?_; (focus (first | rfl | (simp; done) | (simp; assumption) | (simp; omega) | (simp [*]; done)))) | (refine ia_loadC (hb.keep st.keep (by simp)) rfl rfl rfl ?_ ?_; (focus (first | rfl | (simp; done) | (simp; assumption) | (simp; omega) | (simp [*]; done)))) | (refine ia_loadC (hb'.keep st.keep (by simp)) rfl rfl rfl ?_ ?_; (focus (first | rfl | (simp; done) | (simp; assumption) | (simp; omega) | (simp [*]; done)))) | (refine ia_loadC (Cl.of (hb1.keep st.keep (by simp))) rfl rfl rfl ?_ ?_; (focus (first | rfl | (simp; done) | (simp; assumption) | (simp; omega) | (simp [*]; done)))) | (refine ia_loadC (Cl.of (hb2.keep st.keep (by simp))) rfl rfl rfl ?_ ?_; (focus (first | rfl | (simp; done) | (simp; assumption) | (simp; omega) | (simp [*]; done)))))) | ((with_reducible refine gate_addr rfl ?_); (first | (refine' ia_slcP HP.out rfl rfl rfl rfl ?_ ?_ ?_) | (refine' ia_slcP HP2.out rfl rfl rfl rfl ?_ ?_ ?_)); rotate_left 1; (focus (first | exact (rfl : (0 : Int) = ((0 : Nat) : Int)) | exact (rfl : (1 : Int) = ((1 : Nat) : Int)) | exact rfl | exact HE1.out | exact HE2.out)); (focus (first | omega | (simp; done) | (simp; omega) | (simp [*]; omega)))))) | ((with_reducible refine qgate_nil ?_); refine wpQuiet_nil ?_; (try intro _ st)) | ((with_reducible refine qgate_any ?_); (first | ((first | (with_reducible refine qg_move rfl ?_)); refine qa_val (fun _ _ => rfl) rfl ?_) | ((with_reducible refine qgate_load rfl ?_); (first | (refine iq_loadAll rfl rfl rfl ?_ ?_; (focus (first | rfl | (simp; done) | (simp; assumption) | (simp; omega) | (simp [*]; done)))) | (refine iq_loadC hb rfl rfl rfl ?_ ?_; (focus (first | rfl | (simp; done) | (simp; assumption) | (simp; omega) | (simp [*]; done)))) | (refine iq_loadC hb' rfl rfl rfl ?_ ?_; (focus (first | rfl | (simp; done) | (simp; assumption) | (simp; omega) | (simp [*]; done)))))) | ((with_reducible refine qgate_addr rfl ?_); (first | (refine' iq_slc rfl rfl rfl rfl ?_ ?_ ?_) | (refine' iq_slcP HP.out rfl rfl rfl rfl ?_ ?_ ?_) | (refine' iq_slcP HP2.out rfl rfl rfl rfl ?_ ?_ ?_) | (refine' iq_arr rfl rfl rfl rfl ?_ ?_ ?_)); rotate_left 1; (focus (first | exact (rfl : (0 : Int) = ((0 : Nat) : Int)) | exact (rfl : (1 : Int) = ((1 : Nat) : Int)) | exact rfl | exact HE1.out | exact HE2.out)); (focus (first | omega | (simp; done) | (simp; omega) | (simp [*]; omega)))) | ((with_reducible refine qgate_bin rfl ?_); refine' qa_bin ?_ rfl rfl rfl rfl ?_; rotate_left 1; (focus (first | exact run_add64 (by omega) (by omega) | exact run_sub64 (by omega) (by omega) | (intro w'; go_simp; exact rfl))))); all_goals (try (simp only [Nat.zero_add, Nat.add_zero, Nat.mul_one, Nat.zero_mul, Act.put, Act.eval, Array.getD_eq_getD_getElem?, List.getElem?_toArray, List.getElem?_cons_succ, List.getElem?_cons_zero, Option.getD_some, List.setIfInBounds_toArray, List.set_cons_succ, List.set_cons_zero, List.getElem_toArray, List.getElem_cons_succ, List.getElem_cons_zero]))) | ((with_reducible refine rgate (id := 6) ?_); refine wp_region_quiet_st (id := 6) st (by kernel_rfl) (by kernel_rfl) ?_; clear st))
  go_loopw [3, 4] (fun v i wr => ∃ k : Nat, k ≤ n ∧ i = .int .i64 k ∧ Own 2 1 k (encs i1 (repK B k)) [] w wr [] v) (fun _ i _ => n - (intOf i).toNat)
  case atStart => exact ⟨0, by omega, rfl, B6, 0, [], rfl, st, rfl, Nat.zero_le _⟩
  case round =>
    clear st
    obtain ⟨k, hk, rfl, g, cap, spare, rfl, st, hcap, hcm⟩ := hrel
    have HC := hid hcap
    clear hcap
    by_cases hlt : k < n
    · have hd : decide ((k : Int) < (n : Int)) = true := by simpa using hlt
      obtain ⟨b, f, hp, hcl⟩ := hr (by omega)
      have HP := hid hp
      have hkB : k < B.length := by rw [hB.out]; exact hlt
      have hb' := hcl.seg fv_len hkB
      have HS := hid (repK_step hkB)
      have HF := hid (fidx_self hkB)
      obtain ⟨x, hx⟩ : ∃ x, B[k] = x := ⟨_, rfl⟩
      rw [hx] at hb' HS HF
      clear hx hp hkB
      obtain ⟨wo, rfl⟩ : ∃ wo : World, wo = wr := ⟨_, rfl⟩
      go_wp2_with (first | ((with_reducible refine gate_lst ?_); (first | ((with_reducible refine gate_load rfl ?_); (first | (refine ia_loadAll st rfl rfl rfl ?_ ?_; (focus (first | rfl | (simp; done) | (simp; assumption) | (simp; omega) | (simp [*]; done)))) | (refine ia_loadC (hb.keep st.keep (by simp)) rfl rfl rfl ?_ ?_; (focus (first | rfl | (simp; done) | (simp; assumption) | (simp; omega) | (simp [*]; done)))) | (refine ia_loadC (hb'.keep st.keep (by simp)) rfl rfl rfl ?_ ?_; (focus (first | rfl | (simp; done) | (simp; assumption) | (simp; omega) | (simp [*]; done)))) | (refine ia_loadC (Cl.of (hb1.keep st.keep (by simp))) rfl rfl rfl ?_ ?_; (focus (first | rfl | (simp; done) | (simp; assumption) | (simp; omega) | (simp [*]; done)))) | (refine ia_loadC (Cl.of (hb2.keep st.keep (by simp))) rfl rfl rfl ?_ ?_; (focus (first | rfl | (simp; done) | (simp; assumption) | (simp; omega) | (simp [*]; done)))))) | ((with_reducible refine gate_addr rfl ?_); (first | (refine' ia_slcP HP.out rfl rfl rfl rfl ?_ ?_ ?_) | (refine' ia_slcP HP2.out rfl rfl rfl rfl ?_ ?_ ?_)); rotate_left 1; (focus (first | exact (rfl : (0 : Int) = ((0 : Nat) : Int)) | exact (rfl : (1 : Int) = ((1 : Nat) : Int)) | exact rfl | exact HE1.out | exact HE2.out)); (focus (first | omega | (simp; done) | (simp; omega) | (simp [*]; omega)))))) | ((with_reducible refine qgate_nil ?_); refine wpQuiet_nil ?_; (try intro _ st)) | ((with_reducible refine qgate_any ?_); (first | ((first | (with_reducible refine qg_move rfl ?_)); refine qa_val (fun _ _ => rfl) rfl ?_) | ((with_reducible refine qgate_load rfl ?_); (first | (refine iq_loadAll rfl rfl rfl ?_ ?_; (focus (first | rfl | (simp; done) | (simp; assumption) | (simp; omega) | (simp [*]; done)))) | (refine iq_loadC hb rfl rfl rfl ?_ ?_; (focus (first | rfl | (simp; done) | (simp; assumption) | (simp; omega) | (simp [*]; done)))) | (refine iq_loadC hb' rfl rfl rfl ?_ ?_; (focus (first | rfl | (simp; done) | (simp; assumption) | (simp; omega) | (simp [*]; done)))))) | ((with_reducible refine qgate_addr rfl ?_); (first | (refine' iq_slc rfl rfl rfl rfl ?_ ?_ ?_) | (refine' iq_slcP HP.out rfl rfl rfl rfl ?_ ?_ ?_) | (refine' iq_slcP HP2.out rfl rfl rfl rfl ?_ ?_ ?_) | (refine' iq_arr rfl rfl rfl rfl ?_ ?_ ?_)); rotate_left 1; (focus (first | exact (rfl : (0 : Int) = ((0 : Nat) : Int)) | exact (rfl : (1 : Int) = ((1 : Nat) : Int)) | exact rfl | exact HE1.out | exact HE2.out)); (focus (first | omega | (simp; done) | (simp; omega) | (simp [*]; omega)))) | ((with_reducible refine qgate_bin rfl ?_); refine' qa_bin ?_ rfl rfl rfl rfl ?_; rotate_left 1; (focus (first | exact run_add64 (by omega) (by omega) | exact run_sub64 (by omega) (by omega) | (intro w'; go_simp; exact rfl))))); all_goals (try (simp only [Nat.zero_add, Nat.add_zero, Nat.mul_one, Nat.zero_mul, Act.put, Act.eval, Array.getD_eq_getD_getElem?, List.getElem?_toArray, List.getElem?_cons_succ, List.getElem?_cons_zero, Option.getD_some, List.setIfInBounds_toArray, List.set_cons_succ, List.set_cons_zero, List.getElem_toArray, List.getElem_cons_succ, List.getElem_cons_zero]))) | ((with_reducible refine rgate (id := 6) ?_); refine wp_region_quiet_st (id := 6) st (by kernel_rfl) (by kernel_rfl) ?_; clear st))
      go_loopw [5] (fun j wr => ∃ a : Nat, a ≤ k ∧ j = .int .i64 a ∧ Hid (a ≤ fidx x B) ∧ St [] w wr [(g, encs i1 (repK B k) ++ spare, 2)]) (fun j _ => n - (intOf j).toNat)
      case atStart => exact ⟨0, by omega, rfl, hid (Nat.zero_le _), st⟩
      case round =>
        clear st
        obtain ⟨a, ha, rfl, hs, st⟩ := hrel
        have haB : a < B.length := by rw [hB.out]; omega
        have hb := hcl.seg fv_len haB
        have HY := hid (fun h => fidx_at (x := x) haB h hs.out)
        have HN := hid (fun h => fidx_step (x := x) haB h hs.out)
        obtain ⟨y, hy⟩ : ∃ y, B[a] = y := ⟨_, rfl⟩
        rw [hy] at hb HY HN
        have han : a < n := by omega
        clear hy haB
        go_wp2_with (first | ((with_reducible refine gate_bsl rfl ?_); refine ia_bsl1 (sl := 26) st rfl rfl rfl rfl rfl ?_ (by decide) ?_; (focus (first | rfl | (simp; done) | (simp; assumption) | (simp; omega) | (simp [*]; done))); clear st; intro B26 _ st) | ((with_reducible refine gate_app rfl ?_); refine ia_appendR (news := (i1 (a : Nat))) (xs := (encs i1 (repK B k))) (spare := spare) st rfl rfl rfl rfl (by rw [encs_i1_length, repK_length hB.out hk, Nat.mul_one]) HC.out hcm (.fr (st.get (by repeat (first | exact At.here | apply At.there)))) (fun h => by cases h) (i1_len _) (i1_one _) (by unfold maxLen; omega) (by omega) ?_; clear st; intro g2 cap2 spare2 _ st hcap2 hcm2; (try simp only [List.set_cons_zero, List.set_cons_succ] at st)) | ((with_reducible refine gate_lst ?_); (first | ((with_reducible refine gate_load rfl ?_); (first | (refine ia_loadAll st rfl rfl rfl ?_ ?_; (focus (first | rfl | (simp; done) | (simp; assumption) | (simp; omega) | (simp [*]; done)))) | (refine ia_loadC (hb.keep st.keep (by simp)) rfl rfl rfl ?_ ?_; (focus (first | rfl | (simp; done) | (simp; assumption) | (simp; omega) | (simp [*]; done)))) | (refine ia_loadC (hb'.keep st.keep (by simp)) rfl rfl rfl ?_ ?_; (focus (first | rfl | (simp; done) | (simp; assumption) | (simp; omega) | (simp [*]; done)))) | (refine ia_loadC (Cl.of (hb1.keep st.keep (by simp))) rfl rfl rfl ?_ ?_; (focus (first | rfl | (simp; done) | (simp; assumption) | (simp; omega) | (simp [*]; done)))) | (refine ia_loadC (Cl.of (hb2.keep st.keep (by simp))) rfl rfl rfl ?_ ?_; (focus (first | rfl | (simp; done) | (simp; assumption) | (simp; omega) | (simp [*]; done)))))) | ((with_reducible refine gate_addr rfl ?_); (first | (refine' ia_slcP HP.out rfl rfl rfl rfl ?_ ?_ ?_) | (refine' ia_slcP HP2.out rfl rfl rfl rfl ?_ ?_ ?_)); rotate_left 1; (focus (first | exact (rfl : (0 : Int) = ((0 : Nat) : Int)) | exact (rfl : (1 : Int) = ((1 : Nat) : Int)) | exact rfl | exact HE1.out | exact HE2.out)); (focus (first | omega | (simp; done) | (simp; omega) | (simp [*]; omega)))))) | ((with_reducible refine qgate_nil ?_); refine wpQuiet_nil ?_; (try intro _ st)) | ((with_reducible refine qgate_any ?_); (first | ((with_reducible refine qgate_ne (P := Tryz.prog) rfl ?_); refine qa_neF rfl rfl rfl rfl ?_ ?_ <;> (intro hE; (simp only [Nat.zero_add, Nat.add_zero, Nat.mul_one, Nat.zero_mul, Act.put, Act.eval, Array.getD_eq_getD_getElem?, List.getElem?_toArray, List.getElem?_cons_succ, List.getElem?_cons_zero, Option.getD_some, List.setIfInBounds_toArray, List.set_cons_succ, List.set_cons_zero, List.getElem_toArray, List.getElem_cons_succ, List.getElem_cons_zero]))) | ((first | (with_reducible refine qg_move rfl ?_)); refine qa_val (fun _ _ => rfl) rfl ?_) | ((with_reducible refine qgate_load rfl ?_); (first | (refine iq_loadAll rfl rfl rfl ?_ ?_; (focus (first | rfl | (simp; done) | (simp; assumption) | (simp; omega) | (simp [*]; done)))) | (refine iq_loadC hb rfl rfl rfl ?_ ?_; (focus (first | rfl | (simp; done) | (simp; assumption) | (simp; omega) | (simp [*]; done)))) | (refine iq_loadC hb' rfl rfl rfl ?_ ?_; (focus (first | rfl | (simp; done) | (simp; assumption) | (simp; omega) | (simp [*]; done)))))) | ((with_reducible refine qgate_addr rfl ?_); (first | (refine' iq_slc rfl rfl rfl rfl ?_ ?_ ?_) | (refine' iq_slcP HP.out rfl rfl rfl rfl ?_ ?_ ?_) | (refine' iq_slcP HP2.out rfl rfl rfl rfl ?_ ?_ ?_) | (refine' iq_arr rfl rfl rfl rfl ?_ ?_ ?_)); rotate_left 1; (focus (first | exact (rfl : (0 : Int) = ((0 : Nat) : Int)) | exact (rfl : (1 : Int) = ((1 : Nat) : Int)) | exact rfl | exact HE1.out | exact HE2.out)); (focus (first | omega | (simp; done) | (simp; omega) | (simp [*]; omega)))) | ((with_reducible refine qgate_bin rfl ?_); refine' qa_bin ?_ rfl rfl rfl rfl ?_; rotate_left 1; (focus (first | exact run_add64 (by omega) (by omega) | exact run_sub64 (by omega) (by omega) | (intro w'; go_simp; exact rfl))))); all_goals (try (simp only [Nat.zero_add, Nat.add_zero, Nat.mul_one, Nat.zero_mul, Act.put, Act.eval, Array.getD_eq_getD_getElem?, List.getElem?_toArray, List.getElem?_cons_succ, List.getElem?_cons_zero, Option.getD_some, List.setIfInBounds_toArray, List.set_cons_succ, List.set_cons_zero, List.getElem_toArray, List.getElem_cons_succ, List.getElem_cons_zero]))) | ((with_reducible refine rgate (id := 6) ?_); refine wp_region_quiet_st (id := 6) st (by kernel_rfl) (by kernel_rfl) ?_; clear st))
        · have e : encs i1 (repK B (k + 1)) = encs i1 (repK B k) ++ i1 (a : Nat) := by rw [← HS.out, HY.out hE.symm, encs_snoc]
          go_roundw
          case rel => exact ⟨k + 1, by omega, by go_num, g2, cap2, spare2, rfl, by rw [e]; exact st.drop, by rw [e]; exact hcap2, hcm2⟩
          case measure => first | (simp [intOf]; done) | (simp [intOf]; omega)
        · go_roundw
          case rel => exact ⟨a + 1, by have := HN.out (fun e => hE e.symm); have := HF.out; omega, by go_num, hid (HN.out (fun e => hE e.symm)), st⟩
          case measure => first | (simp [intOf]; done) | (simp [intOf]; omega)
    · have hd : decide ((k : Int) < (n : Int)) = false := by simp; omega
      obtain rfl : k = n := by omega
      go_wp2_with (first | ((with_reducible refine gate_lst ?_); (first | ((with_reducible refine gate_load rfl ?_); (first | (refine ia_loadAll st rfl rfl rfl ?_ ?_; (focus (first | rfl | (simp; done) | (simp; assumption) | (simp; omega) | (simp [*]; done)))) | (refine ia_loadC (hb.keep st.keep (by simp)) rfl rfl rfl ?_ ?_; (focus (first | rfl | (simp; done) | (simp; assumption) | (simp; omega) | (simp [*]; done)))) | (refine ia_loadC (hb'.keep st.keep (by simp)) rfl rfl rfl ?_ ?_; (focus (first | rfl | (simp; done) | (simp; assumption) | (simp; omega) | (simp [*]; done)))) | (refine ia_loadC (Cl.of (hb1.keep st.keep (by simp))) rfl rfl rfl ?_ ?_; (focus (first | rfl | (simp; done) | (simp; assumption) | (simp; omega) | (simp [*]; done)))) | (refine ia_loadC (Cl.of (hb2.keep st.keep (by simp))) rfl rfl rfl ?_ ?_; (focus (first | rfl | (simp; done) | (simp; assumption) | (simp; omega) | (simp [*]; done)))))) | ((with_reducible refine gate_addr rfl ?_); (first | (refine' ia_slcP HP.out rfl rfl rfl rfl ?_ ?_ ?_) | (refine' ia_slcP HP2.out rfl rfl rfl rfl ?_ ?_ ?_)); rotate_left 1; (focus (first | exact (rfl : (0 : Int) = ((0 : Nat) : Int)) | exact (rfl : (1 : Int) = ((1 : Nat) : Int)) | exact rfl | exact HE1.out | exact HE2.out)); (focus (first | omega | (simp; done) | (simp; omega) | (simp [*]; omega)))))) | ((with_reducible refine qgate_nil ?_); refine wpQuiet_nil ?_; (try intro _ st)) | ((with_reducible refine qgate_any ?_); (first | ((first | (with_reducible refine qg_move rfl ?_)); refine qa_val (fun _ _ => rfl) rfl ?_) | ((with_reducible refine qgate_load rfl ?_); (first | (refine iq_loadAll rfl rfl rfl ?_ ?_; (focus (first | rfl | (simp; done) | (simp; assumption) | (simp; omega) | (simp [*]; done)))) | (refine iq_loadC hb rfl rfl rfl ?_ ?_; (focus (first | rfl | (simp; done) | (simp; assumption) | (simp; omega) | (simp [*]; done)))) | (refine iq_loadC hb' rfl rfl rfl ?_ ?_; (focus (first | rfl | (simp; done) | (simp; assumption) | (simp; omega) | (simp [*]; done)))))) | ((with_reducible refine qgate_addr rfl ?_); (first | (refine' iq_slc rfl rfl rfl rfl ?_ ?_ ?_) | (refine' iq_slcP HP.out rfl rfl rfl rfl ?_ ?_ ?_) | (refine' iq_slcP HP2.out rfl rfl rfl rfl ?_ ?_ ?_) | (refine' iq_arr rfl rfl rfl rfl ?_ ?_ ?_)); rotate_left 1; (focus (first | exact (rfl : (0 : Int) = ((0 : Nat) : Int)) | exact (rfl : (1 : Int) = ((1 : Nat) : Int)) | exact rfl | exact HE1.out | exact HE2.out)); (focus (first | omega | (simp; done) | (simp; omega) | (simp [*]; omega)))) | ((with_reducible refine qgate_bin rfl ?_); refine' qa_bin ?_ rfl rfl rfl rfl ?_; rotate_left 1; (focus (first | exact run_add64 (by omega) (by omega) | exact run_sub64 (by omega) (by omega) | (intro w'; go_simp; exact rfl))))); all_goals (try (simp only [Nat.zero_add, Nat.add_zero, Nat.mul_one, Nat.zero_mul, Act.put, Act.eval, Array.getD_eq_getD_getElem?, List.getElem?_toArray, List.getElem?_cons_succ, List.getElem?_cons_zero, Option.getD_some, List.setIfInBounds_toArray, List.set_cons_succ, List.set_cons_zero, List.getElem_toArray, List.getElem_cons_succ, List.getElem_cons_zero]))) | ((with_reducible refine rgate (id := 6) ?_); refine wp_region_quiet_st (id := 6) st (by kernel_rfl) (by kernel_rfl) ?_; clear st))
      go_ret
      exact ⟨_, rfl, by rw [HJ.out]; exact ⟨g, cap, spare, rfl, out_of st .here, st.get .here, HC.out, hcm⟩, st.keep⟩
def repR (B : List Fm) : List Int := if bkB B = true then repL B else []
end Go.Proofs.YtlljflmbnbjccaaGreatDoor
/- Distinct pages: the reference and the program; no condition. -/
namespace Go.Proofs.YtlljflmbnbjccaaGreatDoor
open Go.RowKit
set_option linter.unusedSimpArgs false
set_option linter.unusedVariables false
/-- Two slices of the call's own. -/
def Gives2 (E E' : TypeId) (sz sz' n n' : Nat) (xs ys : List Value) (w : World) (v u : Value) (w' : World) : Prop :=
  ∃ g cap spare g' cap' spare', v = .slice (some ⟨g, 0, none⟩) n cap ∧ u = .slice (some ⟨g', 0, none⟩) n' cap' ∧ w.heap.size ≤ g ∧ w.heap.size ≤ g' ∧ g ≠ g' ∧ Blk w' g (xs ++ spare) E ∧ Blk w' g' (ys ++ spare') E' ∧
    (xs ++ spare).length = cap * sz ∧ cap ≤ maxLen ∧ (ys ++ spare').length = cap' * sz' ∧ cap' ≤ maxLen
theorem St.adopt2 {M : List Nat} {w0 w w1 : World} {L : List (Nat × List Value × TypeId)} {g g' : Nat} {cs cs' : List Value} {E E' : TypeId} (st : St M w0 w L) (hk : Keep [] w w1) (hg : w.heap.size ≤ g) (hg' : w.heap.size ≤ g') (hne : g ≠ g') (hb : Blk w1 g cs E) (hb' : Blk w1 g' cs' E') : St M w0 w1 ((g, cs, E) :: (g', cs', E') :: L) := by
  have s1 := st.adopt hk hg hb
  have s2 := st.adopt hk hg' hb'
  refine ⟨s1.keep, fun p hp => ?_, fun p hp => ?_, ?_⟩
  · rcases List.mem_cons.1 hp with rfl | hp
    · exact hb
    · exact s2.has p hp
  · rcases List.mem_cons.1 hp with rfl | hp
    · exact Or.inl (Nat.le_trans st.keep.size hg)
    · exact s2.ge p hp
  · have n1 := s1.nd
    have n2 := s2.nd
    simp only [List.map_cons, List.nodup_cons, List.mem_cons, not_or] at n1 n2 ⊢
    exact ⟨⟨hne, n1.1⟩, n2⟩
def plI (l : List Nat) : List Int := l.map fun (k : Nat) => (k : Int)
@[simp] theorem plI_length (l : List Nat) : (plI l).length = l.length := by simp [plI]
theorem plI_snoc (l : List Nat) (k : Nat) : plI (l ++ [k]) = plI l ++ [(k : Int)] := by simp [plI]
theorem plI_get {l : List Nat} {j p : Nat} (h : l[j]? = some p) : (plI l)[j]? = some (p : Int) := by unfold plI; rw [List.getElem?_map, h]; rfl
def dbk (B : List Fm) : List Fm := (dst B).1
def dpl (B : List Fm) : List Int := plI (dst B).2
def DistPost (B : List Fm) (n m : Nat) (w : World) (e : Ending) (w' : World) : Prop := ∃ v u, e = .returned (.tuple #[v, u]) ∧ Gives2 72 2 12 1 m n (encs fv (dbk B)) (encs i1 (dpl B)) w v u w' ∧ Keep [] w w'
theorem i1_at {R spare : List Value} {l : List Int} {k : Nat} {x : Int} (h : l[k]? = some x) : (encs i1 l ++ spare)[k]? = some (.int .i64 x) := by
  obtain ⟨hk, e⟩ := List.getElem?_eq_some_iff.1 h
  have := encs_getA i1_len l spare k hk 0 (by omega)
  rw [Nat.mul_one, Nat.add_zero, e] at this
  exact this
theorem i1_at' {spare : List Value} {l : List Int} {k : Nat} {x : Int} (h : l[k]? = some x) : (encs i1 l ++ spare)[0 + k * 1]? = some (.int .i64 x) := by
  rw [Nat.mul_one, Nat.zero_add]; exact i1_at (R := []) h
set_option maxHeartbeats 2000000 in
set_option maxRecDepth 100000 in
theorem distinct_c (B : List Fm) (n : Nat) (hB : B.length = n) (hn : n ≤ 1000000) (p : Option Addr) (c : Nat) (w : World) (hr : Rd w p n (encs fv B)) :
    Calls Tryz.prog 47 #[.slice p n c] w (DistPost B n (dbk B).length w) := by
  have st := St.start w
  have HALL : Hid (dst (B.take n) = dst B) := hid (by rw [List.take_of_length_le (by omega)])
  have HLE := hid (fun k => dst_le (B.take k))
  replace hB := hid hB
  go_enter Tryz.func47, Tryz.ntmps47
  go_wp2_with (first | ((with_reducible refine gate_bsl rfl ?_); refine ia_bsl0 (sl := 9) st rfl rfl rfl ?_; clear st; intro B9 _ st) | ((with_reducible refine gate_bsl rfl ?_); refine ia_bsl0 (sl := 10) st rfl rfl rfl ?_; clear st; intro B10 _ st) | ((with_reducible refine gate_lst ?_); (first | ((with_reducible refine gate_alloc rfl ?_); (first | (refine ia_alloc (sl := 7) st rfl rfl rfl ?_; clear st; intro B7 _ st))) | ((with_reducible refine gate_load rfl ?_); (first | (refine ia_loadAll st rfl rfl rfl ?_ ?_; (focus (first | rfl | (simp; done) | (simp; assumption) | (simp; omega) | (simp [*]; done)))) | (refine ia_loadC (hb.keep st.keep (by simp)) rfl rfl rfl ?_ ?_; (focus (first | rfl | (simp; done) | (simp; assumption) | (simp; omega) | (simp [*]; done)))) | (refine ia_loadC (hb'.keep st.keep (by simp)) rfl rfl rfl ?_ ?_; (focus (first | rfl | (simp; done) | (simp; assumption) | (simp; omega) | (simp [*]; done)))) | (refine ia_loadC (Cl.of (hb1.keep st.keep (by simp))) rfl rfl rfl ?_ ?_; (focus (first | rfl | (simp; done) | (simp; assumption) | (simp; omega) | (simp [*]; done)))) | (refine ia_loadC (Cl.of (hb2.keep st.keep (by simp))) rfl rfl rfl ?_ ?_; (focus (first | rfl | (simp; done) | (simp; assumption) | (simp; omega) | (simp [*]; done)))))) | ((with_reducible refine gate_store rfl ?_); (first | (refine ia_storeAll st rfl rfl rfl rfl ?_ ?_ ?_ ?_; (focus (first | rfl | (simp; done) | (simp; assumption) | (simp; omega) | (simp [*]; done))); (focus (first | exact frv_one _ | exact fv_one _ | exact p8_one _ | exact k3_one _ | exact i1_one _ | (simp [Value.oneCell']; done))); (focus (first | rfl | (simp; done) | (simp; assumption) | (simp; omega) | (simp [*]; done))); clear st; intro _ st; (try simp only [List.set_cons_zero, List.set_cons_succ] at st)) | (refine ia_storeSeg st rfl rfl rfl rfl ?_ ?_ ?_ ?_; (focus (first | rfl | (simp; done) | (simp; assumption) | (simp; omega) | (simp [*]; done))); (focus (first | exact frv_one _ | exact fv_one _ | exact p8_one _ | exact k3_one _ | exact i1_one _ | (simp [Value.oneCell']; done))); (focus (first | omega | (simp; done) | (simp; omega) | (simp [*]; omega))); clear st; intro _ st; (try simp only [List.set_cons_zero, List.set_cons_succ] at st)))) | ((with_reducible refine gate_addr rfl ?_); (first | (refine' ia_slcP HP.out rfl rfl rfl rfl ?_ ?_ ?_) | (refine' ia_slcP HP2.out rfl rfl rfl rfl ?_ ?_ ?_)); rotate_left 1; (focus (first | exact (rfl : (0 : Int) = ((0 : Nat) : Int)) | exact (rfl : (1 : Int) = ((1 : Nat) : Int)) | exact rfl | exact HE1.out | exact HE2.out)); (focus (first | omega | (simp; done) | (simp; omega) | (simp [*]; omega)))))))
  go_loopw [4, 5, 13] (fun v u i wr => ∃ k m g cap g' cap' : Nat, ∃ spare spare' : List Value, k ≤ n ∧ m ≤ k ∧ Hid ((dst (B.take k)).1.length = m) ∧ i = .int .i64 k ∧ v = .slice (some ⟨g, 0, none⟩) m cap ∧ u = .slice (some ⟨g', 0, none⟩) k cap' ∧ St [] w wr [(g', encs i1 (plI (dst (B.take k)).2) ++ spare', 2), (g, encs fv (dst (B.take k)).1 ++ spare, 72)] ∧ Hid ((encs fv (dst (B.take k)).1 ++ spare).length = cap * 12) ∧ cap ≤ maxLen ∧ Hid ((encs i1 (plI (dst (B.take k)).2) ++ spare').length = cap' * 1) ∧ cap' ≤ maxLen) (fun _ _ i _ => n - (intOf i).toNat)
  case atStart => exact ⟨0, 0, B9, 0, B10, 0, [], [], by omega, by omega, hid rfl, rfl, rfl, rfl, st, hid rfl, Nat.zero_le _, hid rfl, Nat.zero_le _⟩
  case round =>
    clear st
    obtain ⟨k, m, g, cap, g', cap', spare, spare', hk, hmk, HM, rfl, rfl, rfl, st, HC, hcm, HC', hcm'⟩ := hrel
    by_cases hlt : k < n
    · have hd : decide ((k : Int) < (n : Int)) = true := by simpa using hlt
      obtain ⟨b, f, hp, hcl⟩ := hr (by omega)
      have HP := hid hp
      have hkB : k < B.length := by rw [hB.out]; exact hlt
      have hb := hcl.seg fv_len hkB
      have HT := hid (dst_take hkB)
      have HPL : Hid ((dst (B.take k)).2.length = k) := hid (by rw [dst_len, List.length_take, hB.out]; omega)
      obtain ⟨x, hx⟩ : ∃ x, B[k] = x := ⟨_, rfl⟩
      rw [hx] at hb HT
      obtain ⟨O, hO⟩ : ∃ O, (dst (B.take k)).1 = O := ⟨_, rfl⟩
      obtain ⟨Q, hQ⟩ : ∃ Q, (dst (B.take k)).2 = Q := ⟨_, rfl⟩
      rw [hO] at HM st HC
      rw [hQ] at st HC' HPL
      unfold dstep at HT
      rw [hO, hQ] at HT
      have HIX := hid (fun p c w' hr => indexF_c x O m HM.out (by omega) p c w' hr)
      clear hx hp hcl hkB hO hQ
      by_cases hmem : fidx x O < O.length
      · obtain ⟨q, hq⟩ : ∃ q, fidx x O = q := ⟨_, rfl⟩
        have hz : idxZ x O = (q : Int) := by unfold idxZ; rw [if_pos hmem, hq]
        rw [hz] at HIX
        rw [if_pos hmem, hq] at HT
        clear hmem hq hz
        go_wp2_with (first | (go_at_call 64; refine (HIX.out _ _ _ (.of (st.get (by repeat (first | exact At.here | apply At.there))))).mono ?_; rintro _ _ ⟨rfl, hk⟩; replace st := st.call hk; clear hk) | ((with_reducible refine gate_bsl rfl ?_); refine ia_bsl1 (sl := 30) st rfl rfl rfl rfl rfl ?_ (by decide) ?_; (focus (first | rfl | (simp; done) | (simp; assumption) | (simp; omega) | (simp [*]; done))); clear st; intro B30 _ st) | ((with_reducible refine gate_app rfl ?_); refine ia_appendR (news := (i1 (q : Nat))) (xs := (encs i1 (plI Q))) (spare := spare') st rfl rfl rfl rfl (by rw [encs_i1_length, plI_length, HPL.out, Nat.mul_one]) HC'.out hcm' (.fr (st.get (by repeat (first | exact At.here | apply At.there)))) (fun h => by cases h) (i1_len _) (i1_one _) (by unfold maxLen; omega) (by omega) ?_; clear st; intro g2 cap2 spare2 _ st hcap2 hcm2; (try simp only [List.set_cons_zero, List.set_cons_succ] at st)) | ((with_reducible refine gate_lst ?_); (first | ((with_reducible refine gate_alloc rfl ?_); (first | (refine ia_alloc (sl := 7) st rfl rfl rfl ?_; clear st; intro B7 _ st))) | ((with_reducible refine gate_load rfl ?_); (first | (refine ia_loadAll st rfl rfl rfl ?_ ?_; (focus (first | rfl | (simp; done) | (simp; assumption) | (simp; omega) | (simp [*]; done)))) | (refine ia_loadC (hb.keep st.keep (by simp)) rfl rfl rfl ?_ ?_; (focus (first | rfl | (simp; done) | (simp; assumption) | (simp; omega) | (simp [*]; done)))) | (refine ia_loadC (hb'.keep st.keep (by simp)) rfl rfl rfl ?_ ?_; (focus (first | rfl | (simp; done) | (simp; assumption) | (simp; omega) | (simp [*]; done)))) | (refine ia_loadC (Cl.of (hb1.keep st.keep (by simp))) rfl rfl rfl ?_ ?_; (focus (first | rfl | (simp; done) | (simp; assumption) | (simp; omega) | (simp [*]; done)))) | (refine ia_loadC (Cl.of (hb2.keep st.keep (by simp))) rfl rfl rfl ?_ ?_; (focus (first | rfl | (simp; done) | (simp; assumption) | (simp; omega) | (simp [*]; done)))))) | ((with_reducible refine gate_store rfl ?_); (first | (refine ia_storeAll st rfl rfl rfl rfl ?_ ?_ ?_ ?_; (focus (first | rfl | (simp; done) | (simp; assumption) | (simp; omega) | (simp [*]; done))); (focus (first | exact frv_one _ | exact fv_one _ | exact p8_one _ | exact k3_one _ | exact i1_one _ | (simp [Value.oneCell']; done))); (focus (first | rfl | (simp; done) | (simp; assumption) | (simp; omega) | (simp [*]; done))); clear st; intro _ st; (try simp only [List.set_cons_zero, List.set_cons_succ] at st)) | (refine ia_storeSeg st rfl rfl rfl rfl ?_ ?_ ?_ ?_; (focus (first | rfl | (simp; done) | (simp; assumption) | (simp; omega) | (simp [*]; done))); (focus (first | exact frv_one _ | exact fv_one _ | exact p8_one _ | exact k3_one _ | exact i1_one _ | (simp [Value.oneCell']; done))); (focus (first | omega | (simp; done) | (simp; omega) | (simp [*]; omega))); clear st; intro _ st; (try simp only [List.set_cons_zero, List.set_cons_succ] at st)))) | ((with_reducible refine gate_addr rfl ?_); (first | (refine' ia_slcP HP.out rfl rfl rfl rfl ?_ ?_ ?_) | (refine' ia_slcP HP2.out rfl rfl rfl rfl ?_ ?_ ?_)); rotate_left 1; (focus (first | exact (rfl : (0 : Int) = ((0 : Nat) : Int)) | exact (rfl : (1 : Int) = ((1 : Nat) : Int)) | exact rfl | exact HE1.out | exact HE2.out)); (focus (first | omega | (simp; done) | (simp; omega) | (simp [*]; omega)))))))
        have e : encs i1 (plI (Q ++ [q])) = encs i1 (plI Q) ++ i1 (q : Nat) := by rw [plI_snoc, encs_snoc]
        go_roundw
        case rel => exact ⟨k + 1, m, g, cap, g2, cap2, spare, spare2, by omega, by omega, hid (by rw [HT.out]; exact HM.out), by go_num, rfl, rfl, by rw [HT.out, e]; exact st.drop.drop, hid (by rw [HT.out]; exact HC.out), hcm, hid (by rw [HT.out, e]; exact hcap2), hcm2⟩
        case measure => first | (simp [intOf]; done) | (simp [intOf]; omega)
      · have hz : idxZ x O = -1 := by unfold idxZ; rw [if_neg hmem]
        have hq : fidx x O = m := by have := fidx_le x O; have := HM.out; omega
        rw [hz] at HIX
        rw [if_neg hmem, hq] at HT
        clear hmem hq hz
        go_wp2_with (first | (go_at_call 64; refine (HIX.out _ _ _ (.of (st.get (by repeat (first | exact At.here | apply At.there))))).mono ?_; rintro _ _ ⟨rfl, hk⟩; replace st := st.call hk; clear hk) | ((with_reducible refine gate_bsl rfl ?_); refine ia_bsl1 (sl := 26) st rfl rfl rfl rfl rfl ?_ (by decide) ?_; (focus (first | rfl | (simp; done) | (simp; assumption) | (simp; omega) | (simp [*]; done))); clear st; intro B26 _ st) | ((with_reducible refine gate_bsl rfl ?_); refine ia_bsl1 (sl := 30) st rfl rfl rfl rfl rfl ?_ (by decide) ?_; (focus (first | rfl | (simp; done) | (simp; assumption) | (simp; omega) | (simp [*]; done))); clear st; intro B30 _ st) | ((with_reducible refine gate_app rfl ?_); refine ia_appendR (news := (fv x)) (xs := (encs fv O)) (spare := spare) st rfl rfl rfl rfl (by rw [encs_fv_length, HM.out]) HC.out hcm (.fr (st.get (by repeat (first | exact At.here | apply At.there)))) (fun h => by cases h) (fv_len _) (fv_one _) (by unfold maxLen; omega) (by omega) ?_; clear st; intro g2 cap2 spare2 _ st hcap2 hcm2; (try simp only [List.set_cons_zero, List.set_cons_succ] at st)) | ((with_reducible refine gate_app rfl ?_); refine ia_appendR (news := (i1 (m : Nat))) (xs := (encs i1 (plI Q))) (spare := spare') st rfl rfl rfl rfl (by rw [encs_i1_length, plI_length, HPL.out, Nat.mul_one]) HC'.out hcm' (.fr (st.get (by repeat (first | exact At.here | apply At.there)))) (fun h => by cases h) (i1_len _) (i1_one _) (by unfold maxLen; omega) (by omega) ?_; clear st; intro g3 cap3 spare3 _ st hcap3 hcm3; (try simp only [List.set_cons_zero, List.set_cons_succ] at st)) | ((with_reducible refine gate_lst ?_); (first | ((with_reducible refine gate_alloc rfl ?_); (first | (refine ia_alloc (sl := 7) st rfl rfl rfl ?_; clear st; intro B7 _ st))) | ((with_reducible refine gate_load rfl ?_); (first | (refine ia_loadAll st rfl rfl rfl ?_ ?_; (focus (first | rfl | (simp; done) | (simp; assumption) | (simp; omega) | (simp [*]; done)))) | (refine ia_loadC (hb.keep st.keep (by simp)) rfl rfl rfl ?_ ?_; (focus (first | rfl | (simp; done) | (simp; assumption) | (simp; omega) | (simp [*]; done)))) | (refine ia_loadC (hb'.keep st.keep (by simp)) rfl rfl rfl ?_ ?_; (focus (first | rfl | (simp; done) | (simp; assumption) | (simp; omega) | (simp [*]; done)))) | (refine ia_loadC (Cl.of (hb1.keep st.keep (by simp))) rfl rfl rfl ?_ ?_; (focus (first | rfl | (simp; done) | (simp; assumption) | (simp; omega) | (simp [*]; done)))) | (refine ia_loadC (Cl.of (hb2.keep st.keep (by simp))) rfl rfl rfl ?_ ?_; (focus (first | rfl | (simp; done) | (simp; assumption) | (simp; omega) | (simp [*]; done)))))) | ((with_reducible refine gate_store rfl ?_); (first | (refine ia_storeAll st rfl rfl rfl rfl ?_ ?_ ?_ ?_; (focus (first | rfl | (simp; done) | (simp; assumption) | (simp; omega) | (simp [*]; done))); (focus (first | exact frv_one _ | exact fv_one _ | exact p8_one _ | exact k3_one _ | exact i1_one _ | (simp [Value.oneCell']; done))); (focus (first | rfl | (simp; done) | (simp; assumption) | (simp; omega) | (simp [*]; done))); clear st; intro _ st; (try simp only [List.set_cons_zero, List.set_cons_succ] at st)) | (refine ia_storeSeg st rfl rfl rfl rfl ?_ ?_ ?_ ?_; (focus (first | rfl | (simp; done) | (simp; assumption) | (simp; omega) | (simp [*]; done))); (focus (first | exact frv_one _ | exact fv_one _ | exact p8_one _ | exact k3_one _ | exact i1_one _ | (simp [Value.oneCell']; done))); (focus (first | omega | (simp; done) | (simp; omega) | (simp [*]; omega))); clear st; intro _ st; (try simp only [List.set_cons_zero, List.set_cons_succ] at st)))) | ((with_reducible refine gate_addr rfl ?_); (first | (refine' ia_slcP HP.out rfl rfl rfl rfl ?_ ?_ ?_) | (refine' ia_slcP HP2.out rfl rfl rfl rfl ?_ ?_ ?_)); rotate_left 1; (focus (first | exact (rfl : (0 : Int) = ((0 : Nat) : Int)) | exact (rfl : (1 : Int) = ((1 : Nat) : Int)) | exact rfl | exact HE1.out | exact HE2.out)); (focus (first | omega | (simp; done) | (simp; omega) | (simp [*]; omega)))))))
        have e : encs i1 (plI (Q ++ [m])) = encs i1 (plI Q) ++ i1 (m : Nat) := by rw [plI_snoc, encs_snoc]
        have e2 : encs fv (O ++ [x]) = encs fv O ++ fv x := encs_snoc _ _ _
        go_roundw
        case rel => exact ⟨k + 1, m + 1, g2, cap2, g3, cap3, spare2, spare3, by omega, by omega, hid (by rw [HT.out, List.length_append, HM.out]; rfl), by go_num, rfl, rfl, by rw [HT.out, e, e2]; exact st.drop.drop.drop, hid (by rw [HT.out, e2]; exact hcap2), hcm2, hid (by rw [HT.out, e]; exact hcap3), hcm3⟩
        case measure => first | (simp [intOf]; done) | (simp [intOf]; omega)
    · have hd : decide ((k : Int) < (n : Int)) = false := by simp; omega
      obtain rfl : k = n := by omega
      go_wp2_with (first | ((with_reducible refine gate_lst ?_); (first | ((with_reducible refine gate_alloc rfl ?_); (first | (refine ia_alloc (sl := 7) st rfl rfl rfl ?_; clear st; intro B7 _ st))) | ((with_reducible refine gate_load rfl ?_); (first | (refine ia_loadAll st rfl rfl rfl ?_ ?_; (focus (first | rfl | (simp; done) | (simp; assumption) | (simp; omega) | (simp [*]; done)))) | (refine ia_loadC (hb.keep st.keep (by simp)) rfl rfl rfl ?_ ?_; (focus (first | rfl | (simp; done) | (simp; assumption) | (simp; omega) | (simp [*]; done)))) | (refine ia_loadC (hb'.keep st.keep (by simp)) rfl rfl rfl ?_ ?_; (focus (first | rfl | (simp; done) | (simp; assumption) | (simp; omega) | (simp [*]; done)))) | (refine ia_loadC (Cl.of (hb1.keep st.keep (by simp))) rfl rfl rfl ?_ ?_; (focus (first | rfl | (simp; done) | (simp; assumption) | (simp; omega) | (simp [*]; done)))) | (refine ia_loadC (Cl.of (hb2.keep st.keep (by simp))) rfl rfl rfl ?_ ?_; (focus (first | rfl | (simp; done) | (simp; assumption) | (simp; omega) | (simp [*]; done)))))) | ((with_reducible refine gate_store rfl ?_); (first | (refine ia_storeAll st rfl rfl rfl rfl ?_ ?_ ?_ ?_; (focus (first | rfl | (simp; done) | (simp; assumption) | (simp; omega) | (simp [*]; done))); (focus (first | exact frv_one _ | exact fv_one _ | exact p8_one _ | exact k3_one _ | exact i1_one _ | (simp [Value.oneCell']; done))); (focus (first | rfl | (simp; done) | (simp; assumption) | (simp; omega) | (simp [*]; done))); clear st; intro _ st; (try simp only [List.set_cons_zero, List.set_cons_succ] at st)) | (refine ia_storeSeg st rfl rfl rfl rfl ?_ ?_ ?_ ?_; (focus (first | rfl | (simp; done) | (simp; assumption) | (simp; omega) | (simp [*]; done))); (focus (first | exact frv_one _ | exact fv_one _ | exact p8_one _ | exact k3_one _ | exact i1_one _ | (simp [Value.oneCell']; done))); (focus (first | omega | (simp; done) | (simp; omega) | (simp [*]; omega))); clear st; intro _ st; (try simp only [List.set_cons_zero, List.set_cons_succ] at st)))) | ((with_reducible refine gate_addr rfl ?_); (first | (refine' ia_slcP HP.out rfl rfl rfl rfl ?_ ?_ ?_) | (refine' ia_slcP HP2.out rfl rfl rfl rfl ?_ ?_ ?_)); rotate_left 1; (focus (first | exact (rfl : (0 : Int) = ((0 : Nat) : Int)) | exact (rfl : (1 : Int) = ((1 : Nat) : Int)) | exact rfl | exact HE1.out | exact HE2.out)); (focus (first | omega | (simp; done) | (simp; omega) | (simp [*]; omega)))))))
      go_ret2
      have ne : g ≠ g' := by
        have := st.nd
        simp only [List.map_cons, List.nodup_cons, List.mem_cons, not_or] at this
        exact fun e => this.1.1 e.symm
      rw [HALL.out] at HM HC HC' st
      exact ⟨_, _, rfl, ⟨g, cap, spare, g', cap', spare', by rw [← HM.out]; rfl, rfl, out_of st (.there .here), out_of st .here, ne, st.get (.there .here), st.get .here, HC.out, hcm, HC'.out, hcm'⟩, st.keep⟩
set_option maxHeartbeats 2000000 in
set_option maxRecDepth 100000 in
theorem l02Distinct_c (B : List Fm) (n : Nat) (hB : B.length = n) (hn : n ≤ 1000000) (p : Option Addr) (c : Nat) (w : World) (hr : Rd w p n (encs fv B)) :
    Calls Tryz.prog 49 #[.slice p n c] w (DistPost B n (dbk B).length w) := by
  have st := St.start w
  have HALL : Hid (dst (B.take n) = dst B) := hid (by rw [List.take_of_length_le (by omega)])
  have HLE := hid (fun k => dst_le (B.take k))
  have HJ := hid (fun w' hk => l02Repeats_c B n hB hn p c w' (hr.keep (w1 := w') hk))
  replace hB := hid hB
  go_enter Tryz.func49, Tryz.ntmps49
  go_wp2_with (first | (go_at_call 66; refine (HJ.out _ st.keep).mono ?_; rintro _ _ ⟨v, rfl, ⟨g, cap, spare, rfl, hg, hbg, hcap, hcm⟩, hk⟩; replace st := st.adopt hk hg hbg; clear hk hg hbg) | ((with_reducible refine gate_bsl rfl ?_); refine ia_bsl0 (sl := 10) st rfl rfl rfl ?_; clear st; intro B10 _ st) | ((with_reducible refine gate_bsl rfl ?_); refine ia_bsl0 (sl := 11) st rfl rfl rfl ?_; clear st; intro B11 _ st) | ((with_reducible refine gate_lst ?_); (first | ((with_reducible refine gate_load rfl ?_); (first | (refine' ia_load1 st rfl rfl rfl ?_ ?_; rotate_left 1; (focus (first | exact N0.out | exact N1.out | exact N2.out | exact N3.out | exact N4.out | exact N5.out | exact G2.out | exact G3.out | exact G4.out | exact G0.out | exact G1.out | (refine frv_get _ _ ?_; (first | omega | (simp; done) | (simp; omega) | (simp [*]; omega))) | exact rfl))) | (refine' ia_load1Z (hb.keep st.keep (by simp)) rfl rfl rfl ?_ ?_; rotate_left 1; (focus exact rfl)) | (refine' ia_load1Z (hb'.keep st.keep (by simp)) rfl rfl rfl ?_ ?_; rotate_left 1; (focus exact rfl)) | (refine' ia_load1C (hb.keep st.keep (by simp)) rfl rfl rfl ?_ ?_; rotate_left 1; (focus (first | exact N0.out | exact N1.out | exact N2.out | exact N3.out | exact N4.out | exact N5.out | exact G2.out | exact G3.out | exact G4.out | exact G0.out | exact G1.out | (refine frv_get _ _ ?_; (first | omega | (simp; done) | (simp; omega) | (simp [*]; omega))) | exact rfl))) | (refine' ia_load1C (hb'.keep st.keep (by simp)) rfl rfl rfl ?_ ?_; rotate_left 1; (focus (first | exact N0.out | exact N1.out | exact N2.out | exact N3.out | exact N4.out | exact N5.out | exact G2.out | exact G3.out | exact G4.out | exact G0.out | exact G1.out | (refine frv_get _ _ ?_; (first | omega | (simp; done) | (simp; omega) | (simp [*]; omega))) | exact rfl))) | (refine' ia_load1B (hb1.keep st.keep (by simp)) rfl rfl rfl ?_ ?_; rotate_left 1; (focus (first | exact N0.out | exact N1.out | exact N2.out | exact N3.out | exact N4.out | exact N5.out | exact G2.out | exact G3.out | exact G4.out | exact G0.out | exact G1.out | (refine frv_get _ _ ?_; (first | omega | (simp; done) | (simp; omega) | (simp [*]; omega))) | exact rfl))) | (refine' ia_load1B (hb2.keep st.keep (by simp)) rfl rfl rfl ?_ ?_; rotate_left 1; (focus (first | exact N0.out | exact N1.out | exact N2.out | exact N3.out | exact N4.out | exact N5.out | exact G2.out | exact G3.out | exact G4.out | exact G0.out | exact G1.out | (refine frv_get _ _ ?_; (first | omega | (simp; done) | (simp; omega) | (simp [*]; omega))) | exact rfl))) | (refine ia_loadAll st rfl rfl rfl ?_ ?_; (focus (first | rfl | (simp; done) | (simp; assumption) | (simp; omega) | (simp [*]; done)))) | (refine ia_loadC (hb.keep st.keep (by simp)) rfl rfl rfl ?_ ?_; (focus (first | rfl | (simp; done) | (simp; assumption) | (simp; omega) | (simp [*]; done)))) | (refine ia_loadC (hb'.keep st.keep (by simp)) rfl rfl rfl ?_ ?_; (focus (first | rfl | (simp; done) | (simp; assumption) | (simp; omega) | (simp [*]; done)))) | (refine ia_loadC (Cl.of (hb1.keep st.keep (by simp))) rfl rfl rfl ?_ ?_; (focus (first | rfl | (simp; done) | (simp; assumption) | (simp; omega) | (simp [*]; done)))) | (refine ia_loadC (Cl.of (hb2.keep st.keep (by simp))) rfl rfl rfl ?_ ?_; (focus (first | rfl | (simp; done) | (simp; assumption) | (simp; omega) | (simp [*]; done)))))) | ((with_reducible refine gate_addr rfl ?_); (first | (refine' ia_slcP HP.out rfl rfl rfl rfl ?_ ?_ ?_) | (refine' ia_slcP HP2.out rfl rfl rfl rfl ?_ ?_ ?_)); rotate_left 1; (focus (first | exact (rfl : (0 : Int) = ((0 : Nat) : Int)) | exact (rfl : (1 : Int) = ((1 : Nat) : Int)) | exact rfl | exact HE1.out | exact HE2.out)); (focus (first | omega | (simp; done) | (simp; omega) | (simp [*]; omega)))))))
  obtain ⟨G, hG⟩ : ∃ G, g = G := ⟨_, rfl⟩
  obtain ⟨spare0, hs0⟩ : ∃ s, spare = s := ⟨_, rfl⟩
  rw [hG, hs0] at st
  rw [hG]
  clear hG hs0 hcap hcm
  go_loopw [5, 6, 7] (fun v u i wr => ∃ k m g cap g' cap' : Nat, ∃ spare spare' : List Value, k ≤ n ∧ m ≤ k ∧ Hid ((dst (B.take k)).1.length = m) ∧ i = .int .i64 k ∧ v = .slice (some ⟨g, 0, none⟩) m cap ∧ u = .slice (some ⟨g', 0, none⟩) k cap' ∧ St [] w wr [(g', encs i1 (plI (dst (B.take k)).2) ++ spare', 2), (g, encs fv (dst (B.take k)).1 ++ spare, 72), (G, encs i1 (repL B) ++ spare0, 2)] ∧ Hid ((encs fv (dst (B.take k)).1 ++ spare).length = cap * 12) ∧ cap ≤ maxLen ∧ Hid ((encs i1 (plI (dst (B.take k)).2) ++ spare').length = cap' * 1) ∧ cap' ≤ maxLen) (fun _ _ i _ => n - (intOf i).toNat)
  case atStart => exact ⟨0, 0, B10, 0, B11, 0, [], [], by omega, by omega, hid rfl, rfl, rfl, rfl, st, hid rfl, Nat.zero_le _, hid rfl, Nat.zero_le _⟩
  case round =>
    clear st
    obtain ⟨k, m, g, cap, g', cap', spare, spare', hk, hmk, HM, rfl, rfl, rfl, st, HC, hcm, HC', hcm'⟩ := hrel
    by_cases hlt : k < n
    · have hd : decide ((k : Int) < (n : Int)) = true := by simpa using hlt
      obtain ⟨b, f, hp, hcl⟩ := hr (by omega)
      have HP := hid hp
      have hkB : k < B.length := by rw [hB.out]; exact hlt
      have hb := hcl.seg fv_len hkB
      have HPL : Hid ((dst (B.take k)).2.length = k) := hid (by rw [dst_len, List.length_take, hB.out]; omega)
      have N0 : Hid ((encs i1 (repL B) ++ spare0)[0 + k * 1]? = some (.int .i64 (fidx B[k] B : Nat))) := hid (i1_at' (repL_get hkB))
      have N1 : Hid ((encs i1 (repL B) ++ spare0)[k]? = some (.int .i64 (fidx B[k] B : Nat))) := hid (i1_at (R := []) (repL_get hkB))
      have HNEW := hid (dst_new hkB)
      have HOLD := hid (dst_old hkB)
      obtain ⟨x, hx⟩ : ∃ x, B[k] = x := ⟨_, rfl⟩
      rw [hx] at hb N0 N1 HNEW HOLD
      obtain ⟨q, hq⟩ : ∃ q, fidx x B = q := ⟨_, rfl⟩
      rw [hq] at N0 N1 HNEW HOLD
      obtain ⟨O, hO⟩ : ∃ O, (dst (B.take k)).1 = O := ⟨_, rfl⟩
      obtain ⟨Q, hQ⟩ : ∃ Q, (dst (B.take k)).2 = Q := ⟨_, rfl⟩
      rw [hO] at HM st HC HNEW HOLD
      rw [hQ] at st HC' HPL HNEW HOLD
      clear hx hp hcl hkB hO hQ hq
      by_cases hqk : q = k
      · have HT := hid (HNEW.out hqk)
        have hd2 : decide ((q : Int) = (k : Int)) = true := by simp; omega
        have hd3 : ((q : Int) == (k : Int)) = true := by simp; omega
        have HMM := HM
        rw [HM.out] at HT
        clear hqk HNEW HOLD
        go_wp2_with (first | ((with_reducible refine gate_bsl rfl ?_); refine ia_bsl1 (sl := 27) st rfl rfl rfl rfl rfl ?_ (by decide) ?_; (focus (first | rfl | (simp; done) | (simp; assumption) | (simp; omega) | (simp [*]; done))); clear st; intro B27 _ st) | ((with_reducible refine gate_bsl rfl ?_); refine ia_bsl1 (sl := 34) st rfl rfl rfl rfl rfl ?_ (by decide) ?_; (focus (first | rfl | (simp; done) | (simp; assumption) | (simp; omega) | (simp [*]; done))); clear st; intro B34 _ st) | ((with_reducible refine gate_app rfl ?_); refine ia_appendR (news := (i1 (m : Nat))) (xs := (encs i1 (plI Q))) (spare := spare') st rfl rfl rfl rfl (by rw [encs_i1_length, plI_length, HPL.out, Nat.mul_one]) HC'.out hcm' (.fr (st.get (by repeat (first | exact At.here | apply At.there)))) (fun h => by cases h) (i1_len _) (i1_one _) (by unfold maxLen; omega) (by omega) ?_; clear st; intro g2 cap2 spare2 _ st hcap2 hcm2; (try simp only [List.set_cons_zero, List.set_cons_succ] at st)) | ((with_reducible refine gate_app rfl ?_); refine ia_appendR (news := (fv x)) (xs := (encs fv O)) (spare := spare) st rfl rfl rfl rfl (by rw [encs_fv_length, HM.out]) HC.out hcm (.fr (st.get (by repeat (first | exact At.here | apply At.there)))) (fun h => by cases h) (fv_len _) (fv_one _) (by unfold maxLen; omega) (by omega) ?_; clear st; intro g3 cap3 spare3 _ st hcap3 hcm3; (try simp only [List.set_cons_zero, List.set_cons_succ] at st)) | ((with_reducible refine gate_lst ?_); (first | ((with_reducible refine gate_load rfl ?_); (first | (refine' ia_load1 st rfl rfl rfl ?_ ?_; rotate_left 1; (focus (first | exact N0.out | exact N1.out | exact N2.out | exact N3.out | exact N4.out | exact N5.out | exact G2.out | exact G3.out | exact G4.out | exact G0.out | exact G1.out | (refine frv_get _ _ ?_; (first | omega | (simp; done) | (simp; omega) | (simp [*]; omega))) | exact rfl))) | (refine' ia_load1Z (hb.keep st.keep (by simp)) rfl rfl rfl ?_ ?_; rotate_left 1; (focus exact rfl)) | (refine' ia_load1Z (hb'.keep st.keep (by simp)) rfl rfl rfl ?_ ?_; rotate_left 1; (focus exact rfl)) | (refine' ia_load1C (hb.keep st.keep (by simp)) rfl rfl rfl ?_ ?_; rotate_left 1; (focus (first | exact N0.out | exact N1.out | exact N2.out | exact N3.out | exact N4.out | exact N5.out | exact G2.out | exact G3.out | exact G4.out | exact G0.out | exact G1.out | (refine frv_get _ _ ?_; (first | omega | (simp; done) | (simp; omega) | (simp [*]; omega))) | exact rfl))) | (refine' ia_load1C (hb'.keep st.keep (by simp)) rfl rfl rfl ?_ ?_; rotate_left 1; (focus (first | exact N0.out | exact N1.out | exact N2.out | exact N3.out | exact N4.out | exact N5.out | exact G2.out | exact G3.out | exact G4.out | exact G0.out | exact G1.out | (refine frv_get _ _ ?_; (first | omega | (simp; done) | (simp; omega) | (simp [*]; omega))) | exact rfl))) | (refine' ia_load1B (hb1.keep st.keep (by simp)) rfl rfl rfl ?_ ?_; rotate_left 1; (focus (first | exact N0.out | exact N1.out | exact N2.out | exact N3.out | exact N4.out | exact N5.out | exact G2.out | exact G3.out | exact G4.out | exact G0.out | exact G1.out | (refine frv_get _ _ ?_; (first | omega | (simp; done) | (simp; omega) | (simp [*]; omega))) | exact rfl))) | (refine' ia_load1B (hb2.keep st.keep (by simp)) rfl rfl rfl ?_ ?_; rotate_left 1; (focus (first | exact N0.out | exact N1.out | exact N2.out | exact N3.out | exact N4.out | exact N5.out | exact G2.out | exact G3.out | exact G4.out | exact G0.out | exact G1.out | (refine frv_get _ _ ?_; (first | omega | (simp; done) | (simp; omega) | (simp [*]; omega))) | exact rfl))) | (refine ia_loadAll st rfl rfl rfl ?_ ?_; (focus (first | rfl | (simp; done) | (simp; assumption) | (simp; omega) | (simp [*]; done)))) | (refine ia_loadC (hb.keep st.keep (by simp)) rfl rfl rfl ?_ ?_; (focus (first | rfl | (simp; done) | (simp; assumption) | (simp; omega) | (simp [*]; done)))) | (refine ia_loadC (hb'.keep st.keep (by simp)) rfl rfl rfl ?_ ?_; (focus (first | rfl | (simp; done) | (simp; assumption) | (simp; omega) | (simp [*]; done)))) | (refine ia_loadC (Cl.of (hb1.keep st.keep (by simp))) rfl rfl rfl ?_ ?_; (focus (first | rfl | (simp; done) | (simp; assumption) | (simp; omega) | (simp [*]; done)))) | (refine ia_loadC (Cl.of (hb2.keep st.keep (by simp))) rfl rfl rfl ?_ ?_; (focus (first | rfl | (simp; done) | (simp; assumption) | (simp; omega) | (simp [*]; done)))))) | ((with_reducible refine gate_addr rfl ?_); (first | (refine' ia_slcP HP.out rfl rfl rfl rfl ?_ ?_ ?_) | (refine' ia_slcP HP2.out rfl rfl rfl rfl ?_ ?_ ?_)); rotate_left 1; (focus (first | exact (rfl : (0 : Int) = ((0 : Nat) : Int)) | exact (rfl : (1 : Int) = ((1 : Nat) : Int)) | exact rfl | exact HE1.out | exact HE2.out)); (focus (first | omega | (simp; done) | (simp; omega) | (simp [*]; omega)))))))
        have e : encs i1 (plI (Q ++ [m])) = encs i1 (plI Q) ++ i1 (m : Nat) := by rw [plI_snoc, encs_snoc]
        have e2 : encs fv (O ++ [x]) = encs fv O ++ fv x := encs_snoc _ _ _
        go_roundw
        case rel => exact ⟨k + 1, m + 1, g3, cap3, g2, cap2, spare3, spare2, by omega, by omega, hid (by rw [HT.out, List.length_append, HM.out]; rfl), by go_num, rfl, rfl, by rw [HT.out, e, e2]; exact st.drop.drop, hid (by rw [HT.out, e2]; exact hcap3), hcm3, hid (by rw [HT.out, e]; exact hcap2), hcm2⟩
        case measure => first | (simp [intOf]; done) | (simp [intOf]; omega)
      · obtain ⟨hqk2, r, hr1, hr2⟩ := HOLD.out hqk
        have HT := hid hr2
        have N2 : Hid ((encs i1 (plI Q) ++ spare')[0 + q * 1]? = some (.int .i64 (r : Nat))) := hid (i1_at' (plI_get hr1))
        have N3 : Hid ((encs i1 (plI Q) ++ spare')[q]? = some (.int .i64 (r : Nat))) := hid (i1_at (R := []) (plI_get hr1))
        have hd2 : decide ((q : Int) = (k : Int)) = false := by simp; omega
        have hd3 : ((q : Int) == (k : Int)) = false := by simp; omega
        clear hqk HNEW HOLD hr1 hr2
        go_wp2_with (first | ((with_reducible refine gate_bsl rfl ?_); refine ia_bsl1 (sl := 44) st rfl rfl rfl rfl rfl ?_ (by decide) ?_; (focus (first | rfl | (simp; done) | (simp; assumption) | (simp; omega) | (simp [*]; done))); clear st; intro B44 _ st) | ((with_reducible refine gate_app rfl ?_); refine ia_appendR (news := (i1 (r : Nat))) (xs := (encs i1 (plI Q))) (spare := spare') st rfl rfl rfl rfl (by rw [encs_i1_length, plI_length, HPL.out, Nat.mul_one]) HC'.out hcm' (.fr (st.get (by repeat (first | exact At.here | apply At.there)))) (fun h => by cases h) (i1_len _) (i1_one _) (by unfold maxLen; omega) (by omega) ?_; clear st; intro g2 cap2 spare2 _ st hcap2 hcm2; (try simp only [List.set_cons_zero, List.set_cons_succ] at st)) | ((with_reducible refine gate_lst ?_); (first | ((with_reducible refine gate_load rfl ?_); (first | (refine' ia_load1 st rfl rfl rfl ?_ ?_; rotate_left 1; (focus (first | exact N0.out | exact N1.out | exact N2.out | exact N3.out | exact N4.out | exact N5.out | exact G2.out | exact G3.out | exact G4.out | exact G0.out | exact G1.out | (refine frv_get _ _ ?_; (first | omega | (simp; done) | (simp; omega) | (simp [*]; omega))) | exact rfl))) | (refine' ia_load1Z (hb.keep st.keep (by simp)) rfl rfl rfl ?_ ?_; rotate_left 1; (focus exact rfl)) | (refine' ia_load1Z (hb'.keep st.keep (by simp)) rfl rfl rfl ?_ ?_; rotate_left 1; (focus exact rfl)) | (refine' ia_load1C (hb.keep st.keep (by simp)) rfl rfl rfl ?_ ?_; rotate_left 1; (focus (first | exact N0.out | exact N1.out | exact N2.out | exact N3.out | exact N4.out | exact N5.out | exact G2.out | exact G3.out | exact G4.out | exact G0.out | exact G1.out | (refine frv_get _ _ ?_; (first | omega | (simp; done) | (simp; omega) | (simp [*]; omega))) | exact rfl))) | (refine' ia_load1C (hb'.keep st.keep (by simp)) rfl rfl rfl ?_ ?_; rotate_left 1; (focus (first | exact N0.out | exact N1.out | exact N2.out | exact N3.out | exact N4.out | exact N5.out | exact G2.out | exact G3.out | exact G4.out | exact G0.out | exact G1.out | (refine frv_get _ _ ?_; (first | omega | (simp; done) | (simp; omega) | (simp [*]; omega))) | exact rfl))) | (refine' ia_load1B (hb1.keep st.keep (by simp)) rfl rfl rfl ?_ ?_; rotate_left 1; (focus (first | exact N0.out | exact N1.out | exact N2.out | exact N3.out | exact N4.out | exact N5.out | exact G2.out | exact G3.out | exact G4.out | exact G0.out | exact G1.out | (refine frv_get _ _ ?_; (first | omega | (simp; done) | (simp; omega) | (simp [*]; omega))) | exact rfl))) | (refine' ia_load1B (hb2.keep st.keep (by simp)) rfl rfl rfl ?_ ?_; rotate_left 1; (focus (first | exact N0.out | exact N1.out | exact N2.out | exact N3.out | exact N4.out | exact N5.out | exact G2.out | exact G3.out | exact G4.out | exact G0.out | exact G1.out | (refine frv_get _ _ ?_; (first | omega | (simp; done) | (simp; omega) | (simp [*]; omega))) | exact rfl))) | (refine ia_loadAll st rfl rfl rfl ?_ ?_; (focus (first | rfl | (simp; done) | (simp; assumption) | (simp; omega) | (simp [*]; done)))) | (refine ia_loadC (hb.keep st.keep (by simp)) rfl rfl rfl ?_ ?_; (focus (first | rfl | (simp; done) | (simp; assumption) | (simp; omega) | (simp [*]; done)))) | (refine ia_loadC (hb'.keep st.keep (by simp)) rfl rfl rfl ?_ ?_; (focus (first | rfl | (simp; done) | (simp; assumption) | (simp; omega) | (simp [*]; done)))) | (refine ia_loadC (Cl.of (hb1.keep st.keep (by simp))) rfl rfl rfl ?_ ?_; (focus (first | rfl | (simp; done) | (simp; assumption) | (simp; omega) | (simp [*]; done)))) | (refine ia_loadC (Cl.of (hb2.keep st.keep (by simp))) rfl rfl rfl ?_ ?_; (focus (first | rfl | (simp; done) | (simp; assumption) | (simp; omega) | (simp [*]; done)))))) | ((with_reducible refine gate_addr rfl ?_); (first | (refine' ia_slcP HP.out rfl rfl rfl rfl ?_ ?_ ?_) | (refine' ia_slcP HP2.out rfl rfl rfl rfl ?_ ?_ ?_)); rotate_left 1; (focus (first | exact (rfl : (0 : Int) = ((0 : Nat) : Int)) | exact (rfl : (1 : Int) = ((1 : Nat) : Int)) | exact rfl | exact HE1.out | exact HE2.out)); (focus (first | omega | (simp; done) | (simp; omega) | (simp [*]; omega)))))))
        have e : encs i1 (plI (Q ++ [r])) = encs i1 (plI Q) ++ i1 (r : Nat) := by rw [plI_snoc, encs_snoc]
        go_roundw
        case rel => exact ⟨k + 1, m, g, cap, g2, cap2, spare, spare2, by omega, by omega, hid (by rw [HT.out]; exact HM.out), by go_num, rfl, rfl, by rw [HT.out, e]; exact st.drop, hid (by rw [HT.out]; exact HC.out), hcm, hid (by rw [HT.out, e]; exact hcap2), hcm2⟩
        case measure => first | (simp [intOf]; done) | (simp [intOf]; omega)
    · have hd : decide ((k : Int) < (n : Int)) = false := by simp; omega
      obtain rfl : k = n := by omega
      go_wp2_with (first | ((with_reducible refine gate_lst ?_); (first | ((with_reducible refine gate_load rfl ?_); (first | (refine' ia_load1 st rfl rfl rfl ?_ ?_; rotate_left 1; (focus (first | exact N0.out | exact N1.out | exact N2.out | exact N3.out | exact N4.out | exact N5.out | exact G2.out | exact G3.out | exact G4.out | exact G0.out | exact G1.out | (refine frv_get _ _ ?_; (first | omega | (simp; done) | (simp; omega) | (simp [*]; omega))) | exact rfl))) | (refine' ia_load1Z (hb.keep st.keep (by simp)) rfl rfl rfl ?_ ?_; rotate_left 1; (focus exact rfl)) | (refine' ia_load1Z (hb'.keep st.keep (by simp)) rfl rfl rfl ?_ ?_; rotate_left 1; (focus exact rfl)) | (refine' ia_load1C (hb.keep st.keep (by simp)) rfl rfl rfl ?_ ?_; rotate_left 1; (focus (first | exact N0.out | exact N1.out | exact N2.out | exact N3.out | exact N4.out | exact N5.out | exact G2.out | exact G3.out | exact G4.out | exact G0.out | exact G1.out | (refine frv_get _ _ ?_; (first | omega | (simp; done) | (simp; omega) | (simp [*]; omega))) | exact rfl))) | (refine' ia_load1C (hb'.keep st.keep (by simp)) rfl rfl rfl ?_ ?_; rotate_left 1; (focus (first | exact N0.out | exact N1.out | exact N2.out | exact N3.out | exact N4.out | exact N5.out | exact G2.out | exact G3.out | exact G4.out | exact G0.out | exact G1.out | (refine frv_get _ _ ?_; (first | omega | (simp; done) | (simp; omega) | (simp [*]; omega))) | exact rfl))) | (refine' ia_load1B (hb1.keep st.keep (by simp)) rfl rfl rfl ?_ ?_; rotate_left 1; (focus (first | exact N0.out | exact N1.out | exact N2.out | exact N3.out | exact N4.out | exact N5.out | exact G2.out | exact G3.out | exact G4.out | exact G0.out | exact G1.out | (refine frv_get _ _ ?_; (first | omega | (simp; done) | (simp; omega) | (simp [*]; omega))) | exact rfl))) | (refine' ia_load1B (hb2.keep st.keep (by simp)) rfl rfl rfl ?_ ?_; rotate_left 1; (focus (first | exact N0.out | exact N1.out | exact N2.out | exact N3.out | exact N4.out | exact N5.out | exact G2.out | exact G3.out | exact G4.out | exact G0.out | exact G1.out | (refine frv_get _ _ ?_; (first | omega | (simp; done) | (simp; omega) | (simp [*]; omega))) | exact rfl))) | (refine ia_loadAll st rfl rfl rfl ?_ ?_; (focus (first | rfl | (simp; done) | (simp; assumption) | (simp; omega) | (simp [*]; done)))) | (refine ia_loadC (hb.keep st.keep (by simp)) rfl rfl rfl ?_ ?_; (focus (first | rfl | (simp; done) | (simp; assumption) | (simp; omega) | (simp [*]; done)))) | (refine ia_loadC (hb'.keep st.keep (by simp)) rfl rfl rfl ?_ ?_; (focus (first | rfl | (simp; done) | (simp; assumption) | (simp; omega) | (simp [*]; done)))) | (refine ia_loadC (Cl.of (hb1.keep st.keep (by simp))) rfl rfl rfl ?_ ?_; (focus (first | rfl | (simp; done) | (simp; assumption) | (simp; omega) | (simp [*]; done)))) | (refine ia_loadC (Cl.of (hb2.keep st.keep (by simp))) rfl rfl rfl ?_ ?_; (focus (first | rfl | (simp; done) | (simp; assumption) | (simp; omega) | (simp [*]; done)))))) | ((with_reducible refine gate_addr rfl ?_); (first | (refine' ia_slcP HP.out rfl rfl rfl rfl ?_ ?_ ?_) | (refine' ia_slcP HP2.out rfl rfl rfl rfl ?_ ?_ ?_)); rotate_left 1; (focus (first | exact (rfl : (0 : Int) = ((0 : Nat) : Int)) | exact (rfl : (1 : Int) = ((1 : Nat) : Int)) | exact rfl | exact HE1.out | exact HE2.out)); (focus (first | omega | (simp; done) | (simp; omega) | (simp [*]; omega)))))))
      go_ret2
      have ne : g ≠ g' := by
        have := st.nd
        simp only [List.map_cons, List.nodup_cons, List.mem_cons, not_or] at this
        exact fun e => this.1.1 e.symm
      rw [HALL.out] at HM HC HC' st
      exact ⟨_, _, rfl, ⟨g, cap, spare, g', cap', spare', by rw [← HM.out]; rfl, rfl, out_of st (.there .here), out_of st .here, ne, st.get (.there .here), st.get .here, HC.out, hcm, HC'.out, hcm'⟩, st.keep⟩
/-- Two slices and a code: both nil where nilOk lets it be. -/
def DistCode (R : List Fm) (I : List Int) (m n : Nat) (code : Int) (nilOk : Prop) (w : World) (e : Ending) (w' : World) : Prop :=
  ∃ v u, e = .returned (.tuple #[v, u, .int .i64 code]) ∧ ((nilOk ∧ (m = 0 ∧ n = 0) ∧ v = .slice none 0 0 ∧ u = .slice none 0 0) ∨ Gives2 72 2 12 1 m n (encs fv R) (encs i1 I) w v u w') ∧ Keep [] w w'
def disR (B : List Fm) : List Fm := if bkB B = true then dbk B else []
def disI (B : List Fm) : List Int := if bkB B = true then dpl B else []
theorem dpl_length (B : List Fm) : (dpl B).length = B.length := by unfold dpl; rw [plI_length, dst_len]
theorem specDistinct_c (B : List Fm) (n : Nat) (hB : B.length = n) (hn : n ≤ 1000000) (p : Option Addr) (c : Nat) (w : World) (hr : Rd w p n (encs fv B)) :
    Calls Tryz.prog 25 #[.slice p n c] w (DistCode (disR B) (disI B) (disR B).length (disI B).length (okC B) False w) := by
  have st := St.start w
  unfold disR disI okC
  rcases Bool.eq_false_or_eq_true (bkB B) with h | h
  · have HV := hid (fun w' hk => l02Ok_v h n hB (by omega) p c w' (hr.keep (w1 := w') hk))
    have HJ := hid (fun w' hk => l02Distinct_c B n hB hn p c w' (hr.keep (w1 := w') hk))
    rw [if_pos h, if_pos h, if_pos h, dpl_length, hB]
    go_enter Tryz.func25, Tryz.ntmps25
    go_wp2_with (first | (go_at_call 48; refine (HV.out _ st.keep).mono ?_; rintro _ _ ⟨rfl, hk⟩; replace st := st.call hk; clear hk) | (go_at_call 49; refine (HJ.out _ st.keep).mono ?_; rintro _ _ ⟨v, u, rfl, ⟨g, cap, spare, g', cap', spare', rfl, rfl, hg, hg', hne, hbg, hbg', hcap, hcm, hcap', hcm'⟩, hk⟩; replace st := st.adopt2 hk hg hg' hne hbg hbg'; clear hk hg hg' hne hbg hbg'))
    go_ret3
    have ne := st.nd
    simp only [List.map_cons, List.nodup_cons, List.mem_cons, not_or] at ne
    exact ⟨_, _, rfl, Or.inr ⟨g, cap, spare, g', cap', spare', rfl, rfl, out_of st .here, out_of st (.there .here), ne.1.1, st.get .here, st.get (.there .here), hcap, hcm, hcap', hcm'⟩, st.keep⟩
  · have HV := hid (fun w' hk => l02Ok_v h n hB (by omega) p c w' (hr.keep (w1 := w') hk))
    rw [if_neg (by rw [h]; decide), if_neg (by rw [h]; decide), if_neg (by rw [h]; decide)]
    go_enter Tryz.func25, Tryz.ntmps25
    go_wp2_with (first | (go_at_call 48; refine (HV.out _ st.keep).mono ?_; rintro _ _ ⟨rfl, hk⟩; replace st := st.call hk; clear hk) | ((with_reducible refine gate_bsl rfl ?_); refine ia_bsl0 (sl := 10) st rfl rfl rfl ?_; clear st; intro B10 _ st) | ((with_reducible refine gate_bsl rfl ?_); refine ia_bsl0 (sl := 11) st rfl rfl rfl ?_; clear st; intro B11 _ st))
    go_ret3
    have ne := st.nd
    simp only [List.map_cons, List.nodup_cons, List.mem_cons, not_or] at ne
    exact ⟨_, _, rfl, Or.inr ⟨B10, 0, [], B11, 0, [], rfl, rfl, out_of st (.there .here), out_of st .here, fun e => ne.1.1 e.symm, st.get (.there .here), st.get .here, rfl, Nat.zero_le _, rfl, Nat.zero_le _⟩, st.keep⟩
end Go.Proofs.YtlljflmbnbjccaaGreatDoor
/- Short sheets and the sheets of books, by plain mathematics: they show the same ticks, with no more shots; no condition. -/
namespace Go.Proofs.YtlljflmbnbjccaaGreatDoor
open Go.RowKit
set_option linter.unusedSimpArgs false
set_option linter.unusedVariables false
theorem nil_or_snoc (l : List Sh) : l = [] ∨ ∃ (O : List Sh) (q c : Int), l = O ++ [(q, c)] := by
  rcases List.eq_nil_or_concat l with h | ⟨O, ⟨q, c⟩, h⟩
  · exact Or.inl h
  · exact Or.inr ⟨O, q, c, by rw [h, List.concat_eq_append]⟩
/-- A sheet shows these ticks, its holds are good. -/
def Shw (out : List Sh) (T : List Int) : Prop := tkS out = T ∧ ∀ s ∈ out, (1 ≤ s.2 ∧ s.2 ≤ 24) ∧ s.1 ∈ T
theorem Shw.nil : Shw [] [] := ⟨rfl, by simp⟩
theorem rep_one {h : Int} (h0 : 0 ≤ h) (p : Int) : List.replicate (h + 1).toNat p = List.replicate h.toNat p ++ [p] := by
  rw [show (h + 1).toNat = h.toNat + 1 by omega, List.replicate_succ']
theorem Shw.new {out : List Sh} {T : List Int} (h : Shw out T) (p : Int) : Shw (out ++ [(p, 1)]) (T ++ [p]) := by
  refine ⟨by rw [tkS_snoc, h.1]; rfl, fun s hs => ?_⟩
  rcases List.mem_append.1 hs with hs | hs
  · have := h.2 s hs
    exact ⟨this.1, List.mem_append_left _ this.2⟩
  · rw [List.mem_singleton] at hs
    subst hs
    exact ⟨⟨by show (1 : Int) ≤ 1; omega, by show (1 : Int) ≤ 24; omega⟩, by simp⟩
theorem Shw.bump {O : List Sh} {p c : Int} {T : List Int} (h : Shw (O ++ [(p, c)]) T) (hc : c < 24) : Shw (O ++ [(p, c + 1)]) (T ++ [p]) := by
  have hb := h.2 (p, c) (by simp)
  simp only at hb
  refine ⟨?_, fun s hs => ?_⟩
  · have e := h.1
    rw [tkS_snoc] at e ⊢
    simp only at e ⊢
    rw [rep_one (by omega), ← List.append_assoc, e]
  · rcases List.mem_append.1 hs with hs | hs
    · have := h.2 s (List.mem_append_left _ hs)
      exact ⟨this.1, List.mem_append_left _ this.2⟩
    · rw [List.mem_singleton] at hs
      subst hs
      exact ⟨⟨by show (1 : Int) ≤ c + 1; omega, by show c + 1 ≤ (24 : Int); omega⟩, by simp⟩
theorem Shw.step {out : List Sh} {T : List Int} (h : Shw out T) (p : Int) : Shw (shSt out p) (T ++ [p]) := by
  rcases nil_or_snoc out with rfl | ⟨O, q, c, rfl⟩
  · rw [shSt_nil]; exact h.new p
  · by_cases hq : q = p ∧ c < 24
    · obtain ⟨rfl, hc⟩ := hq
      rw [shSt_bump hc]; exact h.bump hc
    · rw [shSt_new (Decidable.or_iff_not_not_and_not.2 fun hx => hq ⟨Decidable.not_not.1 hx.1, Decidable.not_not.1 hx.2⟩)]
      exact h.new p
theorem Shw.fold {out : List Sh} {T : List Int} (h : Shw out T) : ∀ U : List Int, Shw (U.foldl shSt out) (T ++ U) := by
  intro U
  induction U generalizing out T with
  | nil => rw [List.append_nil]; exact h
  | cons x U ih =>
    have := ih (h.step x)
    rw [List.append_assoc] at this
    exact this
theorem short_shw (T : List Int) : Shw (shortL T) T := by
  have := Shw.nil.fold T
  rw [List.nil_append] at this
  exact this
theorem short_all {n : Int} {S : List Sh} (h : allSh n S = true) : allSh n (shortL (tkS S)) = true := by
  unfold allSh
  rw [List.all_eq_true]
  intro s hs
  have h1 := (short_shw (tkS S)).2 s hs
  rw [shB_iff]
  exact ⟨tkS_range h s.1 h1.2, h1.1⟩
/-! No more shots. -/
theorem runA (p : Int) : ∀ (m : Nat) (O : List Sh) (c : Int), 1 ≤ c → c + m ≤ 24 → (List.replicate m p).foldl shSt (O ++ [(p, c)]) = O ++ [(p, c + m)] := by
  intro m
  induction m with
  | zero => intro O c _ _; simp
  | succ m ih =>
    intro O c h1 h2
    rw [List.replicate_succ, List.foldl_cons, shSt_bump (by omega), ih O (c + 1) (by omega) (by omega)]
    congr 3
    omega
theorem runB (p : Int) (m : Nat) (O : List Sh) (c : Int) (h1 : 1 ≤ c) (h2 : c ≤ 24) (hm : m ≤ 24) : ((List.replicate m p).foldl shSt (O ++ [(p, c)])).length ≤ O.length + 2 := by
  by_cases hcm : c + m ≤ 24
  · rw [runA p m O c h1 hcm]; simp
  · obtain ⟨r, hr⟩ : ∃ r : Nat, m = (24 - c).toNat + (1 + r) := ⟨m - (24 - c).toNat - 1, by omega⟩
    rw [hr, ← List.replicate_append_replicate, List.foldl_append, runA p (24 - c).toNat O c h1 (by omega), ← List.replicate_append_replicate, List.foldl_append]
    have e : c + ((24 - c).toNat : Int) = 24 := by omega
    rw [e, show List.replicate 1 p = [p] from rfl, List.foldl_cons, List.foldl_nil, shSt_new (Or.inr (by omega)), runA p r (O ++ [(p, 24)]) 1 (by omega) (by omega)]
    simp
theorem run_len (out : List Sh) (T : List Int) (h : Shw out T) (p : Int) (m : Nat) (h1 : 1 ≤ m) (h2 : m ≤ 24) : ((List.replicate m p).foldl shSt out).length ≤ out.length + 1 := by
  obtain ⟨r, rfl⟩ : ∃ r, m = r + 1 := ⟨m - 1, by omega⟩
  rcases nil_or_snoc out with rfl | ⟨O, q, c, rfl⟩
  · rw [List.replicate_succ, List.foldl_cons, shSt_nil]
    have := runA p r [] 1 (by omega) (by omega)
    rw [List.nil_append] at this
    rw [this]
    simp
  · have hb := h.2 (q, c) (by simp)
    simp only at hb
    by_cases hq : q = p
    · subst hq
      have := runB q (r + 1) O c hb.1.1 hb.1.2 h2
      simp only [List.length_append, List.length_cons, List.length_nil] at this ⊢
      omega
    · rw [List.replicate_succ, List.foldl_cons, shSt_new (Or.inl hq), runA p r _ 1 (by omega) (by omega)]
      simp
theorem short_le {n : Int} {S : List Sh} (h : allSh n S = true) : (shortL (tkS S)).length ≤ S.length := by
  have : ∀ (S : List Sh) (out : List Sh) (T : List Int), Shw out T → allSh n S = true → ((tkS S).foldl shSt out).length ≤ out.length + S.length := by
    intro S
    induction S with
    | nil => intro out T _ _; simp [tkS]
    | cons s S ih =>
      intro out T hT hS
      unfold allSh at hS
      rw [List.all_cons, Bool.and_eq_true] at hS
      have hb := (shB_iff.1 hS.1).2
      have e : tkS (s :: S) = List.replicate s.2.toNat s.1 ++ tkS S := by simp [tkS]
      rw [e, List.foldl_append]
      have h1 := run_len out T hT s.1 s.2.toNat (by omega) (by omega)
      have h2 := ih _ _ (hT.fold (List.replicate s.2.toNat s.1)) hS.2
      rw [List.length_cons]
      omega
  have h0 := this S [] [] Shw.nil h
  rw [List.length_nil, Nat.zero_add] at h0
  exact h0
/-! The sheet of some places. -/
theorem len_hold {O : List Sh} {p c : Int} {T : List Int} (h : Shw (O ++ [(p, c)]) T) : c ≤ T.length := by
  have hb := h.2 (p, c) (by simp)
  simp only at hb
  rw [← h.1, tkS_snoc, List.length_append, List.length_replicate]
  simp only
  omega
theorem Shw.so {out : List Sh} {T : List Int} (h : Shw out T) (p : Int) (hT : T.length < 24) : ∃ o, soSt (some out) p = some o ∧ Shw o (T ++ [p]) := by
  rcases nil_or_snoc out with rfl | ⟨O, q, c, rfl⟩
  · exact ⟨_, soSt_nil p, h.new p⟩
  · by_cases hq : q = p
    · subst hq
      have hl := len_hold h
      exact ⟨_, soSt_bump (by omega), h.bump (by omega)⟩
    · exact ⟨_, soSt_new hq, h.new p⟩
theorem so_shw : ∀ (T : List Int), T.length ≤ 24 → ∃ o, soL T = some o ∧ Shw o T := by
  have : ∀ (U : List Int) (out : List Sh) (T : List Int), Shw out T → T.length + U.length ≤ 24 → ∃ o, U.foldl soSt (some out) = some o ∧ Shw o (T ++ U) := by
    intro U
    induction U with
    | nil => intro out T h _; exact ⟨out, rfl, by rw [List.append_nil]; exact h⟩
    | cons x U ih =>
      intro out T h hl
      rw [List.length_cons] at hl
      obtain ⟨o, e1, h1⟩ := h.so x (by omega)
      obtain ⟨o2, e2, h2⟩ := ih o (T ++ [x]) h1 (by rw [List.length_append]; simp; omega)
      refine ⟨o2, by rw [List.foldl_cons, e1]; exact e2, ?_⟩
      rw [List.append_assoc] at h2
      exact h2
  intro T hT
  have h := this T [] [] Shw.nil (by simpa using hT)
  rw [List.nil_append] at h
  exact h
theorem shw_all {n : Int} {o : List Sh} {T : List Int} (h : Shw o T) (hT : ∀ x ∈ T, 0 ≤ x ∧ x ≤ n - 1) : allSh n o = true := by
  unfold allSh
  rw [List.all_eq_true]
  intro s hs
  have h1 := h.2 s hs
  rw [shB_iff]
  exact ⟨hT s.1 h1.2, h1.1⟩
end Go.Proofs.YtlljflmbnbjccaaGreatDoor
