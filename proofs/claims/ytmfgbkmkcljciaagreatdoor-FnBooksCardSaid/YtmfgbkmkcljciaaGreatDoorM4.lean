/- Texts of this seat, one behind the other: LRd2, Rb, DoorM, B10, I64, Pl, Jmp; no condition. -/
import Derived.Test.YtmfgbkmkcljciaaGreatDoorM3
import Derived.WalkKit
/- The law ReadFrame: the program, and what the law answers; no condition. -/
namespace Go.Proofs.YtmfgbkmkcljciaaGreatDoor
open Go.RowKit
set_option linter.unusedSimpArgs false
set_option linter.unusedVariables false
section
variable {P : Program} {ops : Array Oper} {rest : List Oper} {o : Oper} {a : Act} {C : World → Prop} {Q : Act → Prop}
theorem qa_sneq {T U : TypeId} {x y : Operand} {l m : List UInt8} {v : Bool} (hv : (!decide (l = m)) = v) (hgd : o.guard = none) (ho : o.op = .binOp .neq T x y U) (hx : a.eval x = .string ⟨l.toArray⟩) (hy : a.eval y = .string ⟨m.toArray⟩)
    (h : wpQuiet P ops C Q rest (a.put o.dst (.bool v))) : wpQuiet P ops C Q (o :: rest) a :=
  wpq_val hgd _ (fun w' _ => by
    subst hv
    unfold execOp
    simp only [ho, hx, hy]
    by_cases e : l = m
    · subst e; go_simp
    · go_simp) h
end
theorem ReadFrame1_c (l : List UInt8) (hl : l.length = 156) (b : Nat) (T : TypeId) (x y : Nat) (hx : x < 12) (hy : y < 12) (w : World) (hb : Blk w b [.string ⟨l.toArray⟩] T) :
    Calls Tryz.prog 67 #[.int .i64 x, .int .i64 y, .pointer (some ⟨b, 0, none⟩)] w fun e w' => e = .returned (.bool (riP l x y)) ∧ Keep [] w w' := by
  have st := St.start w
  have hk : y * 13 + x < l.length := by omega
  obtain ⟨k, hkk⟩ : ∃ k, y * 13 + x = k := ⟨_, rfl⟩
  rw [hkk] at hk
  have HK : Hid ((y : Int) * 13 + (x : Int) = (k : Int)) := hid (by omega)
  obtain ⟨ch, hch⟩ : ∃ ch, l.getD k 0 = ch := ⟨_, rfl⟩
  have HC := hid hch
  have HR : Hid (riP l x y = decide (ch = 35)) := hid (by unfold riP; rw [hkk, hch])
  obtain ⟨v, hv⟩ : ∃ v, ch.toNat = v := ⟨_, rfl⟩
  have HV := hid hv
  have hb1 := hb
  clear hch hkk hv
  go_enter Tryz.func67, Tryz.ntmps67
  go_wp2_with (first | ((with_reducible refine gate_ind rfl ?_); refine ia_sidx (l := l) (k := k) rfl rfl rfl (congrArg (Value.int IntKind.i64) HK.out) Tryz.underlying9 hk ?_; rw [HC.out, HV.out]) | ((with_reducible refine gate_lst ?_); (first | ((with_reducible refine gate_load rfl ?_); (first | (refine' ia_load1 st rfl rfl rfl ?_ ?_; rotate_left 1; (focus (first | exact N0.out | exact N1.out | exact N2.out | exact N3.out | exact N4.out | exact N5.out | exact G2.out | exact G3.out | exact G4.out | exact G0.out | exact G1.out | (refine frv_get _ _ ?_; (first | omega | (simp; done) | (simp; omega) | (simp [*]; omega))) | exact rfl))) | (refine' ia_load1Z (hb.keep st.keep (by simp)) rfl rfl rfl ?_ ?_; rotate_left 1; (focus exact rfl)) | (refine' ia_load1Z (hb'.keep st.keep (by simp)) rfl rfl rfl ?_ ?_; rotate_left 1; (focus exact rfl)) | (refine' ia_load1C (hb.keep st.keep (by simp)) rfl rfl rfl ?_ ?_; rotate_left 1; (focus (first | exact N0.out | exact N1.out | exact N2.out | exact N3.out | exact N4.out | exact N5.out | exact G2.out | exact G3.out | exact G4.out | exact G0.out | exact G1.out | (refine frv_get _ _ ?_; (first | omega | (simp; done) | (simp; omega) | (simp [*]; omega))) | exact rfl))) | (refine' ia_load1C (hb'.keep st.keep (by simp)) rfl rfl rfl ?_ ?_; rotate_left 1; (focus (first | exact N0.out | exact N1.out | exact N2.out | exact N3.out | exact N4.out | exact N5.out | exact G2.out | exact G3.out | exact G4.out | exact G0.out | exact G1.out | (refine frv_get _ _ ?_; (first | omega | (simp; done) | (simp; omega) | (simp [*]; omega))) | exact rfl))) | (refine' ia_load1B (hb1.keep st.keep (by simp)) rfl rfl rfl ?_ ?_; rotate_left 1; (focus (first | exact N0.out | exact N1.out | exact N2.out | exact N3.out | exact N4.out | exact N5.out | exact G2.out | exact G3.out | exact G4.out | exact G0.out | exact G1.out | (refine frv_get _ _ ?_; (first | omega | (simp; done) | (simp; omega) | (simp [*]; omega))) | exact rfl))) | (refine' ia_load1B (hb2.keep st.keep (by simp)) rfl rfl rfl ?_ ?_; rotate_left 1; (focus (first | exact N0.out | exact N1.out | exact N2.out | exact N3.out | exact N4.out | exact N5.out | exact G2.out | exact G3.out | exact G4.out | exact G0.out | exact G1.out | (refine frv_get _ _ ?_; (first | omega | (simp; done) | (simp; omega) | (simp [*]; omega))) | exact rfl))))))))
  go_ret
  refine ⟨ret_bool (a := (((v : Nat) : Int) == 35)) (b := riP l x y) ?_, st.keep⟩
  rw [HR.out]
  rw [Bool.eq_iff_iff, beq_iff_eq, decide_eq_true_eq]
  constructor
  · intro e; exact UInt8.toNat_inj.1 (by rw [HV.out]; show v = 35; omega)
  · intro e; have := HV.out; rw [e] at this; rw [← this]; rfl
theorem ReadFrame_tells (l : List UInt8) (hl : l.length = 156) (b : Nat) (T : TypeId) (w : World) (hb : Blk w b [.string ⟨l.toArray⟩] T) : Tells (.func (.func 67) #[] #[.pointer (some ⟨b, 0, none⟩)]) (riP l) w :=
  ⟨67, _, #[.pointer (some ⟨b, 0, none⟩)], rfl, Tryz.func67, by kernel_rfl, by kernel_rfl, fun x y w1 hx hy hk => ReadFrame1_c l hl b T x y hx hy w1 (hb.keep0 hk)⟩
set_option maxHeartbeats 1000000 in
set_option maxRecDepth 100000 in
theorem ReadFrame_c (l : List UInt8) (hl : l.length ≤ 2000000) (w : World) :
    Calls Tryz.prog 35 #[.string ⟨l.toArray⟩] w fun e w' => e = .returned (.tuple #[.agg (frv (riF l)).toArray, .int .i64 (if riB l = true then 0 else 5)]) ∧ Keep [] w w' := by
  have st := St.start w
  obtain ⟨n, hn⟩ : ∃ n, l.length = n := ⟨_, rfl⟩
  have hsz : (⟨l.toArray⟩ : ByteArray).size = n := by rw [← hn]; rfl
  rw [hn] at hl
  by_cases h156 : n = 156
  rotate_left 1
  · have hB : riB l = false := by unfold riB; rw [hn, decide_eq_false h156]; rfl
    have hF : riF l = zf := by unfold riF; rw [hB]; rfl
    rw [hB, hF]
    have hne : ((n : Int) == 156) = false := by rw [beq_eq_false_iff_ne]; omega
    clear hB hF hn h156
    rw [if_neg (by simp)]
    go_enter Tryz.func35, Tryz.ntmps35
    go_wp2_with (first | ((with_reducible refine gate_lst ?_); (first | ((with_reducible refine gate_box rfl ?_); (first | (refine ia_box (sl := 1) st rfl rfl rfl rfl rfl ?_; clear st; intro B1 _ st))) | ((with_reducible refine gate_alloc rfl ?_); (first | (refine ia_alloc (sl := 2) st rfl rfl rfl ?_; clear st; intro B2 _ st) | (refine ia_alloc (sl := 4) st rfl rfl rfl ?_; clear st; intro B4 _ st))) | ((with_reducible refine gate_load rfl ?_); (first | (refine' ia_load1 st rfl rfl rfl ?_ ?_; rotate_left 1; (focus (first | exact N0.out | exact N1.out | exact N2.out | exact N3.out | exact N4.out | exact N5.out | exact G2.out | exact G3.out | exact G4.out | exact G0.out | exact G1.out | (refine frv_get _ _ ?_; (first | omega | (simp; done) | (simp; omega) | (simp [*]; omega))) | exact rfl))) | (refine' ia_load1Z (hb.keep st.keep (by simp)) rfl rfl rfl ?_ ?_; rotate_left 1; (focus exact rfl)) | (refine' ia_load1Z (hb'.keep st.keep (by simp)) rfl rfl rfl ?_ ?_; rotate_left 1; (focus exact rfl)) | (refine' ia_load1C (hb.keep st.keep (by simp)) rfl rfl rfl ?_ ?_; rotate_left 1; (focus (first | exact N0.out | exact N1.out | exact N2.out | exact N3.out | exact N4.out | exact N5.out | exact G2.out | exact G3.out | exact G4.out | exact G0.out | exact G1.out | (refine frv_get _ _ ?_; (first | omega | (simp; done) | (simp; omega) | (simp [*]; omega))) | exact rfl))) | (refine' ia_load1C (hb'.keep st.keep (by simp)) rfl rfl rfl ?_ ?_; rotate_left 1; (focus (first | exact N0.out | exact N1.out | exact N2.out | exact N3.out | exact N4.out | exact N5.out | exact G2.out | exact G3.out | exact G4.out | exact G0.out | exact G1.out | (refine frv_get _ _ ?_; (first | omega | (simp; done) | (simp; omega) | (simp [*]; omega))) | exact rfl))) | (refine' ia_load1B (hb1.keep st.keep (by simp)) rfl rfl rfl ?_ ?_; rotate_left 1; (focus (first | exact N0.out | exact N1.out | exact N2.out | exact N3.out | exact N4.out | exact N5.out | exact G2.out | exact G3.out | exact G4.out | exact G0.out | exact G1.out | (refine frv_get _ _ ?_; (first | omega | (simp; done) | (simp; omega) | (simp [*]; omega))) | exact rfl))) | (refine' ia_load1B (hb2.keep st.keep (by simp)) rfl rfl rfl ?_ ?_; rotate_left 1; (focus (first | exact N0.out | exact N1.out | exact N2.out | exact N3.out | exact N4.out | exact N5.out | exact G2.out | exact G3.out | exact G4.out | exact G0.out | exact G1.out | (refine frv_get _ _ ?_; (first | omega | (simp; done) | (simp; omega) | (simp [*]; omega))) | exact rfl))) | (refine ia_loadAll st rfl rfl rfl ?_ ?_; (focus (first | rfl | (simp; done) | (simp; assumption) | (simp; omega) | (simp [*]; done)))) | (refine ia_loadC (hb.keep st.keep (by simp)) rfl rfl rfl ?_ ?_; (focus (first | rfl | (simp; done) | (simp; assumption) | (simp; omega) | (simp [*]; done)))) | (refine ia_loadC (hb'.keep st.keep (by simp)) rfl rfl rfl ?_ ?_; (focus (first | rfl | (simp; done) | (simp; assumption) | (simp; omega) | (simp [*]; done)))) | (refine ia_loadC (Cl.of (hb1.keep st.keep (by simp))) rfl rfl rfl ?_ ?_; (focus (first | rfl | (simp; done) | (simp; assumption) | (simp; omega) | (simp [*]; done)))) | (refine ia_loadC (Cl.of (hb2.keep st.keep (by simp))) rfl rfl rfl ?_ ?_; (focus (first | rfl | (simp; done) | (simp; assumption) | (simp; omega) | (simp [*]; done)))))) | ((with_reducible refine gate_store rfl ?_); (first | (refine ia_storeAll st rfl rfl rfl rfl ?_ ?_ ?_ ?_; (focus (first | rfl | (simp; done) | (simp; assumption) | (simp; omega) | (simp [*]; done))); (focus (first | exact frv_one _ | exact fv_one _ | exact p8_one _ | exact k3_one _ | exact i1_one _ | (simp [Value.oneCell']; done))); (focus (first | rfl | (simp; done) | (simp; assumption) | (simp; omega) | (simp [*]; done))); clear st; intro _ st; (try simp only [List.set_cons_zero, List.set_cons_succ] at st)) | (refine ia_storeSeg st rfl rfl rfl rfl ?_ ?_ ?_ ?_; (focus (first | rfl | (simp; done) | (simp; assumption) | (simp; omega) | (simp [*]; done))); (focus (first | exact frv_one _ | exact fv_one _ | exact p8_one _ | exact k3_one _ | exact i1_one _ | (simp [Value.oneCell']; done))); (focus (first | omega | (simp; done) | (simp; omega) | (simp [*]; omega))); clear st; intro _ st; (try simp only [List.set_cons_zero, List.set_cons_succ] at st)))) | ((with_reducible refine gate_build rfl ?_); refine' la_build ?_ rfl rfl ?_; rotate_left 1; (focus ((try simp only [List.map_cons, List.map_nil, Act.put, Act.eval, Array.getD_eq_getD_getElem?, List.getElem?_toArray, List.getElem?_cons_succ, List.getElem?_cons_zero, Option.getD_some, List.setIfInBounds_toArray, List.set_cons_succ, List.set_cons_zero, List.getElem_toArray, List.getElem_cons_succ, List.getElem_cons_zero]); (first | (with_reducible exact tFrB) | (with_reducible exact built_fil))))))) | ((with_reducible refine qgate_nil ?_); refine wpQuiet_nil ?_; (try intro _ st)) | ((with_reducible refine qgate_any ?_); (first | ((with_reducible refine qgate_load rfl ?_); (first | (refine' iq_load1 rfl rfl rfl ?_ ?_; rotate_left 1; (focus (first | exact N0.out | exact N1.out | exact N2.out | exact N3.out | exact N4.out | exact N5.out | exact G2.out | exact G3.out | exact G4.out | exact G0.out | exact G1.out | (refine frv_get _ _ ?_; (first | omega | (simp; done) | (simp; omega) | (simp [*]; omega))) | exact rfl))) | (refine' iq_load1Z hb rfl rfl rfl ?_ ?_; rotate_left 1; (focus exact rfl)) | (refine' iq_load1Z hb' rfl rfl rfl ?_ ?_; rotate_left 1; (focus exact rfl)) | (refine' iq_load1C hb rfl rfl rfl ?_ ?_; rotate_left 1; (focus (first | exact N0.out | exact N1.out | exact N2.out | exact N3.out | exact N4.out | exact N5.out | exact G2.out | exact G3.out | exact G4.out | exact G0.out | exact G1.out | (refine frv_get _ _ ?_; (first | omega | (simp; done) | (simp; omega) | (simp [*]; omega))) | exact rfl))) | (refine' iq_load1C hb' rfl rfl rfl ?_ ?_; rotate_left 1; (focus (first | exact N0.out | exact N1.out | exact N2.out | exact N3.out | exact N4.out | exact N5.out | exact G2.out | exact G3.out | exact G4.out | exact G0.out | exact G1.out | (refine frv_get _ _ ?_; (first | omega | (simp; done) | (simp; omega) | (simp [*]; omega))) | exact rfl))) | (refine iq_loadAll rfl rfl rfl ?_ ?_; (focus (first | rfl | (simp; done) | (simp; assumption) | (simp; omega) | (simp [*]; done)))) | (refine iq_loadC hb rfl rfl rfl ?_ ?_; (focus (first | rfl | (simp; done) | (simp; assumption) | (simp; omega) | (simp [*]; done)))) | (refine iq_loadC hb' rfl rfl rfl ?_ ?_; (focus (first | rfl | (simp; done) | (simp; assumption) | (simp; omega) | (simp [*]; done)))))) | ((with_reducible refine qgate_bin rfl ?_); refine' qa_bin ?_ rfl rfl rfl rfl ?_; rotate_left 1; (focus (first | exact run_add64 (by omega) (by omega) | exact run_sub64 (by omega) (by omega) | (intro w'; go_simp; exact rfl))))); all_goals (try (simp only [Nat.zero_add, Nat.add_zero, Nat.mul_one, Nat.zero_mul, Act.put, Act.eval, Array.getD_eq_getD_getElem?, List.getElem?_toArray, List.getElem?_cons_succ, List.getElem?_cons_zero, Option.getD_some, List.setIfInBounds_toArray, List.set_cons_succ, List.set_cons_zero, List.getElem_toArray, List.getElem_cons_succ, List.getElem_cons_zero]))) | ((with_reducible refine rgate (id := 4) ?_); refine wp_region_quiet_st (id := 4) st (by kernel_rfl) (by kernel_rfl) ?_; clear st))
    refine bodyPost_cell_tmp rfl tFr.toAggT rfl _ rfl _ _ (st.get (by repeat (first | exact At.here | apply At.there))) (by simp [frv_length, zf_length, mk_length, withD_length, part_length, rowsOf_length, *]) _ rfl ?_
    exact ⟨rfl, st.keep⟩
  subst h156
  have hml : (mk (riP l)).length = 12 := mk_length _
  have HW := hid (fun (w' : World) (b : Nat) (T : TypeId) (hb : Blk w' b [.string ⟨l.toArray⟩] T) => where_c _ (riP l) w' (ReadFrame_tells l hn b T w' hb))
  have HT := hid (frameText_c (mk (riP l)) (mk_frOk _))
  obtain ⟨M, hM⟩ : ∃ M, mk (riP l) = M := ⟨_, rfl⟩
  rw [hM] at HW HT hml
  obtain ⟨t, ht⟩ : ∃ t, txt M = t := ⟨_, rfl⟩
  rw [ht] at HT
  have hB : riB l = decide (t = l) := by unfold riB; rw [hn, hM, ht]; rfl
  have hF : riF l = if riB l = true then M else zf := by unfold riF; rw [hM]
  rw [hF, hB]
  clear hB hF hM ht
  by_cases e : t = l
  · have hd : (!decide (t = l)) = false := by simp [e]
    rw [if_pos (by simpa using e), if_pos (by simpa using e)]
    have HD := hid hd
    clear e hd
    go_enter Tryz.func35, Tryz.ntmps35
    go_wp2_with (first | (go_at_call 66; refine (HW.out _ _ _ (st.get (by repeat (first | exact At.here | apply At.there)))).mono ?_; rintro _ _ ⟨rfl, hk⟩; replace st := st.call hk; clear hk) | (go_at_call 36; refine (HT.out _).mono ?_; rintro _ _ ⟨rfl, hk⟩; replace st := st.call hk; clear hk) | ((with_reducible refine gate_lst ?_); (first | ((with_reducible refine gate_box rfl ?_); (first | (refine ia_box (sl := 1) st rfl rfl rfl rfl rfl ?_; clear st; intro B1 _ st))) | ((with_reducible refine gate_alloc rfl ?_); (first | (refine ia_alloc (sl := 2) st rfl rfl rfl ?_; clear st; intro B2 _ st) | (refine ia_alloc (sl := 4) st rfl rfl rfl ?_; clear st; intro B4 _ st))) | ((with_reducible refine gate_load rfl ?_); (first | (refine' ia_load1 st rfl rfl rfl ?_ ?_; rotate_left 1; (focus (first | exact N0.out | exact N1.out | exact N2.out | exact N3.out | exact N4.out | exact N5.out | exact G2.out | exact G3.out | exact G4.out | exact G0.out | exact G1.out | (refine frv_get _ _ ?_; (first | omega | (simp; done) | (simp; omega) | (simp [*]; omega))) | exact rfl))) | (refine' ia_load1Z (hb.keep st.keep (by simp)) rfl rfl rfl ?_ ?_; rotate_left 1; (focus exact rfl)) | (refine' ia_load1Z (hb'.keep st.keep (by simp)) rfl rfl rfl ?_ ?_; rotate_left 1; (focus exact rfl)) | (refine' ia_load1C (hb.keep st.keep (by simp)) rfl rfl rfl ?_ ?_; rotate_left 1; (focus (first | exact N0.out | exact N1.out | exact N2.out | exact N3.out | exact N4.out | exact N5.out | exact G2.out | exact G3.out | exact G4.out | exact G0.out | exact G1.out | (refine frv_get _ _ ?_; (first | omega | (simp; done) | (simp; omega) | (simp [*]; omega))) | exact rfl))) | (refine' ia_load1C (hb'.keep st.keep (by simp)) rfl rfl rfl ?_ ?_; rotate_left 1; (focus (first | exact N0.out | exact N1.out | exact N2.out | exact N3.out | exact N4.out | exact N5.out | exact G2.out | exact G3.out | exact G4.out | exact G0.out | exact G1.out | (refine frv_get _ _ ?_; (first | omega | (simp; done) | (simp; omega) | (simp [*]; omega))) | exact rfl))) | (refine' ia_load1B (hb1.keep st.keep (by simp)) rfl rfl rfl ?_ ?_; rotate_left 1; (focus (first | exact N0.out | exact N1.out | exact N2.out | exact N3.out | exact N4.out | exact N5.out | exact G2.out | exact G3.out | exact G4.out | exact G0.out | exact G1.out | (refine frv_get _ _ ?_; (first | omega | (simp; done) | (simp; omega) | (simp [*]; omega))) | exact rfl))) | (refine' ia_load1B (hb2.keep st.keep (by simp)) rfl rfl rfl ?_ ?_; rotate_left 1; (focus (first | exact N0.out | exact N1.out | exact N2.out | exact N3.out | exact N4.out | exact N5.out | exact G2.out | exact G3.out | exact G4.out | exact G0.out | exact G1.out | (refine frv_get _ _ ?_; (first | omega | (simp; done) | (simp; omega) | (simp [*]; omega))) | exact rfl))) | (refine ia_loadAll st rfl rfl rfl ?_ ?_; (focus (first | rfl | (simp; done) | (simp; assumption) | (simp; omega) | (simp [*]; done)))) | (refine ia_loadC (hb.keep st.keep (by simp)) rfl rfl rfl ?_ ?_; (focus (first | rfl | (simp; done) | (simp; assumption) | (simp; omega) | (simp [*]; done)))) | (refine ia_loadC (hb'.keep st.keep (by simp)) rfl rfl rfl ?_ ?_; (focus (first | rfl | (simp; done) | (simp; assumption) | (simp; omega) | (simp [*]; done)))) | (refine ia_loadC (Cl.of (hb1.keep st.keep (by simp))) rfl rfl rfl ?_ ?_; (focus (first | rfl | (simp; done) | (simp; assumption) | (simp; omega) | (simp [*]; done)))) | (refine ia_loadC (Cl.of (hb2.keep st.keep (by simp))) rfl rfl rfl ?_ ?_; (focus (first | rfl | (simp; done) | (simp; assumption) | (simp; omega) | (simp [*]; done)))))) | ((with_reducible refine gate_store rfl ?_); (first | (refine ia_storeAll st rfl rfl rfl rfl ?_ ?_ ?_ ?_; (focus (first | rfl | (simp; done) | (simp; assumption) | (simp; omega) | (simp [*]; done))); (focus (first | exact frv_one _ | exact fv_one _ | exact p8_one _ | exact k3_one _ | exact i1_one _ | (simp [Value.oneCell']; done))); (focus (first | rfl | (simp; done) | (simp; assumption) | (simp; omega) | (simp [*]; done))); clear st; intro _ st; (try simp only [List.set_cons_zero, List.set_cons_succ] at st)) | (refine ia_storeSeg st rfl rfl rfl rfl ?_ ?_ ?_ ?_; (focus (first | rfl | (simp; done) | (simp; assumption) | (simp; omega) | (simp [*]; done))); (focus (first | exact frv_one _ | exact fv_one _ | exact p8_one _ | exact k3_one _ | exact i1_one _ | (simp [Value.oneCell']; done))); (focus (first | omega | (simp; done) | (simp; omega) | (simp [*]; omega))); clear st; intro _ st; (try simp only [List.set_cons_zero, List.set_cons_succ] at st)))) | ((with_reducible refine gate_build rfl ?_); refine' la_build ?_ rfl rfl ?_; rotate_left 1; (focus ((try simp only [List.map_cons, List.map_nil, Act.put, Act.eval, Array.getD_eq_getD_getElem?, List.getElem?_toArray, List.getElem?_cons_succ, List.getElem?_cons_zero, Option.getD_some, List.setIfInBounds_toArray, List.set_cons_succ, List.set_cons_zero, List.getElem_toArray, List.getElem_cons_succ, List.getElem_cons_zero]); (first | (with_reducible exact tFrB) | (with_reducible exact built_fil))))))) | ((with_reducible refine qgate_nil ?_); refine wpQuiet_nil ?_; (try intro _ st)) | ((with_reducible refine qgate_any ?_); (first | ((with_reducible refine qgate_call rfl ?_); refine' qa_call (F := 36) Tryz.func36 (by kernel_rfl) (by kernel_rfl) rfl rfl rfl rfl ?_ ?_ ?_; rotate_left 2; (focus (simp only [Act.eval, Act.put, List.map_toArray, List.map_cons, List.map_nil, Array.empty_append, Array.append_empty, Array.map_empty]; exact rfl)); (focus (intro w1 st; exact qcall st (HT.out _)))) | ((with_reducible refine qgate_bin rfl ?_); refine qa_sneq HD.out rfl rfl rfl rfl ?_) | ((with_reducible refine qgate_load rfl ?_); (first | (refine' iq_load1 rfl rfl rfl ?_ ?_; rotate_left 1; (focus (first | exact N0.out | exact N1.out | exact N2.out | exact N3.out | exact N4.out | exact N5.out | exact G2.out | exact G3.out | exact G4.out | exact G0.out | exact G1.out | (refine frv_get _ _ ?_; (first | omega | (simp; done) | (simp; omega) | (simp [*]; omega))) | exact rfl))) | (refine' iq_load1Z hb rfl rfl rfl ?_ ?_; rotate_left 1; (focus exact rfl)) | (refine' iq_load1Z hb' rfl rfl rfl ?_ ?_; rotate_left 1; (focus exact rfl)) | (refine' iq_load1C hb rfl rfl rfl ?_ ?_; rotate_left 1; (focus (first | exact N0.out | exact N1.out | exact N2.out | exact N3.out | exact N4.out | exact N5.out | exact G2.out | exact G3.out | exact G4.out | exact G0.out | exact G1.out | (refine frv_get _ _ ?_; (first | omega | (simp; done) | (simp; omega) | (simp [*]; omega))) | exact rfl))) | (refine' iq_load1C hb' rfl rfl rfl ?_ ?_; rotate_left 1; (focus (first | exact N0.out | exact N1.out | exact N2.out | exact N3.out | exact N4.out | exact N5.out | exact G2.out | exact G3.out | exact G4.out | exact G0.out | exact G1.out | (refine frv_get _ _ ?_; (first | omega | (simp; done) | (simp; omega) | (simp [*]; omega))) | exact rfl))) | (refine iq_loadAll rfl rfl rfl ?_ ?_; (focus (first | rfl | (simp; done) | (simp; assumption) | (simp; omega) | (simp [*]; done)))) | (refine iq_loadC hb rfl rfl rfl ?_ ?_; (focus (first | rfl | (simp; done) | (simp; assumption) | (simp; omega) | (simp [*]; done)))) | (refine iq_loadC hb' rfl rfl rfl ?_ ?_; (focus (first | rfl | (simp; done) | (simp; assumption) | (simp; omega) | (simp [*]; done)))))) | ((with_reducible refine qgate_bin rfl ?_); refine' qa_bin ?_ rfl rfl rfl rfl ?_; rotate_left 1; (focus (first | exact run_add64 (by omega) (by omega) | exact run_sub64 (by omega) (by omega) | (intro w'; go_simp; exact rfl))))); all_goals (try (simp only [Nat.zero_add, Nat.add_zero, Nat.mul_one, Nat.zero_mul, Act.put, Act.eval, Array.getD_eq_getD_getElem?, List.getElem?_toArray, List.getElem?_cons_succ, List.getElem?_cons_zero, Option.getD_some, List.setIfInBounds_toArray, List.set_cons_succ, List.set_cons_zero, List.getElem_toArray, List.getElem_cons_succ, List.getElem_cons_zero]))) | ((with_reducible refine rgate (id := 4) ?_); refine wp_region_quiet_st (id := 4) st (by kernel_rfl) (by kernel_rfl) ?_; clear st))
    refine bodyPost_cell_tmp rfl tFr.toAggT rfl _ rfl _ _ (st.get (by repeat (first | exact At.here | apply At.there))) (by rw [frv_length]; exact hml) _ rfl ?_
    exact ⟨rfl, st.keep⟩
  · have hd : (!decide (t = l)) = true := by simp [e]
    rw [if_neg (by simpa using e), if_neg (by simpa using e)]
    have HD := hid hd
    clear e hd
    go_enter Tryz.func35, Tryz.ntmps35
    go_wp2_with (first | (go_at_call 66; refine (HW.out _ _ _ (st.get (by repeat (first | exact At.here | apply At.there)))).mono ?_; rintro _ _ ⟨rfl, hk⟩; replace st := st.call hk; clear hk) | (go_at_call 36; refine (HT.out _).mono ?_; rintro _ _ ⟨rfl, hk⟩; replace st := st.call hk; clear hk) | ((with_reducible refine gate_lst ?_); (first | ((with_reducible refine gate_box rfl ?_); (first | (refine ia_box (sl := 1) st rfl rfl rfl rfl rfl ?_; clear st; intro B1 _ st))) | ((with_reducible refine gate_alloc rfl ?_); (first | (refine ia_alloc (sl := 2) st rfl rfl rfl ?_; clear st; intro B2 _ st) | (refine ia_alloc (sl := 4) st rfl rfl rfl ?_; clear st; intro B4 _ st))) | ((with_reducible refine gate_load rfl ?_); (first | (refine' ia_load1 st rfl rfl rfl ?_ ?_; rotate_left 1; (focus (first | exact N0.out | exact N1.out | exact N2.out | exact N3.out | exact N4.out | exact N5.out | exact G2.out | exact G3.out | exact G4.out | exact G0.out | exact G1.out | (refine frv_get _ _ ?_; (first | omega | (simp; done) | (simp; omega) | (simp [*]; omega))) | exact rfl))) | (refine' ia_load1Z (hb.keep st.keep (by simp)) rfl rfl rfl ?_ ?_; rotate_left 1; (focus exact rfl)) | (refine' ia_load1Z (hb'.keep st.keep (by simp)) rfl rfl rfl ?_ ?_; rotate_left 1; (focus exact rfl)) | (refine' ia_load1C (hb.keep st.keep (by simp)) rfl rfl rfl ?_ ?_; rotate_left 1; (focus (first | exact N0.out | exact N1.out | exact N2.out | exact N3.out | exact N4.out | exact N5.out | exact G2.out | exact G3.out | exact G4.out | exact G0.out | exact G1.out | (refine frv_get _ _ ?_; (first | omega | (simp; done) | (simp; omega) | (simp [*]; omega))) | exact rfl))) | (refine' ia_load1C (hb'.keep st.keep (by simp)) rfl rfl rfl ?_ ?_; rotate_left 1; (focus (first | exact N0.out | exact N1.out | exact N2.out | exact N3.out | exact N4.out | exact N5.out | exact G2.out | exact G3.out | exact G4.out | exact G0.out | exact G1.out | (refine frv_get _ _ ?_; (first | omega | (simp; done) | (simp; omega) | (simp [*]; omega))) | exact rfl))) | (refine' ia_load1B (hb1.keep st.keep (by simp)) rfl rfl rfl ?_ ?_; rotate_left 1; (focus (first | exact N0.out | exact N1.out | exact N2.out | exact N3.out | exact N4.out | exact N5.out | exact G2.out | exact G3.out | exact G4.out | exact G0.out | exact G1.out | (refine frv_get _ _ ?_; (first | omega | (simp; done) | (simp; omega) | (simp [*]; omega))) | exact rfl))) | (refine' ia_load1B (hb2.keep st.keep (by simp)) rfl rfl rfl ?_ ?_; rotate_left 1; (focus (first | exact N0.out | exact N1.out | exact N2.out | exact N3.out | exact N4.out | exact N5.out | exact G2.out | exact G3.out | exact G4.out | exact G0.out | exact G1.out | (refine frv_get _ _ ?_; (first | omega | (simp; done) | (simp; omega) | (simp [*]; omega))) | exact rfl))) | (refine ia_loadAll st rfl rfl rfl ?_ ?_; (focus (first | rfl | (simp; done) | (simp; assumption) | (simp; omega) | (simp [*]; done)))) | (refine ia_loadC (hb.keep st.keep (by simp)) rfl rfl rfl ?_ ?_; (focus (first | rfl | (simp; done) | (simp; assumption) | (simp; omega) | (simp [*]; done)))) | (refine ia_loadC (hb'.keep st.keep (by simp)) rfl rfl rfl ?_ ?_; (focus (first | rfl | (simp; done) | (simp; assumption) | (simp; omega) | (simp [*]; done)))) | (refine ia_loadC (Cl.of (hb1.keep st.keep (by simp))) rfl rfl rfl ?_ ?_; (focus (first | rfl | (simp; done) | (simp; assumption) | (simp; omega) | (simp [*]; done)))) | (refine ia_loadC (Cl.of (hb2.keep st.keep (by simp))) rfl rfl rfl ?_ ?_; (focus (first | rfl | (simp; done) | (simp; assumption) | (simp; omega) | (simp [*]; done)))))) | ((with_reducible refine gate_store rfl ?_); (first | (refine ia_storeAll st rfl rfl rfl rfl ?_ ?_ ?_ ?_; (focus (first | rfl | (simp; done) | (simp; assumption) | (simp; omega) | (simp [*]; done))); (focus (first | exact frv_one _ | exact fv_one _ | exact p8_one _ | exact k3_one _ | exact i1_one _ | (simp [Value.oneCell']; done))); (focus (first | rfl | (simp; done) | (simp; assumption) | (simp; omega) | (simp [*]; done))); clear st; intro _ st; (try simp only [List.set_cons_zero, List.set_cons_succ] at st)) | (refine ia_storeSeg st rfl rfl rfl rfl ?_ ?_ ?_ ?_; (focus (first | rfl | (simp; done) | (simp; assumption) | (simp; omega) | (simp [*]; done))); (focus (first | exact frv_one _ | exact fv_one _ | exact p8_one _ | exact k3_one _ | exact i1_one _ | (simp [Value.oneCell']; done))); (focus (first | omega | (simp; done) | (simp; omega) | (simp [*]; omega))); clear st; intro _ st; (try simp only [List.set_cons_zero, List.set_cons_succ] at st)))) | ((with_reducible refine gate_build rfl ?_); refine' la_build ?_ rfl rfl ?_; rotate_left 1; (focus ((try simp only [List.map_cons, List.map_nil, Act.put, Act.eval, Array.getD_eq_getD_getElem?, List.getElem?_toArray, List.getElem?_cons_succ, List.getElem?_cons_zero, Option.getD_some, List.setIfInBounds_toArray, List.set_cons_succ, List.set_cons_zero, List.getElem_toArray, List.getElem_cons_succ, List.getElem_cons_zero]); (first | (with_reducible exact tFrB) | (with_reducible exact built_fil))))))) | ((with_reducible refine qgate_nil ?_); refine wpQuiet_nil ?_; (try intro _ st)) | ((with_reducible refine qgate_any ?_); (first | ((with_reducible refine qgate_call rfl ?_); refine' qa_call (F := 36) Tryz.func36 (by kernel_rfl) (by kernel_rfl) rfl rfl rfl rfl ?_ ?_ ?_; rotate_left 2; (focus (simp only [Act.eval, Act.put, List.map_toArray, List.map_cons, List.map_nil, Array.empty_append, Array.append_empty, Array.map_empty]; exact rfl)); (focus (intro w1 st; exact qcall st (HT.out _)))) | ((with_reducible refine qgate_bin rfl ?_); refine qa_sneq HD.out rfl rfl rfl rfl ?_) | ((with_reducible refine qgate_load rfl ?_); (first | (refine' iq_load1 rfl rfl rfl ?_ ?_; rotate_left 1; (focus (first | exact N0.out | exact N1.out | exact N2.out | exact N3.out | exact N4.out | exact N5.out | exact G2.out | exact G3.out | exact G4.out | exact G0.out | exact G1.out | (refine frv_get _ _ ?_; (first | omega | (simp; done) | (simp; omega) | (simp [*]; omega))) | exact rfl))) | (refine' iq_load1Z hb rfl rfl rfl ?_ ?_; rotate_left 1; (focus exact rfl)) | (refine' iq_load1Z hb' rfl rfl rfl ?_ ?_; rotate_left 1; (focus exact rfl)) | (refine' iq_load1C hb rfl rfl rfl ?_ ?_; rotate_left 1; (focus (first | exact N0.out | exact N1.out | exact N2.out | exact N3.out | exact N4.out | exact N5.out | exact G2.out | exact G3.out | exact G4.out | exact G0.out | exact G1.out | (refine frv_get _ _ ?_; (first | omega | (simp; done) | (simp; omega) | (simp [*]; omega))) | exact rfl))) | (refine' iq_load1C hb' rfl rfl rfl ?_ ?_; rotate_left 1; (focus (first | exact N0.out | exact N1.out | exact N2.out | exact N3.out | exact N4.out | exact N5.out | exact G2.out | exact G3.out | exact G4.out | exact G0.out | exact G1.out | (refine frv_get _ _ ?_; (first | omega | (simp; done) | (simp; omega) | (simp [*]; omega))) | exact rfl))) | (refine iq_loadAll rfl rfl rfl ?_ ?_; (focus (first | rfl | (simp; done) | (simp; assumption) | (simp; omega) | (simp [*]; done)))) | (refine iq_loadC hb rfl rfl rfl ?_ ?_; (focus (first | rfl | (simp; done) | (simp; assumption) | (simp; omega) | (simp [*]; done)))) | (refine iq_loadC hb' rfl rfl rfl ?_ ?_; (focus (first | rfl | (simp; done) | (simp; assumption) | (simp; omega) | (simp [*]; done)))))) | ((with_reducible refine qgate_bin rfl ?_); refine' qa_bin ?_ rfl rfl rfl rfl ?_; rotate_left 1; (focus (first | exact run_add64 (by omega) (by omega) | exact run_sub64 (by omega) (by omega) | (intro w'; go_simp; exact rfl))))); all_goals (try (simp only [Nat.zero_add, Nat.add_zero, Nat.mul_one, Nat.zero_mul, Act.put, Act.eval, Array.getD_eq_getD_getElem?, List.getElem?_toArray, List.getElem?_cons_succ, List.getElem?_cons_zero, Option.getD_some, List.setIfInBounds_toArray, List.set_cons_succ, List.set_cons_zero, List.getElem_toArray, List.getElem_cons_succ, List.getElem_cons_zero]))) | ((with_reducible refine rgate (id := 4) ?_); refine wp_region_quiet_st (id := 4) st (by kernel_rfl) (by kernel_rfl) ?_; clear st))
    refine bodyPost_cell_tmp rfl tFr.toAggT rfl _ rfl _ _ (st.get (by repeat (first | exact At.here | apply At.there))) (by simp [frv_length, zf_length, mk_length, withD_length, part_length, rowsOf_length, *]) _ rfl ?_
    exact ⟨rfl, st.keep⟩
end Go.Proofs.YtmfgbkmkcljciaaGreatDoor
/- ReadBook: the program's walk; no condition but the library's cell. -/
namespace Go.Proofs.YtmfgbkmkcljciaaGreatDoor
open Go.RowKit
set_option linter.unusedSimpArgs false
set_option linter.unusedVariables false
/-- The library's cell that Split reads. -/
def GlobM (w : World) : Prop := ∃ m, w.cell? ⟨shR.g 1, 0, none⟩ = some (.int .i64 m)
theorem GlobM.keep {w w' : World} (h : GlobM w) (hk : Keep [] w w') : GlobM w' := h.imp fun _ h => cell_keep hk h
theorem trim_c (l : List UInt8) (n : Nat) (hn : l.length = n) (hn1 : n ≤ 1000000) (w : World) :
    Calls Tryz.prog 34 #[.string ⟨l.toArray⟩, .string ⟨#[10]⟩] w fun e w' => e = .returned (.string ⟨(Lib.trimSuffix l [10]).toArray⟩) ∧ Keep [] w w' := by
  have hsz : (⟨l.toArray⟩ : ByteArray).size = n := by rw [← hn]; rfl
  refine (Any.strings_TrimSuffix sh102 ⟨l.toArray⟩ ⟨#[10]⟩ w (by omega)).mono fun e w' ⟨h1, h2⟩ => ⟨?_, by rw [h2]; exact Keep.refl [] _⟩
  rw [h1]
theorem splitK_el (sep : List UInt8) : ∀ (k : Nat) (s : List UInt8), ∀ z ∈ Lib.splitK sep 0 k s, z.length ≤ s.length
  | 0, s => by intro z hz; rw [Lib.splitK, List.mem_singleton] at hz; subst hz; exact Nat.le_refl _
  | k + 1, s => by
    intro z hz
    rw [Lib.splitK] at hz
    split at hz
    · rw [List.mem_singleton] at hz; subst hz; exact Nat.le_refl _
    · rcases List.mem_cons.1 hz with rfl | hz
      · simp; omega
      · have := splitK_el sep k _ z hz
        rw [List.length_drop] at this
        omega
theorem blks_el (T : List UInt8) : ∀ z ∈ blks T, z.length ≤ T.length := fun z hz => Nat.le_trans (splitK_el _ _ _ z hz) (Lib.trimSuffix_le T [10])
theorem splitK_len (sep : List UInt8) : ∀ (k : Nat) (s : List UInt8), (Lib.splitK sep 0 k s).length ≤ k + 1
  | 0, s => by simp [Lib.splitK]
  | k + 1, s => by
    rw [Lib.splitK]
    split
    · simp
    · have := splitK_len sep k (s.drop ((Lib.index s sep).toNat + sep.length))
      simp only [List.length_cons]; omega
theorem blks_len (T : List UInt8) : (blks T).length ≤ T.length + 2 := by
  have h1 := splitK_len [10, 10] (Lib.count (Lib.trimSuffix T [10]) [10, 10]) (Lib.trimSuffix T [10])
  have h2 := Lib.count_le (Lib.trimSuffix T [10]) [10, 10]
  have h3 := Lib.trimSuffix_le T [10]
  unfold blks
  omega
def BlksPost (T : List UInt8) (w : World) (e : Ending) (w' : World) : Prop := ∃ v, e = .returned v ∧ Gives 9 1 (blks T).length (encs sv (blks T)) w v w' ∧ Keep [] w w'
theorem splitB_c (l : List UInt8) (n : Nat) (hn : l.length = n) (hn1 : n ≤ 1000000) (w : World) (hg : GlobM w) :
    Calls Tryz.prog 33 #[.string ⟨(Lib.trimSuffix l [10]).toArray⟩, .string ⟨#[10, 10]⟩] w (BlksPost l w) := by
  obtain ⟨t, ht⟩ : ∃ t, Lib.trimSuffix l [10] = t := ⟨_, rfl⟩
  have hb : blks l = Lib.splitK [10, 10] 0 (Lib.count t [10, 10]) t := by unfold blks; rw [ht]
  have htl : t.length ≤ 1000000 := by have := Lib.trimSuffix_le l [10]; rw [ht] at this; omega
  unfold BlksPost
  rw [hb, ht]
  have hsz : (⟨t.toArray⟩ : ByteArray).size = t.length := rfl
  obtain ⟨m, hm⟩ := hg
  refine (Any.strings_Split sh146 (by kernel_rfl) ⟨t.toArray⟩ ⟨#[10, 10]⟩ m w (by omega) hm (by decide)).mono fun e w' ⟨h1, h2⟩ => ?_
  have e1 : (⟨t.toArray⟩ : ByteArray).data.toList = t := by simp
  have e2 : (⟨#[10, 10]⟩ : ByteArray).data.toList = [10, 10] := rfl
  have hd := Lib.splitB_data ⟨#[10, 10]⟩ 0 (Lib.countB ⟨t.toArray⟩ ⟨#[10, 10]⟩) ⟨t.toArray⟩
  rw [show Lib.countB ⟨t.toArray⟩ ⟨#[10, 10]⟩ = Lib.count t [10, 10] by unfold Lib.countB; rw [e1, e2]] at hd h1 h2
  rw [e1, e2] at hd
  have hlen : (Lib.splitK [10, 10] 0 (Lib.count t [10, 10]) t).length = Lib.count t [10, 10] + 1 := by
    rw [← hd, List.length_map, Lib.splitB_all ⟨#[10, 10]⟩ (by decide) 0 (Lib.count t [10, 10]) ⟨t.toArray⟩ (by unfold Lib.countB; rw [e1, e2])]
  have hc : (Lib.splitB ⟨#[10, 10]⟩ 0 (Lib.count t [10, 10]) ⟨t.toArray⟩).map Value.string = encs sv (Lib.splitK [10, 10] 0 (Lib.count t [10, 10]) t) := by
    rw [← hd]
    generalize Lib.splitB ⟨#[10, 10]⟩ 0 (Lib.count t [10, 10]) ⟨t.toArray⟩ = Z
    induction Z with
    | nil => rfl
    | cons z Z ih =>
      rw [List.map_cons, List.map_cons, ih]
      simp [encs, sv]
  have hw := Lib.count_le t [10, 10]
  refine ⟨_, h1, ⟨w.heap.size, Lib.count t [10, 10] + 1, [], by rw [hlen], Nat.le_refl _, ?_, ?_, ?_⟩, ?_⟩
  · rw [h2, hc, List.append_nil]
    exact Blk.alloc w _ _
  · rw [List.append_nil, encs_sv_length, hlen]
    omega
  · unfold maxLen; omega
  · rw [h2]
    exact Keep.alloc w _
def rbC (T : List UInt8) : Int := if rbO T = true then 0 else 5
theorem rb_err {T : List UInt8} {w w' : World} {Q : Prop} (h : rbO T = false) {v : Value} (hv : SlOut 42 12 0 [] Q w v w') (hk : Keep [] w w') : BookCode (rbL T) (rbL T).length (rbC T) Q w (.returned (.tuple #[v, .int .i64 5])) w' := by
  have h1 : rbL T = [] := by
    unfold rbL
    unfold rbO at h
    rw [Bool.or_eq_false_iff] at h
    rw [if_neg (of_decide_eq_false h.1), h.2]
    rfl
  unfold rbC
  rw [h, h1, if_neg (by decide)]
  exact ⟨_, rfl, hv, hk⟩
theorem rb_nil {T : List UInt8} {w w' : World} (h : rbO T = false) (hk : Keep [] w w') : BookCode (rbL T) (rbL T).length (rbC T) (rbC T ≠ 0) w (.returned (.tuple #[.slice none 0 0, .int .i64 5])) w' :=
  rb_err h (Or.inl ⟨by unfold rbC; rw [h]; decide, rfl, rfl⟩) hk
theorem rb_ok {T : List UInt8} {R : List Fm} {m : Nat} {w w' : World} {v : Value} {Q : Prop} (h : rbO T = true) (hR : rbL T = R) (hm : R.length = m) (hv : Gives 42 12 m (encs fv R) w v w') (hk : Keep [] w w') : BookCode (rbL T) (rbL T).length (rbC T) Q w (.returned (.tuple #[v, .int .i64 0])) w' := by
  unfold rbC
  rw [h, hR, hm, if_pos rfl]
  exact ⟨_, rfl, Or.inr hv, hk⟩
theorem rb_pb {T : List UInt8} (h0 : T ≠ []) : rbO T = pbO T ∧ (pbO T = true → rbL T = pbL T) := by
  obtain ⟨h1, h2⟩ := rb_same h0
  unfold rbO rbL
  rw [decide_eq_false h0, Bool.false_or, if_neg h0]
  exact ⟨h1, fun h => by rw [if_pos (h1.trans h)]; exact h2 h⟩
theorem rb_sb {T : List UInt8} (h0 : T ≠ []) : rbO T = sbO (wds 10 T) ∧ (sbO (wds 10 T) = true → rbL T = sbL (wds 10 T)) := by
  unfold rbO rbL
  rw [decide_eq_false h0, Bool.false_or, if_neg h0]
  exact ⟨rfl, fun h => if_pos h⟩
set_option maxHeartbeats 1000000 in
set_option maxRecDepth 100000 in
theorem ReadBook0_c (w : World) : Calls Tryz.prog 6 #[.string ⟨#[]⟩] w (BookCode (rbL []) (rbL []).length (rbC []) (rbC [] ≠ 0) w) := by
  have st := St.start w
  have HE : Hid (decide (([] : List UInt8) = []) = true) := hid (by decide)
  go_enter Tryz.func6, Tryz.ntmps6
  go_wp2_with (first | ((with_reducible refine gate_bsl rfl ?_); refine ia_bsl0 (sl := 9) st rfl rfl rfl ?_; clear st; intro B9 _ st) | ((with_reducible refine gate_sq rfl ?_); refine la_seq (l := []) (m := []) HE.out rfl rfl rfl rfl ?_) | ((with_reducible refine gate_lst ?_); (first | ((with_reducible refine gate_alloc rfl ?_); (first | (refine ia_alloc (sl := 7) st rfl rfl rfl ?_; clear st; intro B7 _ st))) | ((with_reducible refine gate_load rfl ?_); (first | (refine' ia_load1 st rfl rfl rfl ?_ ?_; rotate_left 1; (focus (first | exact N0.out | exact N1.out | exact N2.out | exact N3.out | exact N4.out | exact N5.out | exact G2.out | exact G3.out | exact G4.out | exact G0.out | exact G1.out | (refine frv_get _ _ ?_; (first | omega | (simp; done) | (simp; omega) | (simp [*]; omega))) | exact rfl))) | (refine' ia_load1Z (hb.keep st.keep (by simp)) rfl rfl rfl ?_ ?_; rotate_left 1; (focus exact rfl)) | (refine' ia_load1Z (hb'.keep st.keep (by simp)) rfl rfl rfl ?_ ?_; rotate_left 1; (focus exact rfl)) | (refine' ia_load1C (hb.keep st.keep (by simp)) rfl rfl rfl ?_ ?_; rotate_left 1; (focus (first | exact N0.out | exact N1.out | exact N2.out | exact N3.out | exact N4.out | exact N5.out | exact G2.out | exact G3.out | exact G4.out | exact G0.out | exact G1.out | (refine frv_get _ _ ?_; (first | omega | (simp; done) | (simp; omega) | (simp [*]; omega))) | exact rfl))) | (refine' ia_load1C (hb'.keep st.keep (by simp)) rfl rfl rfl ?_ ?_; rotate_left 1; (focus (first | exact N0.out | exact N1.out | exact N2.out | exact N3.out | exact N4.out | exact N5.out | exact G2.out | exact G3.out | exact G4.out | exact G0.out | exact G1.out | (refine frv_get _ _ ?_; (first | omega | (simp; done) | (simp; omega) | (simp [*]; omega))) | exact rfl))) | (refine' ia_load1B (hb1.keep st.keep (by simp)) rfl rfl rfl ?_ ?_; rotate_left 1; (focus (first | exact N0.out | exact N1.out | exact N2.out | exact N3.out | exact N4.out | exact N5.out | exact G2.out | exact G3.out | exact G4.out | exact G0.out | exact G1.out | (refine frv_get _ _ ?_; (first | omega | (simp; done) | (simp; omega) | (simp [*]; omega))) | exact rfl))) | (refine' ia_load1B (hb2.keep st.keep (by simp)) rfl rfl rfl ?_ ?_; rotate_left 1; (focus (first | exact N0.out | exact N1.out | exact N2.out | exact N3.out | exact N4.out | exact N5.out | exact G2.out | exact G3.out | exact G4.out | exact G0.out | exact G1.out | (refine frv_get _ _ ?_; (first | omega | (simp; done) | (simp; omega) | (simp [*]; omega))) | exact rfl))) | (refine ia_loadAll st rfl rfl rfl ?_ ?_; (focus (first | rfl | (simp; done) | (simp; assumption) | (simp; omega) | (simp [*]; done)))) | (refine ia_loadC (hb.keep st.keep (by simp)) rfl rfl rfl ?_ ?_; (focus (first | rfl | (simp; done) | (simp; assumption) | (simp; omega) | (simp [*]; done)))) | (refine ia_loadC (hb'.keep st.keep (by simp)) rfl rfl rfl ?_ ?_; (focus (first | rfl | (simp; done) | (simp; assumption) | (simp; omega) | (simp [*]; done)))) | (refine ia_loadC (Cl.of (hb1.keep st.keep (by simp))) rfl rfl rfl ?_ ?_; (focus (first | rfl | (simp; done) | (simp; assumption) | (simp; omega) | (simp [*]; done)))) | (refine ia_loadC (Cl.of (hb2.keep st.keep (by simp))) rfl rfl rfl ?_ ?_; (focus (first | rfl | (simp; done) | (simp; assumption) | (simp; omega) | (simp [*]; done)))))) | ((with_reducible refine gate_store rfl ?_); (first | (refine ia_storeAll st rfl rfl rfl rfl ?_ ?_ ?_ ?_; (focus (first | rfl | (simp; done) | (simp; assumption) | (simp; omega) | (simp [*]; done))); (focus (first | exact frv_one _ | exact fv_one _ | exact p8_one _ | exact k3_one _ | exact i1_one _ | (simp [Value.oneCell']; done))); (focus (first | rfl | (simp; done) | (simp; assumption) | (simp; omega) | (simp [*]; done))); clear st; intro _ st; (try simp only [List.set_cons_zero, List.set_cons_succ] at st)) | (refine ia_storeSeg st rfl rfl rfl rfl ?_ ?_ ?_ ?_; (focus (first | rfl | (simp; done) | (simp; assumption) | (simp; omega) | (simp [*]; done))); (focus (first | exact frv_one _ | exact fv_one _ | exact p8_one _ | exact k3_one _ | exact i1_one _ | (simp [Value.oneCell']; done))); (focus (first | omega | (simp; done) | (simp; omega) | (simp [*]; omega))); clear st; intro _ st; (try simp only [List.set_cons_zero, List.set_cons_succ] at st)))) | ((with_reducible refine gate_addr rfl ?_); (first | (refine' ia_slcP HP.out rfl rfl rfl rfl ?_ ?_ ?_) | (refine' ia_slcP HP2.out rfl rfl rfl rfl ?_ ?_ ?_)); rotate_left 1; (focus (first | exact (rfl : (0 : Int) = ((0 : Nat) : Int)) | exact (rfl : (1 : Int) = ((1 : Nat) : Int)) | exact rfl | exact HE1.out | exact HE2.out)); (focus (first | omega | (simp; done) | (simp; omega) | (simp [*]; omega)))))))
  go_ret2
  exact rb_ok (R := []) (m := 0) rfl rfl rfl ⟨B9, 0, [], rfl, out_of st .here, st.get .here, rfl, Nat.zero_le _⟩ st.keep
set_option maxHeartbeats 4000000 in
set_option maxRecDepth 100000 in
theorem ReadBook1_c (l : List UInt8) (n : Nat) (hn : l.length = n) (hn1 : n ≤ 1000000) (h0 : l ≠ []) (w : World) (hg : GlobM w) :
    Calls Tryz.prog 6 #[.string ⟨l.toArray⟩] w (BookCode (rbL l) (rbL l).length (rbC l) (rbC l ≠ 0) w) := by
  have st := St.start w
  have HE : Hid (decide (l = ([] : List UInt8)) = false) := hid (by simpa using h0)
  have HTR := hid (trim_c l n hn hn1)
  have HSP := hid (fun w' (hk : Keep [] w w') => splitB_c l n hn hn1 w' (hg.keep hk))
  obtain ⟨hrb, hrl⟩ := rb_pb h0
  have hel := blks_el l
  have hwl := blks_len l
  have hpo : pbO l = ((blks l).all ipO && decide (bkT ((blks l).map ipF) = l)) := rfl
  have hpl : pbL l = (blks l).map ipF := rfl
  obtain ⟨t, ht⟩ : ∃ t, Lib.trimSuffix l [10] = t := ⟨_, rfl⟩
  unfold BlksPost at HSP
  rw [ht] at HTR HSP
  obtain ⟨W, hW⟩ : ∃ W, blks l = W := ⟨_, rfl⟩
  rw [hW] at HSP hel hwl hpo hpl
  obtain ⟨m, hm⟩ : ∃ m, W.length = m := ⟨_, rfl⟩
  rw [hm] at HSP hwl
  have HM := hid hm
  have hm2 : m ≤ 1000002 := by omega
  have HEL := hid (fun (k : Nat) (hk : k < W.length) => (Nat.le_trans (hel _ (List.getElem_mem hk)) (by omega) : W[k].length ≤ 1000000))
  have HNO : Hid (∀ x ∈ W, ipO x = false → rbO l = false) := hid (fun x hx h => by
    rw [hrb, hpo, Bool.and_eq_false_iff]
    left
    rw [List.all_eq_false]
    exact ⟨x, hx, by rw [h]; decide⟩)
  have HFIN : Hid (W.all ipO = true → rbO l = decide (bkT (W.map ipF) = l) ∧ (bkT (W.map ipF) = l → rbL l = W.map ipF)) := hid (fun h => by
    rw [h, Bool.true_and] at hpo
    refine ⟨hrb.trans hpo, fun e => ?_⟩
    rw [← hpl]
    exact hrl (by rw [hpo]; simpa using e))
  clear hel hwl hW hm hrb hrl hpo hpl ht h0 hn
  go_enter Tryz.func6, Tryz.ntmps6
  go_wp2_with (first | ((with_reducible refine gate_bsl rfl ?_); refine ia_bsl0 (sl := 9) st rfl rfl rfl ?_; clear st; intro B9 _ st) | ((with_reducible refine gate_sq rfl ?_); refine la_seq (l := l) (m := []) HE.out rfl rfl rfl rfl ?_) | (go_at_call 34; refine (HTR.out _).mono ?_; rintro _ _ ⟨rfl, hk⟩; replace st := st.call hk; clear hk) | (go_at_call 33; refine (HSP.out _ st.keep).mono ?_; rintro _ _ ⟨v, rfl, ⟨g, cap0, spare0, rfl, hg, hbg, hcap0, hcm0⟩, hk⟩; replace st := st.adopt hk hg hbg; clear hk hg hbg) | ((with_reducible refine gate_lst ?_); (first | ((with_reducible refine gate_alloc rfl ?_); (first | (refine ia_alloc (sl := 7) st rfl rfl rfl ?_; clear st; intro B7 _ st))) | ((with_reducible refine gate_load rfl ?_); (first | (refine' ia_load1 st rfl rfl rfl ?_ ?_; rotate_left 1; (focus (first | exact N0.out | exact N1.out | exact N2.out | exact N3.out | exact N4.out | exact N5.out | exact G2.out | exact G3.out | exact G4.out | exact G0.out | exact G1.out | (refine frv_get _ _ ?_; (first | omega | (simp; done) | (simp; omega) | (simp [*]; omega))) | exact rfl))) | (refine' ia_load1Z (hb.keep st.keep (by simp)) rfl rfl rfl ?_ ?_; rotate_left 1; (focus exact rfl)) | (refine' ia_load1Z (hb'.keep st.keep (by simp)) rfl rfl rfl ?_ ?_; rotate_left 1; (focus exact rfl)) | (refine' ia_load1C (hb.keep st.keep (by simp)) rfl rfl rfl ?_ ?_; rotate_left 1; (focus (first | exact N0.out | exact N1.out | exact N2.out | exact N3.out | exact N4.out | exact N5.out | exact G2.out | exact G3.out | exact G4.out | exact G0.out | exact G1.out | (refine frv_get _ _ ?_; (first | omega | (simp; done) | (simp; omega) | (simp [*]; omega))) | exact rfl))) | (refine' ia_load1C (hb'.keep st.keep (by simp)) rfl rfl rfl ?_ ?_; rotate_left 1; (focus (first | exact N0.out | exact N1.out | exact N2.out | exact N3.out | exact N4.out | exact N5.out | exact G2.out | exact G3.out | exact G4.out | exact G0.out | exact G1.out | (refine frv_get _ _ ?_; (first | omega | (simp; done) | (simp; omega) | (simp [*]; omega))) | exact rfl))) | (refine' ia_load1B (hb1.keep st.keep (by simp)) rfl rfl rfl ?_ ?_; rotate_left 1; (focus (first | exact N0.out | exact N1.out | exact N2.out | exact N3.out | exact N4.out | exact N5.out | exact G2.out | exact G3.out | exact G4.out | exact G0.out | exact G1.out | (refine frv_get _ _ ?_; (first | omega | (simp; done) | (simp; omega) | (simp [*]; omega))) | exact rfl))) | (refine' ia_load1B (hb2.keep st.keep (by simp)) rfl rfl rfl ?_ ?_; rotate_left 1; (focus (first | exact N0.out | exact N1.out | exact N2.out | exact N3.out | exact N4.out | exact N5.out | exact G2.out | exact G3.out | exact G4.out | exact G0.out | exact G1.out | (refine frv_get _ _ ?_; (first | omega | (simp; done) | (simp; omega) | (simp [*]; omega))) | exact rfl))) | (refine ia_loadAll st rfl rfl rfl ?_ ?_; (focus (first | rfl | (simp; done) | (simp; assumption) | (simp; omega) | (simp [*]; done)))) | (refine ia_loadC (hb.keep st.keep (by simp)) rfl rfl rfl ?_ ?_; (focus (first | rfl | (simp; done) | (simp; assumption) | (simp; omega) | (simp [*]; done)))) | (refine ia_loadC (hb'.keep st.keep (by simp)) rfl rfl rfl ?_ ?_; (focus (first | rfl | (simp; done) | (simp; assumption) | (simp; omega) | (simp [*]; done)))) | (refine ia_loadC (Cl.of (hb1.keep st.keep (by simp))) rfl rfl rfl ?_ ?_; (focus (first | rfl | (simp; done) | (simp; assumption) | (simp; omega) | (simp [*]; done)))) | (refine ia_loadC (Cl.of (hb2.keep st.keep (by simp))) rfl rfl rfl ?_ ?_; (focus (first | rfl | (simp; done) | (simp; assumption) | (simp; omega) | (simp [*]; done)))))) | ((with_reducible refine gate_store rfl ?_); (first | (refine ia_storeAll st rfl rfl rfl rfl ?_ ?_ ?_ ?_; (focus (first | rfl | (simp; done) | (simp; assumption) | (simp; omega) | (simp [*]; done))); (focus (first | exact frv_one _ | exact fv_one _ | exact p8_one _ | exact k3_one _ | exact i1_one _ | (simp [Value.oneCell']; done))); (focus (first | rfl | (simp; done) | (simp; assumption) | (simp; omega) | (simp [*]; done))); clear st; intro _ st; (try simp only [List.set_cons_zero, List.set_cons_succ] at st)) | (refine ia_storeSeg st rfl rfl rfl rfl ?_ ?_ ?_ ?_; (focus (first | rfl | (simp; done) | (simp; assumption) | (simp; omega) | (simp [*]; done))); (focus (first | exact frv_one _ | exact fv_one _ | exact p8_one _ | exact k3_one _ | exact i1_one _ | (simp [Value.oneCell']; done))); (focus (first | omega | (simp; done) | (simp; omega) | (simp [*]; omega))); clear st; intro _ st; (try simp only [List.set_cons_zero, List.set_cons_succ] at st)))) | ((with_reducible refine gate_addr rfl ?_); (first | (refine' ia_slcP HP.out rfl rfl rfl rfl ?_ ?_ ?_) | (refine' ia_slcP HP2.out rfl rfl rfl rfl ?_ ?_ ?_)); rotate_left 1; (focus (first | exact (rfl : (0 : Int) = ((0 : Nat) : Int)) | exact (rfl : (1 : Int) = ((1 : Nat) : Int)) | exact rfl | exact HE1.out | exact HE2.out)); (focus (first | omega | (simp; done) | (simp; omega) | (simp [*]; omega)))))))
  go_loopw [4, 17] (fun v i wr => ∃ k : Nat, k ≤ m ∧ i = .int .i64 k ∧ allTo ipO W k ∧ Own 42 12 k (encs fv ((W.take k).map ipF)) [] w wr [(g, encs sv W ++ spare0, 9)] v) (fun _ i _ => m - (intOf i).toNat)
  case atStart => exact ⟨0, by omega, rfl, fun j h hj => absurd hj (by omega), B9, 0, [], rfl, (by simpa [encs] using st.swap), rfl, Nat.zero_le _⟩
  case round =>
    clear st
    obtain ⟨k, hk, rfl, hall, gO, cap, spare, rfl, st, hcap, hcm⟩ := hrel
    have HC := hid hcap
    have HALL := hid hall
    clear hcap hall
    by_cases hlt : k < m
    · have hd : decide ((k : Int) < (m : Int)) = true := by simpa using hlt
      have hkW : k < W.length := by rw [HM.out]; exact hlt
      have hxl := HEL.out k hkW
      have HSTEP := hid (HALL.out.step hkW)
      have HMS := hid (mapG_step (e := fv) (f := ipF) hkW)
      have HML := hid (mapG_len fv_len (f := ipF) (W := W) (k := k) (by omega))
      have hmem : W[k] ∈ W := List.getElem_mem hkW
      obtain ⟨x, hx⟩ : ∃ x, W[k] = x := ⟨_, rfl⟩
      have HGET := hid (words_get (sp := spare0) hkW hx)
      rw [hx] at hxl HSTEP HMS hmem
      have HERR := hid (HNO.out x hmem)
      have HRF := hid (ReadFrame_c (x ++ [10]) (by rw [List.length_append]; simp; omega))
      have hio : riB (x ++ [10]) = ipO x := rfl
      have hif : ipO x = true → riF (x ++ [10]) = (ipF x).1 := fun h => by unfold riF; rw [hio, if_pos h]; rfl
      rw [hio] at HRF
      have hfl : (riF (x ++ [10])).length = 12 := by
        unfold riF
        split
        · exact mk_length _
        · rfl
      clear hx hkW hmem
      cases u : ipO x with
      | false =>
        rw [u] at HRF HERR
        have hE := hid (HERR.out rfl)
        obtain ⟨F, hF⟩ : ∃ F, riF (x ++ [10]) = F := ⟨_, rfl⟩
        rw [hF] at HRF hfl
        rw [if_neg (by decide)] at HRF
        clear hio hif hF u
        go_wp2_with (first | ((with_reducible refine gate_dst (N := 20) rfl ?_); ((with_reducible refine gate_load rfl ?_); refine wpl_load1 rfl _ _ rfl _ rfl OneC.out (.string ⟨x.toArray⟩) ((st.get (by repeat (first | exact At.here | apply At.there))).cellv HGET.out) ?_)) | ((with_reducible refine gate_add rfl ?_); (with_reducible refine gate_dst (N := 23) rfl ?_); refine la_sadd (l := x) (m := [10]) rfl rfl rfl rfl (by simp; omega) ?_) | (go_at_call 35; refine (HRF.out _).mono ?_; rintro _ _ ⟨rfl, hk⟩; replace st := st.call hk; clear hk) | ((with_reducible refine gate_lst ?_); (first | ((with_reducible refine gate_alloc rfl ?_); (first | (refine ia_alloc (sl := 7) st rfl rfl rfl ?_; clear st; intro B7 _ st))) | ((with_reducible refine gate_load rfl ?_); (first | (refine' ia_load1 st rfl rfl rfl ?_ ?_; rotate_left 1; (focus (first | exact N0.out | exact N1.out | exact N2.out | exact N3.out | exact N4.out | exact N5.out | exact G2.out | exact G3.out | exact G4.out | exact G0.out | exact G1.out | (refine frv_get _ _ ?_; (first | omega | (simp; done) | (simp; omega) | (simp [*]; omega))) | exact rfl))) | (refine' ia_load1Z (hb.keep st.keep (by simp)) rfl rfl rfl ?_ ?_; rotate_left 1; (focus exact rfl)) | (refine' ia_load1Z (hb'.keep st.keep (by simp)) rfl rfl rfl ?_ ?_; rotate_left 1; (focus exact rfl)) | (refine' ia_load1C (hb.keep st.keep (by simp)) rfl rfl rfl ?_ ?_; rotate_left 1; (focus (first | exact N0.out | exact N1.out | exact N2.out | exact N3.out | exact N4.out | exact N5.out | exact G2.out | exact G3.out | exact G4.out | exact G0.out | exact G1.out | (refine frv_get _ _ ?_; (first | omega | (simp; done) | (simp; omega) | (simp [*]; omega))) | exact rfl))) | (refine' ia_load1C (hb'.keep st.keep (by simp)) rfl rfl rfl ?_ ?_; rotate_left 1; (focus (first | exact N0.out | exact N1.out | exact N2.out | exact N3.out | exact N4.out | exact N5.out | exact G2.out | exact G3.out | exact G4.out | exact G0.out | exact G1.out | (refine frv_get _ _ ?_; (first | omega | (simp; done) | (simp; omega) | (simp [*]; omega))) | exact rfl))) | (refine' ia_load1B (hb1.keep st.keep (by simp)) rfl rfl rfl ?_ ?_; rotate_left 1; (focus (first | exact N0.out | exact N1.out | exact N2.out | exact N3.out | exact N4.out | exact N5.out | exact G2.out | exact G3.out | exact G4.out | exact G0.out | exact G1.out | (refine frv_get _ _ ?_; (first | omega | (simp; done) | (simp; omega) | (simp [*]; omega))) | exact rfl))) | (refine' ia_load1B (hb2.keep st.keep (by simp)) rfl rfl rfl ?_ ?_; rotate_left 1; (focus (first | exact N0.out | exact N1.out | exact N2.out | exact N3.out | exact N4.out | exact N5.out | exact G2.out | exact G3.out | exact G4.out | exact G0.out | exact G1.out | (refine frv_get _ _ ?_; (first | omega | (simp; done) | (simp; omega) | (simp [*]; omega))) | exact rfl))) | (refine ia_loadAll st rfl rfl rfl ?_ ?_; (focus (first | rfl | (simp; done) | (simp; assumption) | (simp; omega) | (simp [*]; done)))) | (refine ia_loadC (hb.keep st.keep (by simp)) rfl rfl rfl ?_ ?_; (focus (first | rfl | (simp; done) | (simp; assumption) | (simp; omega) | (simp [*]; done)))) | (refine ia_loadC (hb'.keep st.keep (by simp)) rfl rfl rfl ?_ ?_; (focus (first | rfl | (simp; done) | (simp; assumption) | (simp; omega) | (simp [*]; done)))) | (refine ia_loadC (Cl.of (hb1.keep st.keep (by simp))) rfl rfl rfl ?_ ?_; (focus (first | rfl | (simp; done) | (simp; assumption) | (simp; omega) | (simp [*]; done)))) | (refine ia_loadC (Cl.of (hb2.keep st.keep (by simp))) rfl rfl rfl ?_ ?_; (focus (first | rfl | (simp; done) | (simp; assumption) | (simp; omega) | (simp [*]; done)))))) | ((with_reducible refine gate_store rfl ?_); (first | (refine ia_storeAll st rfl rfl rfl rfl ?_ ?_ ?_ ?_; (focus (first | rfl | (simp; done) | (simp; assumption) | (simp; omega) | (simp [*]; done))); (focus (first | exact frv_one _ | exact fv_one _ | exact p8_one _ | exact k3_one _ | exact i1_one _ | (simp [Value.oneCell']; done))); (focus (first | rfl | (simp; done) | (simp; assumption) | (simp; omega) | (simp [*]; done))); clear st; intro _ st; (try simp only [List.set_cons_zero, List.set_cons_succ] at st)) | (refine ia_storeSeg st rfl rfl rfl rfl ?_ ?_ ?_ ?_; (focus (first | rfl | (simp; done) | (simp; assumption) | (simp; omega) | (simp [*]; done))); (focus (first | exact frv_one _ | exact fv_one _ | exact p8_one _ | exact k3_one _ | exact i1_one _ | (simp [Value.oneCell']; done))); (focus (first | omega | (simp; done) | (simp; omega) | (simp [*]; omega))); clear st; intro _ st; (try simp only [List.set_cons_zero, List.set_cons_succ] at st)))) | ((with_reducible refine gate_addr rfl ?_); (first | (refine' ia_slcP HP.out rfl rfl rfl rfl ?_ ?_ ?_) | (refine' ia_slcP HP2.out rfl rfl rfl rfl ?_ ?_ ?_)); rotate_left 1; (focus (first | exact (rfl : (0 : Int) = ((0 : Nat) : Int)) | exact (rfl : (1 : Int) = ((1 : Nat) : Int)) | exact rfl | exact HE1.out | exact HE2.out)); (focus (first | omega | (simp; done) | (simp; omega) | (simp [*]; omega)))))))
        go_ret2
        exact rb_nil hE.out st.keep
      | true =>
        rw [u] at HRF HSTEP
        rw [hif u] at HRF
        have hS := hid (HSTEP.out rfl)
        obtain ⟨F, hF⟩ : ∃ F, ipF x = F := ⟨_, rfl⟩
        rw [hF] at HRF HMS
        have hfl2 := F.2.len
        rw [if_pos rfl] at HRF
        clear hio hif hF u hfl
        go_wp2_with (first | ((with_reducible refine gate_dst (N := 20) rfl ?_); ((with_reducible refine gate_load rfl ?_); refine wpl_load1 rfl _ _ rfl _ rfl OneC.out (.string ⟨x.toArray⟩) ((st.get (by repeat (first | exact At.here | apply At.there))).cellv HGET.out) ?_)) | ((with_reducible refine gate_add rfl ?_); (with_reducible refine gate_dst (N := 23) rfl ?_); refine la_sadd (l := x) (m := [10]) rfl rfl rfl rfl (by simp; omega) ?_) | (go_at_call 35; refine (HRF.out _).mono ?_; rintro _ _ ⟨rfl, hk⟩; replace st := st.call hk; clear hk) | ((with_reducible refine gate_bsl rfl ?_); refine ia_bsl1 (sl := 31) st rfl rfl rfl rfl rfl ?_ (by decide) ?_; (focus (first | rfl | (simp; done) | (simp; assumption) | (simp; omega) | (simp [*]; done))); clear st; intro B31 _ st) | ((with_reducible refine gate_app rfl ?_); refine ia_appendR (news := (fv F)) (xs := (encs fv ((W.take k).map ipF))) (spare := spare) st rfl rfl rfl rfl HML.out HC.out hcm (.fr (st.get (by repeat (first | exact At.here | apply At.there)))) (fun h => by cases h) (fv_len F) (fv_one F) (by unfold maxLen; omega) (by omega) ?_; clear st; intro g2 cap2 spare2 _ st hcap2 hcm2; (try simp only [List.set_cons_zero, List.set_cons_succ] at st)) | ((with_reducible refine gate_lst ?_); (first | ((with_reducible refine gate_alloc rfl ?_); (first | (refine ia_alloc (sl := 7) st rfl rfl rfl ?_; clear st; intro B7 _ st))) | ((with_reducible refine gate_load rfl ?_); (first | (refine' ia_load1 st rfl rfl rfl ?_ ?_; rotate_left 1; (focus (first | exact N0.out | exact N1.out | exact N2.out | exact N3.out | exact N4.out | exact N5.out | exact G2.out | exact G3.out | exact G4.out | exact G0.out | exact G1.out | (refine frv_get _ _ ?_; (first | omega | (simp; done) | (simp; omega) | (simp [*]; omega))) | exact rfl))) | (refine' ia_load1Z (hb.keep st.keep (by simp)) rfl rfl rfl ?_ ?_; rotate_left 1; (focus exact rfl)) | (refine' ia_load1Z (hb'.keep st.keep (by simp)) rfl rfl rfl ?_ ?_; rotate_left 1; (focus exact rfl)) | (refine' ia_load1C (hb.keep st.keep (by simp)) rfl rfl rfl ?_ ?_; rotate_left 1; (focus (first | exact N0.out | exact N1.out | exact N2.out | exact N3.out | exact N4.out | exact N5.out | exact G2.out | exact G3.out | exact G4.out | exact G0.out | exact G1.out | (refine frv_get _ _ ?_; (first | omega | (simp; done) | (simp; omega) | (simp [*]; omega))) | exact rfl))) | (refine' ia_load1C (hb'.keep st.keep (by simp)) rfl rfl rfl ?_ ?_; rotate_left 1; (focus (first | exact N0.out | exact N1.out | exact N2.out | exact N3.out | exact N4.out | exact N5.out | exact G2.out | exact G3.out | exact G4.out | exact G0.out | exact G1.out | (refine frv_get _ _ ?_; (first | omega | (simp; done) | (simp; omega) | (simp [*]; omega))) | exact rfl))) | (refine' ia_load1B (hb1.keep st.keep (by simp)) rfl rfl rfl ?_ ?_; rotate_left 1; (focus (first | exact N0.out | exact N1.out | exact N2.out | exact N3.out | exact N4.out | exact N5.out | exact G2.out | exact G3.out | exact G4.out | exact G0.out | exact G1.out | (refine frv_get _ _ ?_; (first | omega | (simp; done) | (simp; omega) | (simp [*]; omega))) | exact rfl))) | (refine' ia_load1B (hb2.keep st.keep (by simp)) rfl rfl rfl ?_ ?_; rotate_left 1; (focus (first | exact N0.out | exact N1.out | exact N2.out | exact N3.out | exact N4.out | exact N5.out | exact G2.out | exact G3.out | exact G4.out | exact G0.out | exact G1.out | (refine frv_get _ _ ?_; (first | omega | (simp; done) | (simp; omega) | (simp [*]; omega))) | exact rfl))) | (refine ia_loadAll st rfl rfl rfl ?_ ?_; (focus (first | rfl | (simp; done) | (simp; assumption) | (simp; omega) | (simp [*]; done)))) | (refine ia_loadC (hb.keep st.keep (by simp)) rfl rfl rfl ?_ ?_; (focus (first | rfl | (simp; done) | (simp; assumption) | (simp; omega) | (simp [*]; done)))) | (refine ia_loadC (hb'.keep st.keep (by simp)) rfl rfl rfl ?_ ?_; (focus (first | rfl | (simp; done) | (simp; assumption) | (simp; omega) | (simp [*]; done)))) | (refine ia_loadC (Cl.of (hb1.keep st.keep (by simp))) rfl rfl rfl ?_ ?_; (focus (first | rfl | (simp; done) | (simp; assumption) | (simp; omega) | (simp [*]; done)))) | (refine ia_loadC (Cl.of (hb2.keep st.keep (by simp))) rfl rfl rfl ?_ ?_; (focus (first | rfl | (simp; done) | (simp; assumption) | (simp; omega) | (simp [*]; done)))))) | ((with_reducible refine gate_store rfl ?_); (first | (refine ia_storeAll st rfl rfl rfl rfl ?_ ?_ ?_ ?_; (focus (first | rfl | (simp; done) | (simp; assumption) | (simp; omega) | (simp [*]; done))); (focus (first | exact frv_one _ | exact fv_one _ | exact p8_one _ | exact k3_one _ | exact i1_one _ | (simp [Value.oneCell']; done))); (focus (first | rfl | (simp; done) | (simp; assumption) | (simp; omega) | (simp [*]; done))); clear st; intro _ st; (try simp only [List.set_cons_zero, List.set_cons_succ] at st)) | (refine ia_storeSeg st rfl rfl rfl rfl ?_ ?_ ?_ ?_; (focus (first | rfl | (simp; done) | (simp; assumption) | (simp; omega) | (simp [*]; done))); (focus (first | exact frv_one _ | exact fv_one _ | exact p8_one _ | exact k3_one _ | exact i1_one _ | (simp [Value.oneCell']; done))); (focus (first | omega | (simp; done) | (simp; omega) | (simp [*]; omega))); clear st; intro _ st; (try simp only [List.set_cons_zero, List.set_cons_succ] at st)))) | ((with_reducible refine gate_addr rfl ?_); (first | (refine' ia_slcP HP.out rfl rfl rfl rfl ?_ ?_ ?_) | (refine' ia_slcP HP2.out rfl rfl rfl rfl ?_ ?_ ?_)); rotate_left 1; (focus (first | exact (rfl : (0 : Int) = ((0 : Nat) : Int)) | exact (rfl : (1 : Int) = ((1 : Nat) : Int)) | exact rfl | exact HE1.out | exact HE2.out)); (focus (first | omega | (simp; done) | (simp; omega) | (simp [*]; omega)))))))
        go_roundw
        case rel => exact ⟨k + 1, by omega, by go_num, hS.out, g2, cap2, spare2, rfl, by rw [HMS.out]; exact st.drop.drop, by rw [HMS.out]; exact hcap2, hcm2⟩
        case measure => first | (simp [intOf]; done) | (simp [intOf]; omega)
    · obtain rfl : k = m := by omega
      have hA := HALL.out.all HM.out
      have HTK : Hid ((W.take k).map ipF = W.map ipF) := hid (by rw [← HM.out, List.take_length])
      rw [HTK.out] at st HC
      obtain ⟨f1, f2⟩ := HFIN.out hA
      obtain ⟨R, hR⟩ : ∃ R, W.map ipF = R := ⟨_, rfl⟩
      have hRl : R.length = k := by rw [← hR, List.length_map, HM.out]
      rw [hR] at st HC f1 f2
      have HBT := hid (fun (w' : World) (p : Option Addr) (c : Nat) (hr : Rd w' p k (encs fv R)) => BookText_c R k hRl (by omega) p c w' hr)
      obtain ⟨tx, htx⟩ : ∃ tx, bkT R = tx := ⟨_, rfl⟩
      rw [htx] at HBT f1 f2
      clear hA hR htx
      by_cases e : tx = l
      · have HD : Hid ((!decide (tx = l)) = false) := hid (by simp [e])
        have hO := hid (f1.trans (decide_eq_true e))
        have hL := hid (f2 e)
        have HRL := hid hRl
        clear e f1 f2 hRl
        go_wp2_with (first | (go_at_call 7; refine (HBT.out _ _ _ (.of (st.get (by repeat (first | exact At.here | apply At.there))))).mono ?_; rintro _ _ ⟨rfl, hk⟩; replace st := st.call hk; clear hk) | ((with_reducible refine gate_sn rfl ?_); (with_reducible refine gate_dst (N := 37) rfl ?_); refine la_sneq HD.out rfl rfl rfl rfl ?_) | ((with_reducible refine gate_lst ?_); (first | ((with_reducible refine gate_alloc rfl ?_); (first | (refine ia_alloc (sl := 7) st rfl rfl rfl ?_; clear st; intro B7 _ st))) | ((with_reducible refine gate_load rfl ?_); (first | (refine' ia_load1 st rfl rfl rfl ?_ ?_; rotate_left 1; (focus (first | exact N0.out | exact N1.out | exact N2.out | exact N3.out | exact N4.out | exact N5.out | exact G2.out | exact G3.out | exact G4.out | exact G0.out | exact G1.out | (refine frv_get _ _ ?_; (first | omega | (simp; done) | (simp; omega) | (simp [*]; omega))) | exact rfl))) | (refine' ia_load1Z (hb.keep st.keep (by simp)) rfl rfl rfl ?_ ?_; rotate_left 1; (focus exact rfl)) | (refine' ia_load1Z (hb'.keep st.keep (by simp)) rfl rfl rfl ?_ ?_; rotate_left 1; (focus exact rfl)) | (refine' ia_load1C (hb.keep st.keep (by simp)) rfl rfl rfl ?_ ?_; rotate_left 1; (focus (first | exact N0.out | exact N1.out | exact N2.out | exact N3.out | exact N4.out | exact N5.out | exact G2.out | exact G3.out | exact G4.out | exact G0.out | exact G1.out | (refine frv_get _ _ ?_; (first | omega | (simp; done) | (simp; omega) | (simp [*]; omega))) | exact rfl))) | (refine' ia_load1C (hb'.keep st.keep (by simp)) rfl rfl rfl ?_ ?_; rotate_left 1; (focus (first | exact N0.out | exact N1.out | exact N2.out | exact N3.out | exact N4.out | exact N5.out | exact G2.out | exact G3.out | exact G4.out | exact G0.out | exact G1.out | (refine frv_get _ _ ?_; (first | omega | (simp; done) | (simp; omega) | (simp [*]; omega))) | exact rfl))) | (refine' ia_load1B (hb1.keep st.keep (by simp)) rfl rfl rfl ?_ ?_; rotate_left 1; (focus (first | exact N0.out | exact N1.out | exact N2.out | exact N3.out | exact N4.out | exact N5.out | exact G2.out | exact G3.out | exact G4.out | exact G0.out | exact G1.out | (refine frv_get _ _ ?_; (first | omega | (simp; done) | (simp; omega) | (simp [*]; omega))) | exact rfl))) | (refine' ia_load1B (hb2.keep st.keep (by simp)) rfl rfl rfl ?_ ?_; rotate_left 1; (focus (first | exact N0.out | exact N1.out | exact N2.out | exact N3.out | exact N4.out | exact N5.out | exact G2.out | exact G3.out | exact G4.out | exact G0.out | exact G1.out | (refine frv_get _ _ ?_; (first | omega | (simp; done) | (simp; omega) | (simp [*]; omega))) | exact rfl))) | (refine ia_loadAll st rfl rfl rfl ?_ ?_; (focus (first | rfl | (simp; done) | (simp; assumption) | (simp; omega) | (simp [*]; done)))) | (refine ia_loadC (hb.keep st.keep (by simp)) rfl rfl rfl ?_ ?_; (focus (first | rfl | (simp; done) | (simp; assumption) | (simp; omega) | (simp [*]; done)))) | (refine ia_loadC (hb'.keep st.keep (by simp)) rfl rfl rfl ?_ ?_; (focus (first | rfl | (simp; done) | (simp; assumption) | (simp; omega) | (simp [*]; done)))) | (refine ia_loadC (Cl.of (hb1.keep st.keep (by simp))) rfl rfl rfl ?_ ?_; (focus (first | rfl | (simp; done) | (simp; assumption) | (simp; omega) | (simp [*]; done)))) | (refine ia_loadC (Cl.of (hb2.keep st.keep (by simp))) rfl rfl rfl ?_ ?_; (focus (first | rfl | (simp; done) | (simp; assumption) | (simp; omega) | (simp [*]; done)))))) | ((with_reducible refine gate_store rfl ?_); (first | (refine ia_storeAll st rfl rfl rfl rfl ?_ ?_ ?_ ?_; (focus (first | rfl | (simp; done) | (simp; assumption) | (simp; omega) | (simp [*]; done))); (focus (first | exact frv_one _ | exact fv_one _ | exact p8_one _ | exact k3_one _ | exact i1_one _ | (simp [Value.oneCell']; done))); (focus (first | rfl | (simp; done) | (simp; assumption) | (simp; omega) | (simp [*]; done))); clear st; intro _ st; (try simp only [List.set_cons_zero, List.set_cons_succ] at st)) | (refine ia_storeSeg st rfl rfl rfl rfl ?_ ?_ ?_ ?_; (focus (first | rfl | (simp; done) | (simp; assumption) | (simp; omega) | (simp [*]; done))); (focus (first | exact frv_one _ | exact fv_one _ | exact p8_one _ | exact k3_one _ | exact i1_one _ | (simp [Value.oneCell']; done))); (focus (first | omega | (simp; done) | (simp; omega) | (simp [*]; omega))); clear st; intro _ st; (try simp only [List.set_cons_zero, List.set_cons_succ] at st)))) | ((with_reducible refine gate_addr rfl ?_); (first | (refine' ia_slcP HP.out rfl rfl rfl rfl ?_ ?_ ?_) | (refine' ia_slcP HP2.out rfl rfl rfl rfl ?_ ?_ ?_)); rotate_left 1; (focus (first | exact (rfl : (0 : Int) = ((0 : Nat) : Int)) | exact (rfl : (1 : Int) = ((1 : Nat) : Int)) | exact rfl | exact HE1.out | exact HE2.out)); (focus (first | omega | (simp; done) | (simp; omega) | (simp [*]; omega)))))))
        go_ret2
        exact rb_ok hO.out hL.out HRL.out ⟨gO, cap, spare, rfl, out_of st .here, st.get .here, HC.out, hcm⟩ st.keep
      · have HD : Hid ((!decide (tx = l)) = true) := hid (by simp [e])
        have hO := hid (f1.trans (decide_eq_false e))
        clear e f1 f2 hRl
        go_wp2_with (first | (go_at_call 7; refine (HBT.out _ _ _ (.of (st.get (by repeat (first | exact At.here | apply At.there))))).mono ?_; rintro _ _ ⟨rfl, hk⟩; replace st := st.call hk; clear hk) | ((with_reducible refine gate_sn rfl ?_); (with_reducible refine gate_dst (N := 37) rfl ?_); refine la_sneq HD.out rfl rfl rfl rfl ?_) | ((with_reducible refine gate_lst ?_); (first | ((with_reducible refine gate_alloc rfl ?_); (first | (refine ia_alloc (sl := 7) st rfl rfl rfl ?_; clear st; intro B7 _ st))) | ((with_reducible refine gate_load rfl ?_); (first | (refine' ia_load1 st rfl rfl rfl ?_ ?_; rotate_left 1; (focus (first | exact N0.out | exact N1.out | exact N2.out | exact N3.out | exact N4.out | exact N5.out | exact G2.out | exact G3.out | exact G4.out | exact G0.out | exact G1.out | (refine frv_get _ _ ?_; (first | omega | (simp; done) | (simp; omega) | (simp [*]; omega))) | exact rfl))) | (refine' ia_load1Z (hb.keep st.keep (by simp)) rfl rfl rfl ?_ ?_; rotate_left 1; (focus exact rfl)) | (refine' ia_load1Z (hb'.keep st.keep (by simp)) rfl rfl rfl ?_ ?_; rotate_left 1; (focus exact rfl)) | (refine' ia_load1C (hb.keep st.keep (by simp)) rfl rfl rfl ?_ ?_; rotate_left 1; (focus (first | exact N0.out | exact N1.out | exact N2.out | exact N3.out | exact N4.out | exact N5.out | exact G2.out | exact G3.out | exact G4.out | exact G0.out | exact G1.out | (refine frv_get _ _ ?_; (first | omega | (simp; done) | (simp; omega) | (simp [*]; omega))) | exact rfl))) | (refine' ia_load1C (hb'.keep st.keep (by simp)) rfl rfl rfl ?_ ?_; rotate_left 1; (focus (first | exact N0.out | exact N1.out | exact N2.out | exact N3.out | exact N4.out | exact N5.out | exact G2.out | exact G3.out | exact G4.out | exact G0.out | exact G1.out | (refine frv_get _ _ ?_; (first | omega | (simp; done) | (simp; omega) | (simp [*]; omega))) | exact rfl))) | (refine' ia_load1B (hb1.keep st.keep (by simp)) rfl rfl rfl ?_ ?_; rotate_left 1; (focus (first | exact N0.out | exact N1.out | exact N2.out | exact N3.out | exact N4.out | exact N5.out | exact G2.out | exact G3.out | exact G4.out | exact G0.out | exact G1.out | (refine frv_get _ _ ?_; (first | omega | (simp; done) | (simp; omega) | (simp [*]; omega))) | exact rfl))) | (refine' ia_load1B (hb2.keep st.keep (by simp)) rfl rfl rfl ?_ ?_; rotate_left 1; (focus (first | exact N0.out | exact N1.out | exact N2.out | exact N3.out | exact N4.out | exact N5.out | exact G2.out | exact G3.out | exact G4.out | exact G0.out | exact G1.out | (refine frv_get _ _ ?_; (first | omega | (simp; done) | (simp; omega) | (simp [*]; omega))) | exact rfl))) | (refine ia_loadAll st rfl rfl rfl ?_ ?_; (focus (first | rfl | (simp; done) | (simp; assumption) | (simp; omega) | (simp [*]; done)))) | (refine ia_loadC (hb.keep st.keep (by simp)) rfl rfl rfl ?_ ?_; (focus (first | rfl | (simp; done) | (simp; assumption) | (simp; omega) | (simp [*]; done)))) | (refine ia_loadC (hb'.keep st.keep (by simp)) rfl rfl rfl ?_ ?_; (focus (first | rfl | (simp; done) | (simp; assumption) | (simp; omega) | (simp [*]; done)))) | (refine ia_loadC (Cl.of (hb1.keep st.keep (by simp))) rfl rfl rfl ?_ ?_; (focus (first | rfl | (simp; done) | (simp; assumption) | (simp; omega) | (simp [*]; done)))) | (refine ia_loadC (Cl.of (hb2.keep st.keep (by simp))) rfl rfl rfl ?_ ?_; (focus (first | rfl | (simp; done) | (simp; assumption) | (simp; omega) | (simp [*]; done)))))) | ((with_reducible refine gate_store rfl ?_); (first | (refine ia_storeAll st rfl rfl rfl rfl ?_ ?_ ?_ ?_; (focus (first | rfl | (simp; done) | (simp; assumption) | (simp; omega) | (simp [*]; done))); (focus (first | exact frv_one _ | exact fv_one _ | exact p8_one _ | exact k3_one _ | exact i1_one _ | (simp [Value.oneCell']; done))); (focus (first | rfl | (simp; done) | (simp; assumption) | (simp; omega) | (simp [*]; done))); clear st; intro _ st; (try simp only [List.set_cons_zero, List.set_cons_succ] at st)) | (refine ia_storeSeg st rfl rfl rfl rfl ?_ ?_ ?_ ?_; (focus (first | rfl | (simp; done) | (simp; assumption) | (simp; omega) | (simp [*]; done))); (focus (first | exact frv_one _ | exact fv_one _ | exact p8_one _ | exact k3_one _ | exact i1_one _ | (simp [Value.oneCell']; done))); (focus (first | omega | (simp; done) | (simp; omega) | (simp [*]; omega))); clear st; intro _ st; (try simp only [List.set_cons_zero, List.set_cons_succ] at st)))) | ((with_reducible refine gate_addr rfl ?_); (first | (refine' ia_slcP HP.out rfl rfl rfl rfl ?_ ?_ ?_) | (refine' ia_slcP HP2.out rfl rfl rfl rfl ?_ ?_ ?_)); rotate_left 1; (focus (first | exact (rfl : (0 : Int) = ((0 : Nat) : Int)) | exact (rfl : (1 : Int) = ((1 : Nat) : Int)) | exact rfl | exact HE1.out | exact HE2.out)); (focus (first | omega | (simp; done) | (simp; omega) | (simp [*]; omega)))))))
        go_ret2
        exact rb_nil hO.out st.keep
theorem ReadBook_c (l : List UInt8) (n : Nat) (hn : l.length = n) (hn1 : n ≤ 1000000) (w : World) (hg : GlobM w) :
    Calls Tryz.prog 6 #[.string ⟨l.toArray⟩] w (BookCode (rbL l) (rbL l).length (rbC l) (rbC l ≠ 0) w) := by
  by_cases h : l = []
  · subst h; exact ReadBook0_c w
  · exact ReadBook1_c l n hn hn1 h w hg
end Go.Proofs.YtmfgbkmkcljciaaGreatDoor
/- What a row of a door tells of the library's cell; no condition. -/
namespace Go.Proofs.YtmfgbkmkcljciaaGreatDoor
open Go.RowKit
theorem globs {L : List (String × DataW Unit)} {W : World} (_hL : laidMet Tryz.prog L W) (h : W.ShapedOpen Tryz.prog) : GlobM W := max_of h
end Go.Proofs.YtmfgbkmkcljciaaGreatDoor
/- In how many places two frames differ; no condition. -/
namespace Go.Proofs.YtmfgbkmkcljciaaGreatDoor
open Go.RowKit
set_option linter.unusedSimpArgs false
set_option linter.unusedVariables false

theorem mixX_frOk {f g : List Nat} (okf : FrOk f) (okg : FrOk g) : FrOk (mixR (fun a b => a ^^^ b) f g) := rowsOf_ok fun y _ => Nat.xor_lt_two_pow (n := 16) (okf.ro_lt y) (okg.ro_lt y)
theorem mixX_ok {f g : List Nat} (hf : okB f = true) (hg : okB g = true) : okB (mixR (fun a b => a ^^^ b) f g) = true := by
  apply okB_of
  intro y hy
  rw [mixR_length] at hy
  unfold mixR
  rw [ro_rowsOf _ _ hy]
  have : ro f y ^^^ ro g y < 4096 := Nat.xor_lt_two_pow (n := 12) (okB_ro hf y) (okB_ro hg y)
  simp only
  omega
set_option maxRecDepth 100000 in
theorem l01Differ_c (f g : List Nat) (okf : FrOk f) (okg : FrOk g) (b o b' o' : Nat) (w : World) (hb : Cl w b o (frv f)) (hb' : Cl w b' o' (frv g)) :
    Calls Tryz.prog 74 #[.pointer (some ⟨b, o, none⟩), .pointer (some ⟨b', o', none⟩)] w fun e w' => e = .returned (.int .i64 ((dots (mixR (fun a b => a ^^^ b) f g)).length : Nat)) ∧ Keep [] w w' := by
  have hf := okf.len
  have hg := okg.len
  have st := St.start w
  go_enter Tryz.func74, Tryz.ntmps74
  go_wp2_with (first | ((with_reducible refine gate_alloc rfl ?_); (with_reducible refine gate_dst (N := 5) rfl ?_); refine wpl_alloc rfl _ rfl tFr.toAggT st ?_; clear st; intro B5 _ st) | ((with_reducible refine gate_build rfl ?_); refine wpl_zero rfl _ rfl _ tFrB ?_) | ((with_reducible refine gate_store rfl ?_); refine wpl_storeAll rfl _ _ _ rfl _ rfl _ rfl tFr.toAggT (by simp [frv_length, zf_length, mk_length, withD_length, part_length, rowsOf_length, *]) (frv_one _) st _ _ (by repeat (first | exact Upd.here | apply Upd.there)) (by simp [frv_length, zf_length, mk_length, withD_length, part_length, rowsOf_length, *]) ?_; clear st; intro _ st))
  go_loopw [6] (fun i wr => ∃ y : Nat, y ≤ 12 ∧ i = .int .i64 y ∧ St [] w wr [(B5, frv (part (fun y => ro f y ^^^ ro g y) zf y), 42)]) (fun i _ => 12 - (intOf i).toNat)
  case atStart => exact ⟨0, by omega, rfl, by rw [part_zero _ _ zf_length]; exact st⟩
  case round =>
    clear st
    obtain ⟨y, hy, rfl, st⟩ := hrel
    by_cases hlt : y < 12
    · have hdy : decide ((y : Int) < 12) = true := by simp; omega
      have hb1 := okf.ro_lt y
      have hb2 := okg.ro_lt y
      go_wp2_with fail
      (refine wp_region_tail_st st 13 (by kernel_rfl) (by kernel_rfl) ?_; clear st; simp only [List.take_succ_cons, List.take_zero, List.drop_succ_cons, List.drop_zero]; (repeat ((first | (refine wpq_move rfl _ rfl _ rfl ?_) | (refine wpq_nil rfl _ rfl _ rfl ?_) | ((with_reducible refine qgate_dst (N := 24) rfl ?_); ((with_reducible refine qgate_addr rfl ?_); refine wpq_indexAddr0 rfl _ _ _ rfl _ rfl _ _ rfl tFr y rfl hlt ?_)) | ((with_reducible refine qgate_addr rfl ?_); refine wpq_indexAddr rfl _ _ _ rfl _ _ rfl _ _ rfl tFr y rfl hlt ?_) | ((with_reducible refine qgate_dst (N := 17) rfl ?_); ((with_reducible refine qgate_load rfl ?_); refine wpq_load1 rfl _ _ rfl _ rfl tU16 _ (fun _ hw => ((hb.keep hw.keep (by simp)).cellv (frv_get _ _ (by omega)))) ?_)) | ((with_reducible refine qgate_dst (N := 22) rfl ?_); ((with_reducible refine qgate_load rfl ?_); refine wpq_load1 rfl _ _ rfl _ rfl tU16 _ (fun _ hw => ((hb'.keep hw.keep (by simp)).cellv (frv_get _ _ (by omega)))) ?_)) | ((with_reducible refine qgate_bin rfl ?_); refine wpq_bin rfl _ _ _ _ _ rfl _ _ _ _ rfl rfl (.int .u16 ((ro f y ^^^ ro g y : Nat) : Int)) (fun w' => run_xor hb1 hb2 w') ?_)); (simp only [Act.put, Act.eval, Array.getD_eq_getD_getElem?, List.getElem?_toArray, List.getElem?_cons_succ, List.getElem?_cons_zero, Option.getD_some, List.setIfInBounds_toArray, List.set_cons_succ, List.set_cons_zero, List.getElem_toArray, List.getElem_cons_succ, List.getElem_cons_zero]))); refine wpQuiet_nil ?_; intro _ st)
      go_wp2_with (first | ((with_reducible refine gate_store rfl ?_); refine wpl_store1 rfl _ _ _ rfl _ _ rfl (.int .u16 _) rfl tU16 rfl rfl st _ _ (by repeat (first | exact Upd.here | apply Upd.there)) (by rw [frv_length, part_length]; omega) ?_; rw [frv_set, part_set (fun y => ro f y ^^^ ro g y) zf y hlt];clear st; intro _ st))
      go_roundw
      case rel => exact ⟨y + 1, by omega, by go_num, st⟩
      case measure => simp [intOf]; omega
    · obtain rfl : y = 12 := by omega
      rw [part_all] at st
      go_wp2_with (first | (go_at_call 93; refine (l01Count_c (mixR (fun a b => a ^^^ b) f g) (mixX_frOk okf okg) _ _ _ (.of (st.get .here))).mono ?_; rintro _ _ ⟨rfl, hk⟩; replace st := st.call hk; clear hk))
      go_ret
      exact ⟨rfl, st.keep⟩
theorem jump_c (f g : List Nat) (okf : FrOk f) (okg : FrOk g) (h : codeG f g = 0) (w : World) : Calls Tryz.prog 45 #[.agg (frv f).toArray, .agg (frv g).toArray] w fun e w' => e = .returned (.int .i64 ((dots (mixR (fun a b => a ^^^ b) f g)).length : Nat)) ∧ Keep [] w w' := by
  have hf := okf.len
  have hg := okg.len
  have hm := mixR_length (fun a b => a ^^^ b) f g
  have st := St.start w
  go_enter Tryz.func45, Tryz.ntmps45
  go_wp2_with (first | ((with_reducible refine gate_box rfl ?_); refine wpl_box rfl _ _ rfl _ rfl _ rfl st ?_; clear st; intro _ _ st) | ((with_reducible refine gate_load rfl ?_); refine wpl_loadAll rfl _ _ rfl _ rfl tFr.toAggT _ _ (st.get (by repeat (first | exact At.here | apply At.there))) (by simp [frv_length, zf_length, mk_length, withD_length, part_length, rowsOf_length, *]) ?_) | (go_at_call 75; refine (differ_c f g okf okg _).mono ?_; rintro _ _ ⟨rfl, hk⟩; replace st := st.call hk; clear hk) | (go_at_call 76; refine (count_c (mixR (fun a b => a ^^^ b) f g) (mixX_frOk okf okg) (mixX_ok (codeG_ok h).1 (codeG_ok h).2) _).mono ?_; rintro _ _ ⟨rfl, hk⟩; replace st := st.call hk; clear hk))
  go_ret
  exact ⟨rfl, st.keep⟩
/-- In how many places f and g differ, if both are valid. -/
def difR (f g : List Nat) : Int := if codeG f g = 0 then ((dots (mixR (fun a b => a ^^^ b) f g)).length : Int) else 0
set_option maxRecDepth 100000 in
theorem Differ_c (f g : List Nat) (okf : FrOk f) (okg : FrOk g) (w : World) :
    Calls Tryz.prog 18 #[.agg (frv f).toArray, .agg (frv g).toArray] w fun e w' => e = .returned (.tuple #[.int .i64 (difR f g), .int .i64 (codeG f g)]) ∧ Keep [] w w' := by
  have hf := okf.len
  have hg := okg.len
  have st := St.start w
  unfold difR
  by_cases hc : codeG f g = 0
  · rw [if_pos hc, hc]
    go_enter Tryz.func18, Tryz.ntmps18
    go_wp2_with (first | ((with_reducible refine gate_box rfl ?_); refine wpl_box rfl _ _ rfl _ rfl _ rfl st ?_; clear st; intro _ _ st) | ((with_reducible refine gate_load rfl ?_); refine wpl_loadAll rfl _ _ rfl _ rfl tFr.toAggT _ _ (st.get (by repeat (first | exact At.here | apply At.there))) (by simp [frv_length, zf_length, mk_length, withD_length, part_length, rowsOf_length, *]) ?_) | ((with_reducible refine gate_bsl rfl ?_); refine wpl_buildSlice2 rfl _ _ _ rfl _ _ rfl rfl _ _ rfl rfl tFrS (by rw [frv_length, hf]) (by rw [frv_length, hg]) (by decide) st ?_; clear st; intro _ _ st) | (go_at_call 48; refine (areTwo_c f g hf hg _ _ _ _ (st.get .here)).mono ?_; rintro _ _ ⟨rfl, hk⟩; replace st := st.call hk; clear hk) | (go_at_call 45; refine (jump_c f g okf okg hc _).mono ?_; rintro _ _ ⟨rfl, hk⟩; replace st := st.call hk; clear hk))
    ((try simp only [Exit.inBlock, Exit.then]); refine bodyPost_ret (results_tmp2 rfl _ _ _) rfl ?_)
    exact ⟨rfl, st.keep⟩
  · rw [if_neg hc]
    have hc1 : codeG f g = 1 := by unfold codeG at hc ⊢; split at hc <;> simp_all
    rw [hc1]
    go_enter Tryz.func18, Tryz.ntmps18
    go_wp2_with (first | ((with_reducible refine gate_box rfl ?_); refine wpl_box rfl _ _ rfl _ rfl _ rfl st ?_; clear st; intro _ _ st) | ((with_reducible refine gate_load rfl ?_); refine wpl_loadAll rfl _ _ rfl _ rfl tFr.toAggT _ _ (st.get (by repeat (first | exact At.here | apply At.there))) (by simp [frv_length, zf_length, mk_length, withD_length, part_length, rowsOf_length, *]) ?_) | ((with_reducible refine gate_bsl rfl ?_); refine wpl_buildSlice2 rfl _ _ _ rfl _ _ rfl rfl _ _ rfl rfl tFrS (by rw [frv_length, hf]) (by rw [frv_length, hg]) (by decide) st ?_; clear st; intro _ _ st) | (go_at_call 48; refine (areTwo_c f g hf hg _ _ _ _ (st.get .here)).mono ?_; rintro _ _ ⟨rfl, hk⟩; replace st := st.call hk; clear hk))
    ((try simp only [Exit.inBlock, Exit.then]); refine bodyPost_ret (results_tmp2 rfl _ _ _) rfl ?_)
    exact ⟨rfl, st.keep⟩
end Go.Proofs.YtmfgbkmkcljciaaGreatDoor
/- The laws' own helpers on lists of numbers: compared, marked and looked at again; no condition. -/
namespace Go.Proofs.YtmfgbkmkcljciaaGreatDoor
open Go.RowKit
set_option linter.unusedSimpArgs false
set_option linter.unusedVariables false
def mkI (k0 m : Nat) : Value := .int .i64 ((k0 + m : Nat) : Int)
end Go.Proofs.YtmfgbkmkcljciaaGreatDoor
/- Plain mathematics on lists: first places, distinct elements, greatest numbers, sums; no condition. -/
namespace Go.Proofs.YtmfgbkmkcljciaaGreatDoor
set_option linter.unusedSimpArgs false
set_option linter.unusedVariables false

section
variable {α : Type} [DecidableEq α]
/-- The first place of x in a list; its length if there is none. -/
def fidx (x : α) : List α → Nat
  | [] => 0
  | y :: l => if x = y then 0 else fidx x l + 1
theorem fidx_le (x : α) : ∀ l : List α, fidx x l ≤ l.length
  | [] => Nat.le_refl _
  | y :: l => by unfold fidx; split <;> simp [fidx_le x l]
theorem fidx_append_mem {x : α} : ∀ {l m : List α}, x ∈ l → fidx x (l ++ m) = fidx x l
  | [], _, h => by cases h
  | y :: l, m, h => by
    rw [List.cons_append]
    unfold fidx
    split
    · rfl
    · rename_i hne
      rw [fidx_append_mem (l := l) (by rcases List.mem_cons.1 h with h | h; exact absurd h hne; exact h)]
theorem fidx_append_not {x : α} : ∀ {l m : List α}, x ∉ l → fidx x (l ++ m) = l.length + fidx x m
  | [], m, _ => by simp
  | y :: l, m, h => by
    have e : fidx x (y :: l ++ m) = fidx x (l ++ m) + 1 := by
      rw [List.cons_append, fidx, if_neg (fun e => h (by rw [e]; exact List.mem_cons_self))]
    rw [e, fidx_append_not (l := l) (fun hm => h (List.mem_cons_of_mem _ hm)), List.length_cons]
    omega
theorem fidx_lt {x : α} : ∀ {l : List α}, x ∈ l → fidx x l < l.length
  | [], h => by cases h
  | y :: l, h => by
    unfold fidx
    split
    · simp
    · rename_i hne
      have := fidx_lt (l := l) (by rcases List.mem_cons.1 h with h | h; exact absurd h hne; exact h)
      simp
      omega
theorem fidx_mem {x : α} {l : List α} (h : fidx x l < l.length) : x ∈ l := by
  induction l with
  | nil => simp at h
  | cons y l ih =>
    unfold fidx at h
    split at h
    · rename_i e; rw [e]; exact List.mem_cons_self
    · exact List.mem_cons_of_mem _ (ih (by simpa using h))
theorem fidx_iff {x : α} {l : List α} : fidx x l < l.length ↔ x ∈ l := ⟨fidx_mem, fidx_lt⟩
theorem fidx_get {x : α} : ∀ {l : List α} (h : fidx x l < l.length), l[fidx x l] = x
  | [], h => by simp at h
  | y :: l, h => by
    have hm : ∀ k, fidx x (y :: l) = k → ∀ hk : k < (y :: l).length, (y :: l)[k] = x := by
      intro k hk hlt
      unfold fidx at hk
      split at hk
      · rename_i e; subst hk; simpa using e.symm
      · subst hk
        simp only [List.getElem_cons_succ]
        exact fidx_get (by simpa using hlt)
    exact hm _ rfl h
theorem fidx_not {x : α} : ∀ {l : List α} {k : Nat} (h : k < l.length), k < fidx x l → x ≠ l[k]
  | [], _, h, _ => by simp at h
  | y :: l, k, h, hk => by
    unfold fidx at hk
    split at hk
    · omega
    · rename_i hne
      cases k with
      | zero => simpa using hne
      | succ k => simp only [List.getElem_cons_succ]; exact fidx_not (by simpa using h) (by omega)
/-- Found at k, and not before. -/
theorem fidx_at {x : α} {l : List α} {k : Nat} (hk : k < l.length) (h : x = l[k]) (h0 : k ≤ fidx x l) : fidx x l = k := by
  rcases Nat.lt_or_ge k (fidx x l) with h1 | h1
  · exact absurd h (fidx_not hk h1)
  · omega
theorem fidx_step {x : α} {l : List α} {k : Nat} (hk : k < l.length) (h : x ≠ l[k]) (h0 : k ≤ fidx x l) : k + 1 ≤ fidx x l := by
  rcases Nat.lt_or_ge k (fidx x l) with h1 | h1
  · exact h1
  · have e : fidx x l = k := by omega
    exact absurd (fidx_get (x := x) (l := l) (by omega)).symm (by simp only [e]; exact h)
theorem fidx_self {l : List α} {k : Nat} (hk : k < l.length) : fidx l[k] l ≤ k := by
  rcases Nat.lt_or_ge k (fidx l[k] l) with h1 | h1
  · exact absurd rfl (fidx_not hk h1)
  · exact h1
theorem fidx_none {x : α} {l : List α} (h : l.length ≤ fidx x l) : fidx x l = l.length := by
  have := fidx_le x l; omega

/-- The first places of all elements. -/
def repN (B : List α) : List Nat := B.map fun x => fidx x B
/-- One more element: the distinct ones so far, and where each is among them. -/
def dstep (s : List α × List Nat) (x : α) : List α × List Nat := (if fidx x s.1 < s.1.length then s.1 else s.1 ++ [x], s.2 ++ [fidx x s.1])
def dst (B : List α) : List α × List Nat := B.foldl dstep ([], [])
theorem dst_snoc (B : List α) (x : α) : dst (B ++ [x]) = dstep (dst B) x := by simp [dst]
theorem dst_take {B : List α} {k : Nat} (hk : k < B.length) : dst (B.take (k + 1)) = dstep (dst (B.take k)) B[k] := by
  rw [List.take_succ_eq_append_getElem hk, dst_snoc]
theorem dst_len (B : List α) : (dst B).2.length = B.length := by
  have : ∀ (B : List α) (s : List α × List Nat), (B.foldl dstep s).2.length = s.2.length + B.length := by
    intro B
    induction B with
    | nil => intro s; simp
    | cons x B ih => intro s; rw [List.foldl_cons, ih]; simp [dstep]; omega
  simpa [dst] using this B ([], [])
theorem dst_le (B : List α) : (dst B).1.length ≤ B.length := by
  have : ∀ (B : List α) (s : List α × List Nat), (B.foldl dstep s).1.length ≤ s.1.length + B.length := by
    intro B
    induction B with
    | nil => intro s; simp
    | cons x B ih =>
      intro s
      rw [List.foldl_cons]
      refine Nat.le_trans (ih _) ?_
      simp only [dstep]
      split <;> simp <;> omega
  simpa [dst] using this B ([], [])
theorem dst_mem {B : List α} {x : α} : x ∈ (dst B).1 ↔ x ∈ B := by
  have : ∀ (B : List α) (s : List α × List Nat), x ∈ (B.foldl dstep s).1 ↔ (x ∈ s.1 ∨ x ∈ B) := by
    intro B
    induction B with
    | nil => intro s; simp
    | cons y B ih =>
      intro s
      rw [List.foldl_cons, ih]
      simp only [dstep]
      split
      · rename_i h
        have hy := fidx_mem h
        constructor
        · rintro (h | h)
          · exact Or.inl h
          · exact Or.inr (List.mem_cons_of_mem _ h)
        · rintro (h | h)
          · exact Or.inl h
          · rcases List.mem_cons.1 h with rfl | h
            · exact Or.inl hy
            · exact Or.inr h
      · rw [List.mem_append, List.mem_singleton, List.mem_cons]
        constructor
        · rintro ((h | h) | h)
          · exact Or.inl h
          · exact Or.inr (Or.inl h)
          · exact Or.inr (Or.inr h)
        · rintro (h | h | h)
          · exact Or.inl (Or.inl h)
          · exact Or.inl (Or.inr h)
          · exact Or.inr h
  simpa [dst] using this B ([], [])
/-- The places so far tell where each element is among the distinct ones. -/
theorem dst_place {B : List α} : ∀ (k : Nat) (hk : k < B.length), (dst B).2[k]? = some (fidx B[k] (dst B).1) := by
  have key : ∀ (B : List α), (∀ k (hk : k < B.length), (dst B).2[k]? = some (fidx B[k] (dst B).1)) := by
    intro B
    have hind : ∀ n, n ≤ B.length → ∀ k (hk : k < B.length), k < n → (dst (B.take n)).2[k]? = some (fidx B[k] (dst (B.take n)).1) := by
      intro n
      induction n with
      | zero => intro _ k _ h; omega
      | succ n ih =>
        intro hn k hk hkn
        have hnl : n < B.length := by omega
        rw [dst_take hnl]
        have hlen : (dst (B.take n)).2.length = n := by rw [dst_len, List.length_take]; omega
        by_cases hkn' : k < n
        · have h := ih (by omega) k hk hkn'
          simp only [dstep]
          rw [List.getElem?_append_left (by omega), h]
          split
          · rfl
          · have hm : B[k] ∈ (dst (B.take n)).1 := by
              rw [dst_mem, List.mem_take_iff_getElem]
              exact ⟨k, by omega, rfl⟩
            rw [fidx_append_mem hm]
        · have e : k = n := by omega
          subst e
          simp only [dstep]
          rw [List.getElem?_append_right (by omega), hlen, Nat.sub_self, List.getElem?_cons_zero]
          congr 1
          split
          · rfl
          · rename_i h
            have hno : B[k] ∉ (dst (B.take k)).1 := fun hm => h (fidx_lt hm)
            rw [fidx_append_not hno]
            have := fidx_le B[k] (dst (B.take k)).1
            simp [fidx]
            omega
    intro k hk
    have := hind B.length (Nat.le_refl _) k hk hk
    rwa [List.take_length] at this
  exact key B
/-- What the reference does with the first places. -/
theorem dst_new {B : List α} {k : Nat} (hk : k < B.length) (h : fidx B[k] B = k) : dst (B.take (k + 1)) = ((dst (B.take k)).1 ++ [B[k]], (dst (B.take k)).2 ++ [(dst (B.take k)).1.length]) := by
  have hno : B[k] ∉ (dst (B.take k)).1 := by
    rw [dst_mem, List.mem_take_iff_getElem]
    rintro ⟨j, hj, e⟩
    have hj2 : j < B.length := by omega
    have := fidx_not (x := B[k]) hj2 (by omega)
    exact this e.symm
  have hf : fidx B[k] (dst (B.take k)).1 = (dst (B.take k)).1.length := fidx_none (by
    rcases Nat.lt_or_ge (fidx B[k] (dst (B.take k)).1) (dst (B.take k)).1.length with h1 | h1
    · exact absurd (fidx_mem h1) hno
    · exact h1)
  rw [dst_take hk]
  simp only [dstep]
  rw [hf, if_neg (Nat.lt_irrefl _)]
theorem dst_old {B : List α} {k : Nat} (hk : k < B.length) (h : fidx B[k] B ≠ k) : fidx B[k] B < k ∧ ∃ p, (dst (B.take k)).2[fidx B[k] B]? = some p ∧ dst (B.take (k + 1)) = ((dst (B.take k)).1, (dst (B.take k)).2 ++ [p]) := by
  have hle := fidx_self hk
  have hlt : fidx B[k] B < k := by omega
  have hfl : fidx B[k] B < B.length := by omega
  have hg := fidx_get hfl
  refine ⟨hlt, fidx B[k] (dst (B.take k)).1, ?_, ?_⟩
  · have := dst_place (B := B.take k) (fidx B[k] B) (by rw [List.length_take]; omega)
    rw [this]
    rw [List.getElem_take, hg]
  · rw [dst_take hk]
    simp only [dstep]
    have hm : B[k] ∈ (dst (B.take k)).1 := by
      rw [dst_mem, List.mem_take_iff_getElem]
      exact ⟨_, by omega, hg⟩
    rw [if_pos (fidx_lt hm)]
end

/-! ### The greatest of some numbers -/
def mxL (m : Int) (l : List Int) : Int := l.foldl (fun a b => max a b) m
theorem mxL_snoc (m : Int) (l : List Int) (x : Int) : mxL m (l ++ [x]) = max (mxL m l) x := by simp [mxL]
/-- a is the first place of the greatest of the first k. -/
def ArgMax (l : List Int) (k a : Nat) : Prop := a < k ∧ (∀ j, j < k → l.getD j 0 ≤ l.getD a 0) ∧ ∀ j, j < a → l.getD j 0 < l.getD a 0
theorem ArgMax.one (l : List Int) : ArgMax l 1 0 := ⟨by omega, fun j hj => by rw [show j = 0 by omega]; exact Int.le_refl _, fun j hj => by omega⟩
theorem ArgMax.up {l : List Int} {k a : Nat} (h : ArgMax l k a) (hx : l.getD a 0 < l.getD k 0) : ArgMax l (k + 1) k := by
  refine ⟨by omega, fun j hj => ?_, fun j hj => ?_⟩
  · by_cases e : j = k
    · subst e; exact Int.le_refl _
    · have := h.2.1 j (by omega); omega
  · have := h.2.1 j (by omega); omega
theorem ArgMax.stay {l : List Int} {k a : Nat} (h : ArgMax l k a) (hx : ¬ l.getD a 0 < l.getD k 0) : ArgMax l (k + 1) a := by
  refine ⟨by have := h.1; omega, fun j hj => ?_, h.2.2⟩
  by_cases e : j = k
  · subst e; omega
  · exact h.2.1 j (by omega)
theorem ArgMax.uniq {l : List Int} {k a b : Nat} (h : ArgMax l k a) (h' : ArgMax l k b) : a = b := by
  rcases Nat.lt_trichotomy a b with h1 | h1 | h1
  · have := h'.2.2 a h1
    have := h.2.1 b h'.1
    omega
  · exact h1
  · have := h.2.2 b h1
    have := h'.2.1 a h.1
    omega
/-- The greatest of the first k. -/
def MaxTo (l : List Int) (k : Nat) (m : Int) : Prop := (∀ j, j < k → l.getD j 0 ≤ m) ∧ ∃ j, j < k ∧ l.getD j 0 = m
theorem MaxTo.one (l : List Int) : MaxTo l 1 (l.getD 0 0) := ⟨fun j hj => by rw [show j = 0 by omega]; exact Int.le_refl _, 0, by omega, rfl⟩
theorem MaxTo.step {l : List Int} {k : Nat} {m : Int} (h : MaxTo l k m) : MaxTo l (k + 1) (max m (l.getD k 0)) := by
  obtain ⟨h1, j, h2, h3⟩ := h
  refine ⟨fun i hi => ?_, ?_⟩
  · by_cases e : i = k
    · subst e; exact Int.le_max_right _ _
    · exact Int.le_trans (h1 i (by omega)) (Int.le_max_left _ _)
  · rcases Int.le_total m (l.getD k 0) with h | h
    · exact ⟨k, by omega, by rw [Int.max_eq_right h]⟩
    · exact ⟨j, by omega, by rw [Int.max_eq_left h, h3]⟩
theorem ArgMax.of_max {l : List Int} {m : Int} (h : MaxTo l l.length m) : ArgMax l l.length (fidx m l) ∧ l.getD (fidx m l) 0 = m := by
  obtain ⟨h1, j, h2, h3⟩ := h
  have hm : m ∈ l := by
    rw [List.getD_eq_getElem?_getD, List.getElem?_eq_getElem h2] at h3
    exact List.mem_iff_getElem.2 ⟨j, h2, h3⟩
  have hlt := fidx_lt hm
  have hg : l.getD (fidx m l) 0 = m := by rw [List.getD_eq_getElem?_getD, List.getElem?_eq_getElem hlt]; exact fidx_get hlt
  refine ⟨⟨hlt, fun i hi => by rw [hg]; exact h1 i hi, fun i hi => ?_⟩, hg⟩
  have h4 := h1 i (by omega)
  have h5 : m ≠ l.getD i 0 := by
    rw [List.getD_eq_getElem?_getD, List.getElem?_eq_getElem (show i < l.length by omega)]
    exact fidx_not (by omega) hi
  rw [hg]
  omega

/-! ### Sums -/
def sumI (l : List Int) : Int := l.foldl (· + ·) 0
theorem sumI_snoc (l : List Int) (x : Int) : sumI (l ++ [x]) = sumI l + x := by simp [sumI]
theorem sumI_take {l : List Int} {k : Nat} (hk : k < l.length) : sumI (l.take (k + 1)) = sumI (l.take k) + l[k] := by rw [List.take_succ_eq_append_getElem hk, sumI_snoc]
theorem sumI_le {l : List Int} {c : Int} (hc : 0 ≤ c) (h : ∀ x ∈ l, 0 ≤ x ∧ x ≤ c) : 0 ≤ sumI l ∧ sumI l ≤ c * l.length := by
  have : ∀ (l : List Int) (s : Int), (∀ x ∈ l, 0 ≤ x ∧ x ≤ c) → s ≤ l.foldl (· + ·) s ∧ l.foldl (· + ·) s ≤ s + c * l.length := by
    intro l
    induction l with
    | nil => intro s _; simp
    | cons x l ih =>
      intro s h
      have hx := h x (List.mem_cons_self)
      have := ih (s + x) (fun y hy => h y (List.mem_cons_of_mem _ hy))
      rw [List.foldl_cons]
      have e : c * ((x :: l).length : Nat) = c * (l.length : Nat) + c := by rw [List.length_cons, Int.natCast_add, Int.mul_add]; simp
      rw [e]
      omega
  have := this l 0 h
  unfold sumI
  omega
end Go.Proofs.YtmfgbkmkcljciaaGreatDoor
/- The jumps of a book: the reference and the program; no condition. -/
namespace Go.Proofs.YtmfgbkmkcljciaaGreatDoor
open Go.RowKit
set_option linter.unusedSimpArgs false
set_option linter.unusedVariables false

/-- In how many places two frames differ. -/
def jmp (x y : Fm) : Int := ((dots (mixR (fun a b => a ^^^ b) x.1 y.1)).length : Nat)
theorem jmp_range (x y : Fm) : 0 ≤ jmp x y ∧ jmp x y ≤ 144 := by
  have := dots_length (mixR (fun a b => a ^^^ b) x.1 y.1)
  unfold jmp
  omega
theorem l01Differ_fm (x y : Fm) (b o b' o' : Nat) (w : World) (hb : Cl w b o (fv x)) (hb' : Cl w b' o' (fv y)) :
    Calls Tryz.prog 74 #[.pointer (some ⟨b, o, none⟩), .pointer (some ⟨b', o', none⟩)] w fun e w' => e = .returned (.int .i64 (jmp x y)) ∧ Keep [] w w' := l01Differ_c x.1 y.1 x.2 y.2 b o b' o' w hb hb'
theorem jump_fm (x y : Fm) (hx : okB x.1 = true) (hy : okB y.1 = true) (w : World) : Calls Tryz.prog 45 #[.agg (fv x).toArray, .agg (fv y).toArray] w fun e w' => e = .returned (.int .i64 (jmp x y)) ∧ Keep [] w w' :=
  jump_c x.1 y.1 x.2 y.2 (by unfold codeG; simp [hx, hy]) w
/-- The first k jumps. -/
def jmpK (B : List Fm) (k : Nat) : List Int := (List.range k).map fun i => jmp (B.getD i fz) (B.getD (i + 1) fz)
@[simp] theorem jmpK_length (B : List Fm) (k : Nat) : (jmpK B k).length = k := by simp [jmpK]
theorem jmpK_step (B : List Fm) (k : Nat) : jmpK B k ++ [jmp (B.getD k fz) (B.getD (k + 1) fz)] = jmpK B (k + 1) := by simp [jmpK, List.range_succ]
def jmpL (B : List Fm) : List Int := jmpK B (B.length - 1)
theorem jmpL_length (B : List Fm) : (jmpL B).length = B.length - 1 := jmpK_length _ _
theorem jmpL_range (B : List Fm) : ∀ x ∈ jmpL B, 0 ≤ x ∧ x ≤ 144 := by
  intro x hx
  obtain ⟨i, _, rfl⟩ := List.mem_map.1 hx
  exact jmp_range _ _
theorem getD_get {α : Type} {B : List α} {k : Nat} {d : α} (hk : k < B.length) : B.getD k d = B[k] := by
  rw [List.getD_eq_getElem?_getD, List.getElem?_eq_getElem hk]; rfl
theorem okL_get {B : List Fm} (h : okL B = true) {k : Nat} (hk : k < B.length) : okB B[k].1 = true := by
  unfold okL at h
  exact List.all_eq_true.1 h _ (List.getElem_mem hk)
theorem bkB_ok {B : List Fm} (h : bkB B = true) : okL B = true := by unfold bkB at h; simp at h; exact h.1
theorem bkB_len {B : List Fm} (h : bkB B = true) : B.length ≤ 40 := by unfold bkB at h; simp at h; exact h.2
/-- What a maker of lists of numbers answers. -/
def IntsPost (R : List Int) (n : Nat) (w : World) (e : Ending) (w' : World) : Prop := ∃ v, e = .returned v ∧ Gives 2 1 n (encs i1 R) w v w' ∧ Keep [] w w'
theorem encs_snoc {α : Type} (e : α → List Value) (l : List α) (x : α) : encs e (l ++ [x]) = encs e l ++ e x := by rw [encs_append]; simp [encs]
set_option maxHeartbeats 1000000 in
set_option maxRecDepth 100000 in
theorem l02Jumps_c (B : List Fm) (n : Nat) (hB : B.length = n) (hn : n ≤ 1000000) (p : Option Addr) (c : Nat) (w : World) (hr : Rd w p n (encs fv B)) :
    Calls Tryz.prog 40 #[.slice p n c] w (IntsPost (jmpL B) (n - 1) w) := by
  have st := St.start w
  have HJ : Hid (jmpL B = jmpK B (n - 1)) := hid (by unfold jmpL; rw [hB])
  replace hB := hid hB
  go_enter Tryz.func40, Tryz.ntmps40
  go_wp2_with (first | ((with_reducible refine gate_bsl rfl ?_); refine ia_bsl0 (sl := 5) st rfl rfl rfl ?_; clear st; intro B5 _ st) | ((with_reducible refine gate_lst ?_); (first | ((with_reducible refine gate_addr rfl ?_); (first | (refine' ia_slcP HP.out rfl rfl rfl rfl ?_ ?_ ?_) | (refine' ia_slcP HP2.out rfl rfl rfl rfl ?_ ?_ ?_)); rotate_left 1; (focus (first | exact (rfl : (0 : Int) = ((0 : Nat) : Int)) | exact (rfl : (1 : Int) = ((1 : Nat) : Int)) | exact rfl | exact HE1.out | exact HE2.out)); (focus (first | omega | (simp; done) | (simp; omega) | (simp [*]; omega)))))) | ((with_reducible refine qgate_nil ?_); refine wpQuiet_nil ?_; (try intro _ st)) | ((with_reducible refine qgate_any ?_); (first | ((first | (with_reducible refine qg_assign rfl ?_) | (with_reducible refine qg_move rfl ?_)); refine qa_val (fun _ _ => rfl) rfl ?_) | ((with_reducible refine qgate_addr rfl ?_); (first | (refine' iq_slc rfl rfl rfl rfl ?_ ?_ ?_) | (refine' iq_slcP HP.out rfl rfl rfl rfl ?_ ?_ ?_) | (refine' iq_slcP HP2.out rfl rfl rfl rfl ?_ ?_ ?_) | (refine' iq_arr rfl rfl rfl rfl ?_ ?_ ?_)); rotate_left 1; (focus (first | exact (rfl : (0 : Int) = ((0 : Nat) : Int)) | exact (rfl : (1 : Int) = ((1 : Nat) : Int)) | exact rfl | exact HE1.out | exact HE2.out)); (focus (first | omega | (simp; done) | (simp; omega) | (simp [*]; omega)))) | ((with_reducible refine qgate_bin rfl ?_); refine' qa_bin ?_ rfl rfl rfl rfl ?_; rotate_left 1; (focus (first | exact run_add64 (by omega) (by omega) | exact run_sub64 (by omega) (by omega) | (intro w'; go_simp; exact rfl))))); all_goals (try (simp only [Nat.zero_add, Nat.add_zero, Nat.mul_one, Nat.zero_mul, Act.put, Act.eval, Array.getD_eq_getD_getElem?, List.getElem?_toArray, List.getElem?_cons_succ, List.getElem?_cons_zero, Option.getD_some, List.setIfInBounds_toArray, List.set_cons_succ, List.set_cons_zero, List.getElem_toArray, List.getElem_cons_succ, List.getElem_cons_zero]))) | ((with_reducible refine rgate (id := 5) ?_); refine wp_region_sched_st (id := 5) st [0, 1, 2, 3, 4, 5, 6, 7] [8, 9, 10, 11] [] (fun _ h => h.nil) (by kernel_rfl) (by kernel_rfl) ?_; clear st; simp only [sel, List.filterMap_cons, List.filterMap_nil, List.getElem?_cons_succ, List.getElem?_cons_zero]) | (with_reducible refine loud_go ?_) | ((with_reducible refine aftS_go ?_ ?_); (focus exact st.nil)) | (with_reducible refine loud_nil ?_))
  go_loopw [3, 4] (fun v i wr => ∃ k : Nat, k ≤ n - 1 ∧ i = .int .i64 ((k + 1 : Nat) : Int) ∧ Own 2 1 k (encs i1 (jmpK B k)) [] w wr [] v) (fun _ i _ => n - (intOf i).toNat)
  case atStart => exact ⟨0, by omega, rfl, B5, 0, [], rfl, st, rfl, Nat.zero_le _⟩
  case round =>
    clear st
    obtain ⟨k, hk, rfl, g, cap, spare, rfl, st, hcap, hcm⟩ := hrel
    have HC := hid hcap
    clear hcap
    obtain ⟨j, hj⟩ : ∃ j, k + 1 = j := ⟨_, rfl⟩
    rw [hj]
    by_cases hlt : j < n
    · have hd : decide ((j : Int) < (n : Int)) = true := by simpa using hlt
      have HE1 : Hid ((j : Int) - 1 = (k : Int)) := hid (by omega)
      have hkn : k < n := by omega
      obtain ⟨b, f, hp, hcl⟩ := hr (by omega)
      have HP := hid hp
      have hkB : k < B.length := by rw [hB.out]; exact hkn
      have hjB : j < B.length := by rw [hB.out]; exact hlt
      have hb := hcl.seg fv_len hkB
      have hb' := hcl.seg fv_len hjB
      have HS := hid (jmpK_step B k)
      rw [hj, getD_get hkB, getD_get hjB] at HS
      obtain ⟨x, hx⟩ : ∃ x, B[k] = x := ⟨_, rfl⟩
      obtain ⟨y, hy⟩ : ∃ y, B[j] = y := ⟨_, rfl⟩
      rw [hx] at hb HS
      rw [hy] at hb' HS
      have HJ1 := hid hj
      clear hx hy hp hcl hkB hjB hj
      go_wp2_with (first | (go_at_call 74; refine (l01Differ_fm x y _ _ _ _ _ (hb.keep st.keep (by simp)) (hb'.keep st.keep (by simp))).mono ?_; rintro _ _ ⟨rfl, hk⟩; replace st := st.call hk; clear hk) | ((with_reducible refine gate_bsl rfl ?_); refine ia_bsl1 (sl := 21) st rfl rfl rfl rfl rfl ?_ (by decide) ?_; (focus (first | rfl | (simp; done) | (simp; assumption) | (simp; omega) | (simp [*]; done))); clear st; intro B21 _ st) | ((with_reducible refine gate_app rfl ?_); refine ia_appendR (news := (i1 (jmp x y))) (xs := (encs i1 (jmpK B k))) (spare := spare) st rfl rfl rfl rfl (by rw [encs_i1_length, jmpK_length, Nat.mul_one]) HC.out hcm (.fr (st.get (by repeat (first | exact At.here | apply At.there)))) (fun h => by cases h) (i1_len _) (i1_one _) (by unfold maxLen; omega) (by omega) ?_; clear st; intro g2 cap2 spare2 _ st hcap2 hcm2; (try simp only [List.set_cons_zero, List.set_cons_succ] at st)) | ((with_reducible refine gate_lst ?_); (first | ((with_reducible refine gate_addr rfl ?_); (first | (refine' ia_slcP HP.out rfl rfl rfl rfl ?_ ?_ ?_) | (refine' ia_slcP HP2.out rfl rfl rfl rfl ?_ ?_ ?_)); rotate_left 1; (focus (first | exact (rfl : (0 : Int) = ((0 : Nat) : Int)) | exact (rfl : (1 : Int) = ((1 : Nat) : Int)) | exact rfl | exact HE1.out | exact HE2.out)); (focus (first | omega | (simp; done) | (simp; omega) | (simp [*]; omega)))))) | ((with_reducible refine qgate_nil ?_); refine wpQuiet_nil ?_; (try intro _ st)) | ((with_reducible refine qgate_any ?_); (first | ((with_reducible refine qgate_call rfl ?_); refine' qa_call (F := 74) Tryz.func74 (by kernel_rfl) (by kernel_rfl) rfl rfl rfl rfl ?_ ?_ ?_; rotate_left 2; (focus (simp only [Act.eval, Act.put, List.map_toArray, List.map_cons, List.map_nil, Array.empty_append, Array.append_empty, Array.map_empty]; exact rfl)); (focus (intro w1 st; exact qcall st (l01Differ_fm x y _ _ _ _ _ (hb.keep st.keep (by simp)) (hb'.keep st.keep (by simp)))))) | ((first | (with_reducible refine qg_assign rfl ?_) | (with_reducible refine qg_move rfl ?_)); refine qa_val (fun _ _ => rfl) rfl ?_) | ((with_reducible refine qgate_addr rfl ?_); (first | (refine' iq_slc rfl rfl rfl rfl ?_ ?_ ?_) | (refine' iq_slcP HP.out rfl rfl rfl rfl ?_ ?_ ?_) | (refine' iq_slcP HP2.out rfl rfl rfl rfl ?_ ?_ ?_) | (refine' iq_arr rfl rfl rfl rfl ?_ ?_ ?_)); rotate_left 1; (focus (first | exact (rfl : (0 : Int) = ((0 : Nat) : Int)) | exact (rfl : (1 : Int) = ((1 : Nat) : Int)) | exact rfl | exact HE1.out | exact HE2.out)); (focus (first | omega | (simp; done) | (simp; omega) | (simp [*]; omega)))) | ((with_reducible refine qgate_bin rfl ?_); refine' qa_bin ?_ rfl rfl rfl rfl ?_; rotate_left 1; (focus (first | exact run_add64 (by omega) (by omega) | exact run_sub64 (by omega) (by omega) | (intro w'; go_simp; exact rfl))))); all_goals (try (simp only [Nat.zero_add, Nat.add_zero, Nat.mul_one, Nat.zero_mul, Act.put, Act.eval, Array.getD_eq_getD_getElem?, List.getElem?_toArray, List.getElem?_cons_succ, List.getElem?_cons_zero, Option.getD_some, List.setIfInBounds_toArray, List.set_cons_succ, List.set_cons_zero, List.getElem_toArray, List.getElem_cons_succ, List.getElem_cons_zero]))) | ((with_reducible refine rgate (id := 5) ?_); refine wp_region_sched_st (id := 5) st [0, 1, 2, 3, 4, 5, 6, 7] [8, 9, 10, 11] [] (fun _ h => h.nil) (by kernel_rfl) (by kernel_rfl) ?_; clear st; simp only [sel, List.filterMap_cons, List.filterMap_nil, List.getElem?_cons_succ, List.getElem?_cons_zero]) | (with_reducible refine loud_go ?_) | ((with_reducible refine aftS_go ?_ ?_); (focus exact st.nil)) | (with_reducible refine loud_nil ?_))
      have e : encs i1 (jmpK B (k + 1)) = encs i1 (jmpK B k) ++ i1 (jmp x y) := by rw [HJ1.out, ← HS.out, encs_snoc]
      go_roundw
      case rel => exact ⟨k + 1, by have := HJ1.out; omega, by rw [HJ1.out]; go_num, g2, cap2, spare2, rfl, by rw [e]; exact st.drop, by rw [e]; exact hcap2, hcm2⟩
      case measure => first | (simp [intOf]; done) | (simp [intOf]; omega)
    · have hd : decide ((j : Int) < (n : Int)) = false := by simp; omega
      obtain rfl : k = n - 1 := by omega
      go_wp2_with (first | ((with_reducible refine gate_lst ?_); (first | ((with_reducible refine gate_addr rfl ?_); (first | (refine' ia_slcP HP.out rfl rfl rfl rfl ?_ ?_ ?_) | (refine' ia_slcP HP2.out rfl rfl rfl rfl ?_ ?_ ?_)); rotate_left 1; (focus (first | exact (rfl : (0 : Int) = ((0 : Nat) : Int)) | exact (rfl : (1 : Int) = ((1 : Nat) : Int)) | exact rfl | exact HE1.out | exact HE2.out)); (focus (first | omega | (simp; done) | (simp; omega) | (simp [*]; omega)))))) | ((with_reducible refine qgate_nil ?_); refine wpQuiet_nil ?_; (try intro _ st)) | ((with_reducible refine qgate_any ?_); (first | ((first | (with_reducible refine qg_assign rfl ?_) | (with_reducible refine qg_move rfl ?_)); refine qa_val (fun _ _ => rfl) rfl ?_) | ((with_reducible refine qgate_addr rfl ?_); (first | (refine' iq_slc rfl rfl rfl rfl ?_ ?_ ?_) | (refine' iq_slcP HP.out rfl rfl rfl rfl ?_ ?_ ?_) | (refine' iq_slcP HP2.out rfl rfl rfl rfl ?_ ?_ ?_) | (refine' iq_arr rfl rfl rfl rfl ?_ ?_ ?_)); rotate_left 1; (focus (first | exact (rfl : (0 : Int) = ((0 : Nat) : Int)) | exact (rfl : (1 : Int) = ((1 : Nat) : Int)) | exact rfl | exact HE1.out | exact HE2.out)); (focus (first | omega | (simp; done) | (simp; omega) | (simp [*]; omega)))) | ((with_reducible refine qgate_bin rfl ?_); refine' qa_bin ?_ rfl rfl rfl rfl ?_; rotate_left 1; (focus (first | exact run_add64 (by omega) (by omega) | exact run_sub64 (by omega) (by omega) | (intro w'; go_simp; exact rfl))))); all_goals (try (simp only [Nat.zero_add, Nat.add_zero, Nat.mul_one, Nat.zero_mul, Act.put, Act.eval, Array.getD_eq_getD_getElem?, List.getElem?_toArray, List.getElem?_cons_succ, List.getElem?_cons_zero, Option.getD_some, List.setIfInBounds_toArray, List.set_cons_succ, List.set_cons_zero, List.getElem_toArray, List.getElem_cons_succ, List.getElem_cons_zero]))) | ((with_reducible refine rgate (id := 5) ?_); refine wp_region_sched_st (id := 5) st [0, 1, 2, 3, 4, 5, 6, 7] [8, 9, 10, 11] [] (fun _ h => h.nil) (by kernel_rfl) (by kernel_rfl) ?_; clear st; simp only [sel, List.filterMap_cons, List.filterMap_nil, List.getElem?_cons_succ, List.getElem?_cons_zero]) | (with_reducible refine loud_go ?_) | ((with_reducible refine aftS_go ?_ ?_); (focus exact st.nil)) | (with_reducible refine loud_nil ?_))
      go_ret
      exact ⟨_, rfl, by rw [HJ.out]; exact ⟨g, cap, spare, rfl, out_of st .here, st.get .here, HC.out, hcm⟩, st.keep⟩
set_option maxHeartbeats 1000000 in
set_option maxRecDepth 100000 in
theorem jumps_c (B : List Fm) (n : Nat) (hB : B.length = n) (hok : okL B = true) (hn : n ≤ 1000000) (p : Option Addr) (c : Nat) (w : World) (hr : Rd w p n (encs fv B)) :
    Calls Tryz.prog 38 #[.slice p n c] w (IntsPost (jmpL B) (n - 1) w) := by
  have st := St.start w
  have HJ : Hid (jmpL B = jmpK B (n - 1)) := hid (by unfold jmpL; rw [hB])
  replace hB := hid hB
  have HOK := hid hok
  clear hok
  go_enter Tryz.func38, Tryz.ntmps38
  go_wp2_with (first | ((with_reducible refine gate_bsl rfl ?_); refine ia_bsl0 (sl := 5) st rfl rfl rfl ?_; clear st; intro B5 _ st) | ((with_reducible refine gate_lst ?_); (first | ((with_reducible refine gate_load rfl ?_); (first | (refine ia_loadAll st rfl rfl rfl ?_ ?_; (focus (first | rfl | (simp; done) | (simp; assumption) | (simp; omega) | (simp [*]; done)))) | (refine ia_loadC (hb.keep st.keep (by simp)) rfl rfl rfl ?_ ?_; (focus (first | rfl | (simp; done) | (simp; assumption) | (simp; omega) | (simp [*]; done)))) | (refine ia_loadC (hb'.keep st.keep (by simp)) rfl rfl rfl ?_ ?_; (focus (first | rfl | (simp; done) | (simp; assumption) | (simp; omega) | (simp [*]; done)))) | (refine ia_loadC (Cl.of (hb1.keep st.keep (by simp))) rfl rfl rfl ?_ ?_; (focus (first | rfl | (simp; done) | (simp; assumption) | (simp; omega) | (simp [*]; done)))) | (refine ia_loadC (Cl.of (hb2.keep st.keep (by simp))) rfl rfl rfl ?_ ?_; (focus (first | rfl | (simp; done) | (simp; assumption) | (simp; omega) | (simp [*]; done)))))) | ((with_reducible refine gate_addr rfl ?_); (first | (refine' ia_slcP HP.out rfl rfl rfl rfl ?_ ?_ ?_) | (refine' ia_slcP HP2.out rfl rfl rfl rfl ?_ ?_ ?_)); rotate_left 1; (focus (first | exact (rfl : (0 : Int) = ((0 : Nat) : Int)) | exact (rfl : (1 : Int) = ((1 : Nat) : Int)) | exact rfl | exact HE1.out | exact HE2.out)); (focus (first | omega | (simp; done) | (simp; omega) | (simp [*]; omega)))))) | ((with_reducible refine qgate_nil ?_); refine wpQuiet_nil ?_; (try intro _ st)) | ((with_reducible refine qgate_any ?_); (first | ((first | (with_reducible refine qg_assign rfl ?_) | (with_reducible refine qg_move rfl ?_)); refine qa_val (fun _ _ => rfl) rfl ?_) | ((with_reducible refine qgate_load rfl ?_); (first | (refine iq_loadAll rfl rfl rfl ?_ ?_; (focus (first | rfl | (simp; done) | (simp; assumption) | (simp; omega) | (simp [*]; done)))) | (refine iq_loadC hb rfl rfl rfl ?_ ?_; (focus (first | rfl | (simp; done) | (simp; assumption) | (simp; omega) | (simp [*]; done)))) | (refine iq_loadC hb' rfl rfl rfl ?_ ?_; (focus (first | rfl | (simp; done) | (simp; assumption) | (simp; omega) | (simp [*]; done)))))) | ((with_reducible refine qgate_addr rfl ?_); (first | (refine' iq_slc rfl rfl rfl rfl ?_ ?_ ?_) | (refine' iq_slcP HP.out rfl rfl rfl rfl ?_ ?_ ?_) | (refine' iq_slcP HP2.out rfl rfl rfl rfl ?_ ?_ ?_) | (refine' iq_arr rfl rfl rfl rfl ?_ ?_ ?_)); rotate_left 1; (focus (first | exact (rfl : (0 : Int) = ((0 : Nat) : Int)) | exact (rfl : (1 : Int) = ((1 : Nat) : Int)) | exact rfl | exact HE1.out | exact HE2.out)); (focus (first | omega | (simp; done) | (simp; omega) | (simp [*]; omega)))) | ((with_reducible refine qgate_bin rfl ?_); refine' qa_bin ?_ rfl rfl rfl rfl ?_; rotate_left 1; (focus (first | exact run_add64 (by omega) (by omega) | exact run_sub64 (by omega) (by omega) | (intro w'; go_simp; exact rfl))))); all_goals (try (simp only [Nat.zero_add, Nat.add_zero, Nat.mul_one, Nat.zero_mul, Act.put, Act.eval, Array.getD_eq_getD_getElem?, List.getElem?_toArray, List.getElem?_cons_succ, List.getElem?_cons_zero, Option.getD_some, List.setIfInBounds_toArray, List.set_cons_succ, List.set_cons_zero, List.getElem_toArray, List.getElem_cons_succ, List.getElem_cons_zero]))) | ((with_reducible refine rgate (id := 5) ?_); refine wp_region_sched_st (id := 5) st [0, 1, 2, 3, 4, 5, 6, 7, 8, 9] [10, 11, 12, 13] [] (fun _ h => h.nil) (by kernel_rfl) (by kernel_rfl) ?_; clear st; simp only [sel, List.filterMap_cons, List.filterMap_nil, List.getElem?_cons_succ, List.getElem?_cons_zero]) | (with_reducible refine loud_go ?_) | ((with_reducible refine aftS_go ?_ ?_); (focus exact st.nil)) | (with_reducible refine loud_nil ?_))
  go_loopw [3, 4] (fun v i wr => ∃ k : Nat, k ≤ n - 1 ∧ i = .int .i64 ((k + 1 : Nat) : Int) ∧ Own 2 1 k (encs i1 (jmpK B k)) [] w wr [] v) (fun _ i _ => n - (intOf i).toNat)
  case atStart => exact ⟨0, by omega, rfl, B5, 0, [], rfl, st, rfl, Nat.zero_le _⟩
  case round =>
    clear st
    obtain ⟨k, hk, rfl, g, cap, spare, rfl, st, hcap, hcm⟩ := hrel
    have HC := hid hcap
    clear hcap
    obtain ⟨j, hj⟩ : ∃ j, k + 1 = j := ⟨_, rfl⟩
    rw [hj]
    by_cases hlt : j < n
    · have hd : decide ((j : Int) < (n : Int)) = true := by simpa using hlt
      have HE1 : Hid ((j : Int) - 1 = (k : Int)) := hid (by omega)
      have hkn : k < n := by omega
      obtain ⟨b, f, hp, hcl⟩ := hr (by omega)
      have HP := hid hp
      have hkB : k < B.length := by rw [hB.out]; exact hkn
      have hjB : j < B.length := by rw [hB.out]; exact hlt
      have hb := hcl.seg fv_len hkB
      have hb' := hcl.seg fv_len hjB
      have HS := hid (jmpK_step B k)
      have HX := hid (okL_get HOK.out hkB)
      have HY := hid (okL_get HOK.out hjB)
      rw [hj, getD_get hkB, getD_get hjB] at HS
      obtain ⟨x, hx⟩ : ∃ x, B[k] = x := ⟨_, rfl⟩
      obtain ⟨y, hy⟩ : ∃ y, B[j] = y := ⟨_, rfl⟩
      rw [hx] at hb HS HX
      rw [hy] at hb' HS HY
      have HJ1 := hid hj
      clear hx hy hp hcl hkB hjB hj
      go_wp2_with (first | (go_at_call 45; refine (jump_fm x y HX.out HY.out _).mono ?_; rintro _ _ ⟨rfl, hk⟩; replace st := st.call hk; clear hk) | ((with_reducible refine gate_bsl rfl ?_); refine ia_bsl1 (sl := 23) st rfl rfl rfl rfl rfl ?_ (by decide) ?_; (focus (first | rfl | (simp; done) | (simp; assumption) | (simp; omega) | (simp [*]; done))); clear st; intro B23 _ st) | ((with_reducible refine gate_app rfl ?_); refine ia_appendR (news := (i1 (jmp x y))) (xs := (encs i1 (jmpK B k))) (spare := spare) st rfl rfl rfl rfl (by rw [encs_i1_length, jmpK_length, Nat.mul_one]) HC.out hcm (.fr (st.get (by repeat (first | exact At.here | apply At.there)))) (fun h => by cases h) (i1_len _) (i1_one _) (by unfold maxLen; omega) (by omega) ?_; clear st; intro g2 cap2 spare2 _ st hcap2 hcm2; (try simp only [List.set_cons_zero, List.set_cons_succ] at st)) | ((with_reducible refine gate_lst ?_); (first | ((with_reducible refine gate_load rfl ?_); (first | (refine ia_loadAll st rfl rfl rfl ?_ ?_; (focus (first | rfl | (simp; done) | (simp; assumption) | (simp; omega) | (simp [*]; done)))) | (refine ia_loadC (hb.keep st.keep (by simp)) rfl rfl rfl ?_ ?_; (focus (first | rfl | (simp; done) | (simp; assumption) | (simp; omega) | (simp [*]; done)))) | (refine ia_loadC (hb'.keep st.keep (by simp)) rfl rfl rfl ?_ ?_; (focus (first | rfl | (simp; done) | (simp; assumption) | (simp; omega) | (simp [*]; done)))) | (refine ia_loadC (Cl.of (hb1.keep st.keep (by simp))) rfl rfl rfl ?_ ?_; (focus (first | rfl | (simp; done) | (simp; assumption) | (simp; omega) | (simp [*]; done)))) | (refine ia_loadC (Cl.of (hb2.keep st.keep (by simp))) rfl rfl rfl ?_ ?_; (focus (first | rfl | (simp; done) | (simp; assumption) | (simp; omega) | (simp [*]; done)))))) | ((with_reducible refine gate_addr rfl ?_); (first | (refine' ia_slcP HP.out rfl rfl rfl rfl ?_ ?_ ?_) | (refine' ia_slcP HP2.out rfl rfl rfl rfl ?_ ?_ ?_)); rotate_left 1; (focus (first | exact (rfl : (0 : Int) = ((0 : Nat) : Int)) | exact (rfl : (1 : Int) = ((1 : Nat) : Int)) | exact rfl | exact HE1.out | exact HE2.out)); (focus (first | omega | (simp; done) | (simp; omega) | (simp [*]; omega)))))) | ((with_reducible refine qgate_nil ?_); refine wpQuiet_nil ?_; (try intro _ st)) | ((with_reducible refine qgate_any ?_); (first | ((with_reducible refine qgate_call rfl ?_); refine' qa_call (F := 45) Tryz.func45 (by kernel_rfl) (by kernel_rfl) rfl rfl rfl rfl ?_ ?_ ?_; rotate_left 2; (focus (simp only [Act.eval, Act.put, List.map_toArray, List.map_cons, List.map_nil, Array.empty_append, Array.append_empty, Array.map_empty]; exact rfl)); (focus (intro w1 st; exact qcall st (jump_fm x y HX.out HY.out _)))) | ((first | (with_reducible refine qg_assign rfl ?_) | (with_reducible refine qg_move rfl ?_)); refine qa_val (fun _ _ => rfl) rfl ?_) | ((with_reducible refine qgate_load rfl ?_); (first | (refine iq_loadAll rfl rfl rfl ?_ ?_; (focus (first | rfl | (simp; done) | (simp; assumption) | (simp; omega) | (simp [*]; done)))) | (refine iq_loadC hb rfl rfl rfl ?_ ?_; (focus (first | rfl | (simp; done) | (simp; assumption) | (simp; omega) | (simp [*]; done)))) | (refine iq_loadC hb' rfl rfl rfl ?_ ?_; (focus (first | rfl | (simp; done) | (simp; assumption) | (simp; omega) | (simp [*]; done)))))) | ((with_reducible refine qgate_addr rfl ?_); (first | (refine' iq_slc rfl rfl rfl rfl ?_ ?_ ?_) | (refine' iq_slcP HP.out rfl rfl rfl rfl ?_ ?_ ?_) | (refine' iq_slcP HP2.out rfl rfl rfl rfl ?_ ?_ ?_) | (refine' iq_arr rfl rfl rfl rfl ?_ ?_ ?_)); rotate_left 1; (focus (first | exact (rfl : (0 : Int) = ((0 : Nat) : Int)) | exact (rfl : (1 : Int) = ((1 : Nat) : Int)) | exact rfl | exact HE1.out | exact HE2.out)); (focus (first | omega | (simp; done) | (simp; omega) | (simp [*]; omega)))) | ((with_reducible refine qgate_bin rfl ?_); refine' qa_bin ?_ rfl rfl rfl rfl ?_; rotate_left 1; (focus (first | exact run_add64 (by omega) (by omega) | exact run_sub64 (by omega) (by omega) | (intro w'; go_simp; exact rfl))))); all_goals (try (simp only [Nat.zero_add, Nat.add_zero, Nat.mul_one, Nat.zero_mul, Act.put, Act.eval, Array.getD_eq_getD_getElem?, List.getElem?_toArray, List.getElem?_cons_succ, List.getElem?_cons_zero, Option.getD_some, List.setIfInBounds_toArray, List.set_cons_succ, List.set_cons_zero, List.getElem_toArray, List.getElem_cons_succ, List.getElem_cons_zero]))) | ((with_reducible refine rgate (id := 5) ?_); refine wp_region_sched_st (id := 5) st [0, 1, 2, 3, 4, 5, 6, 7, 8, 9] [10, 11, 12, 13] [] (fun _ h => h.nil) (by kernel_rfl) (by kernel_rfl) ?_; clear st; simp only [sel, List.filterMap_cons, List.filterMap_nil, List.getElem?_cons_succ, List.getElem?_cons_zero]) | (with_reducible refine loud_go ?_) | ((with_reducible refine aftS_go ?_ ?_); (focus exact st.nil)) | (with_reducible refine loud_nil ?_))
      have e : encs i1 (jmpK B (k + 1)) = encs i1 (jmpK B k) ++ i1 (jmp x y) := by rw [HJ1.out, ← HS.out, encs_snoc]
      go_roundw
      case rel => exact ⟨k + 1, by have := HJ1.out; omega, by rw [HJ1.out]; go_num, g2, cap2, spare2, rfl, by rw [e]; exact st.drop, by rw [e]; exact hcap2, hcm2⟩
      case measure => first | (simp [intOf]; done) | (simp [intOf]; omega)
    · have hd : decide ((j : Int) < (n : Int)) = false := by simp; omega
      obtain rfl : k = n - 1 := by omega
      go_wp2_with (first | ((with_reducible refine gate_lst ?_); (first | ((with_reducible refine gate_load rfl ?_); (first | (refine ia_loadAll st rfl rfl rfl ?_ ?_; (focus (first | rfl | (simp; done) | (simp; assumption) | (simp; omega) | (simp [*]; done)))) | (refine ia_loadC (hb.keep st.keep (by simp)) rfl rfl rfl ?_ ?_; (focus (first | rfl | (simp; done) | (simp; assumption) | (simp; omega) | (simp [*]; done)))) | (refine ia_loadC (hb'.keep st.keep (by simp)) rfl rfl rfl ?_ ?_; (focus (first | rfl | (simp; done) | (simp; assumption) | (simp; omega) | (simp [*]; done)))) | (refine ia_loadC (Cl.of (hb1.keep st.keep (by simp))) rfl rfl rfl ?_ ?_; (focus (first | rfl | (simp; done) | (simp; assumption) | (simp; omega) | (simp [*]; done)))) | (refine ia_loadC (Cl.of (hb2.keep st.keep (by simp))) rfl rfl rfl ?_ ?_; (focus (first | rfl | (simp; done) | (simp; assumption) | (simp; omega) | (simp [*]; done)))))) | ((with_reducible refine gate_addr rfl ?_); (first | (refine' ia_slcP HP.out rfl rfl rfl rfl ?_ ?_ ?_) | (refine' ia_slcP HP2.out rfl rfl rfl rfl ?_ ?_ ?_)); rotate_left 1; (focus (first | exact (rfl : (0 : Int) = ((0 : Nat) : Int)) | exact (rfl : (1 : Int) = ((1 : Nat) : Int)) | exact rfl | exact HE1.out | exact HE2.out)); (focus (first | omega | (simp; done) | (simp; omega) | (simp [*]; omega)))))) | ((with_reducible refine qgate_nil ?_); refine wpQuiet_nil ?_; (try intro _ st)) | ((with_reducible refine qgate_any ?_); (first | ((first | (with_reducible refine qg_assign rfl ?_) | (with_reducible refine qg_move rfl ?_)); refine qa_val (fun _ _ => rfl) rfl ?_) | ((with_reducible refine qgate_load rfl ?_); (first | (refine iq_loadAll rfl rfl rfl ?_ ?_; (focus (first | rfl | (simp; done) | (simp; assumption) | (simp; omega) | (simp [*]; done)))) | (refine iq_loadC hb rfl rfl rfl ?_ ?_; (focus (first | rfl | (simp; done) | (simp; assumption) | (simp; omega) | (simp [*]; done)))) | (refine iq_loadC hb' rfl rfl rfl ?_ ?_; (focus (first | rfl | (simp; done) | (simp; assumption) | (simp; omega) | (simp [*]; done)))))) | ((with_reducible refine qgate_addr rfl ?_); (first | (refine' iq_slc rfl rfl rfl rfl ?_ ?_ ?_) | (refine' iq_slcP HP.out rfl rfl rfl rfl ?_ ?_ ?_) | (refine' iq_slcP HP2.out rfl rfl rfl rfl ?_ ?_ ?_) | (refine' iq_arr rfl rfl rfl rfl ?_ ?_ ?_)); rotate_left 1; (focus (first | exact (rfl : (0 : Int) = ((0 : Nat) : Int)) | exact (rfl : (1 : Int) = ((1 : Nat) : Int)) | exact rfl | exact HE1.out | exact HE2.out)); (focus (first | omega | (simp; done) | (simp; omega) | (simp [*]; omega)))) | ((with_reducible refine qgate_bin rfl ?_); refine' qa_bin ?_ rfl rfl rfl rfl ?_; rotate_left 1; (focus (first | exact run_add64 (by omega) (by omega) | exact run_sub64 (by omega) (by omega) | (intro w'; go_simp; exact rfl))))); all_goals (try (simp only [Nat.zero_add, Nat.add_zero, Nat.mul_one, Nat.zero_mul, Act.put, Act.eval, Array.getD_eq_getD_getElem?, List.getElem?_toArray, List.getElem?_cons_succ, List.getElem?_cons_zero, Option.getD_some, List.setIfInBounds_toArray, List.set_cons_succ, List.set_cons_zero, List.getElem_toArray, List.getElem_cons_succ, List.getElem_cons_zero]))) | ((with_reducible refine rgate (id := 5) ?_); refine wp_region_sched_st (id := 5) st [0, 1, 2, 3, 4, 5, 6, 7, 8, 9] [10, 11, 12, 13] [] (fun _ h => h.nil) (by kernel_rfl) (by kernel_rfl) ?_; clear st; simp only [sel, List.filterMap_cons, List.filterMap_nil, List.getElem?_cons_succ, List.getElem?_cons_zero]) | (with_reducible refine loud_go ?_) | ((with_reducible refine aftS_go ?_ ?_); (focus exact st.nil)) | (with_reducible refine loud_nil ?_))
      go_ret
      exact ⟨_, rfl, by rw [HJ.out]; exact ⟨g, cap, spare, rfl, out_of st .here, st.get .here, HC.out, hcm⟩, st.keep⟩
end Go.Proofs.YtmfgbkmkcljciaaGreatDoor
