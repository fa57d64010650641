/- The law MorphAt: what it answers; no condition. -/
import Derived.Test.YtmndbmapepenjaaMor2
import Derived.Test.YtmndbmapepenjaaOrdH
namespace Go.Proofs.Ytmndbmapepenjaa
open Go.RowKit
set_option linter.unusedSimpArgs false
set_option linter.unusedVariables false
/-- The code. -/
def mcode (f g : List Nat) (s n : Int) : Int := if codeG f g = 0 then (if inB n 1 200 = true ∧ inB s 0 n = true then 0 else 2) else 1
/-- The frame. -/
def mres (f g : List Nat) (s n : Int) : List Nat := if mcode f g s n = 0 then morR f g s n else zf
theorem morR_ok {f g : List Nat} (okf : FrOk f) (s n : Int) : FrOk (morR f g s n) := mst_ok okf _ _ (by omega)
theorem mres_len (f g : List Nat) (okf : FrOk f) (s n : Int) : (mres f g s n).length = 12 := by
  unfold mres
  split
  · exact (morR_ok okf s n).len
  · rfl
theorem l00In_w {n lo hi : Int} {v : Bool} (h : inB n lo hi = v) (w : World) : Calls Try.prog 62 #[.int .i64 n, .int .i64 lo, .int .i64 hi] w fun e w' => e = .returned (.bool v) ∧ Keep [] w w' := by
  subst h; exact l00In_c n lo hi w
theorem inRange_w {n lo hi : Int} {v : Bool} (h : inB n lo hi = v) (w : World) : Calls Try.prog 52 #[.int .i64 n, .int .i64 lo, .int .i64 hi] w fun e w' => e = .returned (.bool v) ∧ Keep [] w w' := by
  subst h; exact inRange_c n lo hi w
theorem inB_iff {x lo hi : Int} : inB x lo hi = true ↔ lo ≤ x ∧ x ≤ hi := by unfold inB; simp
set_option maxRecDepth 100000 in
theorem specMorphAt_c (f g : List Nat) (okf : FrOk f) (okg : FrOk g) (s n : Int) (w : World) :
    Calls Try.prog 31 #[.agg (frv f).toArray, .agg (frv g).toArray, .int .i64 s, .int .i64 n] w fun e w' => e = .returned (.tuple #[.agg (frv (mres f g s n)).toArray, .int .i64 (mcode f g s n)]) ∧ Keep [] w w' := by
  have hf := okf.len
  have hg := okg.len
  have st := St.start w
  rcases Bool.eq_false_or_eq_true (okB f) with h1 | h1
  rotate_left 1
  · have hc : mcode f g s n = 1 := by unfold mcode; rw [codeG_1 h1]; rfl
    rw [show mres f g s n = zf by unfold mres; rw [hc]; rfl, hc]
    have H1 := hid (fun b w' h => l01Ok_v h1 hf b 0 w' h)
    go_enter Try.func31, Try.ntmps31
    go_wp2_with (first | (go_at_call 66; refine (H1.out _ _ (.of (st.get (by repeat (first | exact At.here | apply At.there))))).mono ?_; rintro _ _ ⟨rfl, hk⟩; replace st := st.call hk; clear hk) | ((with_reducible refine gate_lst ?_); (first | ((with_reducible refine' wpl_ung ?_ ?_ ?_); rotate_left 1; (focus exact rfl); (focus exact rfl)) | ((with_reducible refine gate_box rfl ?_); (first | (refine ia_box (sl := 4) st rfl rfl rfl rfl rfl ?_; clear st; intro B4 _ st) | (refine ia_box (sl := 5) st rfl rfl rfl rfl rfl ?_; clear st; intro B5 _ st))) | ((with_reducible refine gate_alloc rfl ?_); (first | (refine ia_alloc (sl := 8) st rfl rfl rfl ?_; clear st; intro B8 _ st))) | ((with_reducible refine gate_load rfl ?_); (first | (refine ia_loadAll st rfl rfl rfl ?_ ?_; (focus (first | rfl | (simp; done) | (simp; assumption) | (simp; omega) | (simp [*]; done)))) | (refine ia_loadC (hb.keep st.keep (by simp)) rfl rfl rfl ?_ ?_; (focus (first | rfl | (simp; done) | (simp; assumption) | (simp; omega) | (simp [*]; done)))) | (refine ia_loadC (hb'.keep st.keep (by simp)) rfl rfl rfl ?_ ?_; (focus (first | rfl | (simp; done) | (simp; assumption) | (simp; omega) | (simp [*]; done)))) | (refine ia_loadC (Cl.of (hb1.keep st.keep (by simp))) rfl rfl rfl ?_ ?_; (focus (first | rfl | (simp; done) | (simp; assumption) | (simp; omega) | (simp [*]; done)))) | (refine ia_loadC (Cl.of (hb2.keep st.keep (by simp))) rfl rfl rfl ?_ ?_; (focus (first | rfl | (simp; done) | (simp; assumption) | (simp; omega) | (simp [*]; done)))))) | ((with_reducible refine gate_store rfl ?_); (first | (refine ia_storeAll st rfl rfl rfl rfl ?_ ?_ ?_ ?_; (focus (first | rfl | (simp; done) | (simp; assumption) | (simp; omega) | (simp [*]; done))); (focus (first | exact frv_one _ | exact fv_one _ | exact p8_one _ | exact k3_one _ | exact i1_one _ | (simp [Value.oneCell']; done))); (focus (first | rfl | (simp; done) | (simp; assumption) | (simp; omega) | (simp [*]; done))); clear st; intro _ st; (try simp only [List.set_cons_zero, List.set_cons_succ] at st)) | (refine ia_storeSeg st rfl rfl rfl rfl ?_ ?_ ?_ ?_; (focus (first | rfl | (simp; done) | (simp; assumption) | (simp; omega) | (simp [*]; done))); (focus (first | exact frv_one _ | exact fv_one _ | exact p8_one _ | exact k3_one _ | exact i1_one _ | (simp [Value.oneCell']; done))); (focus (first | omega | (simp; done) | (simp; omega) | (simp [*]; omega))); clear st; intro _ st; (try simp only [List.set_cons_zero, List.set_cons_succ] at st)))) | ((with_reducible refine gate_build rfl ?_); refine' la_build ?_ rfl rfl ?_; rotate_left 1; (focus ((try simp only [List.map_cons, List.map_nil, Act.put, Act.eval, Array.getD_eq_getD_getElem?, List.getElem?_toArray, List.getElem?_cons_succ, List.getElem?_cons_zero, Option.getD_some, List.setIfInBounds_toArray, List.set_cons_succ, List.set_cons_zero, List.getElem_toArray, List.getElem_cons_succ, List.getElem_cons_zero]); (first | (with_reducible exact tFrB) | (with_reducible exact built_fil))))))))
    refine bodyPost_cell_tmp rfl tFr.toAggT rfl _ rfl _ _ (st.get (by repeat (first | exact At.here | apply At.there))) (by simp [frv_length, zf_length, mk_length, withD_length, part_length, rowsOf_length, *]) _ rfl ?_
    exact ⟨rfl, st.keep⟩
  rcases Bool.eq_false_or_eq_true (okB g) with h2 | h2
  rotate_left 1
  · have hc : mcode f g s n = 1 := by unfold mcode; rw [codeG_2 h2]; rfl
    rw [show mres f g s n = zf by unfold mres; rw [hc]; rfl, hc]
    have H1 := hid (fun b w' h => l01Ok_v h1 hf b 0 w' h)
    have H2 := hid (fun b w' h => l01Ok_v h2 hg b 0 w' h)
    go_enter Try.func31, Try.ntmps31
    go_wp2_with (first | (go_at_call 66; (first | (with_reducible refine (H1.out _ _ (.of (st.get (by repeat (first | exact At.here | apply At.there))))).mono ?_) | (with_reducible refine (H2.out _ _ (.of (st.get (by repeat (first | exact At.here | apply At.there))))).mono ?_)); rintro _ _ ⟨rfl, hk⟩; replace st := st.call hk; clear hk) | ((with_reducible refine gate_lst ?_); (first | ((with_reducible refine' wpl_ung ?_ ?_ ?_); rotate_left 1; (focus exact rfl); (focus exact rfl)) | ((with_reducible refine gate_box rfl ?_); (first | (refine ia_box (sl := 4) st rfl rfl rfl rfl rfl ?_; clear st; intro B4 _ st) | (refine ia_box (sl := 5) st rfl rfl rfl rfl rfl ?_; clear st; intro B5 _ st))) | ((with_reducible refine gate_alloc rfl ?_); (first | (refine ia_alloc (sl := 8) st rfl rfl rfl ?_; clear st; intro B8 _ st))) | ((with_reducible refine gate_load rfl ?_); (first | (refine ia_loadAll st rfl rfl rfl ?_ ?_; (focus (first | rfl | (simp; done) | (simp; assumption) | (simp; omega) | (simp [*]; done)))) | (refine ia_loadC (hb.keep st.keep (by simp)) rfl rfl rfl ?_ ?_; (focus (first | rfl | (simp; done) | (simp; assumption) | (simp; omega) | (simp [*]; done)))) | (refine ia_loadC (hb'.keep st.keep (by simp)) rfl rfl rfl ?_ ?_; (focus (first | rfl | (simp; done) | (simp; assumption) | (simp; omega) | (simp [*]; done)))) | (refine ia_loadC (Cl.of (hb1.keep st.keep (by simp))) rfl rfl rfl ?_ ?_; (focus (first | rfl | (simp; done) | (simp; assumption) | (simp; omega) | (simp [*]; done)))) | (refine ia_loadC (Cl.of (hb2.keep st.keep (by simp))) rfl rfl rfl ?_ ?_; (focus (first | rfl | (simp; done) | (simp; assumption) | (simp; omega) | (simp [*]; done)))))) | ((with_reducible refine gate_store rfl ?_); (first | (refine ia_storeAll st rfl rfl rfl rfl ?_ ?_ ?_ ?_; (focus (first | rfl | (simp; done) | (simp; assumption) | (simp; omega) | (simp [*]; done))); (focus (first | exact frv_one _ | exact fv_one _ | exact p8_one _ | exact k3_one _ | exact i1_one _ | (simp [Value.oneCell']; done))); (focus (first | rfl | (simp; done) | (simp; assumption) | (simp; omega) | (simp [*]; done))); clear st; intro _ st; (try simp only [List.set_cons_zero, List.set_cons_succ] at st)) | (refine ia_storeSeg st rfl rfl rfl rfl ?_ ?_ ?_ ?_; (focus (first | rfl | (simp; done) | (simp; assumption) | (simp; omega) | (simp [*]; done))); (focus (first | exact frv_one _ | exact fv_one _ | exact p8_one _ | exact k3_one _ | exact i1_one _ | (simp [Value.oneCell']; done))); (focus (first | omega | (simp; done) | (simp; omega) | (simp [*]; omega))); clear st; intro _ st; (try simp only [List.set_cons_zero, List.set_cons_succ] at st)))) | ((with_reducible refine gate_build rfl ?_); refine' la_build ?_ rfl rfl ?_; rotate_left 1; (focus ((try simp only [List.map_cons, List.map_nil, Act.put, Act.eval, Array.getD_eq_getD_getElem?, List.getElem?_toArray, List.getElem?_cons_succ, List.getElem?_cons_zero, Option.getD_some, List.setIfInBounds_toArray, List.set_cons_succ, List.set_cons_zero, List.getElem_toArray, List.getElem_cons_succ, List.getElem_cons_zero]); (first | (with_reducible exact tFrB) | (with_reducible exact built_fil))))))))
    refine bodyPost_cell_tmp rfl tFr.toAggT rfl _ rfl _ _ (st.get (by repeat (first | exact At.here | apply At.there))) (by simp [frv_length, zf_length, mk_length, withD_length, part_length, rowsOf_length, *]) _ rfl ?_
    exact ⟨rfl, st.keep⟩
  have H1 := hid (fun b w' h => l01Ok_v h1 hf b 0 w' h)
  have H2 := hid (fun b w' h => l01Ok_v h2 hg b 0 w' h)
  have hcg := codeG_0 h1 h2
  rcases Bool.eq_false_or_eq_true (inB n 1 200) with h3 | h3
  rotate_left 1
  · have hc : mcode f g s n = 2 := by unfold mcode; rw [hcg, h3]; rfl
    rw [show mres f g s n = zf by unfold mres; rw [hc]; rfl, hc]
    have H3 := hid (l00In_w h3)
    go_enter Try.func31, Try.ntmps31
    go_wp2_with (first | (go_at_call 66; (first | (with_reducible refine (H1.out _ _ (.of (st.get (by repeat (first | exact At.here | apply At.there))))).mono ?_) | (with_reducible refine (H2.out _ _ (.of (st.get (by repeat (first | exact At.here | apply At.there))))).mono ?_)); rintro _ _ ⟨rfl, hk⟩; replace st := st.call hk; clear hk) | (go_at_call 62; (first | (with_reducible refine (H3.out _).mono ?_)); rintro _ _ ⟨rfl, hk⟩; replace st := st.call hk; clear hk) | ((with_reducible refine gate_lst ?_); (first | ((with_reducible refine' wpl_ung ?_ ?_ ?_); rotate_left 1; (focus exact rfl); (focus exact rfl)) | ((with_reducible refine gate_box rfl ?_); (first | (refine ia_box (sl := 4) st rfl rfl rfl rfl rfl ?_; clear st; intro B4 _ st) | (refine ia_box (sl := 5) st rfl rfl rfl rfl rfl ?_; clear st; intro B5 _ st))) | ((with_reducible refine gate_alloc rfl ?_); (first | (refine ia_alloc (sl := 8) st rfl rfl rfl ?_; clear st; intro B8 _ st))) | ((with_reducible refine gate_load rfl ?_); (first | (refine ia_loadAll st rfl rfl rfl ?_ ?_; (focus (first | rfl | (simp; done) | (simp; assumption) | (simp; omega) | (simp [*]; done)))) | (refine ia_loadC (hb.keep st.keep (by simp)) rfl rfl rfl ?_ ?_; (focus (first | rfl | (simp; done) | (simp; assumption) | (simp; omega) | (simp [*]; done)))) | (refine ia_loadC (hb'.keep st.keep (by simp)) rfl rfl rfl ?_ ?_; (focus (first | rfl | (simp; done) | (simp; assumption) | (simp; omega) | (simp [*]; done)))) | (refine ia_loadC (Cl.of (hb1.keep st.keep (by simp))) rfl rfl rfl ?_ ?_; (focus (first | rfl | (simp; done) | (simp; assumption) | (simp; omega) | (simp [*]; done)))) | (refine ia_loadC (Cl.of (hb2.keep st.keep (by simp))) rfl rfl rfl ?_ ?_; (focus (first | rfl | (simp; done) | (simp; assumption) | (simp; omega) | (simp [*]; done)))))) | ((with_reducible refine gate_store rfl ?_); (first | (refine ia_storeAll st rfl rfl rfl rfl ?_ ?_ ?_ ?_; (focus (first | rfl | (simp; done) | (simp; assumption) | (simp; omega) | (simp [*]; done))); (focus (first | exact frv_one _ | exact fv_one _ | exact p8_one _ | exact k3_one _ | exact i1_one _ | (simp [Value.oneCell']; done))); (focus (first | rfl | (simp; done) | (simp; assumption) | (simp; omega) | (simp [*]; done))); clear st; intro _ st; (try simp only [List.set_cons_zero, List.set_cons_succ] at st)) | (refine ia_storeSeg st rfl rfl rfl rfl ?_ ?_ ?_ ?_; (focus (first | rfl | (simp; done) | (simp; assumption) | (simp; omega) | (simp [*]; done))); (focus (first | exact frv_one _ | exact fv_one _ | exact p8_one _ | exact k3_one _ | exact i1_one _ | (simp [Value.oneCell']; done))); (focus (first | omega | (simp; done) | (simp; omega) | (simp [*]; omega))); clear st; intro _ st; (try simp only [List.set_cons_zero, List.set_cons_succ] at st)))) | ((with_reducible refine gate_build rfl ?_); refine' la_build ?_ rfl rfl ?_; rotate_left 1; (focus ((try simp only [List.map_cons, List.map_nil, Act.put, Act.eval, Array.getD_eq_getD_getElem?, List.getElem?_toArray, List.getElem?_cons_succ, List.getElem?_cons_zero, Option.getD_some, List.setIfInBounds_toArray, List.set_cons_succ, List.set_cons_zero, List.getElem_toArray, List.getElem_cons_succ, List.getElem_cons_zero]); (first | (with_reducible exact tFrB) | (with_reducible exact built_fil))))))))
    refine bodyPost_cell_tmp rfl tFr.toAggT rfl _ rfl _ _ (st.get (by repeat (first | exact At.here | apply At.there))) (by simp [frv_length, zf_length, mk_length, withD_length, part_length, rowsOf_length, *]) _ rfl ?_
    exact ⟨rfl, st.keep⟩
  rcases Bool.eq_false_or_eq_true (inB s 0 n) with h4 | h4
  rotate_left 1
  · have hc : mcode f g s n = 2 := by unfold mcode; rw [hcg, h3, h4]; rfl
    rw [show mres f g s n = zf by unfold mres; rw [hc]; rfl, hc]
    have H3 := hid (l00In_w h3)
    have H4 := hid (l00In_w h4)
    go_enter Try.func31, Try.ntmps31
    go_wp2_with (first | (go_at_call 66; (first | (with_reducible refine (H1.out _ _ (.of (st.get (by repeat (first | exact At.here | apply At.there))))).mono ?_) | (with_reducible refine (H2.out _ _ (.of (st.get (by repeat (first | exact At.here | apply At.there))))).mono ?_)); rintro _ _ ⟨rfl, hk⟩; replace st := st.call hk; clear hk) | (go_at_call 62; (first | (with_reducible refine (H3.out _).mono ?_) | (with_reducible refine (H4.out _).mono ?_)); rintro _ _ ⟨rfl, hk⟩; replace st := st.call hk; clear hk) | ((with_reducible refine gate_lst ?_); (first | ((with_reducible refine' wpl_ung ?_ ?_ ?_); rotate_left 1; (focus exact rfl); (focus exact rfl)) | ((with_reducible refine gate_box rfl ?_); (first | (refine ia_box (sl := 4) st rfl rfl rfl rfl rfl ?_; clear st; intro B4 _ st) | (refine ia_box (sl := 5) st rfl rfl rfl rfl rfl ?_; clear st; intro B5 _ st))) | ((with_reducible refine gate_alloc rfl ?_); (first | (refine ia_alloc (sl := 8) st rfl rfl rfl ?_; clear st; intro B8 _ st))) | ((with_reducible refine gate_load rfl ?_); (first | (refine ia_loadAll st rfl rfl rfl ?_ ?_; (focus (first | rfl | (simp; done) | (simp; assumption) | (simp; omega) | (simp [*]; done)))) | (refine ia_loadC (hb.keep st.keep (by simp)) rfl rfl rfl ?_ ?_; (focus (first | rfl | (simp; done) | (simp; assumption) | (simp; omega) | (simp [*]; done)))) | (refine ia_loadC (hb'.keep st.keep (by simp)) rfl rfl rfl ?_ ?_; (focus (first | rfl | (simp; done) | (simp; assumption) | (simp; omega) | (simp [*]; done)))) | (refine ia_loadC (Cl.of (hb1.keep st.keep (by simp))) rfl rfl rfl ?_ ?_; (focus (first | rfl | (simp; done) | (simp; assumption) | (simp; omega) | (simp [*]; done)))) | (refine ia_loadC (Cl.of (hb2.keep st.keep (by simp))) rfl rfl rfl ?_ ?_; (focus (first | rfl | (simp; done) | (simp; assumption) | (simp; omega) | (simp [*]; done)))))) | ((with_reducible refine gate_store rfl ?_); (first | (refine ia_storeAll st rfl rfl rfl rfl ?_ ?_ ?_ ?_; (focus (first | rfl | (simp; done) | (simp; assumption) | (simp; omega) | (simp [*]; done))); (focus (first | exact frv_one _ | exact fv_one _ | exact p8_one _ | exact k3_one _ | exact i1_one _ | (simp [Value.oneCell']; done))); (focus (first | rfl | (simp; done) | (simp; assumption) | (simp; omega) | (simp [*]; done))); clear st; intro _ st; (try simp only [List.set_cons_zero, List.set_cons_succ] at st)) | (refine ia_storeSeg st rfl rfl rfl rfl ?_ ?_ ?_ ?_; (focus (first | rfl | (simp; done) | (simp; assumption) | (simp; omega) | (simp [*]; done))); (focus (first | exact frv_one _ | exact fv_one _ | exact p8_one _ | exact k3_one _ | exact i1_one _ | (simp [Value.oneCell']; done))); (focus (first | omega | (simp; done) | (simp; omega) | (simp [*]; omega))); clear st; intro _ st; (try simp only [List.set_cons_zero, List.set_cons_succ] at st)))) | ((with_reducible refine gate_build rfl ?_); refine' la_build ?_ rfl rfl ?_; rotate_left 1; (focus ((try simp only [List.map_cons, List.map_nil, Act.put, Act.eval, Array.getD_eq_getD_getElem?, List.getElem?_toArray, List.getElem?_cons_succ, List.getElem?_cons_zero, Option.getD_some, List.setIfInBounds_toArray, List.set_cons_succ, List.set_cons_zero, List.getElem_toArray, List.getElem_cons_succ, List.getElem_cons_zero]); (first | (with_reducible exact tFrB) | (with_reducible exact built_fil))))))))
    refine bodyPost_cell_tmp rfl tFr.toAggT rfl _ rfl _ _ (st.get (by repeat (first | exact At.here | apply At.there))) (by simp [frv_length, zf_length, mk_length, withD_length, part_length, rowsOf_length, *]) _ rfl ?_
    exact ⟨rfl, st.keep⟩
  · have hc : mcode f g s n = 0 := by unfold mcode; rw [hcg, h3, h4]; rfl
    have hm := (morR_ok (g := g) okf s n).len
    obtain ⟨q1, q2⟩ := inB_iff.1 h3
    obtain ⟨q3, q4⟩ := inB_iff.1 h4
    rw [show mres f g s n = morR f g s n by unfold mres; rw [hc]; rfl, hc]
    have H3 := hid (l00In_w h3)
    have H4 := hid (l00In_w h4)
    have HM := hid (l03Morph_c f g okf okg s n q3 q4 q1 q2)
    go_enter Try.func31, Try.ntmps31
    go_wp2_with (first | (go_at_call 66; (first | (with_reducible refine (H1.out _ _ (.of (st.get (by repeat (first | exact At.here | apply At.there))))).mono ?_) | (with_reducible refine (H2.out _ _ (.of (st.get (by repeat (first | exact At.here | apply At.there))))).mono ?_)); rintro _ _ ⟨rfl, hk⟩; replace st := st.call hk; clear hk) | (go_at_call 62; (first | (with_reducible refine (H3.out _).mono ?_) | (with_reducible refine (H4.out _).mono ?_)); rintro _ _ ⟨rfl, hk⟩; replace st := st.call hk; clear hk) | (go_at_call 67; refine (HM.out _).mono ?_; rintro _ _ ⟨rfl, hk⟩; replace st := st.call hk; clear hk) | ((with_reducible refine gate_lst ?_); (first | ((with_reducible refine' wpl_ung ?_ ?_ ?_); rotate_left 1; (focus exact rfl); (focus exact rfl)) | ((with_reducible refine gate_box rfl ?_); (first | (refine ia_box (sl := 4) st rfl rfl rfl rfl rfl ?_; clear st; intro B4 _ st) | (refine ia_box (sl := 5) st rfl rfl rfl rfl rfl ?_; clear st; intro B5 _ st))) | ((with_reducible refine gate_alloc rfl ?_); (first | (refine ia_alloc (sl := 8) st rfl rfl rfl ?_; clear st; intro B8 _ st))) | ((with_reducible refine gate_load rfl ?_); (first | (refine ia_loadAll st rfl rfl rfl ?_ ?_; (focus (first | rfl | (simp; done) | (simp; assumption) | (simp; omega) | (simp [*]; done)))) | (refine ia_loadC (hb.keep st.keep (by simp)) rfl rfl rfl ?_ ?_; (focus (first | rfl | (simp; done) | (simp; assumption) | (simp; omega) | (simp [*]; done)))) | (refine ia_loadC (hb'.keep st.keep (by simp)) rfl rfl rfl ?_ ?_; (focus (first | rfl | (simp; done) | (simp; assumption) | (simp; omega) | (simp [*]; done)))) | (refine ia_loadC (Cl.of (hb1.keep st.keep (by simp))) rfl rfl rfl ?_ ?_; (focus (first | rfl | (simp; done) | (simp; assumption) | (simp; omega) | (simp [*]; done)))) | (refine ia_loadC (Cl.of (hb2.keep st.keep (by simp))) rfl rfl rfl ?_ ?_; (focus (first | rfl | (simp; done) | (simp; assumption) | (simp; omega) | (simp [*]; done)))))) | ((with_reducible refine gate_store rfl ?_); (first | (refine ia_storeAll st rfl rfl rfl rfl ?_ ?_ ?_ ?_; (focus (first | rfl | (simp; done) | (simp; assumption) | (simp; omega) | (simp [*]; done))); (focus (first | exact frv_one _ | exact fv_one _ | exact p8_one _ | exact k3_one _ | exact i1_one _ | (simp [Value.oneCell']; done))); (focus (first | rfl | (simp; done) | (simp; assumption) | (simp; omega) | (simp [*]; done))); clear st; intro _ st; (try simp only [List.set_cons_zero, List.set_cons_succ] at st)) | (refine ia_storeSeg st rfl rfl rfl rfl ?_ ?_ ?_ ?_; (focus (first | rfl | (simp; done) | (simp; assumption) | (simp; omega) | (simp [*]; done))); (focus (first | exact frv_one _ | exact fv_one _ | exact p8_one _ | exact k3_one _ | exact i1_one _ | (simp [Value.oneCell']; done))); (focus (first | omega | (simp; done) | (simp; omega) | (simp [*]; omega))); clear st; intro _ st; (try simp only [List.set_cons_zero, List.set_cons_succ] at st)))) | ((with_reducible refine gate_build rfl ?_); refine' la_build ?_ rfl rfl ?_; rotate_left 1; (focus ((try simp only [List.map_cons, List.map_nil, Act.put, Act.eval, Array.getD_eq_getD_getElem?, List.getElem?_toArray, List.getElem?_cons_succ, List.getElem?_cons_zero, Option.getD_some, List.setIfInBounds_toArray, List.set_cons_succ, List.set_cons_zero, List.getElem_toArray, List.getElem_cons_succ, List.getElem_cons_zero]); (first | (with_reducible exact tFrB) | (with_reducible exact built_fil))))))))
    refine bodyPost_cell_tmp rfl tFr.toAggT rfl _ rfl _ _ (st.get (by repeat (first | exact At.here | apply At.there))) (by rw [frv_length, hm]) _ rfl ?_
    exact ⟨rfl, st.keep⟩
set_option maxRecDepth 100000 in
theorem MorphAt_c (f g : List Nat) (okf : FrOk f) (okg : FrOk g) (s n : Int) (w : World) :
    Calls Try.prog 33 #[.agg (frv f).toArray, .agg (frv g).toArray, .int .i64 s, .int .i64 n] w fun e w' => e = .returned (.tuple #[.agg (frv (mres f g s n)).toArray, .int .i64 (mcode f g s n)]) ∧ Keep [] w w' := by
  have hf := okf.len
  have hg := okg.len
  have st := St.start w
  have HA := hid (areTwo_c f g hf hg)
  by_cases hcg : codeG f g = 0
  rotate_left 1
  · have hc : mcode f g s n = 1 := by unfold mcode; rw [if_neg hcg]
    rw [show mres f g s n = zf by unfold mres; rw [hc]; rfl, hc]
    rw [show decide (codeG f g = 0) = false by simpa using hcg] at HA
    clear hcg
    go_enter Try.func33, Try.ntmps33
    go_wp2_with (first | ((with_reducible refine gate_bsl rfl ?_); refine wpl_buildSlice2 rfl _ _ _ rfl _ _ rfl rfl _ _ rfl rfl tFrS (by rw [frv_length, hf]) (by rw [frv_length, hg]) (by decide) st ?_; clear st; intro _ _ st) | (go_at_call 68; refine (HA.out _ _ _ _ (st.get .here)).mono ?_; rintro _ _ ⟨rfl, hk⟩; replace st := st.call hk; clear hk) | ((with_reducible refine gate_lst ?_); (first | ((with_reducible refine' wpl_ung ?_ ?_ ?_); rotate_left 1; (focus exact rfl); (focus exact rfl)) | ((with_reducible refine gate_box rfl ?_); (first | (refine ia_box (sl := 4) st rfl rfl rfl rfl rfl ?_; clear st; intro B4 _ st) | (refine ia_box (sl := 5) st rfl rfl rfl rfl rfl ?_; clear st; intro B5 _ st))) | ((with_reducible refine gate_alloc rfl ?_); (first | (refine ia_alloc (sl := 8) st rfl rfl rfl ?_; clear st; intro B8 _ st))) | ((with_reducible refine gate_load rfl ?_); (first | (refine ia_loadAll st rfl rfl rfl ?_ ?_; (focus (first | rfl | (simp; done) | (simp; assumption) | (simp; omega) | (simp [*]; done)))) | (refine ia_loadC (hb.keep st.keep (by simp)) rfl rfl rfl ?_ ?_; (focus (first | rfl | (simp; done) | (simp; assumption) | (simp; omega) | (simp [*]; done)))) | (refine ia_loadC (hb'.keep st.keep (by simp)) rfl rfl rfl ?_ ?_; (focus (first | rfl | (simp; done) | (simp; assumption) | (simp; omega) | (simp [*]; done)))) | (refine ia_loadC (Cl.of (hb1.keep st.keep (by simp))) rfl rfl rfl ?_ ?_; (focus (first | rfl | (simp; done) | (simp; assumption) | (simp; omega) | (simp [*]; done)))) | (refine ia_loadC (Cl.of (hb2.keep st.keep (by simp))) rfl rfl rfl ?_ ?_; (focus (first | rfl | (simp; done) | (simp; assumption) | (simp; omega) | (simp [*]; done)))))) | ((with_reducible refine gate_store rfl ?_); (first | (refine ia_storeAll st rfl rfl rfl rfl ?_ ?_ ?_ ?_; (focus (first | rfl | (simp; done) | (simp; assumption) | (simp; omega) | (simp [*]; done))); (focus (first | exact frv_one _ | exact fv_one _ | exact p8_one _ | exact k3_one _ | exact i1_one _ | (simp [Value.oneCell']; done))); (focus (first | rfl | (simp; done) | (simp; assumption) | (simp; omega) | (simp [*]; done))); clear st; intro _ st; (try simp only [List.set_cons_zero, List.set_cons_succ] at st)) | (refine ia_storeSeg st rfl rfl rfl rfl ?_ ?_ ?_ ?_; (focus (first | rfl | (simp; done) | (simp; assumption) | (simp; omega) | (simp [*]; done))); (focus (first | exact frv_one _ | exact fv_one _ | exact p8_one _ | exact k3_one _ | exact i1_one _ | (simp [Value.oneCell']; done))); (focus (first | omega | (simp; done) | (simp; omega) | (simp [*]; omega))); clear st; intro _ st; (try simp only [List.set_cons_zero, List.set_cons_succ] at st)))) | ((with_reducible refine gate_build rfl ?_); refine' la_build ?_ rfl rfl ?_; rotate_left 1; (focus ((try simp only [List.map_cons, List.map_nil, Act.put, Act.eval, Array.getD_eq_getD_getElem?, List.getElem?_toArray, List.getElem?_cons_succ, List.getElem?_cons_zero, Option.getD_some, List.setIfInBounds_toArray, List.set_cons_succ, List.set_cons_zero, List.getElem_toArray, List.getElem_cons_succ, List.getElem_cons_zero]); (first | (with_reducible exact tFrB) | (with_reducible exact built_fil))))))))
    refine bodyPost_cell_tmp rfl tFr.toAggT rfl _ rfl _ _ (st.get (by repeat (first | exact At.here | apply At.there))) (by simp [frv_length, zf_length, mk_length, withD_length, part_length, rowsOf_length, *]) _ rfl ?_
    exact ⟨rfl, st.keep⟩
  rw [show decide (codeG f g = 0) = true by simpa using hcg] at HA
  rcases Bool.eq_false_or_eq_true (inB n 1 200) with h3 | h3
  rotate_left 1
  · have hc : mcode f g s n = 2 := by unfold mcode; rw [hcg, h3]; rfl
    rw [show mres f g s n = zf by unfold mres; rw [hc]; rfl, hc]
    have H3 := hid (inRange_w h3)
    clear hcg
    go_enter Try.func33, Try.ntmps33
    go_wp2_with (first | ((with_reducible refine gate_bsl rfl ?_); refine wpl_buildSlice2 rfl _ _ _ rfl _ _ rfl rfl _ _ rfl rfl tFrS (by rw [frv_length, hf]) (by rw [frv_length, hg]) (by decide) st ?_; clear st; intro _ _ st) | (go_at_call 68; refine (HA.out _ _ _ _ (st.get .here)).mono ?_; rintro _ _ ⟨rfl, hk⟩; replace st := st.call hk; clear hk) | (go_at_call 52; (first | (with_reducible refine (H3.out _).mono ?_)); rintro _ _ ⟨rfl, hk⟩; replace st := st.call hk; clear hk) | ((with_reducible refine gate_lst ?_); (first | ((with_reducible refine' wpl_ung ?_ ?_ ?_); rotate_left 1; (focus exact rfl); (focus exact rfl)) | ((with_reducible refine gate_box rfl ?_); (first | (refine ia_box (sl := 4) st rfl rfl rfl rfl rfl ?_; clear st; intro B4 _ st) | (refine ia_box (sl := 5) st rfl rfl rfl rfl rfl ?_; clear st; intro B5 _ st))) | ((with_reducible refine gate_alloc rfl ?_); (first | (refine ia_alloc (sl := 8) st rfl rfl rfl ?_; clear st; intro B8 _ st))) | ((with_reducible refine gate_load rfl ?_); (first | (refine ia_loadAll st rfl rfl rfl ?_ ?_; (focus (first | rfl | (simp; done) | (simp; assumption) | (simp; omega) | (simp [*]; done)))) | (refine ia_loadC (hb.keep st.keep (by simp)) rfl rfl rfl ?_ ?_; (focus (first | rfl | (simp; done) | (simp; assumption) | (simp; omega) | (simp [*]; done)))) | (refine ia_loadC (hb'.keep st.keep (by simp)) rfl rfl rfl ?_ ?_; (focus (first | rfl | (simp; done) | (simp; assumption) | (simp; omega) | (simp [*]; done)))) | (refine ia_loadC (Cl.of (hb1.keep st.keep (by simp))) rfl rfl rfl ?_ ?_; (focus (first | rfl | (simp; done) | (simp; assumption) | (simp; omega) | (simp [*]; done)))) | (refine ia_loadC (Cl.of (hb2.keep st.keep (by simp))) rfl rfl rfl ?_ ?_; (focus (first | rfl | (simp; done) | (simp; assumption) | (simp; omega) | (simp [*]; done)))))) | ((with_reducible refine gate_store rfl ?_); (first | (refine ia_storeAll st rfl rfl rfl rfl ?_ ?_ ?_ ?_; (focus (first | rfl | (simp; done) | (simp; assumption) | (simp; omega) | (simp [*]; done))); (focus (first | exact frv_one _ | exact fv_one _ | exact p8_one _ | exact k3_one _ | exact i1_one _ | (simp [Value.oneCell']; done))); (focus (first | rfl | (simp; done) | (simp; assumption) | (simp; omega) | (simp [*]; done))); clear st; intro _ st; (try simp only [List.set_cons_zero, List.set_cons_succ] at st)) | (refine ia_storeSeg st rfl rfl rfl rfl ?_ ?_ ?_ ?_; (focus (first | rfl | (simp; done) | (simp; assumption) | (simp; omega) | (simp [*]; done))); (focus (first | exact frv_one _ | exact fv_one _ | exact p8_one _ | exact k3_one _ | exact i1_one _ | (simp [Value.oneCell']; done))); (focus (first | omega | (simp; done) | (simp; omega) | (simp [*]; omega))); clear st; intro _ st; (try simp only [List.set_cons_zero, List.set_cons_succ] at st)))) | ((with_reducible refine gate_build rfl ?_); refine' la_build ?_ rfl rfl ?_; rotate_left 1; (focus ((try simp only [List.map_cons, List.map_nil, Act.put, Act.eval, Array.getD_eq_getD_getElem?, List.getElem?_toArray, List.getElem?_cons_succ, List.getElem?_cons_zero, Option.getD_some, List.setIfInBounds_toArray, List.set_cons_succ, List.set_cons_zero, List.getElem_toArray, List.getElem_cons_succ, List.getElem_cons_zero]); (first | (with_reducible exact tFrB) | (with_reducible exact built_fil))))))))
    refine bodyPost_cell_tmp rfl tFr.toAggT rfl _ rfl _ _ (st.get (by repeat (first | exact At.here | apply At.there))) (by simp [frv_length, zf_length, mk_length, withD_length, part_length, rowsOf_length, *]) _ rfl ?_
    exact ⟨rfl, st.keep⟩
  rcases Bool.eq_false_or_eq_true (inB s 0 n) with h4 | h4
  rotate_left 1
  · have hc : mcode f g s n = 2 := by unfold mcode; rw [hcg, h3, h4]; rfl
    rw [show mres f g s n = zf by unfold mres; rw [hc]; rfl, hc]
    have H3 := hid (inRange_w h3)
    have H4 := hid (inRange_w h4)
    clear hcg
    go_enter Try.func33, Try.ntmps33
    go_wp2_with (first | ((with_reducible refine gate_bsl rfl ?_); refine wpl_buildSlice2 rfl _ _ _ rfl _ _ rfl rfl _ _ rfl rfl tFrS (by rw [frv_length, hf]) (by rw [frv_length, hg]) (by decide) st ?_; clear st; intro _ _ st) | (go_at_call 68; refine (HA.out _ _ _ _ (st.get .here)).mono ?_; rintro _ _ ⟨rfl, hk⟩; replace st := st.call hk; clear hk) | (go_at_call 52; (first | (with_reducible refine (H3.out _).mono ?_) | (with_reducible refine (H4.out _).mono ?_)); rintro _ _ ⟨rfl, hk⟩; replace st := st.call hk; clear hk) | ((with_reducible refine gate_lst ?_); (first | ((with_reducible refine' wpl_ung ?_ ?_ ?_); rotate_left 1; (focus exact rfl); (focus exact rfl)) | ((with_reducible refine gate_box rfl ?_); (first | (refine ia_box (sl := 4) st rfl rfl rfl rfl rfl ?_; clear st; intro B4 _ st) | (refine ia_box (sl := 5) st rfl rfl rfl rfl rfl ?_; clear st; intro B5 _ st))) | ((with_reducible refine gate_alloc rfl ?_); (first | (refine ia_alloc (sl := 8) st rfl rfl rfl ?_; clear st; intro B8 _ st))) | ((with_reducible refine gate_load rfl ?_); (first | (refine ia_loadAll st rfl rfl rfl ?_ ?_; (focus (first | rfl | (simp; done) | (simp; assumption) | (simp; omega) | (simp [*]; done)))) | (refine ia_loadC (hb.keep st.keep (by simp)) rfl rfl rfl ?_ ?_; (focus (first | rfl | (simp; done) | (simp; assumption) | (simp; omega) | (simp [*]; done)))) | (refine ia_loadC (hb'.keep st.keep (by simp)) rfl rfl rfl ?_ ?_; (focus (first | rfl | (simp; done) | (simp; assumption) | (simp; omega) | (simp [*]; done)))) | (refine ia_loadC (Cl.of (hb1.keep st.keep (by simp))) rfl rfl rfl ?_ ?_; (focus (first | rfl | (simp; done) | (simp; assumption) | (simp; omega) | (simp [*]; done)))) | (refine ia_loadC (Cl.of (hb2.keep st.keep (by simp))) rfl rfl rfl ?_ ?_; (focus (first | rfl | (simp; done) | (simp; assumption) | (simp; omega) | (simp [*]; done)))))) | ((with_reducible refine gate_store rfl ?_); (first | (refine ia_storeAll st rfl rfl rfl rfl ?_ ?_ ?_ ?_; (focus (first | rfl | (simp; done) | (simp; assumption) | (simp; omega) | (simp [*]; done))); (focus (first | exact frv_one _ | exact fv_one _ | exact p8_one _ | exact k3_one _ | exact i1_one _ | (simp [Value.oneCell']; done))); (focus (first | rfl | (simp; done) | (simp; assumption) | (simp; omega) | (simp [*]; done))); clear st; intro _ st; (try simp only [List.set_cons_zero, List.set_cons_succ] at st)) | (refine ia_storeSeg st rfl rfl rfl rfl ?_ ?_ ?_ ?_; (focus (first | rfl | (simp; done) | (simp; assumption) | (simp; omega) | (simp [*]; done))); (focus (first | exact frv_one _ | exact fv_one _ | exact p8_one _ | exact k3_one _ | exact i1_one _ | (simp [Value.oneCell']; done))); (focus (first | omega | (simp; done) | (simp; omega) | (simp [*]; omega))); clear st; intro _ st; (try simp only [List.set_cons_zero, List.set_cons_succ] at st)))) | ((with_reducible refine gate_build rfl ?_); refine' la_build ?_ rfl rfl ?_; rotate_left 1; (focus ((try simp only [List.map_cons, List.map_nil, Act.put, Act.eval, Array.getD_eq_getD_getElem?, List.getElem?_toArray, List.getElem?_cons_succ, List.getElem?_cons_zero, Option.getD_some, List.setIfInBounds_toArray, List.set_cons_succ, List.set_cons_zero, List.getElem_toArray, List.getElem_cons_succ, List.getElem_cons_zero]); (first | (with_reducible exact tFrB) | (with_reducible exact built_fil))))))))
    refine bodyPost_cell_tmp rfl tFr.toAggT rfl _ rfl _ _ (st.get (by repeat (first | exact At.here | apply At.there))) (by simp [frv_length, zf_length, mk_length, withD_length, part_length, rowsOf_length, *]) _ rfl ?_
    exact ⟨rfl, st.keep⟩
  · have hc : mcode f g s n = 0 := by unfold mcode; rw [hcg, h3, h4]; rfl
    have hm := (morR_ok (g := g) okf s n).len
    obtain ⟨q1, q2⟩ := inB_iff.1 h3
    obtain ⟨q3, q4⟩ := inB_iff.1 h4
    rw [show mres f g s n = morR f g s n by unfold mres; rw [hc]; rfl, hc]
    have H3 := hid (inRange_w h3)
    have H4 := hid (inRange_w h4)
    have HM := hid (morph_c f g okf okg s n q3 q4 q1 q2)
    clear hcg
    go_enter Try.func33, Try.ntmps33
    go_wp2_with (first | ((with_reducible refine gate_bsl rfl ?_); refine wpl_buildSlice2 rfl _ _ _ rfl _ _ rfl rfl _ _ rfl rfl tFrS (by rw [frv_length, hf]) (by rw [frv_length, hg]) (by decide) st ?_; clear st; intro _ _ st) | (go_at_call 68; refine (HA.out _ _ _ _ (st.get .here)).mono ?_; rintro _ _ ⟨rfl, hk⟩; replace st := st.call hk; clear hk) | (go_at_call 52; (first | (with_reducible refine (H3.out _).mono ?_) | (with_reducible refine (H4.out _).mono ?_)); rintro _ _ ⟨rfl, hk⟩; replace st := st.call hk; clear hk) | (go_at_call 69; refine (HM.out _).mono ?_; rintro _ _ ⟨rfl, hk⟩; replace st := st.call hk; clear hk) | ((with_reducible refine gate_lst ?_); (first | ((with_reducible refine' wpl_ung ?_ ?_ ?_); rotate_left 1; (focus exact rfl); (focus exact rfl)) | ((with_reducible refine gate_box rfl ?_); (first | (refine ia_box (sl := 4) st rfl rfl rfl rfl rfl ?_; clear st; intro B4 _ st) | (refine ia_box (sl := 5) st rfl rfl rfl rfl rfl ?_; clear st; intro B5 _ st))) | ((with_reducible refine gate_alloc rfl ?_); (first | (refine ia_alloc (sl := 8) st rfl rfl rfl ?_; clear st; intro B8 _ st))) | ((with_reducible refine gate_load rfl ?_); (first | (refine ia_loadAll st rfl rfl rfl ?_ ?_; (focus (first | rfl | (simp; done) | (simp; assumption) | (simp; omega) | (simp [*]; done)))) | (refine ia_loadC (hb.keep st.keep (by simp)) rfl rfl rfl ?_ ?_; (focus (first | rfl | (simp; done) | (simp; assumption) | (simp; omega) | (simp [*]; done)))) | (refine ia_loadC (hb'.keep st.keep (by simp)) rfl rfl rfl ?_ ?_; (focus (first | rfl | (simp; done) | (simp; assumption) | (simp; omega) | (simp [*]; done)))) | (refine ia_loadC (Cl.of (hb1.keep st.keep (by simp))) rfl rfl rfl ?_ ?_; (focus (first | rfl | (simp; done) | (simp; assumption) | (simp; omega) | (simp [*]; done)))) | (refine ia_loadC (Cl.of (hb2.keep st.keep (by simp))) rfl rfl rfl ?_ ?_; (focus (first | rfl | (simp; done) | (simp; assumption) | (simp; omega) | (simp [*]; done)))))) | ((with_reducible refine gate_store rfl ?_); (first | (refine ia_storeAll st rfl rfl rfl rfl ?_ ?_ ?_ ?_; (focus (first | rfl | (simp; done) | (simp; assumption) | (simp; omega) | (simp [*]; done))); (focus (first | exact frv_one _ | exact fv_one _ | exact p8_one _ | exact k3_one _ | exact i1_one _ | (simp [Value.oneCell']; done))); (focus (first | rfl | (simp; done) | (simp; assumption) | (simp; omega) | (simp [*]; done))); clear st; intro _ st; (try simp only [List.set_cons_zero, List.set_cons_succ] at st)) | (refine ia_storeSeg st rfl rfl rfl rfl ?_ ?_ ?_ ?_; (focus (first | rfl | (simp; done) | (simp; assumption) | (simp; omega) | (simp [*]; done))); (focus (first | exact frv_one _ | exact fv_one _ | exact p8_one _ | exact k3_one _ | exact i1_one _ | (simp [Value.oneCell']; done))); (focus (first | omega | (simp; done) | (simp; omega) | (simp [*]; omega))); clear st; intro _ st; (try simp only [List.set_cons_zero, List.set_cons_succ] at st)))) | ((with_reducible refine gate_build rfl ?_); refine' la_build ?_ rfl rfl ?_; rotate_left 1; (focus ((try simp only [List.map_cons, List.map_nil, Act.put, Act.eval, Array.getD_eq_getD_getElem?, List.getElem?_toArray, List.getElem?_cons_succ, List.getElem?_cons_zero, Option.getD_some, List.setIfInBounds_toArray, List.set_cons_succ, List.set_cons_zero, List.getElem_toArray, List.getElem_cons_succ, List.getElem_cons_zero]); (first | (with_reducible exact tFrB) | (with_reducible exact built_fil))))))))
    refine bodyPost_cell_tmp rfl tFr.toAggT rfl _ rfl _ _ (st.get (by repeat (first | exact At.here | apply At.there))) (by rw [frv_length, hm]) _ rfl ?_
    exact ⟨rfl, st.keep⟩
set_option maxHeartbeats 4000000 in
set_option maxRecDepth 100000 in
theorem law_MorphAt (f : List Nat) (okf : FrOk f) (g : List Nat) (okg : FrOk g) (s : Int) (_ : (Lit.int .i64 s).wf = true) (n : Int) (_ : (Lit.int .i64 n).wf = true) (w : World) :
    Calls Try.prog 8 #[.agg (frv f).toArray, .agg (frv g).toArray, .int .i64 s, .int .i64 n] w fun e w' => e = .returned (.bool true) ∧ Keep [] w w' := by
  have hf := okf.len
  have hg := okg.len
  have hR : (mres f g s n).length = 12 := mres_len f g okf s n
  have HS := hid (specMorphAt_c f g okf okg s n)
  have HI := hid (MorphAt_c f g okf okg s n)
  obtain ⟨r, hr⟩ : ∃ r, mres f g s n = r := ⟨_, rfl⟩
  obtain ⟨c, hc⟩ : ∃ c, mcode f g s n = c := ⟨_, rfl⟩
  rw [hr, hc] at HS HI
  rw [hr] at hR
  clear hr hc
  have st := St.start w
  go_enter Try.func8, Try.ntmps8
  go_wp2_with (first | ((with_reducible refine gate_box rfl ?_); refine wpl_box rfl _ _ rfl _ rfl _ rfl st ?_; clear st; intro _ _ st))
  apply wp_region_meetH st 13 rfl (by kernel_rfl)
  case h =>
    intro _ st
    refine takeH (i := 0) rfl (by kernel_rfl) (by kernel_rfl) (by kernel_rfl) (fun _ _ _ h => h) rfl (fun w hw => (loadAll_run rfl _ rfl tRaw.toAggT (frv f) _ (hw.get (by repeat (first | exact At.here | apply At.there))) (by rw [frv_length, hf]))) (by first | exact st | exact st.drop | exact st.drop.drop) ?_
    (simp only [Act.put, Act.eval, Array.getD_eq_getD_getElem?, List.getElem?_toArray, List.getElem?_cons_succ, List.getElem?_cons_zero, Option.getD_some, List.setIfInBounds_toArray, List.set_cons_succ, List.set_cons_zero, List.getElem_toArray, List.getElem_cons_succ, List.getElem_cons_zero])
    refine takeH (i := 2) rfl (by kernel_rfl) (by kernel_rfl) (by kernel_rfl) (fun _ _ _ h => h) rfl (fun w hw => (loadAll_run rfl _ rfl tRaw.toAggT (frv g) _ (hw.get (by repeat (first | exact At.here | apply At.there))) (by rw [frv_length, hg]))) (by first | exact st | exact st.drop | exact st.drop.drop) ?_
    (simp only [Act.put, Act.eval, Array.getD_eq_getD_getElem?, List.getElem?_toArray, List.getElem?_cons_succ, List.getElem?_cons_zero, Option.getD_some, List.setIfInBounds_toArray, List.set_cons_succ, List.set_cons_zero, List.getElem_toArray, List.getElem_cons_succ, List.getElem_cons_zero])
    refine takeH (i := 4) rfl (by kernel_rfl) (by kernel_rfl) (by kernel_rfl) (fun _ _ _ h => h) rfl (fun w hw => rfl) (by first | exact st | exact st.drop | exact st.drop.drop) ?_
    (simp only [Act.put, Act.eval, Array.getD_eq_getD_getElem?, List.getElem?_toArray, List.getElem?_cons_succ, List.getElem?_cons_zero, Option.getD_some, List.setIfInBounds_toArray, List.set_cons_succ, List.set_cons_zero, List.getElem_toArray, List.getElem_cons_succ, List.getElem_cons_zero])
    refine takeH (i := 5) rfl (by kernel_rfl) (by kernel_rfl) (by kernel_rfl) (fun _ _ _ h => h) rfl (fun w hw => rfl) (by first | exact st | exact st.drop | exact st.drop.drop) ?_
    (simp only [Act.put, Act.eval, Array.getD_eq_getD_getElem?, List.getElem?_toArray, List.getElem?_cons_succ, List.getElem?_cons_zero, Option.getD_some, List.setIfInBounds_toArray, List.set_cons_succ, List.set_cons_zero, List.getElem_toArray, List.getElem_cons_succ, List.getElem_cons_zero])
    refine anyH_ready (rs := [1, 10]) (by kernel_rfl) (by simp) ?_
    refine AllH.one rfl rfl ?_ ?_
    · ((with_reducible refine gate_call rfl ?_); (with_reducible refine gate_dst (N := 15) rfl ?_); refine wpl_call rfl _ rfl _ rfl 32 _ _ rfl _ Try.func32 (by kernel_rfl) (by kernel_rfl) #[.agg (frv f).toArray] (by simp [Act.eval, Act.put]) ?_; refine (toFrame_c f hf _).mono ?_; rintro _ _ ⟨rfl, hk⟩; refine ⟨(.agg (frv f).toArray), rfl, ?_⟩; replace st := st.call hk; clear hk)
      (simp only [Act.put, Act.eval, Array.getD_eq_getD_getElem?, List.getElem?_toArray, List.getElem?_cons_succ, List.getElem?_cons_zero, Option.getD_some, List.setIfInBounds_toArray, List.set_cons_succ, List.set_cons_zero, List.getElem_toArray, List.getElem_cons_succ, List.getElem_cons_zero])
      refine wpList_aftH (by first | exact st | exact st.drop | exact st.drop.drop) ?_
      refine anyH_ready (rs := [3, 10]) (by kernel_rfl) (by simp) ?_
      refine AllH.one rfl rfl ?_ ?_
      · ((with_reducible refine gate_call rfl ?_); (with_reducible refine gate_dst (N := 17) rfl ?_); refine wpl_call rfl _ rfl _ rfl 32 _ _ rfl _ Try.func32 (by kernel_rfl) (by kernel_rfl) #[.agg (frv g).toArray] (by simp [Act.eval, Act.put]) ?_; refine (toFrame_c g hg _).mono ?_; rintro _ _ ⟨rfl, hk⟩; refine ⟨(.agg (frv g).toArray), rfl, ?_⟩; replace st := st.call hk; clear hk)
        (simp only [Act.put, Act.eval, Array.getD_eq_getD_getElem?, List.getElem?_toArray, List.getElem?_cons_succ, List.getElem?_cons_zero, Option.getD_some, List.setIfInBounds_toArray, List.set_cons_succ, List.set_cons_zero, List.getElem_toArray, List.getElem_cons_succ, List.getElem_cons_zero])
        refine wpList_aftH (by first | exact st | exact st.drop | exact st.drop.drop) ?_
        refine anyH_ready (rs := [6, 10]) (by kernel_rfl) (by simp) ?_
        refine AllH.one rfl rfl ?_ ?_
        · ((with_reducible refine gate_call rfl ?_); (with_reducible refine gate_dst (N := 20) rfl ?_); refine wpl_call rfl _ rfl _ rfl 31 _ _ rfl _ Try.func31 (by kernel_rfl) (by kernel_rfl) #[.agg (frv f).toArray, .agg (frv g).toArray, .int .i64 s, .int .i64 n] (by simp [Act.eval, Act.put]) ?_; refine (HS.out _).mono ?_; rintro _ _ ⟨rfl, hk⟩; refine ⟨_, rfl, ?_⟩; replace st := st.call hk; clear hk)
          (simp only [Act.put, Act.eval, Array.getD_eq_getD_getElem?, List.getElem?_toArray, List.getElem?_cons_succ, List.getElem?_cons_zero, Option.getD_some, List.setIfInBounds_toArray, List.set_cons_succ, List.set_cons_zero, List.getElem_toArray, List.getElem_cons_succ, List.getElem_cons_zero])
          refine wpList_aftH (by first | exact st | exact st.drop | exact st.drop.drop) ?_
          refine takeH (i := 7) rfl (by kernel_rfl) (by kernel_rfl) (by kernel_rfl) (fun _ _ _ h => h) rfl (fun w hw => rfl) (by first | exact st | exact st.drop | exact st.drop.drop) ?_
          (simp only [Act.put, Act.eval, Array.getD_eq_getD_getElem?, List.getElem?_toArray, List.getElem?_cons_succ, List.getElem?_cons_zero, Option.getD_some, List.setIfInBounds_toArray, List.set_cons_succ, List.set_cons_zero, List.getElem_toArray, List.getElem_cons_succ, List.getElem_cons_zero])
          refine takeH (i := 8) rfl (by kernel_rfl) (by kernel_rfl) (by kernel_rfl) (fun _ _ _ h => h) rfl (fun w hw => rfl) (by first | exact st | exact st.drop | exact st.drop.drop) ?_
          (simp only [Act.put, Act.eval, Array.getD_eq_getD_getElem?, List.getElem?_toArray, List.getElem?_cons_succ, List.getElem?_cons_zero, Option.getD_some, List.setIfInBounds_toArray, List.set_cons_succ, List.set_cons_zero, List.getElem_toArray, List.getElem_cons_succ, List.getElem_cons_zero])
          refine takeH (i := 9) rfl (by kernel_rfl) (by kernel_rfl) (by kernel_rfl) (fun _ _ _ h => h) rfl (fun w hw => rfl) (by first | exact st | exact st.drop | exact st.drop.drop) ?_
          (simp only [Act.put, Act.eval, Array.getD_eq_getD_getElem?, List.getElem?_toArray, List.getElem?_cons_succ, List.getElem?_cons_zero, Option.getD_some, List.setIfInBounds_toArray, List.set_cons_succ, List.set_cons_zero, List.getElem_toArray, List.getElem_cons_succ, List.getElem_cons_zero])
          refine anyH_ready (rs := [10]) (by kernel_rfl) (by simp) ?_
          refine AllH.one rfl rfl ?_ ?_
          · ((with_reducible refine gate_alloc rfl ?_); refine wpl_alloc rfl _ rfl tFr.toAggT st ?_; clear st; intro BB _ st)
            (simp only [Act.put, Act.eval, Array.getD_eq_getD_getElem?, List.getElem?_toArray, List.getElem?_cons_succ, List.getElem?_cons_zero, Option.getD_some, List.setIfInBounds_toArray, List.set_cons_succ, List.set_cons_zero, List.getElem_toArray, List.getElem_cons_succ, List.getElem_cons_zero])
            refine wpList_aftH (by first | exact st | exact st.drop | exact st.drop.drop) ?_
            refine anyH_ready (rs := [11]) (by kernel_rfl) (by simp) ?_
            refine AllH.one rfl rfl ?_ ?_
            · ((with_reducible refine gate_store rfl ?_); refine wpl_storeAll rfl _ _ _ rfl _ rfl _ rfl tFr.toAggT (by rw [frv_length, hR]) (frv_one _) st _ _ (by repeat (first | exact Upd.here | apply Upd.there)) (by simp [frv_length, zf_length, mk_length, withD_length, part_length, rowsOf_length, *]) ?_; clear st; intro _ st)
              (simp only [Act.put, Act.eval, Array.getD_eq_getD_getElem?, List.getElem?_toArray, List.getElem?_cons_succ, List.getElem?_cons_zero, Option.getD_some, List.setIfInBounds_toArray, List.set_cons_succ, List.set_cons_zero, List.getElem_toArray, List.getElem_cons_succ, List.getElem_cons_zero])
              refine wpList_aftH (by first | exact st | exact st.drop | exact st.drop.drop) ?_
              refine anyH_ready (rs := [12]) (by kernel_rfl) (by simp) ?_
              refine AllH.one rfl rfl ?_ ?_
              · ((first | (with_reducible refine gate_move rfl ?_) | (with_reducible refine gate_assign rfl ?_) | (with_reducible refine gate_extract rfl ?_)); refine wpl_val rfl _ rfl ?_)
                (simp only [Act.put, Act.eval, Array.getD_eq_getD_getElem?, List.getElem?_toArray, List.getElem?_cons_succ, List.getElem?_cons_zero, Option.getD_some, List.setIfInBounds_toArray, List.set_cons_succ, List.set_cons_zero, List.getElem_toArray, List.getElem_cons_succ, List.getElem_cons_zero])
                refine wpList_aftH (by first | exact st | exact st.drop | exact st.drop.drop) ?_
                refine wpAnyH_done (by kernel_rfl) ?_ _; exact ⟨BB, rfl, st⟩
              exact AllH.nil
            exact AllH.nil
          exact AllH.nil
        refine AllH.one rfl rfl ?_ ?_
        · ((with_reducible refine gate_alloc rfl ?_); refine wpl_alloc rfl _ rfl tFr.toAggT st ?_; clear st; intro BB _ st)
          (simp only [Act.put, Act.eval, Array.getD_eq_getD_getElem?, List.getElem?_toArray, List.getElem?_cons_succ, List.getElem?_cons_zero, Option.getD_some, List.setIfInBounds_toArray, List.set_cons_succ, List.set_cons_zero, List.getElem_toArray, List.getElem_cons_succ, List.getElem_cons_zero])
          refine wpList_aftH (by first | exact st | exact st.drop | exact st.drop.drop) ?_
          refine anyH_ready (rs := [6]) (by kernel_rfl) (by simp) ?_
          refine AllH.one rfl rfl ?_ ?_
          · ((with_reducible refine gate_call rfl ?_); (with_reducible refine gate_dst (N := 20) rfl ?_); refine wpl_call rfl _ rfl _ rfl 31 _ _ rfl _ Try.func31 (by kernel_rfl) (by kernel_rfl) #[.agg (frv f).toArray, .agg (frv g).toArray, .int .i64 s, .int .i64 n] (by simp [Act.eval, Act.put]) ?_; refine (HS.out _).mono ?_; rintro _ _ ⟨rfl, hk⟩; refine ⟨_, rfl, ?_⟩; replace st := st.call hk; clear hk)
            (simp only [Act.put, Act.eval, Array.getD_eq_getD_getElem?, List.getElem?_toArray, List.getElem?_cons_succ, List.getElem?_cons_zero, Option.getD_some, List.setIfInBounds_toArray, List.set_cons_succ, List.set_cons_zero, List.getElem_toArray, List.getElem_cons_succ, List.getElem_cons_zero])
            refine wpList_aftH (by first | exact st | exact st.drop | exact st.drop.drop) ?_
            refine takeH (i := 7) rfl (by kernel_rfl) (by kernel_rfl) (by kernel_rfl) (fun _ _ _ h => h) rfl (fun w hw => rfl) (by first | exact st | exact st.drop | exact st.drop.drop) ?_
            (simp only [Act.put, Act.eval, Array.getD_eq_getD_getElem?, List.getElem?_toArray, List.getElem?_cons_succ, List.getElem?_cons_zero, Option.getD_some, List.setIfInBounds_toArray, List.set_cons_succ, List.set_cons_zero, List.getElem_toArray, List.getElem_cons_succ, List.getElem_cons_zero])
            refine takeH (i := 8) rfl (by kernel_rfl) (by kernel_rfl) (by kernel_rfl) (fun _ _ _ h => h) rfl (fun w hw => rfl) (by first | exact st | exact st.drop | exact st.drop.drop) ?_
            (simp only [Act.put, Act.eval, Array.getD_eq_getD_getElem?, List.getElem?_toArray, List.getElem?_cons_succ, List.getElem?_cons_zero, Option.getD_some, List.setIfInBounds_toArray, List.set_cons_succ, List.set_cons_zero, List.getElem_toArray, List.getElem_cons_succ, List.getElem_cons_zero])
            refine takeH (i := 9) rfl (by kernel_rfl) (by kernel_rfl) (by kernel_rfl) (fun _ _ _ h => h) rfl (fun w hw => rfl) (by first | exact st | exact st.drop | exact st.drop.drop) ?_
            (simp only [Act.put, Act.eval, Array.getD_eq_getD_getElem?, List.getElem?_toArray, List.getElem?_cons_succ, List.getElem?_cons_zero, Option.getD_some, List.setIfInBounds_toArray, List.set_cons_succ, List.set_cons_zero, List.getElem_toArray, List.getElem_cons_succ, List.getElem_cons_zero])
            refine anyH_ready (rs := [11]) (by kernel_rfl) (by simp) ?_
            refine AllH.one rfl rfl ?_ ?_
            · ((with_reducible refine gate_store rfl ?_); refine wpl_storeAll rfl _ _ _ rfl _ rfl _ rfl tFr.toAggT (by rw [frv_length, hR]) (frv_one _) st _ _ (by repeat (first | exact Upd.here | apply Upd.there)) (by simp [frv_length, zf_length, mk_length, withD_length, part_length, rowsOf_length, *]) ?_; clear st; intro _ st)
              (simp only [Act.put, Act.eval, Array.getD_eq_getD_getElem?, List.getElem?_toArray, List.getElem?_cons_succ, List.getElem?_cons_zero, Option.getD_some, List.setIfInBounds_toArray, List.set_cons_succ, List.set_cons_zero, List.getElem_toArray, List.getElem_cons_succ, List.getElem_cons_zero])
              refine wpList_aftH (by first | exact st | exact st.drop | exact st.drop.drop) ?_
              refine anyH_ready (rs := [12]) (by kernel_rfl) (by simp) ?_
              refine AllH.one rfl rfl ?_ ?_
              · ((first | (with_reducible refine gate_move rfl ?_) | (with_reducible refine gate_assign rfl ?_) | (with_reducible refine gate_extract rfl ?_)); refine wpl_val rfl _ rfl ?_)
                (simp only [Act.put, Act.eval, Array.getD_eq_getD_getElem?, List.getElem?_toArray, List.getElem?_cons_succ, List.getElem?_cons_zero, Option.getD_some, List.setIfInBounds_toArray, List.set_cons_succ, List.set_cons_zero, List.getElem_toArray, List.getElem_cons_succ, List.getElem_cons_zero])
                refine wpList_aftH (by first | exact st | exact st.drop | exact st.drop.drop) ?_
                refine wpAnyH_done (by kernel_rfl) ?_ _; exact ⟨BB, rfl, st⟩
              exact AllH.nil
            exact AllH.nil
          exact AllH.nil
        exact AllH.nil
      refine AllH.one rfl rfl ?_ ?_
      · ((with_reducible refine gate_alloc rfl ?_); refine wpl_alloc rfl _ rfl tFr.toAggT st ?_; clear st; intro BB _ st)
        (simp only [Act.put, Act.eval, Array.getD_eq_getD_getElem?, List.getElem?_toArray, List.getElem?_cons_succ, List.getElem?_cons_zero, Option.getD_some, List.setIfInBounds_toArray, List.set_cons_succ, List.set_cons_zero, List.getElem_toArray, List.getElem_cons_succ, List.getElem_cons_zero])
        refine wpList_aftH (by first | exact st | exact st.drop | exact st.drop.drop) ?_
        refine anyH_ready (rs := [3]) (by kernel_rfl) (by simp) ?_
        refine AllH.one rfl rfl ?_ ?_
        · ((with_reducible refine gate_call rfl ?_); (with_reducible refine gate_dst (N := 17) rfl ?_); refine wpl_call rfl _ rfl _ rfl 32 _ _ rfl _ Try.func32 (by kernel_rfl) (by kernel_rfl) #[.agg (frv g).toArray] (by simp [Act.eval, Act.put]) ?_; refine (toFrame_c g hg _).mono ?_; rintro _ _ ⟨rfl, hk⟩; refine ⟨(.agg (frv g).toArray), rfl, ?_⟩; replace st := st.call hk; clear hk)
          (simp only [Act.put, Act.eval, Array.getD_eq_getD_getElem?, List.getElem?_toArray, List.getElem?_cons_succ, List.getElem?_cons_zero, Option.getD_some, List.setIfInBounds_toArray, List.set_cons_succ, List.set_cons_zero, List.getElem_toArray, List.getElem_cons_succ, List.getElem_cons_zero])
          refine wpList_aftH (by first | exact st | exact st.drop | exact st.drop.drop) ?_
          refine anyH_ready (rs := [6]) (by kernel_rfl) (by simp) ?_
          refine AllH.one rfl rfl ?_ ?_
          · ((with_reducible refine gate_call rfl ?_); (with_reducible refine gate_dst (N := 20) rfl ?_); refine wpl_call rfl _ rfl _ rfl 31 _ _ rfl _ Try.func31 (by kernel_rfl) (by kernel_rfl) #[.agg (frv f).toArray, .agg (frv g).toArray, .int .i64 s, .int .i64 n] (by simp [Act.eval, Act.put]) ?_; refine (HS.out _).mono ?_; rintro _ _ ⟨rfl, hk⟩; refine ⟨_, rfl, ?_⟩; replace st := st.call hk; clear hk)
            (simp only [Act.put, Act.eval, Array.getD_eq_getD_getElem?, List.getElem?_toArray, List.getElem?_cons_succ, List.getElem?_cons_zero, Option.getD_some, List.setIfInBounds_toArray, List.set_cons_succ, List.set_cons_zero, List.getElem_toArray, List.getElem_cons_succ, List.getElem_cons_zero])
            refine wpList_aftH (by first | exact st | exact st.drop | exact st.drop.drop) ?_
            refine takeH (i := 7) rfl (by kernel_rfl) (by kernel_rfl) (by kernel_rfl) (fun _ _ _ h => h) rfl (fun w hw => rfl) (by first | exact st | exact st.drop | exact st.drop.drop) ?_
            (simp only [Act.put, Act.eval, Array.getD_eq_getD_getElem?, List.getElem?_toArray, List.getElem?_cons_succ, List.getElem?_cons_zero, Option.getD_some, List.setIfInBounds_toArray, List.set_cons_succ, List.set_cons_zero, List.getElem_toArray, List.getElem_cons_succ, List.getElem_cons_zero])
            refine takeH (i := 8) rfl (by kernel_rfl) (by kernel_rfl) (by kernel_rfl) (fun _ _ _ h => h) rfl (fun w hw => rfl) (by first | exact st | exact st.drop | exact st.drop.drop) ?_
            (simp only [Act.put, Act.eval, Array.getD_eq_getD_getElem?, List.getElem?_toArray, List.getElem?_cons_succ, List.getElem?_cons_zero, Option.getD_some, List.setIfInBounds_toArray, List.set_cons_succ, List.set_cons_zero, List.getElem_toArray, List.getElem_cons_succ, List.getElem_cons_zero])
            refine takeH (i := 9) rfl (by kernel_rfl) (by kernel_rfl) (by kernel_rfl) (fun _ _ _ h => h) rfl (fun w hw => rfl) (by first | exact st | exact st.drop | exact st.drop.drop) ?_
            (simp only [Act.put, Act.eval, Array.getD_eq_getD_getElem?, List.getElem?_toArray, List.getElem?_cons_succ, List.getElem?_cons_zero, Option.getD_some, List.setIfInBounds_toArray, List.set_cons_succ, List.set_cons_zero, List.getElem_toArray, List.getElem_cons_succ, List.getElem_cons_zero])
            refine anyH_ready (rs := [11]) (by kernel_rfl) (by simp) ?_
            refine AllH.one rfl rfl ?_ ?_
            · ((with_reducible refine gate_store rfl ?_); refine wpl_storeAll rfl _ _ _ rfl _ rfl _ rfl tFr.toAggT (by rw [frv_length, hR]) (frv_one _) st _ _ (by repeat (first | exact Upd.here | apply Upd.there)) (by simp [frv_length, zf_length, mk_length, withD_length, part_length, rowsOf_length, *]) ?_; clear st; intro _ st)
              (simp only [Act.put, Act.eval, Array.getD_eq_getD_getElem?, List.getElem?_toArray, List.getElem?_cons_succ, List.getElem?_cons_zero, Option.getD_some, List.setIfInBounds_toArray, List.set_cons_succ, List.set_cons_zero, List.getElem_toArray, List.getElem_cons_succ, List.getElem_cons_zero])
              refine wpList_aftH (by first | exact st | exact st.drop | exact st.drop.drop) ?_
              refine anyH_ready (rs := [12]) (by kernel_rfl) (by simp) ?_
              refine AllH.one rfl rfl ?_ ?_
              · ((first | (with_reducible refine gate_move rfl ?_) | (with_reducible refine gate_assign rfl ?_) | (with_reducible refine gate_extract rfl ?_)); refine wpl_val rfl _ rfl ?_)
                (simp only [Act.put, Act.eval, Array.getD_eq_getD_getElem?, List.getElem?_toArray, List.getElem?_cons_succ, List.getElem?_cons_zero, Option.getD_some, List.setIfInBounds_toArray, List.set_cons_succ, List.set_cons_zero, List.getElem_toArray, List.getElem_cons_succ, List.getElem_cons_zero])
                refine wpList_aftH (by first | exact st | exact st.drop | exact st.drop.drop) ?_
                refine wpAnyH_done (by kernel_rfl) ?_ _; exact ⟨BB, rfl, st⟩
              exact AllH.nil
            exact AllH.nil
          exact AllH.nil
        exact AllH.nil
      exact AllH.nil
    refine AllH.one rfl rfl ?_ ?_
    · ((with_reducible refine gate_alloc rfl ?_); refine wpl_alloc rfl _ rfl tFr.toAggT st ?_; clear st; intro BB _ st)
      (simp only [Act.put, Act.eval, Array.getD_eq_getD_getElem?, List.getElem?_toArray, List.getElem?_cons_succ, List.getElem?_cons_zero, Option.getD_some, List.setIfInBounds_toArray, List.set_cons_succ, List.set_cons_zero, List.getElem_toArray, List.getElem_cons_succ, List.getElem_cons_zero])
      refine wpList_aftH (by first | exact st | exact st.drop | exact st.drop.drop) ?_
      refine anyH_ready (rs := [1]) (by kernel_rfl) (by simp) ?_
      refine AllH.one rfl rfl ?_ ?_
      · ((with_reducible refine gate_call rfl ?_); (with_reducible refine gate_dst (N := 15) rfl ?_); refine wpl_call rfl _ rfl _ rfl 32 _ _ rfl _ Try.func32 (by kernel_rfl) (by kernel_rfl) #[.agg (frv f).toArray] (by simp [Act.eval, Act.put]) ?_; refine (toFrame_c f hf _).mono ?_; rintro _ _ ⟨rfl, hk⟩; refine ⟨(.agg (frv f).toArray), rfl, ?_⟩; replace st := st.call hk; clear hk)
        (simp only [Act.put, Act.eval, Array.getD_eq_getD_getElem?, List.getElem?_toArray, List.getElem?_cons_succ, List.getElem?_cons_zero, Option.getD_some, List.setIfInBounds_toArray, List.set_cons_succ, List.set_cons_zero, List.getElem_toArray, List.getElem_cons_succ, List.getElem_cons_zero])
        refine wpList_aftH (by first | exact st | exact st.drop | exact st.drop.drop) ?_
        refine anyH_ready (rs := [3]) (by kernel_rfl) (by simp) ?_
        refine AllH.one rfl rfl ?_ ?_
        · ((with_reducible refine gate_call rfl ?_); (with_reducible refine gate_dst (N := 17) rfl ?_); refine wpl_call rfl _ rfl _ rfl 32 _ _ rfl _ Try.func32 (by kernel_rfl) (by kernel_rfl) #[.agg (frv g).toArray] (by simp [Act.eval, Act.put]) ?_; refine (toFrame_c g hg _).mono ?_; rintro _ _ ⟨rfl, hk⟩; refine ⟨(.agg (frv g).toArray), rfl, ?_⟩; replace st := st.call hk; clear hk)
          (simp only [Act.put, Act.eval, Array.getD_eq_getD_getElem?, List.getElem?_toArray, List.getElem?_cons_succ, List.getElem?_cons_zero, Option.getD_some, List.setIfInBounds_toArray, List.set_cons_succ, List.set_cons_zero, List.getElem_toArray, List.getElem_cons_succ, List.getElem_cons_zero])
          refine wpList_aftH (by first | exact st | exact st.drop | exact st.drop.drop) ?_
          refine anyH_ready (rs := [6]) (by kernel_rfl) (by simp) ?_
          refine AllH.one rfl rfl ?_ ?_
          · ((with_reducible refine gate_call rfl ?_); (with_reducible refine gate_dst (N := 20) rfl ?_); refine wpl_call rfl _ rfl _ rfl 31 _ _ rfl _ Try.func31 (by kernel_rfl) (by kernel_rfl) #[.agg (frv f).toArray, .agg (frv g).toArray, .int .i64 s, .int .i64 n] (by simp [Act.eval, Act.put]) ?_; refine (HS.out _).mono ?_; rintro _ _ ⟨rfl, hk⟩; refine ⟨_, rfl, ?_⟩; replace st := st.call hk; clear hk)
            (simp only [Act.put, Act.eval, Array.getD_eq_getD_getElem?, List.getElem?_toArray, List.getElem?_cons_succ, List.getElem?_cons_zero, Option.getD_some, List.setIfInBounds_toArray, List.set_cons_succ, List.set_cons_zero, List.getElem_toArray, List.getElem_cons_succ, List.getElem_cons_zero])
            refine wpList_aftH (by first | exact st | exact st.drop | exact st.drop.drop) ?_
            refine takeH (i := 7) rfl (by kernel_rfl) (by kernel_rfl) (by kernel_rfl) (fun _ _ _ h => h) rfl (fun w hw => rfl) (by first | exact st | exact st.drop | exact st.drop.drop) ?_
            (simp only [Act.put, Act.eval, Array.getD_eq_getD_getElem?, List.getElem?_toArray, List.getElem?_cons_succ, List.getElem?_cons_zero, Option.getD_some, List.setIfInBounds_toArray, List.set_cons_succ, List.set_cons_zero, List.getElem_toArray, List.getElem_cons_succ, List.getElem_cons_zero])
            refine takeH (i := 8) rfl (by kernel_rfl) (by kernel_rfl) (by kernel_rfl) (fun _ _ _ h => h) rfl (fun w hw => rfl) (by first | exact st | exact st.drop | exact st.drop.drop) ?_
            (simp only [Act.put, Act.eval, Array.getD_eq_getD_getElem?, List.getElem?_toArray, List.getElem?_cons_succ, List.getElem?_cons_zero, Option.getD_some, List.setIfInBounds_toArray, List.set_cons_succ, List.set_cons_zero, List.getElem_toArray, List.getElem_cons_succ, List.getElem_cons_zero])
            refine takeH (i := 9) rfl (by kernel_rfl) (by kernel_rfl) (by kernel_rfl) (fun _ _ _ h => h) rfl (fun w hw => rfl) (by first | exact st | exact st.drop | exact st.drop.drop) ?_
            (simp only [Act.put, Act.eval, Array.getD_eq_getD_getElem?, List.getElem?_toArray, List.getElem?_cons_succ, List.getElem?_cons_zero, Option.getD_some, List.setIfInBounds_toArray, List.set_cons_succ, List.set_cons_zero, List.getElem_toArray, List.getElem_cons_succ, List.getElem_cons_zero])
            refine anyH_ready (rs := [11]) (by kernel_rfl) (by simp) ?_
            refine AllH.one rfl rfl ?_ ?_
            · ((with_reducible refine gate_store rfl ?_); refine wpl_storeAll rfl _ _ _ rfl _ rfl _ rfl tFr.toAggT (by rw [frv_length, hR]) (frv_one _) st _ _ (by repeat (first | exact Upd.here | apply Upd.there)) (by simp [frv_length, zf_length, mk_length, withD_length, part_length, rowsOf_length, *]) ?_; clear st; intro _ st)
              (simp only [Act.put, Act.eval, Array.getD_eq_getD_getElem?, List.getElem?_toArray, List.getElem?_cons_succ, List.getElem?_cons_zero, Option.getD_some, List.setIfInBounds_toArray, List.set_cons_succ, List.set_cons_zero, List.getElem_toArray, List.getElem_cons_succ, List.getElem_cons_zero])
              refine wpList_aftH (by first | exact st | exact st.drop | exact st.drop.drop) ?_
              refine anyH_ready (rs := [12]) (by kernel_rfl) (by simp) ?_
              refine AllH.one rfl rfl ?_ ?_
              · ((first | (with_reducible refine gate_move rfl ?_) | (with_reducible refine gate_assign rfl ?_) | (with_reducible refine gate_extract rfl ?_)); refine wpl_val rfl _ rfl ?_)
                (simp only [Act.put, Act.eval, Array.getD_eq_getD_getElem?, List.getElem?_toArray, List.getElem?_cons_succ, List.getElem?_cons_zero, Option.getD_some, List.setIfInBounds_toArray, List.set_cons_succ, List.set_cons_zero, List.getElem_toArray, List.getElem_cons_succ, List.getElem_cons_zero])
                refine wpList_aftH (by first | exact st | exact st.drop | exact st.drop.drop) ?_
                refine wpAnyH_done (by kernel_rfl) ?_ _; exact ⟨BB, rfl, st⟩
              exact AllH.nil
            exact AllH.nil
          exact AllH.nil
        exact AllH.nil
      exact AllH.nil
    exact AllH.nil
  clear st; intro BB _ st
  go_wp2_with fail
  apply wp_region_meetH st 13 rfl (by kernel_rfl)
  case h =>
    intro _ st
    refine takeH (i := 0) rfl (by kernel_rfl) (by kernel_rfl) (by kernel_rfl) (fun _ _ _ h => h) rfl (fun w hw => (loadAll_run rfl _ rfl tRaw.toAggT (frv f) _ (hw.get (by repeat (first | exact At.here | apply At.there))) (by rw [frv_length, hf]))) (by first | exact st | exact st.drop | exact st.drop.drop) ?_
    (simp only [Act.put, Act.eval, Array.getD_eq_getD_getElem?, List.getElem?_toArray, List.getElem?_cons_succ, List.getElem?_cons_zero, Option.getD_some, List.setIfInBounds_toArray, List.set_cons_succ, List.set_cons_zero, List.getElem_toArray, List.getElem_cons_succ, List.getElem_cons_zero])
    refine takeH (i := 2) rfl (by kernel_rfl) (by kernel_rfl) (by kernel_rfl) (fun _ _ _ h => h) rfl (fun w hw => (loadAll_run rfl _ rfl tRaw.toAggT (frv g) _ (hw.get (by repeat (first | exact At.here | apply At.there))) (by rw [frv_length, hg]))) (by first | exact st | exact st.drop | exact st.drop.drop) ?_
    (simp only [Act.put, Act.eval, Array.getD_eq_getD_getElem?, List.getElem?_toArray, List.getElem?_cons_succ, List.getElem?_cons_zero, Option.getD_some, List.setIfInBounds_toArray, List.set_cons_succ, List.set_cons_zero, List.getElem_toArray, List.getElem_cons_succ, List.getElem_cons_zero])
    refine takeH (i := 4) rfl (by kernel_rfl) (by kernel_rfl) (by kernel_rfl) (fun _ _ _ h => h) rfl (fun w hw => rfl) (by first | exact st | exact st.drop | exact st.drop.drop) ?_
    (simp only [Act.put, Act.eval, Array.getD_eq_getD_getElem?, List.getElem?_toArray, List.getElem?_cons_succ, List.getElem?_cons_zero, Option.getD_some, List.setIfInBounds_toArray, List.set_cons_succ, List.set_cons_zero, List.getElem_toArray, List.getElem_cons_succ, List.getElem_cons_zero])
    refine takeH (i := 5) rfl (by kernel_rfl) (by kernel_rfl) (by kernel_rfl) (fun _ _ _ h => h) rfl (fun w hw => rfl) (by first | exact st | exact st.drop | exact st.drop.drop) ?_
    (simp only [Act.put, Act.eval, Array.getD_eq_getD_getElem?, List.getElem?_toArray, List.getElem?_cons_succ, List.getElem?_cons_zero, Option.getD_some, List.setIfInBounds_toArray, List.set_cons_succ, List.set_cons_zero, List.getElem_toArray, List.getElem_cons_succ, List.getElem_cons_zero])
    refine anyH_ready (rs := [1, 10]) (by kernel_rfl) (by simp) ?_
    refine AllH.one rfl rfl ?_ ?_
    · ((with_reducible refine gate_call rfl ?_); (with_reducible refine gate_dst (N := 25) rfl ?_); refine wpl_call rfl _ rfl _ rfl 32 _ _ rfl _ Try.func32 (by kernel_rfl) (by kernel_rfl) #[.agg (frv f).toArray] (by simp [Act.eval, Act.put]) ?_; refine (toFrame_c f hf _).mono ?_; rintro _ _ ⟨rfl, hk⟩; refine ⟨(.agg (frv f).toArray), rfl, ?_⟩; replace st := st.call hk; clear hk)
      (simp only [Act.put, Act.eval, Array.getD_eq_getD_getElem?, List.getElem?_toArray, List.getElem?_cons_succ, List.getElem?_cons_zero, Option.getD_some, List.setIfInBounds_toArray, List.set_cons_succ, List.set_cons_zero, List.getElem_toArray, List.getElem_cons_succ, List.getElem_cons_zero])
      refine wpList_aftH (by first | exact st | exact st.drop | exact st.drop.drop) ?_
      refine anyH_ready (rs := [3, 10]) (by kernel_rfl) (by simp) ?_
      refine AllH.one rfl rfl ?_ ?_
      · ((with_reducible refine gate_call rfl ?_); (with_reducible refine gate_dst (N := 27) rfl ?_); refine wpl_call rfl _ rfl _ rfl 32 _ _ rfl _ Try.func32 (by kernel_rfl) (by kernel_rfl) #[.agg (frv g).toArray] (by simp [Act.eval, Act.put]) ?_; refine (toFrame_c g hg _).mono ?_; rintro _ _ ⟨rfl, hk⟩; refine ⟨(.agg (frv g).toArray), rfl, ?_⟩; replace st := st.call hk; clear hk)
        (simp only [Act.put, Act.eval, Array.getD_eq_getD_getElem?, List.getElem?_toArray, List.getElem?_cons_succ, List.getElem?_cons_zero, Option.getD_some, List.setIfInBounds_toArray, List.set_cons_succ, List.set_cons_zero, List.getElem_toArray, List.getElem_cons_succ, List.getElem_cons_zero])
        refine wpList_aftH (by first | exact st | exact st.drop | exact st.drop.drop) ?_
        refine anyH_ready (rs := [6, 10]) (by kernel_rfl) (by simp) ?_
        refine AllH.one rfl rfl ?_ ?_
        · ((with_reducible refine gate_call rfl ?_); (with_reducible refine gate_dst (N := 30) rfl ?_); refine wpl_call rfl _ rfl _ rfl 33 _ _ rfl _ Try.func33 (by kernel_rfl) (by kernel_rfl) #[.agg (frv f).toArray, .agg (frv g).toArray, .int .i64 s, .int .i64 n] (by simp [Act.eval, Act.put]) ?_; refine (HI.out _).mono ?_; rintro _ _ ⟨rfl, hk⟩; refine ⟨_, rfl, ?_⟩; replace st := st.call hk; clear hk)
          (simp only [Act.put, Act.eval, Array.getD_eq_getD_getElem?, List.getElem?_toArray, List.getElem?_cons_succ, List.getElem?_cons_zero, Option.getD_some, List.setIfInBounds_toArray, List.set_cons_succ, List.set_cons_zero, List.getElem_toArray, List.getElem_cons_succ, List.getElem_cons_zero])
          refine wpList_aftH (by first | exact st | exact st.drop | exact st.drop.drop) ?_
          refine takeH (i := 7) rfl (by kernel_rfl) (by kernel_rfl) (by kernel_rfl) (fun _ _ _ h => h) rfl (fun w hw => rfl) (by first | exact st | exact st.drop | exact st.drop.drop) ?_
          (simp only [Act.put, Act.eval, Array.getD_eq_getD_getElem?, List.getElem?_toArray, List.getElem?_cons_succ, List.getElem?_cons_zero, Option.getD_some, List.setIfInBounds_toArray, List.set_cons_succ, List.set_cons_zero, List.getElem_toArray, List.getElem_cons_succ, List.getElem_cons_zero])
          refine takeH (i := 8) rfl (by kernel_rfl) (by kernel_rfl) (by kernel_rfl) (fun _ _ _ h => h) rfl (fun w hw => rfl) (by first | exact st | exact st.drop | exact st.drop.drop) ?_
          (simp only [Act.put, Act.eval, Array.getD_eq_getD_getElem?, List.getElem?_toArray, List.getElem?_cons_succ, List.getElem?_cons_zero, Option.getD_some, List.setIfInBounds_toArray, List.set_cons_succ, List.set_cons_zero, List.getElem_toArray, List.getElem_cons_succ, List.getElem_cons_zero])
          refine takeH (i := 9) rfl (by kernel_rfl) (by kernel_rfl) (by kernel_rfl) (fun _ _ _ h => h) rfl (fun w hw => rfl) (by first | exact st | exact st.drop | exact st.drop.drop) ?_
          (simp only [Act.put, Act.eval, Array.getD_eq_getD_getElem?, List.getElem?_toArray, List.getElem?_cons_succ, List.getElem?_cons_zero, Option.getD_some, List.setIfInBounds_toArray, List.set_cons_succ, List.set_cons_zero, List.getElem_toArray, List.getElem_cons_succ, List.getElem_cons_zero])
          refine anyH_ready (rs := [10]) (by kernel_rfl) (by simp) ?_
          refine AllH.one rfl rfl ?_ ?_
          · ((with_reducible refine gate_alloc rfl ?_); refine wpl_alloc rfl _ rfl tFr.toAggT st ?_; clear st; intro BB _ st)
            (simp only [Act.put, Act.eval, Array.getD_eq_getD_getElem?, List.getElem?_toArray, List.getElem?_cons_succ, List.getElem?_cons_zero, Option.getD_some, List.setIfInBounds_toArray, List.set_cons_succ, List.set_cons_zero, List.getElem_toArray, List.getElem_cons_succ, List.getElem_cons_zero])
            refine wpList_aftH (by first | exact st | exact st.drop | exact st.drop.drop) ?_
            refine anyH_ready (rs := [11]) (by kernel_rfl) (by simp) ?_
            refine AllH.one rfl rfl ?_ ?_
            · ((with_reducible refine gate_store rfl ?_); refine wpl_storeAll rfl _ _ _ rfl _ rfl _ rfl tFr.toAggT (by rw [frv_length, hR]) (frv_one _) st _ _ (by repeat (first | exact Upd.here | apply Upd.there)) (by simp [frv_length, zf_length, mk_length, withD_length, part_length, rowsOf_length, *]) ?_; clear st; intro _ st)
              (simp only [Act.put, Act.eval, Array.getD_eq_getD_getElem?, List.getElem?_toArray, List.getElem?_cons_succ, List.getElem?_cons_zero, Option.getD_some, List.setIfInBounds_toArray, List.set_cons_succ, List.set_cons_zero, List.getElem_toArray, List.getElem_cons_succ, List.getElem_cons_zero])
              refine wpList_aftH (by first | exact st | exact st.drop | exact st.drop.drop) ?_
              refine anyH_ready (rs := [12]) (by kernel_rfl) (by simp) ?_
              refine AllH.one rfl rfl ?_ ?_
              · ((first | (with_reducible refine gate_move rfl ?_) | (with_reducible refine gate_assign rfl ?_) | (with_reducible refine gate_extract rfl ?_)); refine wpl_val rfl _ rfl ?_)
                (simp only [Act.put, Act.eval, Array.getD_eq_getD_getElem?, List.getElem?_toArray, List.getElem?_cons_succ, List.getElem?_cons_zero, Option.getD_some, List.setIfInBounds_toArray, List.set_cons_succ, List.set_cons_zero, List.getElem_toArray, List.getElem_cons_succ, List.getElem_cons_zero])
                refine wpList_aftH (by first | exact st | exact st.drop | exact st.drop.drop) ?_
                refine wpAnyH_done (by kernel_rfl) ?_ _; exact ⟨BB, rfl, st⟩
              exact AllH.nil
            exact AllH.nil
          exact AllH.nil
        refine AllH.one rfl rfl ?_ ?_
        · ((with_reducible refine gate_alloc rfl ?_); refine wpl_alloc rfl _ rfl tFr.toAggT st ?_; clear st; intro BB _ st)
          (simp only [Act.put, Act.eval, Array.getD_eq_getD_getElem?, List.getElem?_toArray, List.getElem?_cons_succ, List.getElem?_cons_zero, Option.getD_some, List.setIfInBounds_toArray, List.set_cons_succ, List.set_cons_zero, List.getElem_toArray, List.getElem_cons_succ, List.getElem_cons_zero])
          refine wpList_aftH (by first | exact st | exact st.drop | exact st.drop.drop) ?_
          refine anyH_ready (rs := [6]) (by kernel_rfl) (by simp) ?_
          refine AllH.one rfl rfl ?_ ?_
          · ((with_reducible refine gate_call rfl ?_); (with_reducible refine gate_dst (N := 30) rfl ?_); refine wpl_call rfl _ rfl _ rfl 33 _ _ rfl _ Try.func33 (by kernel_rfl) (by kernel_rfl) #[.agg (frv f).toArray, .agg (frv g).toArray, .int .i64 s, .int .i64 n] (by simp [Act.eval, Act.put]) ?_; refine (HI.out _).mono ?_; rintro _ _ ⟨rfl, hk⟩; refine ⟨_, rfl, ?_⟩; replace st := st.call hk; clear hk)
            (simp only [Act.put, Act.eval, Array.getD_eq_getD_getElem?, List.getElem?_toArray, List.getElem?_cons_succ, List.getElem?_cons_zero, Option.getD_some, List.setIfInBounds_toArray, List.set_cons_succ, List.set_cons_zero, List.getElem_toArray, List.getElem_cons_succ, List.getElem_cons_zero])
            refine wpList_aftH (by first | exact st | exact st.drop | exact st.drop.drop) ?_
            refine takeH (i := 7) rfl (by kernel_rfl) (by kernel_rfl) (by kernel_rfl) (fun _ _ _ h => h) rfl (fun w hw => rfl) (by first | exact st | exact st.drop | exact st.drop.drop) ?_
            (simp only [Act.put, Act.eval, Array.getD_eq_getD_getElem?, List.getElem?_toArray, List.getElem?_cons_succ, List.getElem?_cons_zero, Option.getD_some, List.setIfInBounds_toArray, List.set_cons_succ, List.set_cons_zero, List.getElem_toArray, List.getElem_cons_succ, List.getElem_cons_zero])
            refine takeH (i := 8) rfl (by kernel_rfl) (by kernel_rfl) (by kernel_rfl) (fun _ _ _ h => h) rfl (fun w hw => rfl) (by first | exact st | exact st.drop | exact st.drop.drop) ?_
            (simp only [Act.put, Act.eval, Array.getD_eq_getD_getElem?, List.getElem?_toArray, List.getElem?_cons_succ, List.getElem?_cons_zero, Option.getD_some, List.setIfInBounds_toArray, List.set_cons_succ, List.set_cons_zero, List.getElem_toArray, List.getElem_cons_succ, List.getElem_cons_zero])
            refine takeH (i := 9) rfl (by kernel_rfl) (by kernel_rfl) (by kernel_rfl) (fun _ _ _ h => h) rfl (fun w hw => rfl) (by first | exact st | exact st.drop | exact st.drop.drop) ?_
            (simp only [Act.put, Act.eval, Array.getD_eq_getD_getElem?, List.getElem?_toArray, List.getElem?_cons_succ, List.getElem?_cons_zero, Option.getD_some, List.setIfInBounds_toArray, List.set_cons_succ, List.set_cons_zero, List.getElem_toArray, List.getElem_cons_succ, List.getElem_cons_zero])
            refine anyH_ready (rs := [11]) (by kernel_rfl) (by simp) ?_
            refine AllH.one rfl rfl ?_ ?_
            · ((with_reducible refine gate_store rfl ?_); refine wpl_storeAll rfl _ _ _ rfl _ rfl _ rfl tFr.toAggT (by rw [frv_length, hR]) (frv_one _) st _ _ (by repeat (first | exact Upd.here | apply Upd.there)) (by simp [frv_length, zf_length, mk_length, withD_length, part_length, rowsOf_length, *]) ?_; clear st; intro _ st)
              (simp only [Act.put, Act.eval, Array.getD_eq_getD_getElem?, List.getElem?_toArray, List.getElem?_cons_succ, List.getElem?_cons_zero, Option.getD_some, List.setIfInBounds_toArray, List.set_cons_succ, List.set_cons_zero, List.getElem_toArray, List.getElem_cons_succ, List.getElem_cons_zero])
              refine wpList_aftH (by first | exact st | exact st.drop | exact st.drop.drop) ?_
              refine anyH_ready (rs := [12]) (by kernel_rfl) (by simp) ?_
              refine AllH.one rfl rfl ?_ ?_
              · ((first | (with_reducible refine gate_move rfl ?_) | (with_reducible refine gate_assign rfl ?_) | (with_reducible refine gate_extract rfl ?_)); refine wpl_val rfl _ rfl ?_)
                (simp only [Act.put, Act.eval, Array.getD_eq_getD_getElem?, List.getElem?_toArray, List.getElem?_cons_succ, List.getElem?_cons_zero, Option.getD_some, List.setIfInBounds_toArray, List.set_cons_succ, List.set_cons_zero, List.getElem_toArray, List.getElem_cons_succ, List.getElem_cons_zero])
                refine wpList_aftH (by first | exact st | exact st.drop | exact st.drop.drop) ?_
                refine wpAnyH_done (by kernel_rfl) ?_ _; exact ⟨BB, rfl, st⟩
              exact AllH.nil
            exact AllH.nil
          exact AllH.nil
        exact AllH.nil
      refine AllH.one rfl rfl ?_ ?_
      · ((with_reducible refine gate_alloc rfl ?_); refine wpl_alloc rfl _ rfl tFr.toAggT st ?_; clear st; intro BB _ st)
        (simp only [Act.put, Act.eval, Array.getD_eq_getD_getElem?, List.getElem?_toArray, List.getElem?_cons_succ, List.getElem?_cons_zero, Option.getD_some, List.setIfInBounds_toArray, List.set_cons_succ, List.set_cons_zero, List.getElem_toArray, List.getElem_cons_succ, List.getElem_cons_zero])
        refine wpList_aftH (by first | exact st | exact st.drop | exact st.drop.drop) ?_
        refine anyH_ready (rs := [3]) (by kernel_rfl) (by simp) ?_
        refine AllH.one rfl rfl ?_ ?_
        · ((with_reducible refine gate_call rfl ?_); (with_reducible refine gate_dst (N := 27) rfl ?_); refine wpl_call rfl _ rfl _ rfl 32 _ _ rfl _ Try.func32 (by kernel_rfl) (by kernel_rfl) #[.agg (frv g).toArray] (by simp [Act.eval, Act.put]) ?_; refine (toFrame_c g hg _).mono ?_; rintro _ _ ⟨rfl, hk⟩; refine ⟨(.agg (frv g).toArray), rfl, ?_⟩; replace st := st.call hk; clear hk)
          (simp only [Act.put, Act.eval, Array.getD_eq_getD_getElem?, List.getElem?_toArray, List.getElem?_cons_succ, List.getElem?_cons_zero, Option.getD_some, List.setIfInBounds_toArray, List.set_cons_succ, List.set_cons_zero, List.getElem_toArray, List.getElem_cons_succ, List.getElem_cons_zero])
          refine wpList_aftH (by first | exact st | exact st.drop | exact st.drop.drop) ?_
          refine anyH_ready (rs := [6]) (by kernel_rfl) (by simp) ?_
          refine AllH.one rfl rfl ?_ ?_
          · ((with_reducible refine gate_call rfl ?_); (with_reducible refine gate_dst (N := 30) rfl ?_); refine wpl_call rfl _ rfl _ rfl 33 _ _ rfl _ Try.func33 (by kernel_rfl) (by kernel_rfl) #[.agg (frv f).toArray, .agg (frv g).toArray, .int .i64 s, .int .i64 n] (by simp [Act.eval, Act.put]) ?_; refine (HI.out _).mono ?_; rintro _ _ ⟨rfl, hk⟩; refine ⟨_, rfl, ?_⟩; replace st := st.call hk; clear hk)
            (simp only [Act.put, Act.eval, Array.getD_eq_getD_getElem?, List.getElem?_toArray, List.getElem?_cons_succ, List.getElem?_cons_zero, Option.getD_some, List.setIfInBounds_toArray, List.set_cons_succ, List.set_cons_zero, List.getElem_toArray, List.getElem_cons_succ, List.getElem_cons_zero])
            refine wpList_aftH (by first | exact st | exact st.drop | exact st.drop.drop) ?_
            refine takeH (i := 7) rfl (by kernel_rfl) (by kernel_rfl) (by kernel_rfl) (fun _ _ _ h => h) rfl (fun w hw => rfl) (by first | exact st | exact st.drop | exact st.drop.drop) ?_
            (simp only [Act.put, Act.eval, Array.getD_eq_getD_getElem?, List.getElem?_toArray, List.getElem?_cons_succ, List.getElem?_cons_zero, Option.getD_some, List.setIfInBounds_toArray, List.set_cons_succ, List.set_cons_zero, List.getElem_toArray, List.getElem_cons_succ, List.getElem_cons_zero])
            refine takeH (i := 8) rfl (by kernel_rfl) (by kernel_rfl) (by kernel_rfl) (fun _ _ _ h => h) rfl (fun w hw => rfl) (by first | exact st | exact st.drop | exact st.drop.drop) ?_
            (simp only [Act.put, Act.eval, Array.getD_eq_getD_getElem?, List.getElem?_toArray, List.getElem?_cons_succ, List.getElem?_cons_zero, Option.getD_some, List.setIfInBounds_toArray, List.set_cons_succ, List.set_cons_zero, List.getElem_toArray, List.getElem_cons_succ, List.getElem_cons_zero])
            refine takeH (i := 9) rfl (by kernel_rfl) (by kernel_rfl) (by kernel_rfl) (fun _ _ _ h => h) rfl (fun w hw => rfl) (by first | exact st | exact st.drop | exact st.drop.drop) ?_
            (simp only [Act.put, Act.eval, Array.getD_eq_getD_getElem?, List.getElem?_toArray, List.getElem?_cons_succ, List.getElem?_cons_zero, Option.getD_some, List.setIfInBounds_toArray, List.set_cons_succ, List.set_cons_zero, List.getElem_toArray, List.getElem_cons_succ, List.getElem_cons_zero])
            refine anyH_ready (rs := [11]) (by kernel_rfl) (by simp) ?_
            refine AllH.one rfl rfl ?_ ?_
            · ((with_reducible refine gate_store rfl ?_); refine wpl_storeAll rfl _ _ _ rfl _ rfl _ rfl tFr.toAggT (by rw [frv_length, hR]) (frv_one _) st _ _ (by repeat (first | exact Upd.here | apply Upd.there)) (by simp [frv_length, zf_length, mk_length, withD_length, part_length, rowsOf_length, *]) ?_; clear st; intro _ st)
              (simp only [Act.put, Act.eval, Array.getD_eq_getD_getElem?, List.getElem?_toArray, List.getElem?_cons_succ, List.getElem?_cons_zero, Option.getD_some, List.setIfInBounds_toArray, List.set_cons_succ, List.set_cons_zero, List.getElem_toArray, List.getElem_cons_succ, List.getElem_cons_zero])
              refine wpList_aftH (by first | exact st | exact st.drop | exact st.drop.drop) ?_
              refine anyH_ready (rs := [12]) (by kernel_rfl) (by simp) ?_
              refine AllH.one rfl rfl ?_ ?_
              · ((first | (with_reducible refine gate_move rfl ?_) | (with_reducible refine gate_assign rfl ?_) | (with_reducible refine gate_extract rfl ?_)); refine wpl_val rfl _ rfl ?_)
                (simp only [Act.put, Act.eval, Array.getD_eq_getD_getElem?, List.getElem?_toArray, List.getElem?_cons_succ, List.getElem?_cons_zero, Option.getD_some, List.setIfInBounds_toArray, List.set_cons_succ, List.set_cons_zero, List.getElem_toArray, List.getElem_cons_succ, List.getElem_cons_zero])
                refine wpList_aftH (by first | exact st | exact st.drop | exact st.drop.drop) ?_
                refine wpAnyH_done (by kernel_rfl) ?_ _; exact ⟨BB, rfl, st⟩
              exact AllH.nil
            exact AllH.nil
          exact AllH.nil
        exact AllH.nil
      exact AllH.nil
    refine AllH.one rfl rfl ?_ ?_
    · ((with_reducible refine gate_alloc rfl ?_); refine wpl_alloc rfl _ rfl tFr.toAggT st ?_; clear st; intro BB _ st)
      (simp only [Act.put, Act.eval, Array.getD_eq_getD_getElem?, List.getElem?_toArray, List.getElem?_cons_succ, List.getElem?_cons_zero, Option.getD_some, List.setIfInBounds_toArray, List.set_cons_succ, List.set_cons_zero, List.getElem_toArray, List.getElem_cons_succ, List.getElem_cons_zero])
      refine wpList_aftH (by first | exact st | exact st.drop | exact st.drop.drop) ?_
      refine anyH_ready (rs := [1]) (by kernel_rfl) (by simp) ?_
      refine AllH.one rfl rfl ?_ ?_
      · ((with_reducible refine gate_call rfl ?_); (with_reducible refine gate_dst (N := 25) rfl ?_); refine wpl_call rfl _ rfl _ rfl 32 _ _ rfl _ Try.func32 (by kernel_rfl) (by kernel_rfl) #[.agg (frv f).toArray] (by simp [Act.eval, Act.put]) ?_; refine (toFrame_c f hf _).mono ?_; rintro _ _ ⟨rfl, hk⟩; refine ⟨(.agg (frv f).toArray), rfl, ?_⟩; replace st := st.call hk; clear hk)
        (simp only [Act.put, Act.eval, Array.getD_eq_getD_getElem?, List.getElem?_toArray, List.getElem?_cons_succ, List.getElem?_cons_zero, Option.getD_some, List.setIfInBounds_toArray, List.set_cons_succ, List.set_cons_zero, List.getElem_toArray, List.getElem_cons_succ, List.getElem_cons_zero])
        refine wpList_aftH (by first | exact st | exact st.drop | exact st.drop.drop) ?_
        refine anyH_ready (rs := [3]) (by kernel_rfl) (by simp) ?_
        refine AllH.one rfl rfl ?_ ?_
        · ((with_reducible refine gate_call rfl ?_); (with_reducible refine gate_dst (N := 27) rfl ?_); refine wpl_call rfl _ rfl _ rfl 32 _ _ rfl _ Try.func32 (by kernel_rfl) (by kernel_rfl) #[.agg (frv g).toArray] (by simp [Act.eval, Act.put]) ?_; refine (toFrame_c g hg _).mono ?_; rintro _ _ ⟨rfl, hk⟩; refine ⟨(.agg (frv g).toArray), rfl, ?_⟩; replace st := st.call hk; clear hk)
          (simp only [Act.put, Act.eval, Array.getD_eq_getD_getElem?, List.getElem?_toArray, List.getElem?_cons_succ, List.getElem?_cons_zero, Option.getD_some, List.setIfInBounds_toArray, List.set_cons_succ, List.set_cons_zero, List.getElem_toArray, List.getElem_cons_succ, List.getElem_cons_zero])
          refine wpList_aftH (by first | exact st | exact st.drop | exact st.drop.drop) ?_
          refine anyH_ready (rs := [6]) (by kernel_rfl) (by simp) ?_
          refine AllH.one rfl rfl ?_ ?_
          · ((with_reducible refine gate_call rfl ?_); (with_reducible refine gate_dst (N := 30) rfl ?_); refine wpl_call rfl _ rfl _ rfl 33 _ _ rfl _ Try.func33 (by kernel_rfl) (by kernel_rfl) #[.agg (frv f).toArray, .agg (frv g).toArray, .int .i64 s, .int .i64 n] (by simp [Act.eval, Act.put]) ?_; refine (HI.out _).mono ?_; rintro _ _ ⟨rfl, hk⟩; refine ⟨_, rfl, ?_⟩; replace st := st.call hk; clear hk)
            (simp only [Act.put, Act.eval, Array.getD_eq_getD_getElem?, List.getElem?_toArray, List.getElem?_cons_succ, List.getElem?_cons_zero, Option.getD_some, List.setIfInBounds_toArray, List.set_cons_succ, List.set_cons_zero, List.getElem_toArray, List.getElem_cons_succ, List.getElem_cons_zero])
            refine wpList_aftH (by first | exact st | exact st.drop | exact st.drop.drop) ?_
            refine takeH (i := 7) rfl (by kernel_rfl) (by kernel_rfl) (by kernel_rfl) (fun _ _ _ h => h) rfl (fun w hw => rfl) (by first | exact st | exact st.drop | exact st.drop.drop) ?_
            (simp only [Act.put, Act.eval, Array.getD_eq_getD_getElem?, List.getElem?_toArray, List.getElem?_cons_succ, List.getElem?_cons_zero, Option.getD_some, List.setIfInBounds_toArray, List.set_cons_succ, List.set_cons_zero, List.getElem_toArray, List.getElem_cons_succ, List.getElem_cons_zero])
            refine takeH (i := 8) rfl (by kernel_rfl) (by kernel_rfl) (by kernel_rfl) (fun _ _ _ h => h) rfl (fun w hw => rfl) (by first | exact st | exact st.drop | exact st.drop.drop) ?_
            (simp only [Act.put, Act.eval, Array.getD_eq_getD_getElem?, List.getElem?_toArray, List.getElem?_cons_succ, List.getElem?_cons_zero, Option.getD_some, List.setIfInBounds_toArray, List.set_cons_succ, List.set_cons_zero, List.getElem_toArray, List.getElem_cons_succ, List.getElem_cons_zero])
            refine takeH (i := 9) rfl (by kernel_rfl) (by kernel_rfl) (by kernel_rfl) (fun _ _ _ h => h) rfl (fun w hw => rfl) (by first | exact st | exact st.drop | exact st.drop.drop) ?_
            (simp only [Act.put, Act.eval, Array.getD_eq_getD_getElem?, List.getElem?_toArray, List.getElem?_cons_succ, List.getElem?_cons_zero, Option.getD_some, List.setIfInBounds_toArray, List.set_cons_succ, List.set_cons_zero, List.getElem_toArray, List.getElem_cons_succ, List.getElem_cons_zero])
            refine anyH_ready (rs := [11]) (by kernel_rfl) (by simp) ?_
            refine AllH.one rfl rfl ?_ ?_
            · ((with_reducible refine gate_store rfl ?_); refine wpl_storeAll rfl _ _ _ rfl _ rfl _ rfl tFr.toAggT (by rw [frv_length, hR]) (frv_one _) st _ _ (by repeat (first | exact Upd.here | apply Upd.there)) (by simp [frv_length, zf_length, mk_length, withD_length, part_length, rowsOf_length, *]) ?_; clear st; intro _ st)
              (simp only [Act.put, Act.eval, Array.getD_eq_getD_getElem?, List.getElem?_toArray, List.getElem?_cons_succ, List.getElem?_cons_zero, Option.getD_some, List.setIfInBounds_toArray, List.set_cons_succ, List.set_cons_zero, List.getElem_toArray, List.getElem_cons_succ, List.getElem_cons_zero])
              refine wpList_aftH (by first | exact st | exact st.drop | exact st.drop.drop) ?_
              refine anyH_ready (rs := [12]) (by kernel_rfl) (by simp) ?_
              refine AllH.one rfl rfl ?_ ?_
              · ((first | (with_reducible refine gate_move rfl ?_) | (with_reducible refine gate_assign rfl ?_) | (with_reducible refine gate_extract rfl ?_)); refine wpl_val rfl _ rfl ?_)
                (simp only [Act.put, Act.eval, Array.getD_eq_getD_getElem?, List.getElem?_toArray, List.getElem?_cons_succ, List.getElem?_cons_zero, Option.getD_some, List.setIfInBounds_toArray, List.set_cons_succ, List.set_cons_zero, List.getElem_toArray, List.getElem_cons_succ, List.getElem_cons_zero])
                refine wpList_aftH (by first | exact st | exact st.drop | exact st.drop.drop) ?_
                refine wpAnyH_done (by kernel_rfl) ?_ _; exact ⟨BB, rfl, st⟩
              exact AllH.nil
            exact AllH.nil
          exact AllH.nil
        exact AllH.nil
      exact AllH.nil
    exact AllH.nil
  clear st; intro BB _ st
  go_wp2_with (first | ((with_reducible refine gate_load rfl ?_); refine wpl_loadAll rfl _ _ rfl _ rfl tFr.toAggT _ _ (st.get (by repeat (first | exact At.here | apply At.there))) (by rw [frv_length, hR]) ?_) | (go_at_call 34; refine (eqFrame_same _ hR _).mono ?_; rintro _ _ ⟨rfl, hk⟩; replace st := st.call hk; clear hk) | (refine wpl_unguard rfl ?_))
  go_ret
  exact ⟨rfl, st.keep⟩
end Go.Proofs.Ytmndbmapepenjaa
