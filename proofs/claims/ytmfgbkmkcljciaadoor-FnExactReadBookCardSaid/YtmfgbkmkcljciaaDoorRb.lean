/- ReadBook: the program's walk; no condition but the library's cell. -/
import Derived.Test.YtmfgbkmkcljciaaDoorRbP
import Derived.Test.YtmfgbkmkcljciaaDoorSpl
import Derived.Test.YtmfgbkmkcljciaaDoorLRd2
namespace Go.Proofs.YtmfgbkmkcljciaaDoor
open Go.RowKit
set_option linter.unusedSimpArgs false
set_option linter.unusedVariables false
/-- The library's cell that Split reads. -/
def GlobM (w : World) : Prop := ∃ m, w.cell? ⟨shR.g 1, 0, none⟩ = some (.int .i64 m)
theorem GlobM.keep {w w' : World} (h : GlobM w) (hk : Keep [] w w') : GlobM w' := h.imp fun _ h => cell_keep hk h
theorem trim_c (l : List UInt8) (n : Nat) (hn : l.length = n) (hn1 : n ≤ 1000000) (w : World) :
    Calls Tryd.prog 12 #[.string ⟨l.toArray⟩, .string ⟨#[10]⟩] w fun e w' => e = .returned (.string ⟨(Lib.trimSuffix l [10]).toArray⟩) ∧ Keep [] w w' := by
  have hsz : (⟨l.toArray⟩ : ByteArray).size = n := by rw [← hn]; rfl
  refine (Any.strings_TrimSuffix sh102 ⟨l.toArray⟩ ⟨#[10]⟩ w (by omega)).mono fun e w' ⟨h1, h2⟩ => ⟨?_, by rw [h2]; exact Keep.refl [] _⟩
  rw [h1]
theorem splitK_el (sep : List UInt8) : ∀ (k : Nat) (s : List UInt8), ∀ z ∈ Lib.splitK sep 0 k s, z.length ≤ s.length
  | 0, s => by intro z hz; rw [Lib.splitK, List.mem_singleton] at hz; subst hz; exact Nat.le_refl _
  | k + 1, s => by
    intro z hz
    rw [Lib.splitK] at hz
    split at hz
    · rw [List.mem_singleton] at hz; subst hz; exact Nat.le_refl _
    · rcases List.mem_cons.1 hz with rfl | hz
      · simp; omega
      · have := splitK_el sep k _ z hz
        rw [List.length_drop] at this
        omega
theorem blks_el (T : List UInt8) : ∀ z ∈ blks T, z.length ≤ T.length := fun z hz => Nat.le_trans (splitK_el _ _ _ z hz) (Lib.trimSuffix_le T [10])
theorem splitK_len (sep : List UInt8) : ∀ (k : Nat) (s : List UInt8), (Lib.splitK sep 0 k s).length ≤ k + 1
  | 0, s => by simp [Lib.splitK]
  | k + 1, s => by
    rw [Lib.splitK]
    split
    · simp
    · have := splitK_len sep k (s.drop ((Lib.index s sep).toNat + sep.length))
      simp only [List.length_cons]; omega
theorem blks_len (T : List UInt8) : (blks T).length ≤ T.length + 2 := by
  have h1 := splitK_len [10, 10] (Lib.count (Lib.trimSuffix T [10]) [10, 10]) (Lib.trimSuffix T [10])
  have h2 := Lib.count_le (Lib.trimSuffix T [10]) [10, 10]
  have h3 := Lib.trimSuffix_le T [10]
  unfold blks
  omega
def BlksPost (T : List UInt8) (w : World) (e : Ending) (w' : World) : Prop := ∃ v, e = .returned v ∧ Gives 9 1 (blks T).length (encs sv (blks T)) w v w' ∧ Keep [] w w'
theorem splitB_c (l : List UInt8) (n : Nat) (hn : l.length = n) (hn1 : n ≤ 1000000) (w : World) (hg : GlobM w) :
    Calls Tryd.prog 11 #[.string ⟨(Lib.trimSuffix l [10]).toArray⟩, .string ⟨#[10, 10]⟩] w (BlksPost l w) := by
  obtain ⟨t, ht⟩ : ∃ t, Lib.trimSuffix l [10] = t := ⟨_, rfl⟩
  have hb : blks l = Lib.splitK [10, 10] 0 (Lib.count t [10, 10]) t := by unfold blks; rw [ht]
  have htl : t.length ≤ 1000000 := by have := Lib.trimSuffix_le l [10]; rw [ht] at this; omega
  unfold BlksPost
  rw [hb, ht]
  have hsz : (⟨t.toArray⟩ : ByteArray).size = t.length := rfl
  obtain ⟨m, hm⟩ := hg
  refine (Any.strings_Split sh146 (by kernel_rfl) ⟨t.toArray⟩ ⟨#[10, 10]⟩ m w (by omega) hm (by decide)).mono fun e w' ⟨h1, h2⟩ => ?_
  have e1 : (⟨t.toArray⟩ : ByteArray).data.toList = t := by simp
  have e2 : (⟨#[10, 10]⟩ : ByteArray).data.toList = [10, 10] := rfl
  have hd := Lib.splitB_data ⟨#[10, 10]⟩ 0 (Lib.countB ⟨t.toArray⟩ ⟨#[10, 10]⟩) ⟨t.toArray⟩
  rw [show Lib.countB ⟨t.toArray⟩ ⟨#[10, 10]⟩ = Lib.count t [10, 10] by unfold Lib.countB; rw [e1, e2]] at hd h1 h2
  rw [e1, e2] at hd
  have hlen : (Lib.splitK [10, 10] 0 (Lib.count t [10, 10]) t).length = Lib.count t [10, 10] + 1 := by
    rw [← hd, List.length_map, Lib.splitB_all ⟨#[10, 10]⟩ (by decide) 0 (Lib.count t [10, 10]) ⟨t.toArray⟩ (by unfold Lib.countB; rw [e1, e2])]
  have hc : (Lib.splitB ⟨#[10, 10]⟩ 0 (Lib.count t [10, 10]) ⟨t.toArray⟩).map Value.string = encs sv (Lib.splitK [10, 10] 0 (Lib.count t [10, 10]) t) := by
    rw [← hd]
    generalize Lib.splitB ⟨#[10, 10]⟩ 0 (Lib.count t [10, 10]) ⟨t.toArray⟩ = Z
    induction Z with
    | nil => rfl
    | cons z Z ih =>
      rw [List.map_cons, List.map_cons, ih]
      simp [encs, sv]
  have hw := Lib.count_le t [10, 10]
  refine ⟨_, h1, ⟨w.heap.size, Lib.count t [10, 10] + 1, [], by rw [hlen], Nat.le_refl _, ?_, ?_, ?_⟩, ?_⟩
  · rw [h2, hc, List.append_nil]
    exact Blk.alloc w _ _
  · rw [List.append_nil, encs_sv_length, hlen]
    omega
  · unfold maxLen; omega
  · rw [h2]
    exact Keep.alloc w _
def rbC (T : List UInt8) : Int := if rbO T = true then 0 else 5
theorem rb_err {T : List UInt8} {w w' : World} {Q : Prop} (h : rbO T = false) {v : Value} (hv : SlOut 33 12 0 [] Q w v w') (hk : Keep [] w w') : BookCode (rbL T) (rbL T).length (rbC T) Q w (.returned (.tuple #[v, .int .i64 5])) w' := by
  have h1 : rbL T = [] := by
    unfold rbL
    unfold rbO at h
    rw [Bool.or_eq_false_iff] at h
    rw [if_neg (of_decide_eq_false h.1), h.2]
    rfl
  unfold rbC
  rw [h, h1, if_neg (by decide)]
  exact ⟨_, rfl, hv, hk⟩
theorem rb_nil {T : List UInt8} {w w' : World} (h : rbO T = false) (hk : Keep [] w w') : BookCode (rbL T) (rbL T).length (rbC T) True w (.returned (.tuple #[.slice none 0 0, .int .i64 5])) w' :=
  rb_err h (Or.inl ⟨trivial, rfl, rfl⟩) hk
theorem rb_ok {T : List UInt8} {R : List Fm} {m : Nat} {w w' : World} {v : Value} {Q : Prop} (h : rbO T = true) (hR : rbL T = R) (hm : R.length = m) (hv : Gives 33 12 m (encs fv R) w v w') (hk : Keep [] w w') : BookCode (rbL T) (rbL T).length (rbC T) Q w (.returned (.tuple #[v, .int .i64 0])) w' := by
  unfold rbC
  rw [h, hR, hm, if_pos rfl]
  exact ⟨_, rfl, Or.inr hv, hk⟩
theorem rb_pb {T : List UInt8} (h0 : T ≠ []) : rbO T = pbO T ∧ (pbO T = true → rbL T = pbL T) := by
  obtain ⟨h1, h2⟩ := rb_same h0
  unfold rbO rbL
  rw [decide_eq_false h0, Bool.false_or, if_neg h0]
  exact ⟨h1, fun h => by rw [if_pos (h1.trans h)]; exact h2 h⟩
theorem rb_sb {T : List UInt8} (h0 : T ≠ []) : rbO T = sbO (wds 10 T) ∧ (sbO (wds 10 T) = true → rbL T = sbL (wds 10 T)) := by
  unfold rbO rbL
  rw [decide_eq_false h0, Bool.false_or, if_neg h0]
  exact ⟨rfl, fun h => if_pos h⟩
set_option maxHeartbeats 1000000 in
set_option maxRecDepth 100000 in
theorem ReadBook0_c (w : World) : Calls Tryd.prog 5 #[.string ⟨#[]⟩] w (BookCode (rbL []) (rbL []).length (rbC []) True w) := by
  have st := St.start w
  have HE : Hid (decide (([] : List UInt8) = []) = true) := hid (by decide)
  go_enter Tryd.func5, Tryd.ntmps5
  go_wp2_with (first | ((with_reducible refine gate_bsl rfl ?_); refine ia_bsl0 (sl := 9) st rfl rfl rfl ?_; clear st; intro B9 _ st) | ((with_reducible refine gate_sq rfl ?_); refine la_seq (l := []) (m := []) HE.out rfl rfl rfl rfl ?_) | ((with_reducible refine gate_lst ?_); (first | ((with_reducible refine gate_alloc rfl ?_); (first | (refine ia_alloc (sl := 7) st rfl rfl rfl ?_; clear st; intro B7 _ st))) | ((with_reducible refine gate_load rfl ?_); (first | (refine' ia_load1 st rfl rfl rfl ?_ ?_; rotate_left 1; (focus (first | exact N0.out | exact N1.out | exact N2.out | exact N3.out | exact N4.out | exact N5.out | exact G2.out | exact G3.out | exact G4.out | exact G0.out | exact G1.out | (refine frv_get _ _ ?_; (first | omega | (simp; done) | (simp; omega) | (simp [*]; omega))) | exact rfl))) | (refine' ia_load1Z (hb.keep st.keep (by simp)) rfl rfl rfl ?_ ?_; rotate_left 1; (focus exact rfl)) | (refine' ia_load1Z (hb'.keep st.keep (by simp)) rfl rfl rfl ?_ ?_; rotate_left 1; (focus exact rfl)) | (refine' ia_load1C (hb.keep st.keep (by simp)) rfl rfl rfl ?_ ?_; rotate_left 1; (focus (first | exact N0.out | exact N1.out | exact N2.out | exact N3.out | exact N4.out | exact N5.out | exact G2.out | exact G3.out | exact G4.out | exact G0.out | exact G1.out | (refine frv_get _ _ ?_; (first | omega | (simp; done) | (simp; omega) | (simp [*]; omega))) | exact rfl))) | (refine' ia_load1C (hb'.keep st.keep (by simp)) rfl rfl rfl ?_ ?_; rotate_left 1; (focus (first | exact N0.out | exact N1.out | exact N2.out | exact N3.out | exact N4.out | exact N5.out | exact G2.out | exact G3.out | exact G4.out | exact G0.out | exact G1.out | (refine frv_get _ _ ?_; (first | omega | (simp; done) | (simp; omega) | (simp [*]; omega))) | exact rfl))) | (refine' ia_load1B (hb1.keep st.keep (by simp)) rfl rfl rfl ?_ ?_; rotate_left 1; (focus (first | exact N0.out | exact N1.out | exact N2.out | exact N3.out | exact N4.out | exact N5.out | exact G2.out | exact G3.out | exact G4.out | exact G0.out | exact G1.out | (refine frv_get _ _ ?_; (first | omega | (simp; done) | (simp; omega) | (simp [*]; omega))) | exact rfl))) | (refine' ia_load1B (hb2.keep st.keep (by simp)) rfl rfl rfl ?_ ?_; rotate_left 1; (focus (first | exact N0.out | exact N1.out | exact N2.out | exact N3.out | exact N4.out | exact N5.out | exact G2.out | exact G3.out | exact G4.out | exact G0.out | exact G1.out | (refine frv_get _ _ ?_; (first | omega | (simp; done) | (simp; omega) | (simp [*]; omega))) | exact rfl))) | (refine ia_loadAll st rfl rfl rfl ?_ ?_; (focus (first | rfl | (simp; done) | (simp; assumption) | (simp; omega) | (simp [*]; done)))) | (refine ia_loadC (hb.keep st.keep (by simp)) rfl rfl rfl ?_ ?_; (focus (first | rfl | (simp; done) | (simp; assumption) | (simp; omega) | (simp [*]; done)))) | (refine ia_loadC (hb'.keep st.keep (by simp)) rfl rfl rfl ?_ ?_; (focus (first | rfl | (simp; done) | (simp; assumption) | (simp; omega) | (simp [*]; done)))) | (refine ia_loadC (Cl.of (hb1.keep st.keep (by simp))) rfl rfl rfl ?_ ?_; (focus (first | rfl | (simp; done) | (simp; assumption) | (simp; omega) | (simp [*]; done)))) | (refine ia_loadC (Cl.of (hb2.keep st.keep (by simp))) rfl rfl rfl ?_ ?_; (focus (first | rfl | (simp; done) | (simp; assumption) | (simp; omega) | (simp [*]; done)))))) | ((with_reducible refine gate_store rfl ?_); (first | (refine ia_storeAll st rfl rfl rfl rfl ?_ ?_ ?_ ?_; (focus (first | rfl | (simp; done) | (simp; assumption) | (simp; omega) | (simp [*]; done))); (focus (first | exact frv_one _ | exact fv_one _ | exact p8_one _ | exact k3_one _ | exact i1_one _ | (simp [Value.oneCell']; done))); (focus (first | rfl | (simp; done) | (simp; assumption) | (simp; omega) | (simp [*]; done))); clear st; intro _ st; (try simp only [List.set_cons_zero, List.set_cons_succ] at st)) | (refine ia_storeSeg st rfl rfl rfl rfl ?_ ?_ ?_ ?_; (focus (first | rfl | (simp; done) | (simp; assumption) | (simp; omega) | (simp [*]; done))); (focus (first | exact frv_one _ | exact fv_one _ | exact p8_one _ | exact k3_one _ | exact i1_one _ | (simp [Value.oneCell']; done))); (focus (first | omega | (simp; done) | (simp; omega) | (simp [*]; omega))); clear st; intro _ st; (try simp only [List.set_cons_zero, List.set_cons_succ] at st)))) | ((with_reducible refine gate_addr rfl ?_); (first | (refine' ia_slcP HP.out rfl rfl rfl rfl ?_ ?_ ?_) | (refine' ia_slcP HP2.out rfl rfl rfl rfl ?_ ?_ ?_)); rotate_left 1; (focus (first | exact (rfl : (0 : Int) = ((0 : Nat) : Int)) | exact (rfl : (1 : Int) = ((1 : Nat) : Int)) | exact rfl | exact HE1.out | exact HE2.out)); (focus (first | omega | (simp; done) | (simp; omega) | (simp [*]; omega)))))))
  go_ret2
  exact rb_ok (R := []) (m := 0) rfl rfl rfl ⟨B9, 0, [], rfl, out_of st .here, st.get .here, rfl, Nat.zero_le _⟩ st.keep
set_option maxHeartbeats 4000000 in
set_option maxRecDepth 100000 in
theorem ReadBook1_c (l : List UInt8) (n : Nat) (hn : l.length = n) (hn1 : n ≤ 1000000) (h0 : l ≠ []) (w : World) (hg : GlobM w) :
    Calls Tryd.prog 5 #[.string ⟨l.toArray⟩] w (BookCode (rbL l) (rbL l).length (rbC l) True w) := by
  have st := St.start w
  have HE : Hid (decide (l = ([] : List UInt8)) = false) := hid (by simpa using h0)
  have HTR := hid (trim_c l n hn hn1)
  have HSP := hid (fun w' (hk : Keep [] w w') => splitB_c l n hn hn1 w' (hg.keep hk))
  obtain ⟨hrb, hrl⟩ := rb_pb h0
  have hel := blks_el l
  have hwl := blks_len l
  have hpo : pbO l = ((blks l).all ipO && decide (bkT ((blks l).map ipF) = l)) := rfl
  have hpl : pbL l = (blks l).map ipF := rfl
  obtain ⟨t, ht⟩ : ∃ t, Lib.trimSuffix l [10] = t := ⟨_, rfl⟩
  unfold BlksPost at HSP
  rw [ht] at HTR HSP
  obtain ⟨W, hW⟩ : ∃ W, blks l = W := ⟨_, rfl⟩
  rw [hW] at HSP hel hwl hpo hpl
  obtain ⟨m, hm⟩ : ∃ m, W.length = m := ⟨_, rfl⟩
  rw [hm] at HSP hwl
  have HM := hid hm
  have hm2 : m ≤ 1000002 := by omega
  have HEL := hid (fun (k : Nat) (hk : k < W.length) => (Nat.le_trans (hel _ (List.getElem_mem hk)) (by omega) : W[k].length ≤ 1000000))
  have HNO : Hid (∀ x ∈ W, ipO x = false → rbO l = false) := hid (fun x hx h => by
    rw [hrb, hpo, Bool.and_eq_false_iff]
    left
    rw [List.all_eq_false]
    exact ⟨x, hx, by rw [h]; decide⟩)
  have HFIN : Hid (W.all ipO = true → rbO l = decide (bkT (W.map ipF) = l) ∧ (bkT (W.map ipF) = l → rbL l = W.map ipF)) := hid (fun h => by
    rw [h, Bool.true_and] at hpo
    refine ⟨hrb.trans hpo, fun e => ?_⟩
    rw [← hpl]
    exact hrl (by rw [hpo]; simpa using e))
  clear hel hwl hW hm hrb hrl hpo hpl ht h0 hn
  go_enter Tryd.func5, Tryd.ntmps5
  go_wp2_with (first | ((with_reducible refine gate_bsl rfl ?_); refine ia_bsl0 (sl := 9) st rfl rfl rfl ?_; clear st; intro B9 _ st) | ((with_reducible refine gate_sq rfl ?_); refine la_seq (l := l) (m := []) HE.out rfl rfl rfl rfl ?_) | (go_at_call 12; refine (HTR.out _).mono ?_; rintro _ _ ⟨rfl, hk⟩; replace st := st.call hk; clear hk) | (go_at_call 11; refine (HSP.out _ st.keep).mono ?_; rintro _ _ ⟨v, rfl, ⟨g, cap0, spare0, rfl, hg, hbg, hcap0, hcm0⟩, hk⟩; replace st := st.adopt hk hg hbg; clear hk hg hbg) | ((with_reducible refine gate_lst ?_); (first | ((with_reducible refine gate_alloc rfl ?_); (first | (refine ia_alloc (sl := 7) st rfl rfl rfl ?_; clear st; intro B7 _ st))) | ((with_reducible refine gate_load rfl ?_); (first | (refine' ia_load1 st rfl rfl rfl ?_ ?_; rotate_left 1; (focus (first | exact N0.out | exact N1.out | exact N2.out | exact N3.out | exact N4.out | exact N5.out | exact G2.out | exact G3.out | exact G4.out | exact G0.out | exact G1.out | (refine frv_get _ _ ?_; (first | omega | (simp; done) | (simp; omega) | (simp [*]; omega))) | exact rfl))) | (refine' ia_load1Z (hb.keep st.keep (by simp)) rfl rfl rfl ?_ ?_; rotate_left 1; (focus exact rfl)) | (refine' ia_load1Z (hb'.keep st.keep (by simp)) rfl rfl rfl ?_ ?_; rotate_left 1; (focus exact rfl)) | (refine' ia_load1C (hb.keep st.keep (by simp)) rfl rfl rfl ?_ ?_; rotate_left 1; (focus (first | exact N0.out | exact N1.out | exact N2.out | exact N3.out | exact N4.out | exact N5.out | exact G2.out | exact G3.out | exact G4.out | exact G0.out | exact G1.out | (refine frv_get _ _ ?_; (first | omega | (simp; done) | (simp; omega) | (simp [*]; omega))) | exact rfl))) | (refine' ia_load1C (hb'.keep st.keep (by simp)) rfl rfl rfl ?_ ?_; rotate_left 1; (focus (first | exact N0.out | exact N1.out | exact N2.out | exact N3.out | exact N4.out | exact N5.out | exact G2.out | exact G3.out | exact G4.out | exact G0.out | exact G1.out | (refine frv_get _ _ ?_; (first | omega | (simp; done) | (simp; omega) | (simp [*]; omega))) | exact rfl))) | (refine' ia_load1B (hb1.keep st.keep (by simp)) rfl rfl rfl ?_ ?_; rotate_left 1; (focus (first | exact N0.out | exact N1.out | exact N2.out | exact N3.out | exact N4.out | exact N5.out | exact G2.out | exact G3.out | exact G4.out | exact G0.out | exact G1.out | (refine frv_get _ _ ?_; (first | omega | (simp; done) | (simp; omega) | (simp [*]; omega))) | exact rfl))) | (refine' ia_load1B (hb2.keep st.keep (by simp)) rfl rfl rfl ?_ ?_; rotate_left 1; (focus (first | exact N0.out | exact N1.out | exact N2.out | exact N3.out | exact N4.out | exact N5.out | exact G2.out | exact G3.out | exact G4.out | exact G0.out | exact G1.out | (refine frv_get _ _ ?_; (first | omega | (simp; done) | (simp; omega) | (simp [*]; omega))) | exact rfl))) | (refine ia_loadAll st rfl rfl rfl ?_ ?_; (focus (first | rfl | (simp; done) | (simp; assumption) | (simp; omega) | (simp [*]; done)))) | (refine ia_loadC (hb.keep st.keep (by simp)) rfl rfl rfl ?_ ?_; (focus (first | rfl | (simp; done) | (simp; assumption) | (simp; omega) | (simp [*]; done)))) | (refine ia_loadC (hb'.keep st.keep (by simp)) rfl rfl rfl ?_ ?_; (focus (first | rfl | (simp; done) | (simp; assumption) | (simp; omega) | (simp [*]; done)))) | (refine ia_loadC (Cl.of (hb1.keep st.keep (by simp))) rfl rfl rfl ?_ ?_; (focus (first | rfl | (simp; done) | (simp; assumption) | (simp; omega) | (simp [*]; done)))) | (refine ia_loadC (Cl.of (hb2.keep st.keep (by simp))) rfl rfl rfl ?_ ?_; (focus (first | rfl | (simp; done) | (simp; assumption) | (simp; omega) | (simp [*]; done)))))) | ((with_reducible refine gate_store rfl ?_); (first | (refine ia_storeAll st rfl rfl rfl rfl ?_ ?_ ?_ ?_; (focus (first | rfl | (simp; done) | (simp; assumption) | (simp; omega) | (simp [*]; done))); (focus (first | exact frv_one _ | exact fv_one _ | exact p8_one _ | exact k3_one _ | exact i1_one _ | (simp [Value.oneCell']; done))); (focus (first | rfl | (simp; done) | (simp; assumption) | (simp; omega) | (simp [*]; done))); clear st; intro _ st; (try simp only [List.set_cons_zero, List.set_cons_succ] at st)) | (refine ia_storeSeg st rfl rfl rfl rfl ?_ ?_ ?_ ?_; (focus (first | rfl | (simp; done) | (simp; assumption) | (simp; omega) | (simp [*]; done))); (focus (first | exact frv_one _ | exact fv_one _ | exact p8_one _ | exact k3_one _ | exact i1_one _ | (simp [Value.oneCell']; done))); (focus (first | omega | (simp; done) | (simp; omega) | (simp [*]; omega))); clear st; intro _ st; (try simp only [List.set_cons_zero, List.set_cons_succ] at st)))) | ((with_reducible refine gate_addr rfl ?_); (first | (refine' ia_slcP HP.out rfl rfl rfl rfl ?_ ?_ ?_) | (refine' ia_slcP HP2.out rfl rfl rfl rfl ?_ ?_ ?_)); rotate_left 1; (focus (first | exact (rfl : (0 : Int) = ((0 : Nat) : Int)) | exact (rfl : (1 : Int) = ((1 : Nat) : Int)) | exact rfl | exact HE1.out | exact HE2.out)); (focus (first | omega | (simp; done) | (simp; omega) | (simp [*]; omega)))))))
  go_loopw [4, 17] (fun v i wr => ∃ k : Nat, k ≤ m ∧ i = .int .i64 k ∧ allTo ipO W k ∧ Own 33 12 k (encs fv ((W.take k).map ipF)) [] w wr [(g, encs sv W ++ spare0, 9)] v) (fun _ i _ => m - (intOf i).toNat)
  case atStart => exact ⟨0, by omega, rfl, fun j h hj => absurd hj (by omega), B9, 0, [], rfl, (by simpa [encs] using st.swap), rfl, Nat.zero_le _⟩
  case round =>
    clear st
    obtain ⟨k, hk, rfl, hall, gO, cap, spare, rfl, st, hcap, hcm⟩ := hrel
    have HC := hid hcap
    have HALL := hid hall
    clear hcap hall
    by_cases hlt : k < m
    · have hd : decide ((k : Int) < (m : Int)) = true := by simpa using hlt
      have hkW : k < W.length := by rw [HM.out]; exact hlt
      have hxl := HEL.out k hkW
      have HSTEP := hid (HALL.out.step hkW)
      have HMS := hid (mapG_step (e := fv) (f := ipF) hkW)
      have HML := hid (mapG_len fv_len (f := ipF) (W := W) (k := k) (by omega))
      have hmem : W[k] ∈ W := List.getElem_mem hkW
      obtain ⟨x, hx⟩ : ∃ x, W[k] = x := ⟨_, rfl⟩
      have HGET := hid (words_get (sp := spare0) hkW hx)
      rw [hx] at hxl HSTEP HMS hmem
      have HERR := hid (HNO.out x hmem)
      have HRF := hid (ReadFrame_c (x ++ [10]) (by rw [List.length_append]; simp; omega))
      have hio : riB (x ++ [10]) = ipO x := rfl
      have hif : ipO x = true → riF (x ++ [10]) = (ipF x).1 := fun h => by unfold riF; rw [hio, if_pos h]; rfl
      rw [hio] at HRF
      have hfl : (riF (x ++ [10])).length = 12 := by
        unfold riF
        split
        · exact mk_length _
        · rfl
      clear hx hkW hmem
      cases u : ipO x with
      | false =>
        rw [u] at HRF HERR
        have hE := hid (HERR.out rfl)
        obtain ⟨F, hF⟩ : ∃ F, riF (x ++ [10]) = F := ⟨_, rfl⟩
        rw [hF] at HRF hfl
        rw [if_neg (by decide)] at HRF
        clear hio hif hF u
        go_wp2_with (first | ((with_reducible refine gate_dst (N := 20) rfl ?_); ((with_reducible refine gate_load rfl ?_); refine wpl_load1 rfl _ _ rfl _ rfl OneC.out (.string ⟨x.toArray⟩) ((st.get (by repeat (first | exact At.here | apply At.there))).cellv HGET.out) ?_)) | ((with_reducible refine gate_add rfl ?_); (with_reducible refine gate_dst (N := 23) rfl ?_); refine la_sadd (l := x) (m := [10]) rfl rfl rfl rfl (by simp; omega) ?_) | (go_at_call 13; refine (HRF.out _).mono ?_; rintro _ _ ⟨rfl, hk⟩; replace st := st.call hk; clear hk) | ((with_reducible refine gate_lst ?_); (first | ((with_reducible refine gate_alloc rfl ?_); (first | (refine ia_alloc (sl := 7) st rfl rfl rfl ?_; clear st; intro B7 _ st))) | ((with_reducible refine gate_load rfl ?_); (first | (refine' ia_load1 st rfl rfl rfl ?_ ?_; rotate_left 1; (focus (first | exact N0.out | exact N1.out | exact N2.out | exact N3.out | exact N4.out | exact N5.out | exact G2.out | exact G3.out | exact G4.out | exact G0.out | exact G1.out | (refine frv_get _ _ ?_; (first | omega | (simp; done) | (simp; omega) | (simp [*]; omega))) | exact rfl))) | (refine' ia_load1Z (hb.keep st.keep (by simp)) rfl rfl rfl ?_ ?_; rotate_left 1; (focus exact rfl)) | (refine' ia_load1Z (hb'.keep st.keep (by simp)) rfl rfl rfl ?_ ?_; rotate_left 1; (focus exact rfl)) | (refine' ia_load1C (hb.keep st.keep (by simp)) rfl rfl rfl ?_ ?_; rotate_left 1; (focus (first | exact N0.out | exact N1.out | exact N2.out | exact N3.out | exact N4.out | exact N5.out | exact G2.out | exact G3.out | exact G4.out | exact G0.out | exact G1.out | (refine frv_get _ _ ?_; (first | omega | (simp; done) | (simp; omega) | (simp [*]; omega))) | exact rfl))) | (refine' ia_load1C (hb'.keep st.keep (by simp)) rfl rfl rfl ?_ ?_; rotate_left 1; (focus (first | exact N0.out | exact N1.out | exact N2.out | exact N3.out | exact N4.out | exact N5.out | exact G2.out | exact G3.out | exact G4.out | exact G0.out | exact G1.out | (refine frv_get _ _ ?_; (first | omega | (simp; done) | (simp; omega) | (simp [*]; omega))) | exact rfl))) | (refine' ia_load1B (hb1.keep st.keep (by simp)) rfl rfl rfl ?_ ?_; rotate_left 1; (focus (first | exact N0.out | exact N1.out | exact N2.out | exact N3.out | exact N4.out | exact N5.out | exact G2.out | exact G3.out | exact G4.out | exact G0.out | exact G1.out | (refine frv_get _ _ ?_; (first | omega | (simp; done) | (simp; omega) | (simp [*]; omega))) | exact rfl))) | (refine' ia_load1B (hb2.keep st.keep (by simp)) rfl rfl rfl ?_ ?_; rotate_left 1; (focus (first | exact N0.out | exact N1.out | exact N2.out | exact N3.out | exact N4.out | exact N5.out | exact G2.out | exact G3.out | exact G4.out | exact G0.out | exact G1.out | (refine frv_get _ _ ?_; (first | omega | (simp; done) | (simp; omega) | (simp [*]; omega))) | exact rfl))) | (refine ia_loadAll st rfl rfl rfl ?_ ?_; (focus (first | rfl | (simp; done) | (simp; assumption) | (simp; omega) | (simp [*]; done)))) | (refine ia_loadC (hb.keep st.keep (by simp)) rfl rfl rfl ?_ ?_; (focus (first | rfl | (simp; done) | (simp; assumption) | (simp; omega) | (simp [*]; done)))) | (refine ia_loadC (hb'.keep st.keep (by simp)) rfl rfl rfl ?_ ?_; (focus (first | rfl | (simp; done) | (simp; assumption) | (simp; omega) | (simp [*]; done)))) | (refine ia_loadC (Cl.of (hb1.keep st.keep (by simp))) rfl rfl rfl ?_ ?_; (focus (first | rfl | (simp; done) | (simp; assumption) | (simp; omega) | (simp [*]; done)))) | (refine ia_loadC (Cl.of (hb2.keep st.keep (by simp))) rfl rfl rfl ?_ ?_; (focus (first | rfl | (simp; done) | (simp; assumption) | (simp; omega) | (simp [*]; done)))))) | ((with_reducible refine gate_store rfl ?_); (first | (refine ia_storeAll st rfl rfl rfl rfl ?_ ?_ ?_ ?_; (focus (first | rfl | (simp; done) | (simp; assumption) | (simp; omega) | (simp [*]; done))); (focus (first | exact frv_one _ | exact fv_one _ | exact p8_one _ | exact k3_one _ | exact i1_one _ | (simp [Value.oneCell']; done))); (focus (first | rfl | (simp; done) | (simp; assumption) | (simp; omega) | (simp [*]; done))); clear st; intro _ st; (try simp only [List.set_cons_zero, List.set_cons_succ] at st)) | (refine ia_storeSeg st rfl rfl rfl rfl ?_ ?_ ?_ ?_; (focus (first | rfl | (simp; done) | (simp; assumption) | (simp; omega) | (simp [*]; done))); (focus (first | exact frv_one _ | exact fv_one _ | exact p8_one _ | exact k3_one _ | exact i1_one _ | (simp [Value.oneCell']; done))); (focus (first | omega | (simp; done) | (simp; omega) | (simp [*]; omega))); clear st; intro _ st; (try simp only [List.set_cons_zero, List.set_cons_succ] at st)))) | ((with_reducible refine gate_addr rfl ?_); (first | (refine' ia_slcP HP.out rfl rfl rfl rfl ?_ ?_ ?_) | (refine' ia_slcP HP2.out rfl rfl rfl rfl ?_ ?_ ?_)); rotate_left 1; (focus (first | exact (rfl : (0 : Int) = ((0 : Nat) : Int)) | exact (rfl : (1 : Int) = ((1 : Nat) : Int)) | exact rfl | exact HE1.out | exact HE2.out)); (focus (first | omega | (simp; done) | (simp; omega) | (simp [*]; omega)))))))
        go_ret2
        exact rb_nil hE.out st.keep
      | true =>
        rw [u] at HRF HSTEP
        rw [hif u] at HRF
        have hS := hid (HSTEP.out rfl)
        obtain ⟨F, hF⟩ : ∃ F, ipF x = F := ⟨_, rfl⟩
        rw [hF] at HRF HMS
        have hfl2 := F.2.len
        rw [if_pos rfl] at HRF
        clear hio hif hF u hfl
        go_wp2_with (first | ((with_reducible refine gate_dst (N := 20) rfl ?_); ((with_reducible refine gate_load rfl ?_); refine wpl_load1 rfl _ _ rfl _ rfl OneC.out (.string ⟨x.toArray⟩) ((st.get (by repeat (first | exact At.here | apply At.there))).cellv HGET.out) ?_)) | ((with_reducible refine gate_add rfl ?_); (with_reducible refine gate_dst (N := 23) rfl ?_); refine la_sadd (l := x) (m := [10]) rfl rfl rfl rfl (by simp; omega) ?_) | (go_at_call 13; refine (HRF.out _).mono ?_; rintro _ _ ⟨rfl, hk⟩; replace st := st.call hk; clear hk) | ((with_reducible refine gate_bsl rfl ?_); refine ia_bsl1 (sl := 31) st rfl rfl rfl rfl rfl ?_ (by decide) ?_; (focus (first | rfl | (simp; done) | (simp; assumption) | (simp; omega) | (simp [*]; done))); clear st; intro B31 _ st) | ((with_reducible refine gate_app rfl ?_); refine ia_appendR (news := (fv F)) (xs := (encs fv ((W.take k).map ipF))) (spare := spare) st rfl rfl rfl rfl HML.out HC.out hcm (.fr (st.get (by repeat (first | exact At.here | apply At.there)))) (fun h => by cases h) (fv_len F) (fv_one F) (by unfold maxLen; omega) (by omega) ?_; clear st; intro g2 cap2 spare2 _ st hcap2 hcm2; (try simp only [List.set_cons_zero, List.set_cons_succ] at st)) | ((with_reducible refine gate_lst ?_); (first | ((with_reducible refine gate_alloc rfl ?_); (first | (refine ia_alloc (sl := 7) st rfl rfl rfl ?_; clear st; intro B7 _ st))) | ((with_reducible refine gate_load rfl ?_); (first | (refine' ia_load1 st rfl rfl rfl ?_ ?_; rotate_left 1; (focus (first | exact N0.out | exact N1.out | exact N2.out | exact N3.out | exact N4.out | exact N5.out | exact G2.out | exact G3.out | exact G4.out | exact G0.out | exact G1.out | (refine frv_get _ _ ?_; (first | omega | (simp; done) | (simp; omega) | (simp [*]; omega))) | exact rfl))) | (refine' ia_load1Z (hb.keep st.keep (by simp)) rfl rfl rfl ?_ ?_; rotate_left 1; (focus exact rfl)) | (refine' ia_load1Z (hb'.keep st.keep (by simp)) rfl rfl rfl ?_ ?_; rotate_left 1; (focus exact rfl)) | (refine' ia_load1C (hb.keep st.keep (by simp)) rfl rfl rfl ?_ ?_; rotate_left 1; (focus (first | exact N0.out | exact N1.out | exact N2.out | exact N3.out | exact N4.out | exact N5.out | exact G2.out | exact G3.out | exact G4.out | exact G0.out | exact G1.out | (refine frv_get _ _ ?_; (first | omega | (simp; done) | (simp; omega) | (simp [*]; omega))) | exact rfl))) | (refine' ia_load1C (hb'.keep st.keep (by simp)) rfl rfl rfl ?_ ?_; rotate_left 1; (focus (first | exact N0.out | exact N1.out | exact N2.out | exact N3.out | exact N4.out | exact N5.out | exact G2.out | exact G3.out | exact G4.out | exact G0.out | exact G1.out | (refine frv_get _ _ ?_; (first | omega | (simp; done) | (simp; omega) | (simp [*]; omega))) | exact rfl))) | (refine' ia_load1B (hb1.keep st.keep (by simp)) rfl rfl rfl ?_ ?_; rotate_left 1; (focus (first | exact N0.out | exact N1.out | exact N2.out | exact N3.out | exact N4.out | exact N5.out | exact G2.out | exact G3.out | exact G4.out | exact G0.out | exact G1.out | (refine frv_get _ _ ?_; (first | omega | (simp; done) | (simp; omega) | (simp [*]; omega))) | exact rfl))) | (refine' ia_load1B (hb2.keep st.keep (by simp)) rfl rfl rfl ?_ ?_; rotate_left 1; (focus (first | exact N0.out | exact N1.out | exact N2.out | exact N3.out | exact N4.out | exact N5.out | exact G2.out | exact G3.out | exact G4.out | exact G0.out | exact G1.out | (refine frv_get _ _ ?_; (first | omega | (simp; done) | (simp; omega) | (simp [*]; omega))) | exact rfl))) | (refine ia_loadAll st rfl rfl rfl ?_ ?_; (focus (first | rfl | (simp; done) | (simp; assumption) | (simp; omega) | (simp [*]; done)))) | (refine ia_loadC (hb.keep st.keep (by simp)) rfl rfl rfl ?_ ?_; (focus (first | rfl | (simp; done) | (simp; assumption) | (simp; omega) | (simp [*]; done)))) | (refine ia_loadC (hb'.keep st.keep (by simp)) rfl rfl rfl ?_ ?_; (focus (first | rfl | (simp; done) | (simp; assumption) | (simp; omega) | (simp [*]; done)))) | (refine ia_loadC (Cl.of (hb1.keep st.keep (by simp))) rfl rfl rfl ?_ ?_; (focus (first | rfl | (simp; done) | (simp; assumption) | (simp; omega) | (simp [*]; done)))) | (refine ia_loadC (Cl.of (hb2.keep st.keep (by simp))) rfl rfl rfl ?_ ?_; (focus (first | rfl | (simp; done) | (simp; assumption) | (simp; omega) | (simp [*]; done)))))) | ((with_reducible refine gate_store rfl ?_); (first | (refine ia_storeAll st rfl rfl rfl rfl ?_ ?_ ?_ ?_; (focus (first | rfl | (simp; done) | (simp; assumption) | (simp; omega) | (simp [*]; done))); (focus (first | exact frv_one _ | exact fv_one _ | exact p8_one _ | exact k3_one _ | exact i1_one _ | (simp [Value.oneCell']; done))); (focus (first | rfl | (simp; done) | (simp; assumption) | (simp; omega) | (simp [*]; done))); clear st; intro _ st; (try simp only [List.set_cons_zero, List.set_cons_succ] at st)) | (refine ia_storeSeg st rfl rfl rfl rfl ?_ ?_ ?_ ?_; (focus (first | rfl | (simp; done) | (simp; assumption) | (simp; omega) | (simp [*]; done))); (focus (first | exact frv_one _ | exact fv_one _ | exact p8_one _ | exact k3_one _ | exact i1_one _ | (simp [Value.oneCell']; done))); (focus (first | omega | (simp; done) | (simp; omega) | (simp [*]; omega))); clear st; intro _ st; (try simp only [List.set_cons_zero, List.set_cons_succ] at st)))) | ((with_reducible refine gate_addr rfl ?_); (first | (refine' ia_slcP HP.out rfl rfl rfl rfl ?_ ?_ ?_) | (refine' ia_slcP HP2.out rfl rfl rfl rfl ?_ ?_ ?_)); rotate_left 1; (focus (first | exact (rfl : (0 : Int) = ((0 : Nat) : Int)) | exact (rfl : (1 : Int) = ((1 : Nat) : Int)) | exact rfl | exact HE1.out | exact HE2.out)); (focus (first | omega | (simp; done) | (simp; omega) | (simp [*]; omega)))))))
        go_roundw
        case rel => exact ⟨k + 1, by omega, by go_num, hS.out, g2, cap2, spare2, rfl, by rw [HMS.out]; exact st.drop.drop, by rw [HMS.out]; exact hcap2, hcm2⟩
        case measure => first | (simp [intOf]; done) | (simp [intOf]; omega)
    · obtain rfl : k = m := by omega
      have hA := HALL.out.all HM.out
      have HTK : Hid ((W.take k).map ipF = W.map ipF) := hid (by rw [← HM.out, List.take_length])
      rw [HTK.out] at st HC
      obtain ⟨f1, f2⟩ := HFIN.out hA
      obtain ⟨R, hR⟩ : ∃ R, W.map ipF = R := ⟨_, rfl⟩
      have hRl : R.length = k := by rw [← hR, List.length_map, HM.out]
      rw [hR] at st HC f1 f2
      have HBT := hid (fun (w' : World) (p : Option Addr) (c : Nat) (hr : Rd w' p k (encs fv R)) => BookText_c R k hRl (by omega) p c w' hr)
      obtain ⟨tx, htx⟩ : ∃ tx, bkT R = tx := ⟨_, rfl⟩
      rw [htx] at HBT f1 f2
      clear hA hR htx
      by_cases e : tx = l
      · have HD : Hid ((!decide (tx = l)) = false) := hid (by simp [e])
        have hO := hid (f1.trans (decide_eq_true e))
        have hL := hid (f2 e)
        have HRL := hid hRl
        clear e f1 f2 hRl
        go_wp2_with (first | (go_at_call 14; refine (HBT.out _ _ _ (.of (st.get (by repeat (first | exact At.here | apply At.there))))).mono ?_; rintro _ _ ⟨rfl, hk⟩; replace st := st.call hk; clear hk) | ((with_reducible refine gate_sn rfl ?_); (with_reducible refine gate_dst (N := 37) rfl ?_); refine la_sneq HD.out rfl rfl rfl rfl ?_) | ((with_reducible refine gate_lst ?_); (first | ((with_reducible refine gate_alloc rfl ?_); (first | (refine ia_alloc (sl := 7) st rfl rfl rfl ?_; clear st; intro B7 _ st))) | ((with_reducible refine gate_load rfl ?_); (first | (refine' ia_load1 st rfl rfl rfl ?_ ?_; rotate_left 1; (focus (first | exact N0.out | exact N1.out | exact N2.out | exact N3.out | exact N4.out | exact N5.out | exact G2.out | exact G3.out | exact G4.out | exact G0.out | exact G1.out | (refine frv_get _ _ ?_; (first | omega | (simp; done) | (simp; omega) | (simp [*]; omega))) | exact rfl))) | (refine' ia_load1Z (hb.keep st.keep (by simp)) rfl rfl rfl ?_ ?_; rotate_left 1; (focus exact rfl)) | (refine' ia_load1Z (hb'.keep st.keep (by simp)) rfl rfl rfl ?_ ?_; rotate_left 1; (focus exact rfl)) | (refine' ia_load1C (hb.keep st.keep (by simp)) rfl rfl rfl ?_ ?_; rotate_left 1; (focus (first | exact N0.out | exact N1.out | exact N2.out | exact N3.out | exact N4.out | exact N5.out | exact G2.out | exact G3.out | exact G4.out | exact G0.out | exact G1.out | (refine frv_get _ _ ?_; (first | omega | (simp; done) | (simp; omega) | (simp [*]; omega))) | exact rfl))) | (refine' ia_load1C (hb'.keep st.keep (by simp)) rfl rfl rfl ?_ ?_; rotate_left 1; (focus (first | exact N0.out | exact N1.out | exact N2.out | exact N3.out | exact N4.out | exact N5.out | exact G2.out | exact G3.out | exact G4.out | exact G0.out | exact G1.out | (refine frv_get _ _ ?_; (first | omega | (simp; done) | (simp; omega) | (simp [*]; omega))) | exact rfl))) | (refine' ia_load1B (hb1.keep st.keep (by simp)) rfl rfl rfl ?_ ?_; rotate_left 1; (focus (first | exact N0.out | exact N1.out | exact N2.out | exact N3.out | exact N4.out | exact N5.out | exact G2.out | exact G3.out | exact G4.out | exact G0.out | exact G1.out | (refine frv_get _ _ ?_; (first | omega | (simp; done) | (simp; omega) | (simp [*]; omega))) | exact rfl))) | (refine' ia_load1B (hb2.keep st.keep (by simp)) rfl rfl rfl ?_ ?_; rotate_left 1; (focus (first | exact N0.out | exact N1.out | exact N2.out | exact N3.out | exact N4.out | exact N5.out | exact G2.out | exact G3.out | exact G4.out | exact G0.out | exact G1.out | (refine frv_get _ _ ?_; (first | omega | (simp; done) | (simp; omega) | (simp [*]; omega))) | exact rfl))) | (refine ia_loadAll st rfl rfl rfl ?_ ?_; (focus (first | rfl | (simp; done) | (simp; assumption) | (simp; omega) | (simp [*]; done)))) | (refine ia_loadC (hb.keep st.keep (by simp)) rfl rfl rfl ?_ ?_; (focus (first | rfl | (simp; done) | (simp; assumption) | (simp; omega) | (simp [*]; done)))) | (refine ia_loadC (hb'.keep st.keep (by simp)) rfl rfl rfl ?_ ?_; (focus (first | rfl | (simp; done) | (simp; assumption) | (simp; omega) | (simp [*]; done)))) | (refine ia_loadC (Cl.of (hb1.keep st.keep (by simp))) rfl rfl rfl ?_ ?_; (focus (first | rfl | (simp; done) | (simp; assumption) | (simp; omega) | (simp [*]; done)))) | (refine ia_loadC (Cl.of (hb2.keep st.keep (by simp))) rfl rfl rfl ?_ ?_; (focus (first | rfl | (simp; done) | (simp; assumption) | (simp; omega) | (simp [*]; done)))))) | ((with_reducible refine gate_store rfl ?_); (first | (refine ia_storeAll st rfl rfl rfl rfl ?_ ?_ ?_ ?_; (focus (first | rfl | (simp; done) | (simp; assumption) | (simp; omega) | (simp [*]; done))); (focus (first | exact frv_one _ | exact fv_one _ | exact p8_one _ | exact k3_one _ | exact i1_one _ | (simp [Value.oneCell']; done))); (focus (first | rfl | (simp; done) | (simp; assumption) | (simp; omega) | (simp [*]; done))); clear st; intro _ st; (try simp only [List.set_cons_zero, List.set_cons_succ] at st)) | (refine ia_storeSeg st rfl rfl rfl rfl ?_ ?_ ?_ ?_; (focus (first | rfl | (simp; done) | (simp; assumption) | (simp; omega) | (simp [*]; done))); (focus (first | exact frv_one _ | exact fv_one _ | exact p8_one _ | exact k3_one _ | exact i1_one _ | (simp [Value.oneCell']; done))); (focus (first | omega | (simp; done) | (simp; omega) | (simp [*]; omega))); clear st; intro _ st; (try simp only [List.set_cons_zero, List.set_cons_succ] at st)))) | ((with_reducible refine gate_addr rfl ?_); (first | (refine' ia_slcP HP.out rfl rfl rfl rfl ?_ ?_ ?_) | (refine' ia_slcP HP2.out rfl rfl rfl rfl ?_ ?_ ?_)); rotate_left 1; (focus (first | exact (rfl : (0 : Int) = ((0 : Nat) : Int)) | exact (rfl : (1 : Int) = ((1 : Nat) : Int)) | exact rfl | exact HE1.out | exact HE2.out)); (focus (first | omega | (simp; done) | (simp; omega) | (simp [*]; omega)))))))
        go_ret2
        exact rb_ok hO.out hL.out HRL.out ⟨gO, cap, spare, rfl, out_of st .here, st.get .here, HC.out, hcm⟩ st.keep
      · have HD : Hid ((!decide (tx = l)) = true) := hid (by simp [e])
        have hO := hid (f1.trans (decide_eq_false e))
        clear e f1 f2 hRl
        go_wp2_with (first | (go_at_call 14; refine (HBT.out _ _ _ (.of (st.get (by repeat (first | exact At.here | apply At.there))))).mono ?_; rintro _ _ ⟨rfl, hk⟩; replace st := st.call hk; clear hk) | ((with_reducible refine gate_sn rfl ?_); (with_reducible refine gate_dst (N := 37) rfl ?_); refine la_sneq HD.out rfl rfl rfl rfl ?_) | ((with_reducible refine gate_lst ?_); (first | ((with_reducible refine gate_alloc rfl ?_); (first | (refine ia_alloc (sl := 7) st rfl rfl rfl ?_; clear st; intro B7 _ st))) | ((with_reducible refine gate_load rfl ?_); (first | (refine' ia_load1 st rfl rfl rfl ?_ ?_; rotate_left 1; (focus (first | exact N0.out | exact N1.out | exact N2.out | exact N3.out | exact N4.out | exact N5.out | exact G2.out | exact G3.out | exact G4.out | exact G0.out | exact G1.out | (refine frv_get _ _ ?_; (first | omega | (simp; done) | (simp; omega) | (simp [*]; omega))) | exact rfl))) | (refine' ia_load1Z (hb.keep st.keep (by simp)) rfl rfl rfl ?_ ?_; rotate_left 1; (focus exact rfl)) | (refine' ia_load1Z (hb'.keep st.keep (by simp)) rfl rfl rfl ?_ ?_; rotate_left 1; (focus exact rfl)) | (refine' ia_load1C (hb.keep st.keep (by simp)) rfl rfl rfl ?_ ?_; rotate_left 1; (focus (first | exact N0.out | exact N1.out | exact N2.out | exact N3.out | exact N4.out | exact N5.out | exact G2.out | exact G3.out | exact G4.out | exact G0.out | exact G1.out | (refine frv_get _ _ ?_; (first | omega | (simp; done) | (simp; omega) | (simp [*]; omega))) | exact rfl))) | (refine' ia_load1C (hb'.keep st.keep (by simp)) rfl rfl rfl ?_ ?_; rotate_left 1; (focus (first | exact N0.out | exact N1.out | exact N2.out | exact N3.out | exact N4.out | exact N5.out | exact G2.out | exact G3.out | exact G4.out | exact G0.out | exact G1.out | (refine frv_get _ _ ?_; (first | omega | (simp; done) | (simp; omega) | (simp [*]; omega))) | exact rfl))) | (refine' ia_load1B (hb1.keep st.keep (by simp)) rfl rfl rfl ?_ ?_; rotate_left 1; (focus (first | exact N0.out | exact N1.out | exact N2.out | exact N3.out | exact N4.out | exact N5.out | exact G2.out | exact G3.out | exact G4.out | exact G0.out | exact G1.out | (refine frv_get _ _ ?_; (first | omega | (simp; done) | (simp; omega) | (simp [*]; omega))) | exact rfl))) | (refine' ia_load1B (hb2.keep st.keep (by simp)) rfl rfl rfl ?_ ?_; rotate_left 1; (focus (first | exact N0.out | exact N1.out | exact N2.out | exact N3.out | exact N4.out | exact N5.out | exact G2.out | exact G3.out | exact G4.out | exact G0.out | exact G1.out | (refine frv_get _ _ ?_; (first | omega | (simp; done) | (simp; omega) | (simp [*]; omega))) | exact rfl))) | (refine ia_loadAll st rfl rfl rfl ?_ ?_; (focus (first | rfl | (simp; done) | (simp; assumption) | (simp; omega) | (simp [*]; done)))) | (refine ia_loadC (hb.keep st.keep (by simp)) rfl rfl rfl ?_ ?_; (focus (first | rfl | (simp; done) | (simp; assumption) | (simp; omega) | (simp [*]; done)))) | (refine ia_loadC (hb'.keep st.keep (by simp)) rfl rfl rfl ?_ ?_; (focus (first | rfl | (simp; done) | (simp; assumption) | (simp; omega) | (simp [*]; done)))) | (refine ia_loadC (Cl.of (hb1.keep st.keep (by simp))) rfl rfl rfl ?_ ?_; (focus (first | rfl | (simp; done) | (simp; assumption) | (simp; omega) | (simp [*]; done)))) | (refine ia_loadC (Cl.of (hb2.keep st.keep (by simp))) rfl rfl rfl ?_ ?_; (focus (first | rfl | (simp; done) | (simp; assumption) | (simp; omega) | (simp [*]; done)))))) | ((with_reducible refine gate_store rfl ?_); (first | (refine ia_storeAll st rfl rfl rfl rfl ?_ ?_ ?_ ?_; (focus (first | rfl | (simp; done) | (simp; assumption) | (simp; omega) | (simp [*]; done))); (focus (first | exact frv_one _ | exact fv_one _ | exact p8_one _ | exact k3_one _ | exact i1_one _ | (simp [Value.oneCell']; done))); (focus (first | rfl | (simp; done) | (simp; assumption) | (simp; omega) | (simp [*]; done))); clear st; intro _ st; (try simp only [List.set_cons_zero, List.set_cons_succ] at st)) | (refine ia_storeSeg st rfl rfl rfl rfl ?_ ?_ ?_ ?_; (focus (first | rfl | (simp; done) | (simp; assumption) | (simp; omega) | (simp [*]; done))); (focus (first | exact frv_one _ | exact fv_one _ | exact p8_one _ | exact k3_one _ | exact i1_one _ | (simp [Value.oneCell']; done))); (focus (first | omega | (simp; done) | (simp; omega) | (simp [*]; omega))); clear st; intro _ st; (try simp only [List.set_cons_zero, List.set_cons_succ] at st)))) | ((with_reducible refine gate_addr rfl ?_); (first | (refine' ia_slcP HP.out rfl rfl rfl rfl ?_ ?_ ?_) | (refine' ia_slcP HP2.out rfl rfl rfl rfl ?_ ?_ ?_)); rotate_left 1; (focus (first | exact (rfl : (0 : Int) = ((0 : Nat) : Int)) | exact (rfl : (1 : Int) = ((1 : Nat) : Int)) | exact rfl | exact HE1.out | exact HE2.out)); (focus (first | omega | (simp; done) | (simp; omega) | (simp [*]; omega)))))))
        go_ret2
        exact rb_nil hO.out st.keep
theorem ReadBook_c (l : List UInt8) (n : Nat) (hn : l.length = n) (hn1 : n ≤ 1000000) (w : World) (hg : GlobM w) :
    Calls Tryd.prog 5 #[.string ⟨l.toArray⟩] w (BookCode (rbL l) (rbL l).length (rbC l) True w) := by
  by_cases h : l = []
  · subst h; exact ReadBook0_c w
  · exact ReadBook1_c l n hn hn1 h w hg
end Go.Proofs.YtmfgbkmkcljciaaDoor
