/- Distinct pages: the reference and the program; no condition. -/
import Derived.Test.YtmfgbkmkcljciaaRep
namespace Go.Proofs.Ytmfgbkmkcljciaa
open Go.RowKit
set_option linter.unusedSimpArgs false
set_option linter.unusedVariables false
/-- Two slices of the call's own. -/
def Gives2 (E E' : TypeId) (sz sz' n n' : Nat) (xs ys : List Value) (w : World) (v u : Value) (w' : World) : Prop :=
  ∃ g cap spare g' cap' spare', v = .slice (some ⟨g, 0, none⟩) n cap ∧ u = .slice (some ⟨g', 0, none⟩) n' cap' ∧ w.heap.size ≤ g ∧ w.heap.size ≤ g' ∧ g ≠ g' ∧ Blk w' g (xs ++ spare) E ∧ Blk w' g' (ys ++ spare') E' ∧
    (xs ++ spare).length = cap * sz ∧ cap ≤ maxLen ∧ (ys ++ spare').length = cap' * sz' ∧ cap' ≤ maxLen
theorem St.adopt2 {M : List Nat} {w0 w w1 : World} {L : List (Nat × List Value × TypeId)} {g g' : Nat} {cs cs' : List Value} {E E' : TypeId} (st : St M w0 w L) (hk : Keep [] w w1) (hg : w.heap.size ≤ g) (hg' : w.heap.size ≤ g') (hne : g ≠ g') (hb : Blk w1 g cs E) (hb' : Blk w1 g' cs' E') : St M w0 w1 ((g, cs, E) :: (g', cs', E') :: L) := by
  have s1 := st.adopt hk hg hb
  have s2 := st.adopt hk hg' hb'
  refine ⟨s1.keep, fun p hp => ?_, fun p hp => ?_, ?_⟩
  · rcases List.mem_cons.1 hp with rfl | hp
    · exact hb
    · exact s2.has p hp
  · rcases List.mem_cons.1 hp with rfl | hp
    · exact Or.inl (Nat.le_trans st.keep.size hg)
    · exact s2.ge p hp
  · have n1 := s1.nd
    have n2 := s2.nd
    simp only [List.map_cons, List.nodup_cons, List.mem_cons, not_or] at n1 n2 ⊢
    exact ⟨⟨hne, n1.1⟩, n2⟩
def plI (l : List Nat) : List Int := l.map fun (k : Nat) => (k : Int)
@[simp] theorem plI_length (l : List Nat) : (plI l).length = l.length := by simp [plI]
theorem plI_snoc (l : List Nat) (k : Nat) : plI (l ++ [k]) = plI l ++ [(k : Int)] := by simp [plI]
theorem plI_get {l : List Nat} {j p : Nat} (h : l[j]? = some p) : (plI l)[j]? = some (p : Int) := by unfold plI; rw [List.getElem?_map, h]; rfl
def dbk (B : List Fm) : List Fm := (dst B).1
def dpl (B : List Fm) : List Int := plI (dst B).2
def DistPost (B : List Fm) (n m : Nat) (w : World) (e : Ending) (w' : World) : Prop := ∃ v u, e = .returned (.tuple #[v, u]) ∧ Gives2 52 2 12 1 m n (encs fv (dbk B)) (encs i1 (dpl B)) w v u w' ∧ Keep [] w w'
theorem i1_at {R spare : List Value} {l : List Int} {k : Nat} {x : Int} (h : l[k]? = some x) : (encs i1 l ++ spare)[k]? = some (.int .i64 x) := by
  obtain ⟨hk, e⟩ := List.getElem?_eq_some_iff.1 h
  have := encs_getA i1_len l spare k hk 0 (by omega)
  rw [Nat.mul_one, Nat.add_zero, e] at this
  exact this
theorem i1_at' {spare : List Value} {l : List Int} {k : Nat} {x : Int} (h : l[k]? = some x) : (encs i1 l ++ spare)[0 + k * 1]? = some (.int .i64 x) := by
  rw [Nat.mul_one, Nat.zero_add]; exact i1_at (R := []) h
set_option maxHeartbeats 2000000 in
set_option maxRecDepth 100000 in
theorem distinct_c (B : List Fm) (n : Nat) (hB : B.length = n) (hn : n ≤ 1000000) (p : Option Addr) (c : Nat) (w : World) (hr : Rd w p n (encs fv B)) :
    Calls Try.prog 80 #[.slice p n c] w (DistPost B n (dbk B).length w) := by
  have st := St.start w
  have HALL : Hid (dst (B.take n) = dst B) := hid (by rw [List.take_of_length_le (by omega)])
  have HLE := hid (fun k => dst_le (B.take k))
  replace hB := hid hB
  go_enter Try.func80, Try.ntmps80
  go_wp2_with (first | ((with_reducible refine gate_bsl rfl ?_); refine ia_bsl0 (sl := 9) st rfl rfl rfl ?_; clear st; intro B9 _ st) | ((with_reducible refine gate_bsl rfl ?_); refine ia_bsl0 (sl := 10) st rfl rfl rfl ?_; clear st; intro B10 _ st) | ((with_reducible refine gate_lst ?_); (first | ((with_reducible refine gate_alloc rfl ?_); (first | (refine ia_alloc (sl := 7) st rfl rfl rfl ?_; clear st; intro B7 _ st))) | ((with_reducible refine gate_load rfl ?_); (first | (refine ia_loadAll st rfl rfl rfl ?_ ?_; (focus (first | rfl | (simp; done) | (simp; assumption) | (simp; omega) | (simp [*]; done)))) | (refine ia_loadC (hb.keep st.keep (by simp)) rfl rfl rfl ?_ ?_; (focus (first | rfl | (simp; done) | (simp; assumption) | (simp; omega) | (simp [*]; done)))) | (refine ia_loadC (hb'.keep st.keep (by simp)) rfl rfl rfl ?_ ?_; (focus (first | rfl | (simp; done) | (simp; assumption) | (simp; omega) | (simp [*]; done)))) | (refine ia_loadC (Cl.of (hb1.keep st.keep (by simp))) rfl rfl rfl ?_ ?_; (focus (first | rfl | (simp; done) | (simp; assumption) | (simp; omega) | (simp [*]; done)))) | (refine ia_loadC (Cl.of (hb2.keep st.keep (by simp))) rfl rfl rfl ?_ ?_; (focus (first | rfl | (simp; done) | (simp; assumption) | (simp; omega) | (simp [*]; done)))))) | ((with_reducible refine gate_store rfl ?_); (first | (refine ia_storeAll st rfl rfl rfl rfl ?_ ?_ ?_ ?_; (focus (first | rfl | (simp; done) | (simp; assumption) | (simp; omega) | (simp [*]; done))); (focus (first | exact frv_one _ | exact fv_one _ | exact p8_one _ | exact k3_one _ | exact i1_one _ | (simp [Value.oneCell']; done))); (focus (first | rfl | (simp; done) | (simp; assumption) | (simp; omega) | (simp [*]; done))); clear st; intro _ st; (try simp only [List.set_cons_zero, List.set_cons_succ] at st)) | (refine ia_storeSeg st rfl rfl rfl rfl ?_ ?_ ?_ ?_; (focus (first | rfl | (simp; done) | (simp; assumption) | (simp; omega) | (simp [*]; done))); (focus (first | exact frv_one _ | exact fv_one _ | exact p8_one _ | exact k3_one _ | exact i1_one _ | (simp [Value.oneCell']; done))); (focus (first | omega | (simp; done) | (simp; omega) | (simp [*]; omega))); clear st; intro _ st; (try simp only [List.set_cons_zero, List.set_cons_succ] at st)))) | ((with_reducible refine gate_addr rfl ?_); (first | (refine' ia_slcP HP.out rfl rfl rfl rfl ?_ ?_ ?_) | (refine' ia_slcP HP2.out rfl rfl rfl rfl ?_ ?_ ?_)); rotate_left 1; (focus (first | exact (rfl : (0 : Int) = ((0 : Nat) : Int)) | exact (rfl : (1 : Int) = ((1 : Nat) : Int)) | exact rfl | exact HE1.out | exact HE2.out)); (focus (first | omega | (simp; done) | (simp; omega) | (simp [*]; omega)))))))
  go_loopw [4, 5, 13] (fun v u i wr => ∃ k m g cap g' cap' : Nat, ∃ spare spare' : List Value, k ≤ n ∧ m ≤ k ∧ Hid ((dst (B.take k)).1.length = m) ∧ i = .int .i64 k ∧ v = .slice (some ⟨g, 0, none⟩) m cap ∧ u = .slice (some ⟨g', 0, none⟩) k cap' ∧ St [] w wr [(g', encs i1 (plI (dst (B.take k)).2) ++ spare', 2), (g, encs fv (dst (B.take k)).1 ++ spare, 52)] ∧ Hid ((encs fv (dst (B.take k)).1 ++ spare).length = cap * 12) ∧ cap ≤ maxLen ∧ Hid ((encs i1 (plI (dst (B.take k)).2) ++ spare').length = cap' * 1) ∧ cap' ≤ maxLen) (fun _ _ i _ => n - (intOf i).toNat)
  case atStart => exact ⟨0, 0, B9, 0, B10, 0, [], [], by omega, by omega, hid rfl, rfl, rfl, rfl, st, hid rfl, Nat.zero_le _, hid rfl, Nat.zero_le _⟩
  case round =>
    clear st
    obtain ⟨k, m, g, cap, g', cap', spare, spare', hk, hmk, HM, rfl, rfl, rfl, st, HC, hcm, HC', hcm'⟩ := hrel
    by_cases hlt : k < n
    · have hd : decide ((k : Int) < (n : Int)) = true := by simpa using hlt
      obtain ⟨b, f, hp, hcl⟩ := hr (by omega)
      have HP := hid hp
      have hkB : k < B.length := by rw [hB.out]; exact hlt
      have hb := hcl.seg fv_len hkB
      have HT := hid (dst_take hkB)
      have HPL : Hid ((dst (B.take k)).2.length = k) := hid (by rw [dst_len, List.length_take, hB.out]; omega)
      obtain ⟨x, hx⟩ : ∃ x, B[k] = x := ⟨_, rfl⟩
      rw [hx] at hb HT
      obtain ⟨O, hO⟩ : ∃ O, (dst (B.take k)).1 = O := ⟨_, rfl⟩
      obtain ⟨Q, hQ⟩ : ∃ Q, (dst (B.take k)).2 = Q := ⟨_, rfl⟩
      rw [hO] at HM st HC
      rw [hQ] at st HC' HPL
      unfold dstep at HT
      rw [hO, hQ] at HT
      have HIX := hid (fun p c w' hr => indexF_c x O m HM.out (by omega) p c w' hr)
      clear hx hp hcl hkB hO hQ
      by_cases hmem : fidx x O < O.length
      · obtain ⟨q, hq⟩ : ∃ q, fidx x O = q := ⟨_, rfl⟩
        have hz : idxZ x O = (q : Int) := by unfold idxZ; rw [if_pos hmem, hq]
        rw [hz] at HIX
        rw [if_pos hmem, hq] at HT
        clear hmem hq hz
        go_wp2_with (first | (go_at_call 70; refine (HIX.out _ _ _ (.of (st.get (by repeat (first | exact At.here | apply At.there))))).mono ?_; rintro _ _ ⟨rfl, hk⟩; replace st := st.call hk; clear hk) | ((with_reducible refine gate_bsl rfl ?_); refine ia_bsl1 (sl := 30) st rfl rfl rfl rfl rfl ?_ (by decide) ?_; (focus (first | rfl | (simp; done) | (simp; assumption) | (simp; omega) | (simp [*]; done))); clear st; intro B30 _ st) | ((with_reducible refine gate_app rfl ?_); refine ia_appendR (news := (i1 (q : Nat))) (xs := (encs i1 (plI Q))) (spare := spare') st rfl rfl rfl rfl (by rw [encs_i1_length, plI_length, HPL.out, Nat.mul_one]) HC'.out hcm' (.fr (st.get (by repeat (first | exact At.here | apply At.there)))) (fun h => by cases h) (i1_len _) (i1_one _) (by unfold maxLen; omega) (by omega) ?_; clear st; intro g2 cap2 spare2 _ st hcap2 hcm2; (try simp only [List.set_cons_zero, List.set_cons_succ] at st)) | ((with_reducible refine gate_lst ?_); (first | ((with_reducible refine gate_alloc rfl ?_); (first | (refine ia_alloc (sl := 7) st rfl rfl rfl ?_; clear st; intro B7 _ st))) | ((with_reducible refine gate_load rfl ?_); (first | (refine ia_loadAll st rfl rfl rfl ?_ ?_; (focus (first | rfl | (simp; done) | (simp; assumption) | (simp; omega) | (simp [*]; done)))) | (refine ia_loadC (hb.keep st.keep (by simp)) rfl rfl rfl ?_ ?_; (focus (first | rfl | (simp; done) | (simp; assumption) | (simp; omega) | (simp [*]; done)))) | (refine ia_loadC (hb'.keep st.keep (by simp)) rfl rfl rfl ?_ ?_; (focus (first | rfl | (simp; done) | (simp; assumption) | (simp; omega) | (simp [*]; done)))) | (refine ia_loadC (Cl.of (hb1.keep st.keep (by simp))) rfl rfl rfl ?_ ?_; (focus (first | rfl | (simp; done) | (simp; assumption) | (simp; omega) | (simp [*]; done)))) | (refine ia_loadC (Cl.of (hb2.keep st.keep (by simp))) rfl rfl rfl ?_ ?_; (focus (first | rfl | (simp; done) | (simp; assumption) | (simp; omega) | (simp [*]; done)))))) | ((with_reducible refine gate_store rfl ?_); (first | (refine ia_storeAll st rfl rfl rfl rfl ?_ ?_ ?_ ?_; (focus (first | rfl | (simp; done) | (simp; assumption) | (simp; omega) | (simp [*]; done))); (focus (first | exact frv_one _ | exact fv_one _ | exact p8_one _ | exact k3_one _ | exact i1_one _ | (simp [Value.oneCell']; done))); (focus (first | rfl | (simp; done) | (simp; assumption) | (simp; omega) | (simp [*]; done))); clear st; intro _ st; (try simp only [List.set_cons_zero, List.set_cons_succ] at st)) | (refine ia_storeSeg st rfl rfl rfl rfl ?_ ?_ ?_ ?_; (focus (first | rfl | (simp; done) | (simp; assumption) | (simp; omega) | (simp [*]; done))); (focus (first | exact frv_one _ | exact fv_one _ | exact p8_one _ | exact k3_one _ | exact i1_one _ | (simp [Value.oneCell']; done))); (focus (first | omega | (simp; done) | (simp; omega) | (simp [*]; omega))); clear st; intro _ st; (try simp only [List.set_cons_zero, List.set_cons_succ] at st)))) | ((with_reducible refine gate_addr rfl ?_); (first | (refine' ia_slcP HP.out rfl rfl rfl rfl ?_ ?_ ?_) | (refine' ia_slcP HP2.out rfl rfl rfl rfl ?_ ?_ ?_)); rotate_left 1; (focus (first | exact (rfl : (0 : Int) = ((0 : Nat) : Int)) | exact (rfl : (1 : Int) = ((1 : Nat) : Int)) | exact rfl | exact HE1.out | exact HE2.out)); (focus (first | omega | (simp; done) | (simp; omega) | (simp [*]; omega)))))))
        have e : encs i1 (plI (Q ++ [q])) = encs i1 (plI Q) ++ i1 (q : Nat) := by rw [plI_snoc, encs_snoc]
        go_roundw
        case rel => exact ⟨k + 1, m, g, cap, g2, cap2, spare, spare2, by omega, by omega, hid (by rw [HT.out]; exact HM.out), by go_num, rfl, rfl, by rw [HT.out, e]; exact st.drop.drop, hid (by rw [HT.out]; exact HC.out), hcm, hid (by rw [HT.out, e]; exact hcap2), hcm2⟩
        case measure => first | (simp [intOf]; done) | (simp [intOf]; omega)
      · have hz : idxZ x O = -1 := by unfold idxZ; rw [if_neg hmem]
        have hq : fidx x O = m := by have := fidx_le x O; have := HM.out; omega
        rw [hz] at HIX
        rw [if_neg hmem, hq] at HT
        clear hmem hq hz
        go_wp2_with (first | (go_at_call 70; refine (HIX.out _ _ _ (.of (st.get (by repeat (first | exact At.here | apply At.there))))).mono ?_; rintro _ _ ⟨rfl, hk⟩; replace st := st.call hk; clear hk) | ((with_reducible refine gate_bsl rfl ?_); refine ia_bsl1 (sl := 26) st rfl rfl rfl rfl rfl ?_ (by decide) ?_; (focus (first | rfl | (simp; done) | (simp; assumption) | (simp; omega) | (simp [*]; done))); clear st; intro B26 _ st) | ((with_reducible refine gate_bsl rfl ?_); refine ia_bsl1 (sl := 30) st rfl rfl rfl rfl rfl ?_ (by decide) ?_; (focus (first | rfl | (simp; done) | (simp; assumption) | (simp; omega) | (simp [*]; done))); clear st; intro B30 _ st) | ((with_reducible refine gate_app rfl ?_); refine ia_appendR (news := (fv x)) (xs := (encs fv O)) (spare := spare) st rfl rfl rfl rfl (by rw [encs_fv_length, HM.out]) HC.out hcm (.fr (st.get (by repeat (first | exact At.here | apply At.there)))) (fun h => by cases h) (fv_len _) (fv_one _) (by unfold maxLen; omega) (by omega) ?_; clear st; intro g2 cap2 spare2 _ st hcap2 hcm2; (try simp only [List.set_cons_zero, List.set_cons_succ] at st)) | ((with_reducible refine gate_app rfl ?_); refine ia_appendR (news := (i1 (m : Nat))) (xs := (encs i1 (plI Q))) (spare := spare') st rfl rfl rfl rfl (by rw [encs_i1_length, plI_length, HPL.out, Nat.mul_one]) HC'.out hcm' (.fr (st.get (by repeat (first | exact At.here | apply At.there)))) (fun h => by cases h) (i1_len _) (i1_one _) (by unfold maxLen; omega) (by omega) ?_; clear st; intro g3 cap3 spare3 _ st hcap3 hcm3; (try simp only [List.set_cons_zero, List.set_cons_succ] at st)) | ((with_reducible refine gate_lst ?_); (first | ((with_reducible refine gate_alloc rfl ?_); (first | (refine ia_alloc (sl := 7) st rfl rfl rfl ?_; clear st; intro B7 _ st))) | ((with_reducible refine gate_load rfl ?_); (first | (refine ia_loadAll st rfl rfl rfl ?_ ?_; (focus (first | rfl | (simp; done) | (simp; assumption) | (simp; omega) | (simp [*]; done)))) | (refine ia_loadC (hb.keep st.keep (by simp)) rfl rfl rfl ?_ ?_; (focus (first | rfl | (simp; done) | (simp; assumption) | (simp; omega) | (simp [*]; done)))) | (refine ia_loadC (hb'.keep st.keep (by simp)) rfl rfl rfl ?_ ?_; (focus (first | rfl | (simp; done) | (simp; assumption) | (simp; omega) | (simp [*]; done)))) | (refine ia_loadC (Cl.of (hb1.keep st.keep (by simp))) rfl rfl rfl ?_ ?_; (focus (first | rfl | (simp; done) | (simp; assumption) | (simp; omega) | (simp [*]; done)))) | (refine ia_loadC (Cl.of (hb2.keep st.keep (by simp))) rfl rfl rfl ?_ ?_; (focus (first | rfl | (simp; done) | (simp; assumption) | (simp; omega) | (simp [*]; done)))))) | ((with_reducible refine gate_store rfl ?_); (first | (refine ia_storeAll st rfl rfl rfl rfl ?_ ?_ ?_ ?_; (focus (first | rfl | (simp; done) | (simp; assumption) | (simp; omega) | (simp [*]; done))); (focus (first | exact frv_one _ | exact fv_one _ | exact p8_one _ | exact k3_one _ | exact i1_one _ | (simp [Value.oneCell']; done))); (focus (first | rfl | (simp; done) | (simp; assumption) | (simp; omega) | (simp [*]; done))); clear st; intro _ st; (try simp only [List.set_cons_zero, List.set_cons_succ] at st)) | (refine ia_storeSeg st rfl rfl rfl rfl ?_ ?_ ?_ ?_; (focus (first | rfl | (simp; done) | (simp; assumption) | (simp; omega) | (simp [*]; done))); (focus (first | exact frv_one _ | exact fv_one _ | exact p8_one _ | exact k3_one _ | exact i1_one _ | (simp [Value.oneCell']; done))); (focus (first | omega | (simp; done) | (simp; omega) | (simp [*]; omega))); clear st; intro _ st; (try simp only [List.set_cons_zero, List.set_cons_succ] at st)))) | ((with_reducible refine gate_addr rfl ?_); (first | (refine' ia_slcP HP.out rfl rfl rfl rfl ?_ ?_ ?_) | (refine' ia_slcP HP2.out rfl rfl rfl rfl ?_ ?_ ?_)); rotate_left 1; (focus (first | exact (rfl : (0 : Int) = ((0 : Nat) : Int)) | exact (rfl : (1 : Int) = ((1 : Nat) : Int)) | exact rfl | exact HE1.out | exact HE2.out)); (focus (first | omega | (simp; done) | (simp; omega) | (simp [*]; omega)))))))
        have e : encs i1 (plI (Q ++ [m])) = encs i1 (plI Q) ++ i1 (m : Nat) := by rw [plI_snoc, encs_snoc]
        have e2 : encs fv (O ++ [x]) = encs fv O ++ fv x := encs_snoc _ _ _
        go_roundw
        case rel => exact ⟨k + 1, m + 1, g2, cap2, g3, cap3, spare2, spare3, by omega, by omega, hid (by rw [HT.out, List.length_append, HM.out]; rfl), by go_num, rfl, rfl, by rw [HT.out, e, e2]; exact st.drop.drop.drop, hid (by rw [HT.out, e2]; exact hcap2), hcm2, hid (by rw [HT.out, e]; exact hcap3), hcm3⟩
        case measure => first | (simp [intOf]; done) | (simp [intOf]; omega)
    · have hd : decide ((k : Int) < (n : Int)) = false := by simp; omega
      obtain rfl : k = n := by omega
      go_wp2_with (first | ((with_reducible refine gate_lst ?_); (first | ((with_reducible refine gate_alloc rfl ?_); (first | (refine ia_alloc (sl := 7) st rfl rfl rfl ?_; clear st; intro B7 _ st))) | ((with_reducible refine gate_load rfl ?_); (first | (refine ia_loadAll st rfl rfl rfl ?_ ?_; (focus (first | rfl | (simp; done) | (simp; assumption) | (simp; omega) | (simp [*]; done)))) | (refine ia_loadC (hb.keep st.keep (by simp)) rfl rfl rfl ?_ ?_; (focus (first | rfl | (simp; done) | (simp; assumption) | (simp; omega) | (simp [*]; done)))) | (refine ia_loadC (hb'.keep st.keep (by simp)) rfl rfl rfl ?_ ?_; (focus (first | rfl | (simp; done) | (simp; assumption) | (simp; omega) | (simp [*]; done)))) | (refine ia_loadC (Cl.of (hb1.keep st.keep (by simp))) rfl rfl rfl ?_ ?_; (focus (first | rfl | (simp; done) | (simp; assumption) | (simp; omega) | (simp [*]; done)))) | (refine ia_loadC (Cl.of (hb2.keep st.keep (by simp))) rfl rfl rfl ?_ ?_; (focus (first | rfl | (simp; done) | (simp; assumption) | (simp; omega) | (simp [*]; done)))))) | ((with_reducible refine gate_store rfl ?_); (first | (refine ia_storeAll st rfl rfl rfl rfl ?_ ?_ ?_ ?_; (focus (first | rfl | (simp; done) | (simp; assumption) | (simp; omega) | (simp [*]; done))); (focus (first | exact frv_one _ | exact fv_one _ | exact p8_one _ | exact k3_one _ | exact i1_one _ | (simp [Value.oneCell']; done))); (focus (first | rfl | (simp; done) | (simp; assumption) | (simp; omega) | (simp [*]; done))); clear st; intro _ st; (try simp only [List.set_cons_zero, List.set_cons_succ] at st)) | (refine ia_storeSeg st rfl rfl rfl rfl ?_ ?_ ?_ ?_; (focus (first | rfl | (simp; done) | (simp; assumption) | (simp; omega) | (simp [*]; done))); (focus (first | exact frv_one _ | exact fv_one _ | exact p8_one _ | exact k3_one _ | exact i1_one _ | (simp [Value.oneCell']; done))); (focus (first | omega | (simp; done) | (simp; omega) | (simp [*]; omega))); clear st; intro _ st; (try simp only [List.set_cons_zero, List.set_cons_succ] at st)))) | ((with_reducible refine gate_addr rfl ?_); (first | (refine' ia_slcP HP.out rfl rfl rfl rfl ?_ ?_ ?_) | (refine' ia_slcP HP2.out rfl rfl rfl rfl ?_ ?_ ?_)); rotate_left 1; (focus (first | exact (rfl : (0 : Int) = ((0 : Nat) : Int)) | exact (rfl : (1 : Int) = ((1 : Nat) : Int)) | exact rfl | exact HE1.out | exact HE2.out)); (focus (first | omega | (simp; done) | (simp; omega) | (simp [*]; omega)))))))
      go_ret2
      have ne : g ≠ g' := by
        have := st.nd
        simp only [List.map_cons, List.nodup_cons, List.mem_cons, not_or] at this
        exact fun e => this.1.1 e.symm
      rw [HALL.out] at HM HC HC' st
      exact ⟨_, _, rfl, ⟨g, cap, spare, g', cap', spare', by rw [← HM.out]; rfl, rfl, out_of st (.there .here), out_of st .here, ne, st.get (.there .here), st.get .here, HC.out, hcm, HC'.out, hcm'⟩, st.keep⟩
set_option maxHeartbeats 2000000 in
set_option maxRecDepth 100000 in
theorem l02Distinct_c (B : List Fm) (n : Nat) (hB : B.length = n) (hn : n ≤ 1000000) (p : Option Addr) (c : Nat) (w : World) (hr : Rd w p n (encs fv B)) :
    Calls Try.prog 79 #[.slice p n c] w (DistPost B n (dbk B).length w) := by
  have st := St.start w
  have HALL : Hid (dst (B.take n) = dst B) := hid (by rw [List.take_of_length_le (by omega)])
  have HLE := hid (fun k => dst_le (B.take k))
  have HJ := hid (fun w' hk => l02Repeats_c B n hB hn p c w' (hr.keep (w1 := w') hk))
  replace hB := hid hB
  go_enter Try.func79, Try.ntmps79
  go_wp2_with (first | (go_at_call 69; refine (HJ.out _ st.keep).mono ?_; rintro _ _ ⟨v, rfl, ⟨g, cap, spare, rfl, hg, hbg, hcap, hcm⟩, hk⟩; replace st := st.adopt hk hg hbg; clear hk hg hbg) | ((with_reducible refine gate_bsl rfl ?_); refine ia_bsl0 (sl := 10) st rfl rfl rfl ?_; clear st; intro B10 _ st) | ((with_reducible refine gate_bsl rfl ?_); refine ia_bsl0 (sl := 11) st rfl rfl rfl ?_; clear st; intro B11 _ st) | ((with_reducible refine gate_lst ?_); (first | ((with_reducible refine gate_load rfl ?_); (first | (refine' ia_load1 st rfl rfl rfl ?_ ?_; rotate_left 1; (focus (first | exact N0.out | exact N1.out | exact N2.out | exact N3.out | exact G0.out | exact G1.out | (refine frv_get _ _ ?_; (first | omega | (simp; done) | (simp; omega) | (simp [*]; omega))) | exact rfl))) | (refine' ia_load1Z (hb.keep st.keep (by simp)) rfl rfl rfl ?_ ?_; rotate_left 1; (focus exact rfl)) | (refine' ia_load1Z (hb'.keep st.keep (by simp)) rfl rfl rfl ?_ ?_; rotate_left 1; (focus exact rfl)) | (refine' ia_load1C (hb.keep st.keep (by simp)) rfl rfl rfl ?_ ?_; rotate_left 1; (focus (first | exact N0.out | exact N1.out | exact N2.out | exact N3.out | exact G0.out | exact G1.out | (refine frv_get _ _ ?_; (first | omega | (simp; done) | (simp; omega) | (simp [*]; omega))) | exact rfl))) | (refine' ia_load1C (hb'.keep st.keep (by simp)) rfl rfl rfl ?_ ?_; rotate_left 1; (focus (first | exact N0.out | exact N1.out | exact N2.out | exact N3.out | exact G0.out | exact G1.out | (refine frv_get _ _ ?_; (first | omega | (simp; done) | (simp; omega) | (simp [*]; omega))) | exact rfl))) | (refine' ia_load1B (hb1.keep st.keep (by simp)) rfl rfl rfl ?_ ?_; rotate_left 1; (focus (first | exact N0.out | exact N1.out | exact N2.out | exact N3.out | exact G0.out | exact G1.out | (refine frv_get _ _ ?_; (first | omega | (simp; done) | (simp; omega) | (simp [*]; omega))) | exact rfl))) | (refine' ia_load1B (hb2.keep st.keep (by simp)) rfl rfl rfl ?_ ?_; rotate_left 1; (focus (first | exact N0.out | exact N1.out | exact N2.out | exact N3.out | exact G0.out | exact G1.out | (refine frv_get _ _ ?_; (first | omega | (simp; done) | (simp; omega) | (simp [*]; omega))) | exact rfl))) | (refine ia_loadAll st rfl rfl rfl ?_ ?_; (focus (first | rfl | (simp; done) | (simp; assumption) | (simp; omega) | (simp [*]; done)))) | (refine ia_loadC (hb.keep st.keep (by simp)) rfl rfl rfl ?_ ?_; (focus (first | rfl | (simp; done) | (simp; assumption) | (simp; omega) | (simp [*]; done)))) | (refine ia_loadC (hb'.keep st.keep (by simp)) rfl rfl rfl ?_ ?_; (focus (first | rfl | (simp; done) | (simp; assumption) | (simp; omega) | (simp [*]; done)))) | (refine ia_loadC (Cl.of (hb1.keep st.keep (by simp))) rfl rfl rfl ?_ ?_; (focus (first | rfl | (simp; done) | (simp; assumption) | (simp; omega) | (simp [*]; done)))) | (refine ia_loadC (Cl.of (hb2.keep st.keep (by simp))) rfl rfl rfl ?_ ?_; (focus (first | rfl | (simp; done) | (simp; assumption) | (simp; omega) | (simp [*]; done)))))) | ((with_reducible refine gate_addr rfl ?_); (first | (refine' ia_slcP HP.out rfl rfl rfl rfl ?_ ?_ ?_) | (refine' ia_slcP HP2.out rfl rfl rfl rfl ?_ ?_ ?_)); rotate_left 1; (focus (first | exact (rfl : (0 : Int) = ((0 : Nat) : Int)) | exact (rfl : (1 : Int) = ((1 : Nat) : Int)) | exact rfl | exact HE1.out | exact HE2.out)); (focus (first | omega | (simp; done) | (simp; omega) | (simp [*]; omega)))))))
  obtain ⟨G, hG⟩ : ∃ G, g = G := ⟨_, rfl⟩
  obtain ⟨spare0, hs0⟩ : ∃ s, spare = s := ⟨_, rfl⟩
  rw [hG, hs0] at st
  rw [hG]
  clear hG hs0 hcap hcm
  go_loopw [5, 6, 7] (fun v u i wr => ∃ k m g cap g' cap' : Nat, ∃ spare spare' : List Value, k ≤ n ∧ m ≤ k ∧ Hid ((dst (B.take k)).1.length = m) ∧ i = .int .i64 k ∧ v = .slice (some ⟨g, 0, none⟩) m cap ∧ u = .slice (some ⟨g', 0, none⟩) k cap' ∧ St [] w wr [(g', encs i1 (plI (dst (B.take k)).2) ++ spare', 2), (g, encs fv (dst (B.take k)).1 ++ spare, 52), (G, encs i1 (repL B) ++ spare0, 2)] ∧ Hid ((encs fv (dst (B.take k)).1 ++ spare).length = cap * 12) ∧ cap ≤ maxLen ∧ Hid ((encs i1 (plI (dst (B.take k)).2) ++ spare').length = cap' * 1) ∧ cap' ≤ maxLen) (fun _ _ i _ => n - (intOf i).toNat)
  case atStart => exact ⟨0, 0, B10, 0, B11, 0, [], [], by omega, by omega, hid rfl, rfl, rfl, rfl, st, hid rfl, Nat.zero_le _, hid rfl, Nat.zero_le _⟩
  case round =>
    clear st
    obtain ⟨k, m, g, cap, g', cap', spare, spare', hk, hmk, HM, rfl, rfl, rfl, st, HC, hcm, HC', hcm'⟩ := hrel
    by_cases hlt : k < n
    · have hd : decide ((k : Int) < (n : Int)) = true := by simpa using hlt
      obtain ⟨b, f, hp, hcl⟩ := hr (by omega)
      have HP := hid hp
      have hkB : k < B.length := by rw [hB.out]; exact hlt
      have hb := hcl.seg fv_len hkB
      have HPL : Hid ((dst (B.take k)).2.length = k) := hid (by rw [dst_len, List.length_take, hB.out]; omega)
      have N0 : Hid ((encs i1 (repL B) ++ spare0)[0 + k * 1]? = some (.int .i64 (fidx B[k] B : Nat))) := hid (i1_at' (repL_get hkB))
      have N1 : Hid ((encs i1 (repL B) ++ spare0)[k]? = some (.int .i64 (fidx B[k] B : Nat))) := hid (i1_at (R := []) (repL_get hkB))
      have HNEW := hid (dst_new hkB)
      have HOLD := hid (dst_old hkB)
      obtain ⟨x, hx⟩ : ∃ x, B[k] = x := ⟨_, rfl⟩
      rw [hx] at hb N0 N1 HNEW HOLD
      obtain ⟨q, hq⟩ : ∃ q, fidx x B = q := ⟨_, rfl⟩
      rw [hq] at N0 N1 HNEW HOLD
      obtain ⟨O, hO⟩ : ∃ O, (dst (B.take k)).1 = O := ⟨_, rfl⟩
      obtain ⟨Q, hQ⟩ : ∃ Q, (dst (B.take k)).2 = Q := ⟨_, rfl⟩
      rw [hO] at HM st HC HNEW HOLD
      rw [hQ] at st HC' HPL HNEW HOLD
      clear hx hp hcl hkB hO hQ hq
      by_cases hqk : q = k
      · have HT := hid (HNEW.out hqk)
        have hd2 : decide ((q : Int) = (k : Int)) = true := by simp; omega
        have hd3 : ((q : Int) == (k : Int)) = true := by simp; omega
        have HMM := HM
        rw [HM.out] at HT
        clear hqk HNEW HOLD
        go_wp2_with (first | ((with_reducible refine gate_bsl rfl ?_); refine ia_bsl1 (sl := 27) st rfl rfl rfl rfl rfl ?_ (by decide) ?_; (focus (first | rfl | (simp; done) | (simp; assumption) | (simp; omega) | (simp [*]; done))); clear st; intro B27 _ st) | ((with_reducible refine gate_bsl rfl ?_); refine ia_bsl1 (sl := 34) st rfl rfl rfl rfl rfl ?_ (by decide) ?_; (focus (first | rfl | (simp; done) | (simp; assumption) | (simp; omega) | (simp [*]; done))); clear st; intro B34 _ st) | ((with_reducible refine gate_app rfl ?_); refine ia_appendR (news := (i1 (m : Nat))) (xs := (encs i1 (plI Q))) (spare := spare') st rfl rfl rfl rfl (by rw [encs_i1_length, plI_length, HPL.out, Nat.mul_one]) HC'.out hcm' (.fr (st.get (by repeat (first | exact At.here | apply At.there)))) (fun h => by cases h) (i1_len _) (i1_one _) (by unfold maxLen; omega) (by omega) ?_; clear st; intro g2 cap2 spare2 _ st hcap2 hcm2; (try simp only [List.set_cons_zero, List.set_cons_succ] at st)) | ((with_reducible refine gate_app rfl ?_); refine ia_appendR (news := (fv x)) (xs := (encs fv O)) (spare := spare) st rfl rfl rfl rfl (by rw [encs_fv_length, HM.out]) HC.out hcm (.fr (st.get (by repeat (first | exact At.here | apply At.there)))) (fun h => by cases h) (fv_len _) (fv_one _) (by unfold maxLen; omega) (by omega) ?_; clear st; intro g3 cap3 spare3 _ st hcap3 hcm3; (try simp only [List.set_cons_zero, List.set_cons_succ] at st)) | ((with_reducible refine gate_lst ?_); (first | ((with_reducible refine gate_load rfl ?_); (first | (refine' ia_load1 st rfl rfl rfl ?_ ?_; rotate_left 1; (focus (first | exact N0.out | exact N1.out | exact N2.out | exact N3.out | exact G0.out | exact G1.out | (refine frv_get _ _ ?_; (first | omega | (simp; done) | (simp; omega) | (simp [*]; omega))) | exact rfl))) | (refine' ia_load1Z (hb.keep st.keep (by simp)) rfl rfl rfl ?_ ?_; rotate_left 1; (focus exact rfl)) | (refine' ia_load1Z (hb'.keep st.keep (by simp)) rfl rfl rfl ?_ ?_; rotate_left 1; (focus exact rfl)) | (refine' ia_load1C (hb.keep st.keep (by simp)) rfl rfl rfl ?_ ?_; rotate_left 1; (focus (first | exact N0.out | exact N1.out | exact N2.out | exact N3.out | exact G0.out | exact G1.out | (refine frv_get _ _ ?_; (first | omega | (simp; done) | (simp; omega) | (simp [*]; omega))) | exact rfl))) | (refine' ia_load1C (hb'.keep st.keep (by simp)) rfl rfl rfl ?_ ?_; rotate_left 1; (focus (first | exact N0.out | exact N1.out | exact N2.out | exact N3.out | exact G0.out | exact G1.out | (refine frv_get _ _ ?_; (first | omega | (simp; done) | (simp; omega) | (simp [*]; omega))) | exact rfl))) | (refine' ia_load1B (hb1.keep st.keep (by simp)) rfl rfl rfl ?_ ?_; rotate_left 1; (focus (first | exact N0.out | exact N1.out | exact N2.out | exact N3.out | exact G0.out | exact G1.out | (refine frv_get _ _ ?_; (first | omega | (simp; done) | (simp; omega) | (simp [*]; omega))) | exact rfl))) | (refine' ia_load1B (hb2.keep st.keep (by simp)) rfl rfl rfl ?_ ?_; rotate_left 1; (focus (first | exact N0.out | exact N1.out | exact N2.out | exact N3.out | exact G0.out | exact G1.out | (refine frv_get _ _ ?_; (first | omega | (simp; done) | (simp; omega) | (simp [*]; omega))) | exact rfl))) | (refine ia_loadAll st rfl rfl rfl ?_ ?_; (focus (first | rfl | (simp; done) | (simp; assumption) | (simp; omega) | (simp [*]; done)))) | (refine ia_loadC (hb.keep st.keep (by simp)) rfl rfl rfl ?_ ?_; (focus (first | rfl | (simp; done) | (simp; assumption) | (simp; omega) | (simp [*]; done)))) | (refine ia_loadC (hb'.keep st.keep (by simp)) rfl rfl rfl ?_ ?_; (focus (first | rfl | (simp; done) | (simp; assumption) | (simp; omega) | (simp [*]; done)))) | (refine ia_loadC (Cl.of (hb1.keep st.keep (by simp))) rfl rfl rfl ?_ ?_; (focus (first | rfl | (simp; done) | (simp; assumption) | (simp; omega) | (simp [*]; done)))) | (refine ia_loadC (Cl.of (hb2.keep st.keep (by simp))) rfl rfl rfl ?_ ?_; (focus (first | rfl | (simp; done) | (simp; assumption) | (simp; omega) | (simp [*]; done)))))) | ((with_reducible refine gate_addr rfl ?_); (first | (refine' ia_slcP HP.out rfl rfl rfl rfl ?_ ?_ ?_) | (refine' ia_slcP HP2.out rfl rfl rfl rfl ?_ ?_ ?_)); rotate_left 1; (focus (first | exact (rfl : (0 : Int) = ((0 : Nat) : Int)) | exact (rfl : (1 : Int) = ((1 : Nat) : Int)) | exact rfl | exact HE1.out | exact HE2.out)); (focus (first | omega | (simp; done) | (simp; omega) | (simp [*]; omega)))))))
        have e : encs i1 (plI (Q ++ [m])) = encs i1 (plI Q) ++ i1 (m : Nat) := by rw [plI_snoc, encs_snoc]
        have e2 : encs fv (O ++ [x]) = encs fv O ++ fv x := encs_snoc _ _ _
        go_roundw
        case rel => exact ⟨k + 1, m + 1, g3, cap3, g2, cap2, spare3, spare2, by omega, by omega, hid (by rw [HT.out, List.length_append, HM.out]; rfl), by go_num, rfl, rfl, by rw [HT.out, e, e2]; exact st.drop.drop, hid (by rw [HT.out, e2]; exact hcap3), hcm3, hid (by rw [HT.out, e]; exact hcap2), hcm2⟩
        case measure => first | (simp [intOf]; done) | (simp [intOf]; omega)
      · obtain ⟨hqk2, r, hr1, hr2⟩ := HOLD.out hqk
        have HT := hid hr2
        have N2 : Hid ((encs i1 (plI Q) ++ spare')[0 + q * 1]? = some (.int .i64 (r : Nat))) := hid (i1_at' (plI_get hr1))
        have N3 : Hid ((encs i1 (plI Q) ++ spare')[q]? = some (.int .i64 (r : Nat))) := hid (i1_at (R := []) (plI_get hr1))
        have hd2 : decide ((q : Int) = (k : Int)) = false := by simp; omega
        have hd3 : ((q : Int) == (k : Int)) = false := by simp; omega
        clear hqk HNEW HOLD hr1 hr2
        go_wp2_with (first | ((with_reducible refine gate_bsl rfl ?_); refine ia_bsl1 (sl := 44) st rfl rfl rfl rfl rfl ?_ (by decide) ?_; (focus (first | rfl | (simp; done) | (simp; assumption) | (simp; omega) | (simp [*]; done))); clear st; intro B44 _ st) | ((with_reducible refine gate_app rfl ?_); refine ia_appendR (news := (i1 (r : Nat))) (xs := (encs i1 (plI Q))) (spare := spare') st rfl rfl rfl rfl (by rw [encs_i1_length, plI_length, HPL.out, Nat.mul_one]) HC'.out hcm' (.fr (st.get (by repeat (first | exact At.here | apply At.there)))) (fun h => by cases h) (i1_len _) (i1_one _) (by unfold maxLen; omega) (by omega) ?_; clear st; intro g2 cap2 spare2 _ st hcap2 hcm2; (try simp only [List.set_cons_zero, List.set_cons_succ] at st)) | ((with_reducible refine gate_lst ?_); (first | ((with_reducible refine gate_load rfl ?_); (first | (refine' ia_load1 st rfl rfl rfl ?_ ?_; rotate_left 1; (focus (first | exact N0.out | exact N1.out | exact N2.out | exact N3.out | exact G0.out | exact G1.out | (refine frv_get _ _ ?_; (first | omega | (simp; done) | (simp; omega) | (simp [*]; omega))) | exact rfl))) | (refine' ia_load1Z (hb.keep st.keep (by simp)) rfl rfl rfl ?_ ?_; rotate_left 1; (focus exact rfl)) | (refine' ia_load1Z (hb'.keep st.keep (by simp)) rfl rfl rfl ?_ ?_; rotate_left 1; (focus exact rfl)) | (refine' ia_load1C (hb.keep st.keep (by simp)) rfl rfl rfl ?_ ?_; rotate_left 1; (focus (first | exact N0.out | exact N1.out | exact N2.out | exact N3.out | exact G0.out | exact G1.out | (refine frv_get _ _ ?_; (first | omega | (simp; done) | (simp; omega) | (simp [*]; omega))) | exact rfl))) | (refine' ia_load1C (hb'.keep st.keep (by simp)) rfl rfl rfl ?_ ?_; rotate_left 1; (focus (first | exact N0.out | exact N1.out | exact N2.out | exact N3.out | exact G0.out | exact G1.out | (refine frv_get _ _ ?_; (first | omega | (simp; done) | (simp; omega) | (simp [*]; omega))) | exact rfl))) | (refine' ia_load1B (hb1.keep st.keep (by simp)) rfl rfl rfl ?_ ?_; rotate_left 1; (focus (first | exact N0.out | exact N1.out | exact N2.out | exact N3.out | exact G0.out | exact G1.out | (refine frv_get _ _ ?_; (first | omega | (simp; done) | (simp; omega) | (simp [*]; omega))) | exact rfl))) | (refine' ia_load1B (hb2.keep st.keep (by simp)) rfl rfl rfl ?_ ?_; rotate_left 1; (focus (first | exact N0.out | exact N1.out | exact N2.out | exact N3.out | exact G0.out | exact G1.out | (refine frv_get _ _ ?_; (first | omega | (simp; done) | (simp; omega) | (simp [*]; omega))) | exact rfl))) | (refine ia_loadAll st rfl rfl rfl ?_ ?_; (focus (first | rfl | (simp; done) | (simp; assumption) | (simp; omega) | (simp [*]; done)))) | (refine ia_loadC (hb.keep st.keep (by simp)) rfl rfl rfl ?_ ?_; (focus (first | rfl | (simp; done) | (simp; assumption) | (simp; omega) | (simp [*]; done)))) | (refine ia_loadC (hb'.keep st.keep (by simp)) rfl rfl rfl ?_ ?_; (focus (first | rfl | (simp; done) | (simp; assumption) | (simp; omega) | (simp [*]; done)))) | (refine ia_loadC (Cl.of (hb1.keep st.keep (by simp))) rfl rfl rfl ?_ ?_; (focus (first | rfl | (simp; done) | (simp; assumption) | (simp; omega) | (simp [*]; done)))) | (refine ia_loadC (Cl.of (hb2.keep st.keep (by simp))) rfl rfl rfl ?_ ?_; (focus (first | rfl | (simp; done) | (simp; assumption) | (simp; omega) | (simp [*]; done)))))) | ((with_reducible refine gate_addr rfl ?_); (first | (refine' ia_slcP HP.out rfl rfl rfl rfl ?_ ?_ ?_) | (refine' ia_slcP HP2.out rfl rfl rfl rfl ?_ ?_ ?_)); rotate_left 1; (focus (first | exact (rfl : (0 : Int) = ((0 : Nat) : Int)) | exact (rfl : (1 : Int) = ((1 : Nat) : Int)) | exact rfl | exact HE1.out | exact HE2.out)); (focus (first | omega | (simp; done) | (simp; omega) | (simp [*]; omega)))))))
        have e : encs i1 (plI (Q ++ [r])) = encs i1 (plI Q) ++ i1 (r : Nat) := by rw [plI_snoc, encs_snoc]
        go_roundw
        case rel => exact ⟨k + 1, m, g, cap, g2, cap2, spare, spare2, by omega, by omega, hid (by rw [HT.out]; exact HM.out), by go_num, rfl, rfl, by rw [HT.out, e]; exact st.drop, hid (by rw [HT.out]; exact HC.out), hcm, hid (by rw [HT.out, e]; exact hcap2), hcm2⟩
        case measure => first | (simp [intOf]; done) | (simp [intOf]; omega)
    · have hd : decide ((k : Int) < (n : Int)) = false := by simp; omega
      obtain rfl : k = n := by omega
      go_wp2_with (first | ((with_reducible refine gate_lst ?_); (first | ((with_reducible refine gate_load rfl ?_); (first | (refine' ia_load1 st rfl rfl rfl ?_ ?_; rotate_left 1; (focus (first | exact N0.out | exact N1.out | exact N2.out | exact N3.out | exact G0.out | exact G1.out | (refine frv_get _ _ ?_; (first | omega | (simp; done) | (simp; omega) | (simp [*]; omega))) | exact rfl))) | (refine' ia_load1Z (hb.keep st.keep (by simp)) rfl rfl rfl ?_ ?_; rotate_left 1; (focus exact rfl)) | (refine' ia_load1Z (hb'.keep st.keep (by simp)) rfl rfl rfl ?_ ?_; rotate_left 1; (focus exact rfl)) | (refine' ia_load1C (hb.keep st.keep (by simp)) rfl rfl rfl ?_ ?_; rotate_left 1; (focus (first | exact N0.out | exact N1.out | exact N2.out | exact N3.out | exact G0.out | exact G1.out | (refine frv_get _ _ ?_; (first | omega | (simp; done) | (simp; omega) | (simp [*]; omega))) | exact rfl))) | (refine' ia_load1C (hb'.keep st.keep (by simp)) rfl rfl rfl ?_ ?_; rotate_left 1; (focus (first | exact N0.out | exact N1.out | exact N2.out | exact N3.out | exact G0.out | exact G1.out | (refine frv_get _ _ ?_; (first | omega | (simp; done) | (simp; omega) | (simp [*]; omega))) | exact rfl))) | (refine' ia_load1B (hb1.keep st.keep (by simp)) rfl rfl rfl ?_ ?_; rotate_left 1; (focus (first | exact N0.out | exact N1.out | exact N2.out | exact N3.out | exact G0.out | exact G1.out | (refine frv_get _ _ ?_; (first | omega | (simp; done) | (simp; omega) | (simp [*]; omega))) | exact rfl))) | (refine' ia_load1B (hb2.keep st.keep (by simp)) rfl rfl rfl ?_ ?_; rotate_left 1; (focus (first | exact N0.out | exact N1.out | exact N2.out | exact N3.out | exact G0.out | exact G1.out | (refine frv_get _ _ ?_; (first | omega | (simp; done) | (simp; omega) | (simp [*]; omega))) | exact rfl))) | (refine ia_loadAll st rfl rfl rfl ?_ ?_; (focus (first | rfl | (simp; done) | (simp; assumption) | (simp; omega) | (simp [*]; done)))) | (refine ia_loadC (hb.keep st.keep (by simp)) rfl rfl rfl ?_ ?_; (focus (first | rfl | (simp; done) | (simp; assumption) | (simp; omega) | (simp [*]; done)))) | (refine ia_loadC (hb'.keep st.keep (by simp)) rfl rfl rfl ?_ ?_; (focus (first | rfl | (simp; done) | (simp; assumption) | (simp; omega) | (simp [*]; done)))) | (refine ia_loadC (Cl.of (hb1.keep st.keep (by simp))) rfl rfl rfl ?_ ?_; (focus (first | rfl | (simp; done) | (simp; assumption) | (simp; omega) | (simp [*]; done)))) | (refine ia_loadC (Cl.of (hb2.keep st.keep (by simp))) rfl rfl rfl ?_ ?_; (focus (first | rfl | (simp; done) | (simp; assumption) | (simp; omega) | (simp [*]; done)))))) | ((with_reducible refine gate_addr rfl ?_); (first | (refine' ia_slcP HP.out rfl rfl rfl rfl ?_ ?_ ?_) | (refine' ia_slcP HP2.out rfl rfl rfl rfl ?_ ?_ ?_)); rotate_left 1; (focus (first | exact (rfl : (0 : Int) = ((0 : Nat) : Int)) | exact (rfl : (1 : Int) = ((1 : Nat) : Int)) | exact rfl | exact HE1.out | exact HE2.out)); (focus (first | omega | (simp; done) | (simp; omega) | (simp [*]; omega)))))))
      go_ret2
      have ne : g ≠ g' := by
        have := st.nd
        simp only [List.map_cons, List.nodup_cons, List.mem_cons, not_or] at this
        exact fun e => this.1.1 e.symm
      rw [HALL.out] at HM HC HC' st
      exact ⟨_, _, rfl, ⟨g, cap, spare, g', cap', spare', by rw [← HM.out]; rfl, rfl, out_of st (.there .here), out_of st .here, ne, st.get (.there .here), st.get .here, HC.out, hcm, HC'.out, hcm'⟩, st.keep⟩
/-- Two slices and a code: both nil where nilOk lets it be. -/
def DistCode (R : List Fm) (I : List Int) (m n : Nat) (code : Int) (nilOk : Prop) (w : World) (e : Ending) (w' : World) : Prop :=
  ∃ v u, e = .returned (.tuple #[v, u, .int .i64 code]) ∧ ((nilOk ∧ (m = 0 ∧ n = 0) ∧ v = .slice none 0 0 ∧ u = .slice none 0 0) ∨ Gives2 52 2 12 1 m n (encs fv R) (encs i1 I) w v u w') ∧ Keep [] w w'
def disR (B : List Fm) : List Fm := if bkB B = true then dbk B else []
def disI (B : List Fm) : List Int := if bkB B = true then dpl B else []
theorem dpl_length (B : List Fm) : (dpl B).length = B.length := by unfold dpl; rw [plI_length, dst_len]
theorem specDistinct_c (B : List Fm) (n : Nat) (hB : B.length = n) (hn : n ≤ 1000000) (p : Option Addr) (c : Nat) (w : World) (hr : Rd w p n (encs fv B)) :
    Calls Try.prog 50 #[.slice p n c] w (DistCode (disR B) (disI B) (disR B).length (disI B).length (okC B) False w) := by
  have st := St.start w
  unfold disR disI okC
  rcases Bool.eq_false_or_eq_true (bkB B) with h | h
  · have HV := hid (fun w' hk => l02Ok_v h n hB (by omega) p c w' (hr.keep (w1 := w') hk))
    have HJ := hid (fun w' hk => l02Distinct_c B n hB hn p c w' (hr.keep (w1 := w') hk))
    rw [if_pos h, if_pos h, if_pos h, dpl_length, hB]
    go_enter Try.func50, Try.ntmps50
    go_wp2_with (first | (go_at_call 58; refine (HV.out _ st.keep).mono ?_; rintro _ _ ⟨rfl, hk⟩; replace st := st.call hk; clear hk) | (go_at_call 79; refine (HJ.out _ st.keep).mono ?_; rintro _ _ ⟨v, u, rfl, ⟨g, cap, spare, g', cap', spare', rfl, rfl, hg, hg', hne, hbg, hbg', hcap, hcm, hcap', hcm'⟩, hk⟩; replace st := st.adopt2 hk hg hg' hne hbg hbg'; clear hk hg hg' hne hbg hbg'))
    go_ret3
    have ne := st.nd
    simp only [List.map_cons, List.nodup_cons, List.mem_cons, not_or] at ne
    exact ⟨_, _, rfl, Or.inr ⟨g, cap, spare, g', cap', spare', rfl, rfl, out_of st .here, out_of st (.there .here), ne.1.1, st.get .here, st.get (.there .here), hcap, hcm, hcap', hcm'⟩, st.keep⟩
  · have HV := hid (fun w' hk => l02Ok_v h n hB (by omega) p c w' (hr.keep (w1 := w') hk))
    rw [if_neg (by rw [h]; decide), if_neg (by rw [h]; decide), if_neg (by rw [h]; decide)]
    go_enter Try.func50, Try.ntmps50
    go_wp2_with (first | (go_at_call 58; refine (HV.out _ st.keep).mono ?_; rintro _ _ ⟨rfl, hk⟩; replace st := st.call hk; clear hk) | ((with_reducible refine gate_bsl rfl ?_); refine ia_bsl0 (sl := 10) st rfl rfl rfl ?_; clear st; intro B10 _ st) | ((with_reducible refine gate_bsl rfl ?_); refine ia_bsl0 (sl := 11) st rfl rfl rfl ?_; clear st; intro B11 _ st))
    go_ret3
    have ne := st.nd
    simp only [List.map_cons, List.nodup_cons, List.mem_cons, not_or] at ne
    exact ⟨_, _, rfl, Or.inr ⟨B10, 0, [], B11, 0, [], rfl, rfl, out_of st (.there .here), out_of st .here, fun e => ne.1.1 e.symm, st.get (.there .here), st.get .here, rfl, Nat.zero_le _, rfl, Nat.zero_le _⟩, st.keep⟩
theorem Distinct_c (B : List Fm) (n : Nat) (hB : B.length = n) (hn : n ≤ 1000000) (p : Option Addr) (c : Nat) (w : World) (hr : Rd w p n (encs fv B)) :
    Calls Try.prog 51 #[.slice p n c] w (DistCode (disR B) (disI B) (disR B).length (disI B).length (okC B) True w) := by
  have st := St.start w
  unfold disR disI okC
  rcases Bool.eq_false_or_eq_true (bkB B) with h | h
  · have HV := hid (fun w' hk => ValidBook_v h n hB (by omega) p c w' (hr.keep (w1 := w') hk))
    have HJ := hid (fun w' hk => distinct_c B n hB hn p c w' (hr.keep (w1 := w') hk))
    rw [if_pos h, if_pos h, if_pos h, dpl_length, hB]
    go_enter Try.func51, Try.ntmps51
    go_wp2_with (first | (go_at_call 23; refine (HV.out _ st.keep).mono ?_; rintro _ _ ⟨rfl, hk⟩; replace st := st.call hk; clear hk) | (go_at_call 80; refine (HJ.out _ st.keep).mono ?_; rintro _ _ ⟨v, u, rfl, ⟨g, cap, spare, g', cap', spare', rfl, rfl, hg, hg', hne, hbg, hbg', hcap, hcm, hcap', hcm'⟩, hk⟩; replace st := st.adopt2 hk hg hg' hne hbg hbg'; clear hk hg hg' hne hbg hbg'))
    go_ret3
    have ne := st.nd
    simp only [List.map_cons, List.nodup_cons, List.mem_cons, not_or] at ne
    exact ⟨_, _, rfl, Or.inr ⟨g, cap, spare, g', cap', spare', rfl, rfl, out_of st .here, out_of st (.there .here), ne.1.1, st.get .here, st.get (.there .here), hcap, hcm, hcap', hcm'⟩, st.keep⟩
  · have HV := hid (fun w' hk => ValidBook_v h n hB (by omega) p c w' (hr.keep (w1 := w') hk))
    rw [if_neg (by rw [h]; decide), if_neg (by rw [h]; decide), if_neg (by rw [h]; decide)]
    go_enter Try.func51, Try.ntmps51
    go_wp2_with (first | (go_at_call 23; refine (HV.out _ st.keep).mono ?_; rintro _ _ ⟨rfl, hk⟩; replace st := st.call hk; clear hk))
    go_ret3
    exact ⟨_, _, rfl, Or.inl ⟨trivial, ⟨rfl, rfl⟩, rfl, rfl⟩, st.keep⟩
end Go.Proofs.Ytmfgbkmkcljciaa
