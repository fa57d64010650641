/- Texts of this seat, one behind the other: Src, Src2, Fb1; no condition. -/
import Derived.Test.YtmfgbkmkcljciaaGreatDoorM7
import Derived.Test.YtmfgbkmkcljciaaGreatDoorM3
import Derived.Test.YtmfgbkmkcljciaaGreatDoorM6
import Derived.Test.YtmfgbkmkcljciaaGreatDoorM4
/- Drawn frames, whichever they are: they are valid; no condition. -/
namespace Go.Proofs.YtmfgbkmkcljciaaGreatDoor
open Go.RowKit
open IntWalk (u16_in)
set_option linter.unusedSimpArgs false
set_option linter.unusedVariables false
/-- A source at block g reads given bytes that stand elsewhere. -/
structure SrcOk (p : Option Addr) (m g : Nat) (w : World) : Prop where
  le : m ≤ 4096
  ex : ∃ B : List Int, B.length = m ∧ (∀ x ∈ B, 0 ≤ x ∧ x ≤ 255) ∧ Rd w p m (encs u1 B)
  ne : 0 < m → ∀ b f, p = some ⟨b, f, none⟩ → b ≠ g
theorem SrcOk.keep {p : Option Addr} {m g : Nat} {w w' : World} (h : SrcOk p m g w) (hk : Keep [g] w w') : SrcOk p m g w' := by
  obtain ⟨B, h1, h2, h3⟩ := h.ex
  exact ⟨h.le, ⟨B, h1, h2, h3.keepM hk h.ne⟩, h.ne⟩
def Sd (s : Int) : Prop := 0 ≤ s ∧ s < 18446744073709551616
def PickPost (p : Option Addr) (m c g k : Nat) (T : TypeId) (n : Int) (w : World) (e : Ending) (w' : World) : Prop := ∃ (v s' : Int) (k' : Nat), e = .returned (.int .i64 v) ∧ (0 ≤ v ∧ v < n) ∧ Sd s' ∧ k' ≤ k + 2 ∧ Keep [g] w w' ∧ Blk w' g (srcC p m c k' s') T
def OnePost (p : Option Addr) (m c g k : Nat) (T : TypeId) (w : World) (e : Ending) (w' : World) : Prop := ∃ (v : Bool) (s' : Int) (k' : Nat), e = .returned (.bool v) ∧ Sd s' ∧ k' ≤ k + 2 ∧ Keep [g] w w' ∧ Blk w' g (srcC p m c k' s') T
set_option maxRecDepth 100000 in
theorem pick_s {p : Option Addr} {m c g k : Nat} {s : Int} {T : TypeId} {n : Int} {w : World} (h : SrcOk p m g w) (hb : Blk w g (srcC p m c k s) T) (hs : Sd s) (hk : k ≤ 9998) (hn : 1 ≤ n) (hn2 : n ≤ 65536) :
    Calls Tryz.prog 62 #[.pointer (some ⟨g, 0, none⟩), .int .i64 n] w (PickPost p m c g k T n w) := by
  by_cases h1 : 1 < n
  · obtain ⟨B, b1, b2, b3⟩ := h.ex
    exact (pick_c B m b1 h.le b2 p c g k s T n h1 hn2 hk hs.1 hs.2 w b3 hb h.ne).mono fun e w' ⟨v, s', k', e1, e2, e3, e4, e5, e6⟩ => ⟨v, s', k', e1, e2, e3, e4, e5, e6⟩
  · obtain rfl : n = 1 := by omega
    have st := St.start1 hb
    clear h1 hn hn2
    go_enter Tryz.func62, Tryz.ntmps62
    go_wp2_with fail
    go_ret
    exact ⟨0, s, k, rfl, ⟨by omega, by omega⟩, hs, by omega, st.keep, st.get .here⟩
theorem one_s {p : Option Addr} {m c g k : Nat} {s : Int} {T : TypeId} {n : Int} {w : World} (h : SrcOk p m g w) (hb : Blk w g (srcC p m c k s) T) (hs : Sd s) (hk : k ≤ 9998) (hn : 1 < n) (hn2 : n ≤ 65536) :
    Calls Tryz.prog 82 #[.pointer (some ⟨g, 0, none⟩), .int .i64 n] w (OnePost p m c g k T w) := by
  obtain ⟨B, b1, b2, b3⟩ := h.ex
  exact (one_c B m b1 h.le b2 p c g k s T n hn hn2 hk hs.1 hs.2 w b3 hb h.ne).mono fun e w' ⟨v, s', k', e1, e3, e4, e5, e6⟩ => ⟨v, s', k', e1, e3, e4, e5, e6⟩
/-! Frames -/
theorem frOk_ok {f : List Nat} (hl : f.length = 12) (h : okB f = true) : FrOk f := ⟨hl, fun x hx => by
  have := List.all_eq_true.1 h x hx
  simp at this
  omega⟩
theorem putI_len {f : List Nat} (hl : f.length = 12) (x y : Int) : (putI f x y).length = 12 := by unfold putI; split <;> simp [withD_length, hl]
theorem putI_okB {f : List Nat} (hl : f.length = 12) (h : okB f = true) (x y : Int) : okB (putI f x y) = true := by
  unfold putI
  split
  · rename_i hp
    obtain ⟨h1, h2, h3, h4⟩ := placeB_iff.1 hp
    exact withD_ok hl h (by omega) (by omega)
  · exact h
theorem or_okB {f : List Nat} (hl : f.length = 12) (h : okB f = true) {y v : Nat} (hy : y < 12) (hv : v < 4096) : okB (f.set y (ro f y ||| v)) = true := by
  apply okB_of
  intro k hk
  rw [ro_set _ _ _ _ (by omega)]
  split
  · have h1 := okB_ro h y
    have : ro f y ||| v < 4096 := Nat.or_lt_two_pow (n := 12) h1 hv
    exact Nat.le_of_lt_succ this
  · have := okB_ro h k
    omega
theorem over_okB (t : Nat × Nat → Int × Int) (f : List Nat) (k : Nat) : okB (over t f k) = true := by unfold over putAll; exact mk_ok _
def mvT (e s : Int) (d : Nat × Nat) : Int × Int := ((d.1 : Int) + e, (d.2 : Int) + s)
set_option maxRecDepth 100000 in
set_option maxHeartbeats 1000000 in
theorem l01Moved_c (f : List Nat) (ok : FrOk f) (b o : Nat) (e s : Int) (he : -100 ≤ e ∧ e ≤ 100) (hs : -100 ≤ s ∧ s ≤ 100) (w : World) (hb : Cl w b o (frv f)) :
    Calls Tryz.prog 63 #[.pointer (some ⟨b, o, none⟩), .int .i64 e, .int .i64 s] w fun r w' => r = .returned (.agg (frv (over (mvT e s) f (dots f).length)).toArray) ∧ Keep [] w w' := by
  have hf := ok.len
  have st := St.start w
  have hdl := dots_length f
  go_enter Tryz.func63, Tryz.ntmps63
  go_wp2_with (first | ((with_reducible refine gate_alloc rfl ?_); (with_reducible refine gate_dst (N := 6) rfl ?_); refine wpl_alloc rfl _ rfl tFr.toAggT st ?_; clear st; intro B6 _ st) | ((with_reducible refine gate_build rfl ?_); refine wpl_zero rfl _ rfl _ tFrB ?_) | ((with_reducible refine gate_alloc rfl ?_); (with_reducible refine gate_dst (N := 7) rfl ?_); refine wpl_alloc rfl _ rfl tFr.toAggT st ?_; clear st; intro B7 _ st) | ((with_reducible refine gate_store rfl ?_); refine wpl_storeAll rfl _ _ _ rfl _ rfl _ rfl tFr.toAggT (by simp [frv_length, zf_length, mk_length, withD_length, part_length, rowsOf_length, *]) (frv_one _) st _ _ (by repeat (first | exact Upd.here | apply Upd.there)) (by simp [frv_length, zf_length, mk_length, withD_length, part_length, rowsOf_length, *]) ?_; clear st; intro _ st) | (go_at_call 84; refine (l01Dots_c f ok _ _ _ (hb.keep st.keep (by simp))).mono ?_; rintro _ _ ⟨v, rfl, ⟨g, cap, spare, rfl, hg, hbg, hcap, hcm⟩, hk⟩; replace st := st.adopt hk hg hbg; clear hk hg hbg hcap hcm))
  rw [← over_zero (mvT e s) f] at st
  go_loopw [9] (fun i wr => ∃ k : Nat, k ≤ (dots f).length ∧ i = .int .i64 k ∧ St [] w wr [(g, dtv (dots f) ++ spare, 108), (B7, frv (over (mvT e s) f k), 42), (B6, List.replicate 12 (Value.int .u16 0), 42)]) (fun i _ => (dots f).length - (intOf i).toNat)
  case atStart => exact ⟨0, by omega, rfl, st⟩
  case round =>
    clear st
    obtain ⟨k, hk, rfl, st⟩ := hrel
    by_cases hlt : k < (dots f).length
    · have hdk : decide ((k : Int) < ((dots f).length : Int)) = true := by simpa using hlt
      obtain ⟨dx, dy, hdx, hdy, G0, G1, HS⟩ := dot_at hlt
      replace G0 := hid (G0 spare)
      replace G1 := hid (G1 spare)
      have hol := over_length (mvT e s) f k
      replace HS := hid (HS (mvT e s))
      go_wp2_with fail
      (refine wp_region_tail_st st 16 (by kernel_rfl) (by kernel_rfl) ?_; clear st; simp only [List.take_succ_cons, List.take_zero, List.drop_succ_cons, List.drop_zero]; (repeat ((first | (refine wpq_move rfl _ rfl _ rfl ?_) | ((with_reducible refine qgate_addr rfl ?_); refine wpq_slcAddr rfl _ _ _ rfl _ _ _ _ rfl _ _ rfl tDotS k rfl hlt ?_) | ((with_reducible refine qgate_dst (N := 22) rfl ?_); ((with_reducible refine qgate_field rfl ?_); refine wpq_field rfl _ _ 0 rfl _ _ rfl 0 fld_dot0 ?_)) | ((with_reducible refine qgate_dst (N := 30) rfl ?_); ((with_reducible refine qgate_field rfl ?_); refine wpq_field rfl _ _ 1 rfl _ _ rfl 1 fld_dot1 ?_)) | ((with_reducible refine qgate_dst (N := 23) rfl ?_); ((with_reducible refine qgate_load rfl ?_); refine wpq_load1 rfl _ _ rfl _ rfl tI8 _ (fun _ hw => (hw.get (by repeat (first | exact At.here | apply At.there))).cellv G0.out) ?_)) | ((with_reducible refine qgate_dst (N := 31) rfl ?_); ((with_reducible refine qgate_load rfl ?_); refine wpq_load1 rfl _ _ rfl _ rfl tI8 _ (fun _ hw => (hw.get (by repeat (first | exact At.here | apply At.there))).cellv G1.out) ?_)) | ((with_reducible refine qgate_dst (N := 24) rfl ?_); ((with_reducible refine qgate_conv rfl ?_); refine wpq_conv rfl _ _ _ rfl _ _ _ (dx : Int) rfl rfl (by kernel_rfl) (IntWalk.i64_in _ (by omega)) ?_)) | ((with_reducible refine qgate_dst (N := 32) rfl ?_); ((with_reducible refine qgate_conv rfl ?_); refine wpq_conv rfl _ _ _ rfl _ _ _ (dy : Int) rfl rfl (by kernel_rfl) (IntWalk.i64_in _ (by omega)) ?_)) | ((with_reducible refine qgate_dst (N := 26) rfl ?_); ((with_reducible refine qgate_bin rfl ?_); refine wpq_bin rfl _ _ _ _ _ rfl _ _ _ _ rfl rfl (.int .i64 ((dx : Int) + e)) (fun w' => run_add64 (by omega) (by omega) w') ?_)) | ((with_reducible refine qgate_dst (N := 34) rfl ?_); ((with_reducible refine qgate_bin rfl ?_); refine wpq_bin rfl _ _ _ _ _ rfl _ _ _ _ rfl rfl (.int .i64 ((dy : Int) + s)) (fun w' => run_add64 (by omega) (by omega) w') ?_))); (simp only [Act.put, Act.eval, Array.getD_eq_getD_getElem?, List.getElem?_toArray, List.getElem?_cons_succ, List.getElem?_cons_zero, Option.getD_some, List.setIfInBounds_toArray, List.set_cons_succ, List.set_cons_zero, List.getElem_toArray, List.getElem_cons_succ, List.getElem_cons_zero]))); refine wpQuiet_nil ?_; intro _ st)
      go_wp2_with (first | (go_at_call 81; refine (l01Put_c (over (mvT e s) f k) (over_frOk _ _ _) _ _ ((dx : Int) + e) ((dy : Int) + s) _ (st.get (.there .here))).mono ?_; rintro _ _ ⟨rfl, hk, hb1⟩; replace st := st.wrote (by repeat (first | exact Upd.here | apply Upd.there)) hk hb1; clear hk hb1))
      rw [show putI (over (mvT e s) f k) ((dx : Int) + e) ((dy : Int) + s) = over (mvT e s) f (k + 1) from HS.out] at st
      go_roundw
      case rel => exact ⟨k + 1, by omega, by go_num, st⟩
      case measure => simp [intOf]; omega
    · obtain rfl : k = (dots f).length := by omega
      have hol := over_length (mvT e s) f (dots f).length
      go_wp2_with (first | ((with_reducible refine gate_load rfl ?_); refine wpl_loadAll rfl _ _ rfl _ rfl tFr.toAggT _ _ (st.get (by repeat (first | exact At.here | apply At.there))) (by rw [frv_length, hol]) ?_) | ((with_reducible refine gate_store rfl ?_); refine wpl_storeAll rfl _ _ _ rfl _ rfl _ rfl tFr.toAggT (by rw [frv_length, hol]) (frv_one _) st _ _ (by repeat (first | exact Upd.here | apply Upd.there)) (by simp) ?_; clear st; intro _ st))
      refine bodyPost_cell rfl tFr.toAggT rfl _ rfl _ _ (st.get (by repeat (first | exact At.here | apply At.there))) (by rw [frv_length, hol]) ?_
      exact ⟨rfl, st.keep⟩
theorem run_remD {P : Program} {T : TypeId} {n : Int} (h0 : 0 ≤ n) (h1 : n ≤ 1000) (w : World) : (binOp .rem T (.int .i64 n) (.int .i64 12)).run P w = .ok (.int .i64 (n % 12)) w := by
  have h : n.tmod 12 = n % 12 := Int.tmod_eq_emod_of_nonneg h0
  have h2 : 0 ≤ n % 12 ∧ n % 12 < 12 := by omega
  have e := IntWalk.i64_in (n % 12) ⟨by omega, by omega⟩
  rw [← h] at e ⊢
  go_simp
def DrawnF (p : Option Addr) (m c g k : Nat) (T : TypeId) (w : World) (e : Ending) (w' : World) : Prop := ∃ (f : List Nat) (s' : Int) (k' : Nat), e = .returned (.agg (frv f).toArray) ∧ f.length = 12 ∧ okB f = true ∧ Sd s' ∧ k' ≤ k + 112 ∧ Keep [g] w w' ∧ Blk w' g (srcC p m c k' s') T
theorem six {v : Int} (h : 0 ≤ v ∧ v < 6) : v = 0 ∨ v = 1 ∨ v = 2 ∨ ((v == 0) = false ∧ (v == 1) = false ∧ (v == 2) = false) := by
  by_cases h0 : v = 0
  · exact Or.inl h0
  · by_cases h1 : v = 1
    · exact Or.inr (Or.inl h1)
    · by_cases h2 : v = 2
      · exact Or.inr (Or.inr (Or.inl h2))
      · exact Or.inr (Or.inr (Or.inr ⟨by rw [beq_eq_false_iff_ne]; exact h0, by rw [beq_eq_false_iff_ne]; exact h1, by rw [beq_eq_false_iff_ne]; exact h2⟩))

set_option maxRecDepth 100000 in
set_option maxHeartbeats 4000000 in
theorem l01Drawn_c {p : Option Addr} {m c g k : Nat} {s : Int} {T : TypeId} {w : World} (h : SrcOk p m g w) (hb : Blk w g (srcC p m c k s) T) (hs : Sd s) (hk : k ≤ 9000) :
    Calls Tryz.prog 61 #[.pointer (some ⟨g, 0, none⟩)] w (DrawnF p m c g k T w) := by
  have st := St.start1 hb
  have SRC := hid (fun w' (hk : Keep [g] w w') => h.keep hk)
  clear h hb
  go_enter Tryz.func61, Tryz.ntmps61
  go_wp2_with (first | (go_at_call 62; refine (pick_s (SRC.out _ st.keep) (st.get (by repeat (first | exact At.here | apply At.there))) (by assumption) (by omega) (by omega) (by omega)).mono ?_; rintro _ _ ⟨v, s', k', rfl, hv, hs', hk', hk, hb1⟩; replace st := st.wrote (by ((repeat (first | exact Upd.here | apply Upd.there)); done)) hk hb1; clear hk hb1) | ((with_reducible refine gate_lst ?_); (first | ((with_reducible refine gate_alloc rfl ?_); (first | (refine ia_alloc (sl := 2) st rfl rfl rfl ?_; clear st; intro B2 _ st) | (refine ia_alloc (sl := 3) st rfl rfl rfl ?_; clear st; intro B3 _ st))) | ((with_reducible refine gate_load rfl ?_); (first | (refine' ia_load1 st rfl rfl rfl ?_ ?_; rotate_left 1; (focus (first | exact N0.out | exact N1.out | exact N2.out | exact N3.out | exact N4.out | exact N5.out | exact G2.out | exact G3.out | exact G4.out | exact G0.out | exact G1.out | (refine frv_get _ _ ?_; (first | omega | (simp; done) | (simp; omega) | (simp [*]; omega))) | exact rfl))) | (refine' ia_load1Z (hb.keep st.keep (by simp)) rfl rfl rfl ?_ ?_; rotate_left 1; (focus exact rfl)) | (refine' ia_load1Z (hb'.keep st.keep (by simp)) rfl rfl rfl ?_ ?_; rotate_left 1; (focus exact rfl)) | (refine' ia_load1C (hb.keep st.keep (by simp)) rfl rfl rfl ?_ ?_; rotate_left 1; (focus (first | exact N0.out | exact N1.out | exact N2.out | exact N3.out | exact N4.out | exact N5.out | exact G2.out | exact G3.out | exact G4.out | exact G0.out | exact G1.out | (refine frv_get _ _ ?_; (first | omega | (simp; done) | (simp; omega) | (simp [*]; omega))) | exact rfl))) | (refine' ia_load1C (hb'.keep st.keep (by simp)) rfl rfl rfl ?_ ?_; rotate_left 1; (focus (first | exact N0.out | exact N1.out | exact N2.out | exact N3.out | exact N4.out | exact N5.out | exact G2.out | exact G3.out | exact G4.out | exact G0.out | exact G1.out | (refine frv_get _ _ ?_; (first | omega | (simp; done) | (simp; omega) | (simp [*]; omega))) | exact rfl))) | (refine' ia_load1B (hb1.keep st.keep (by simp)) rfl rfl rfl ?_ ?_; rotate_left 1; (focus (first | exact N0.out | exact N1.out | exact N2.out | exact N3.out | exact N4.out | exact N5.out | exact G2.out | exact G3.out | exact G4.out | exact G0.out | exact G1.out | (refine frv_get _ _ ?_; (first | omega | (simp; done) | (simp; omega) | (simp [*]; omega))) | exact rfl))) | (refine' ia_load1B (hb2.keep st.keep (by simp)) rfl rfl rfl ?_ ?_; rotate_left 1; (focus (first | exact N0.out | exact N1.out | exact N2.out | exact N3.out | exact N4.out | exact N5.out | exact G2.out | exact G3.out | exact G4.out | exact G0.out | exact G1.out | (refine frv_get _ _ ?_; (first | omega | (simp; done) | (simp; omega) | (simp [*]; omega))) | exact rfl))) | (refine ia_loadAll st rfl rfl rfl ?_ ?_; (focus (first | rfl | (simp; done) | (simp; assumption) | (simp; omega) | (simp [*]; done)))) | (refine ia_loadC (hb.keep st.keep (by simp)) rfl rfl rfl ?_ ?_; (focus (first | rfl | (simp; done) | (simp; assumption) | (simp; omega) | (simp [*]; done)))) | (refine ia_loadC (hb'.keep st.keep (by simp)) rfl rfl rfl ?_ ?_; (focus (first | rfl | (simp; done) | (simp; assumption) | (simp; omega) | (simp [*]; done)))) | (refine ia_loadC (Cl.of (hb1.keep st.keep (by simp))) rfl rfl rfl ?_ ?_; (focus (first | rfl | (simp; done) | (simp; assumption) | (simp; omega) | (simp [*]; done)))) | (refine ia_loadC (Cl.of (hb2.keep st.keep (by simp))) rfl rfl rfl ?_ ?_; (focus (first | rfl | (simp; done) | (simp; assumption) | (simp; omega) | (simp [*]; done)))))) | ((with_reducible refine gate_store rfl ?_); (first | (refine ia_store1 st rfl rfl rfl rfl rfl rfl ?_ ?_; (focus (first | omega | (simp; done) | (simp; omega) | (simp [*]; omega))); clear st; intro _ st; (try simp only [Act.put, Act.eval, Array.getD_eq_getD_getElem?, List.getElem?_toArray, List.getElem?_cons_succ, List.getElem?_cons_zero, Option.getD_some, List.setIfInBounds_toArray, List.getElem_toArray, List.getElem_cons_succ, List.getElem_cons_zero, List.set_cons_zero, List.set_cons_succ] at st)) | (refine ia_storeAll st rfl rfl rfl rfl ?_ ?_ ?_ ?_; (focus (first | rfl | (simp; done) | (simp; assumption) | (simp; omega) | (simp [*]; done))); (focus (first | exact frv_one _ | exact fv_one _ | exact p8_one _ | exact k3_one _ | exact i1_one _ | (simp [Value.oneCell']; done))); (focus (first | rfl | (simp; done) | (simp; assumption) | (simp; omega) | (simp [*]; done))); clear st; intro _ st; (try simp only [List.set_cons_zero, List.set_cons_succ] at st)) | (refine ia_storeSeg st rfl rfl rfl rfl ?_ ?_ ?_ ?_; (focus (first | rfl | (simp; done) | (simp; assumption) | (simp; omega) | (simp [*]; done))); (focus (first | exact frv_one _ | exact fv_one _ | exact p8_one _ | exact k3_one _ | exact i1_one _ | (simp [Value.oneCell']; done))); (focus (first | omega | (simp; done) | (simp; omega) | (simp [*]; omega))); clear st; intro _ st; (try simp only [List.set_cons_zero, List.set_cons_succ] at st)))) | ((with_reducible refine gate_addr rfl ?_); (first | (refine' ia_slcP HP.out rfl rfl rfl rfl ?_ ?_ ?_) | (refine' ia_slcP HP2.out rfl rfl rfl rfl ?_ ?_ ?_)); rotate_left 1; (focus (first | exact (rfl : (0 : Int) = ((0 : Nat) : Int)) | exact (rfl : (1 : Int) = ((1 : Nat) : Int)) | exact rfl | exact HE1.out | exact HE2.out)); (focus (first | omega | (simp; done) | (simp; omega) | (simp [*]; omega)))) | ((with_reducible refine gate_build rfl ?_); refine' la_build ?_ rfl rfl ?_; rotate_left 1; (focus ((try simp only [List.map_cons, List.map_nil, Act.put, Act.eval, Array.getD_eq_getD_getElem?, List.getElem?_toArray, List.getElem?_cons_succ, List.getElem?_cons_zero, Option.getD_some, List.setIfInBounds_toArray, List.set_cons_succ, List.set_cons_zero, List.getElem_toArray, List.getElem_cons_succ, List.getElem_cons_zero]); (first | (with_reducible exact tFrB) | (with_reducible exact built_fil))))))) | ((with_reducible refine qgate_nil ?_); refine wpQuiet_nil ?_; (try intro _ st)) | ((with_reducible refine qgate_any ?_); (first | ((first | (with_reducible refine qg_move rfl ?_)); refine qa_val (fun _ _ => rfl) rfl ?_) | ((with_reducible refine qgate_load rfl ?_); (first | (refine' iq_load1 rfl rfl rfl ?_ ?_; rotate_left 1; (focus (first | exact N0.out | exact N1.out | exact N2.out | exact N3.out | exact N4.out | exact N5.out | exact G2.out | exact G3.out | exact G4.out | exact G0.out | exact G1.out | (refine frv_get _ _ ?_; (first | omega | (simp; done) | (simp; omega) | (simp [*]; omega))) | exact rfl))) | (refine' iq_load1Z hb rfl rfl rfl ?_ ?_; rotate_left 1; (focus exact rfl)) | (refine' iq_load1Z hb' rfl rfl rfl ?_ ?_; rotate_left 1; (focus exact rfl)) | (refine' iq_load1C hb rfl rfl rfl ?_ ?_; rotate_left 1; (focus (first | exact N0.out | exact N1.out | exact N2.out | exact N3.out | exact N4.out | exact N5.out | exact G2.out | exact G3.out | exact G4.out | exact G0.out | exact G1.out | (refine frv_get _ _ ?_; (first | omega | (simp; done) | (simp; omega) | (simp [*]; omega))) | exact rfl))) | (refine' iq_load1C hb' rfl rfl rfl ?_ ?_; rotate_left 1; (focus (first | exact N0.out | exact N1.out | exact N2.out | exact N3.out | exact N4.out | exact N5.out | exact G2.out | exact G3.out | exact G4.out | exact G0.out | exact G1.out | (refine frv_get _ _ ?_; (first | omega | (simp; done) | (simp; omega) | (simp [*]; omega))) | exact rfl))))) | ((with_reducible refine qgate_addr rfl ?_); (first | (refine' iq_slc rfl rfl rfl rfl ?_ ?_ ?_) | (refine' iq_slcP HP.out rfl rfl rfl rfl ?_ ?_ ?_) | (refine' iq_slcP HP2.out rfl rfl rfl rfl ?_ ?_ ?_) | (refine' iq_arr rfl rfl rfl rfl ?_ ?_ ?_)); rotate_left 1; (focus (first | exact (rfl : (0 : Int) = ((0 : Nat) : Int)) | exact (rfl : (1 : Int) = ((1 : Nat) : Int)) | exact rfl | exact HE1.out | exact HE2.out)); (focus (first | omega | (simp; done) | (simp; omega) | (simp [*]; omega)))) | ((with_reducible refine qgate_conv rfl ?_); refine' iq_conv rfl rfl rfl ?_ ?_; rotate_left 1; (focus (first | (refine IntWalk.i64_in _ ?_; omega) | (refine i8_wrap ?_ ?_ <;> omega) | exact rfl))) | ((with_reducible refine qgate_bin rfl ?_); refine' qa_bin ?_ rfl rfl rfl rfl ?_; rotate_left 1; (focus (first | exact run_add64 (by omega) (by omega) | exact run_sub64 (by omega) (by omega) | (intro w'; go_simp; exact rfl))))); all_goals (try (simp only [Nat.zero_add, Nat.add_zero, Nat.mul_one, Nat.zero_mul, Act.put, Act.eval, Array.getD_eq_getD_getElem?, List.getElem?_toArray, List.getElem?_cons_succ, List.getElem?_cons_zero, Option.getD_some, List.setIfInBounds_toArray, List.set_cons_succ, List.set_cons_zero, List.getElem_toArray, List.getElem_cons_succ, List.getElem_cons_zero]))) | ((with_reducible refine rgate (id := 20) ?_); refine wp_region_sched_st (id := 20) st [0, 1, 2, 3, 4] [5, 6, 7, 8, 9] [] (fun _ h => h.nil) (by kernel_rfl) (by kernel_rfl) ?_; clear st; simp only [sel, List.filterMap_cons, List.filterMap_nil, List.getElem?_cons_succ, List.getElem?_cons_zero]) | (with_reducible refine loud_go ?_) | ((with_reducible refine aftS_go ?_ ?_); (focus exact st.nil)) | (with_reducible refine loud_nil ?_))
  go_loopw [4, 5, 6] (fun x y r wr => ∃ (a b q : Int) (k1 : Nat) (s1 : Int) (f : List Nat), x = .int .i64 a ∧ y = .int .i64 b ∧ r = .int .i64 q ∧ (0 ≤ a ∧ a < 12) ∧ (0 ≤ b ∧ b < 12) ∧ (0 ≤ q ∧ q ≤ 13) ∧ k1 + 6 * q.toNat ≤ k + 84 ∧ Sd s1 ∧ Hid (f.length = 12 ∧ okB f = true) ∧ St [g] w wr [(B3, frv f, 42), (B2, frv zf, 42), (g, srcC p m c k1 s1, T)]) (fun _ _ r _ => (intOf r).toNat)
  case atStart => exact ⟨_, _, _, _, _, zf, rfl, rfl, rfl, by omega, by omega, by omega, by omega, (by assumption), hid ⟨rfl, by decide⟩, st⟩
  case round =>
    clear st hs
    obtain ⟨a, b, q, k1, s1, f, rfl, rfl, rfl, ha, hb, hq, hk1, hs1, hf, st⟩ := hrel
    by_cases hlt : 0 < q
    · have hd : decide ((0 : Int) < q) = true := by simpa using hlt
      have HF := hid (frOk_ok hf.out.1 hf.out.2)
      go_wp2_with (first | ((with_reducible refine gate_dst (N := 23) rfl ?_); (go_at_call 62; refine (pick_s (SRC.out _ st.keep) (st.get (by repeat (first | exact At.here | apply At.there))) (by assumption) (by omega) (by omega) (by omega)).mono ?_; rintro _ _ ⟨v, s', k', rfl, hv, hs', hk', hk, hb1⟩; replace st := st.wrote (by ((repeat (first | exact Upd.here | apply Upd.there)); done)) hk hb1; clear hk hb1; rcases six hv with rfl | rfl | rfl | ⟨q0, q1, q2⟩)) | (go_at_call 62; refine (pick_s (SRC.out _ st.keep) (st.get (by repeat (first | exact At.here | apply At.there))) (by assumption) (by omega) (by omega) (by omega)).mono ?_; rintro _ _ ⟨v, s', k', rfl, hv, hs', hk', hk, hb1⟩; replace st := st.wrote (by ((repeat (first | exact Upd.here | apply Upd.there)); done)) hk hb1; clear hk hb1) | (go_at_call 81; refine (l01Put_c f HF.out _ _ a b _ (st.get (by repeat (first | exact At.here | apply At.there)))).mono ?_; rintro _ _ ⟨rfl, hk, hb1⟩; replace st := st.wrote (by repeat (first | exact Upd.here | apply Upd.there)) hk hb1; clear hk hb1) | ((with_reducible refine gate_dst (N := 29) rfl ?_); ((with_reducible refine gate_bin rfl ?_); refine wpl_bin rfl _ _ _ _ _ rfl _ _ _ _ rfl rfl _ (fun w' => run_remD (by omega) (by omega) w') ?_)) | ((with_reducible refine gate_dst (N := 41) rfl ?_); ((with_reducible refine gate_bin rfl ?_); refine wpl_bin rfl _ _ _ _ _ rfl _ _ _ _ rfl rfl _ (fun w' => run_remD (by omega) (by omega) w') ?_)) | ((with_reducible refine gate_lst ?_); (first | ((with_reducible refine gate_alloc rfl ?_); (first | (refine ia_alloc (sl := 2) st rfl rfl rfl ?_; clear st; intro B2 _ st) | (refine ia_alloc (sl := 3) st rfl rfl rfl ?_; clear st; intro B3 _ st))) | ((with_reducible refine gate_load rfl ?_); (first | (refine' ia_load1 st rfl rfl rfl ?_ ?_; rotate_left 1; (focus (first | exact N0.out | exact N1.out | exact N2.out | exact N3.out | exact N4.out | exact N5.out | exact G2.out | exact G3.out | exact G4.out | exact G0.out | exact G1.out | (refine frv_get _ _ ?_; (first | omega | (simp; done) | (simp; omega) | (simp [*]; omega))) | exact rfl))) | (refine' ia_load1Z (hb.keep st.keep (by simp)) rfl rfl rfl ?_ ?_; rotate_left 1; (focus exact rfl)) | (refine' ia_load1Z (hb'.keep st.keep (by simp)) rfl rfl rfl ?_ ?_; rotate_left 1; (focus exact rfl)) | (refine' ia_load1C (hb.keep st.keep (by simp)) rfl rfl rfl ?_ ?_; rotate_left 1; (focus (first | exact N0.out | exact N1.out | exact N2.out | exact N3.out | exact N4.out | exact N5.out | exact G2.out | exact G3.out | exact G4.out | exact G0.out | exact G1.out | (refine frv_get _ _ ?_; (first | omega | (simp; done) | (simp; omega) | (simp [*]; omega))) | exact rfl))) | (refine' ia_load1C (hb'.keep st.keep (by simp)) rfl rfl rfl ?_ ?_; rotate_left 1; (focus (first | exact N0.out | exact N1.out | exact N2.out | exact N3.out | exact N4.out | exact N5.out | exact G2.out | exact G3.out | exact G4.out | exact G0.out | exact G1.out | (refine frv_get _ _ ?_; (first | omega | (simp; done) | (simp; omega) | (simp [*]; omega))) | exact rfl))) | (refine' ia_load1B (hb1.keep st.keep (by simp)) rfl rfl rfl ?_ ?_; rotate_left 1; (focus (first | exact N0.out | exact N1.out | exact N2.out | exact N3.out | exact N4.out | exact N5.out | exact G2.out | exact G3.out | exact G4.out | exact G0.out | exact G1.out | (refine frv_get _ _ ?_; (first | omega | (simp; done) | (simp; omega) | (simp [*]; omega))) | exact rfl))) | (refine' ia_load1B (hb2.keep st.keep (by simp)) rfl rfl rfl ?_ ?_; rotate_left 1; (focus (first | exact N0.out | exact N1.out | exact N2.out | exact N3.out | exact N4.out | exact N5.out | exact G2.out | exact G3.out | exact G4.out | exact G0.out | exact G1.out | (refine frv_get _ _ ?_; (first | omega | (simp; done) | (simp; omega) | (simp [*]; omega))) | exact rfl))) | (refine ia_loadAll st rfl rfl rfl ?_ ?_; (focus (first | rfl | (simp; done) | (simp; assumption) | (simp; omega) | (simp [*]; done)))) | (refine ia_loadC (hb.keep st.keep (by simp)) rfl rfl rfl ?_ ?_; (focus (first | rfl | (simp; done) | (simp; assumption) | (simp; omega) | (simp [*]; done)))) | (refine ia_loadC (hb'.keep st.keep (by simp)) rfl rfl rfl ?_ ?_; (focus (first | rfl | (simp; done) | (simp; assumption) | (simp; omega) | (simp [*]; done)))) | (refine ia_loadC (Cl.of (hb1.keep st.keep (by simp))) rfl rfl rfl ?_ ?_; (focus (first | rfl | (simp; done) | (simp; assumption) | (simp; omega) | (simp [*]; done)))) | (refine ia_loadC (Cl.of (hb2.keep st.keep (by simp))) rfl rfl rfl ?_ ?_; (focus (first | rfl | (simp; done) | (simp; assumption) | (simp; omega) | (simp [*]; done)))))) | ((with_reducible refine gate_store rfl ?_); (first | (refine ia_store1 st rfl rfl rfl rfl rfl rfl ?_ ?_; (focus (first | omega | (simp; done) | (simp; omega) | (simp [*]; omega))); clear st; intro _ st; (try simp only [Act.put, Act.eval, Array.getD_eq_getD_getElem?, List.getElem?_toArray, List.getElem?_cons_succ, List.getElem?_cons_zero, Option.getD_some, List.setIfInBounds_toArray, List.getElem_toArray, List.getElem_cons_succ, List.getElem_cons_zero, List.set_cons_zero, List.set_cons_succ] at st)) | (refine ia_storeAll st rfl rfl rfl rfl ?_ ?_ ?_ ?_; (focus (first | rfl | (simp; done) | (simp; assumption) | (simp; omega) | (simp [*]; done))); (focus (first | exact frv_one _ | exact fv_one _ | exact p8_one _ | exact k3_one _ | exact i1_one _ | (simp [Value.oneCell']; done))); (focus (first | rfl | (simp; done) | (simp; assumption) | (simp; omega) | (simp [*]; done))); clear st; intro _ st; (try simp only [List.set_cons_zero, List.set_cons_succ] at st)) | (refine ia_storeSeg st rfl rfl rfl rfl ?_ ?_ ?_ ?_; (focus (first | rfl | (simp; done) | (simp; assumption) | (simp; omega) | (simp [*]; done))); (focus (first | exact frv_one _ | exact fv_one _ | exact p8_one _ | exact k3_one _ | exact i1_one _ | (simp [Value.oneCell']; done))); (focus (first | omega | (simp; done) | (simp; omega) | (simp [*]; omega))); clear st; intro _ st; (try simp only [List.set_cons_zero, List.set_cons_succ] at st)))) | ((with_reducible refine gate_addr rfl ?_); (first | (refine' ia_slcP HP.out rfl rfl rfl rfl ?_ ?_ ?_) | (refine' ia_slcP HP2.out rfl rfl rfl rfl ?_ ?_ ?_)); rotate_left 1; (focus (first | exact (rfl : (0 : Int) = ((0 : Nat) : Int)) | exact (rfl : (1 : Int) = ((1 : Nat) : Int)) | exact rfl | exact HE1.out | exact HE2.out)); (focus (first | omega | (simp; done) | (simp; omega) | (simp [*]; omega)))) | ((with_reducible refine gate_build rfl ?_); refine' la_build ?_ rfl rfl ?_; rotate_left 1; (focus ((try simp only [List.map_cons, List.map_nil, Act.put, Act.eval, Array.getD_eq_getD_getElem?, List.getElem?_toArray, List.getElem?_cons_succ, List.getElem?_cons_zero, Option.getD_some, List.setIfInBounds_toArray, List.set_cons_succ, List.set_cons_zero, List.getElem_toArray, List.getElem_cons_succ, List.getElem_cons_zero]); (first | (with_reducible exact tFrB) | (with_reducible exact built_fil))))))) | ((with_reducible refine qgate_nil ?_); refine wpQuiet_nil ?_; (try intro _ st)) | ((with_reducible refine qgate_any ?_); (first | ((first | (with_reducible refine qg_move rfl ?_)); refine qa_val (fun _ _ => rfl) rfl ?_) | ((with_reducible refine qgate_load rfl ?_); (first | (refine' iq_load1 rfl rfl rfl ?_ ?_; rotate_left 1; (focus (first | exact N0.out | exact N1.out | exact N2.out | exact N3.out | exact N4.out | exact N5.out | exact G2.out | exact G3.out | exact G4.out | exact G0.out | exact G1.out | (refine frv_get _ _ ?_; (first | omega | (simp; done) | (simp; omega) | (simp [*]; omega))) | exact rfl))) | (refine' iq_load1Z hb rfl rfl rfl ?_ ?_; rotate_left 1; (focus exact rfl)) | (refine' iq_load1Z hb' rfl rfl rfl ?_ ?_; rotate_left 1; (focus exact rfl)) | (refine' iq_load1C hb rfl rfl rfl ?_ ?_; rotate_left 1; (focus (first | exact N0.out | exact N1.out | exact N2.out | exact N3.out | exact N4.out | exact N5.out | exact G2.out | exact G3.out | exact G4.out | exact G0.out | exact G1.out | (refine frv_get _ _ ?_; (first | omega | (simp; done) | (simp; omega) | (simp [*]; omega))) | exact rfl))) | (refine' iq_load1C hb' rfl rfl rfl ?_ ?_; rotate_left 1; (focus (first | exact N0.out | exact N1.out | exact N2.out | exact N3.out | exact N4.out | exact N5.out | exact G2.out | exact G3.out | exact G4.out | exact G0.out | exact G1.out | (refine frv_get _ _ ?_; (first | omega | (simp; done) | (simp; omega) | (simp [*]; omega))) | exact rfl))))) | ((with_reducible refine qgate_addr rfl ?_); (first | (refine' iq_slc rfl rfl rfl rfl ?_ ?_ ?_) | (refine' iq_slcP HP.out rfl rfl rfl rfl ?_ ?_ ?_) | (refine' iq_slcP HP2.out rfl rfl rfl rfl ?_ ?_ ?_) | (refine' iq_arr rfl rfl rfl rfl ?_ ?_ ?_)); rotate_left 1; (focus (first | exact (rfl : (0 : Int) = ((0 : Nat) : Int)) | exact (rfl : (1 : Int) = ((1 : Nat) : Int)) | exact rfl | exact HE1.out | exact HE2.out)); (focus (first | omega | (simp; done) | (simp; omega) | (simp [*]; omega)))) | ((with_reducible refine qgate_conv rfl ?_); refine' iq_conv rfl rfl rfl ?_ ?_; rotate_left 1; (focus (first | (refine IntWalk.i64_in _ ?_; omega) | (refine i8_wrap ?_ ?_ <;> omega) | exact rfl))) | ((with_reducible refine qgate_bin rfl ?_); refine' qa_bin ?_ rfl rfl rfl rfl ?_; rotate_left 1; (focus (first | exact run_add64 (by omega) (by omega) | exact run_sub64 (by omega) (by omega) | (intro w'; go_simp; exact rfl))))); all_goals (try (simp only [Nat.zero_add, Nat.add_zero, Nat.mul_one, Nat.zero_mul, Act.put, Act.eval, Array.getD_eq_getD_getElem?, List.getElem?_toArray, List.getElem?_cons_succ, List.getElem?_cons_zero, Option.getD_some, List.setIfInBounds_toArray, List.set_cons_succ, List.set_cons_zero, List.getElem_toArray, List.getElem_cons_succ, List.getElem_cons_zero]))) | ((with_reducible refine rgate (id := 20) ?_); refine wp_region_sched_st (id := 20) st [0, 1, 2, 3, 4] [5, 6, 7, 8, 9] [] (fun _ h => h.nil) (by kernel_rfl) (by kernel_rfl) ?_; clear st; simp only [sel, List.filterMap_cons, List.filterMap_nil, List.getElem?_cons_succ, List.getElem?_cons_zero]) | (with_reducible refine loud_go ?_) | ((with_reducible refine aftS_go ?_ ?_); (focus exact st.nil)) | (with_reducible refine loud_nil ?_))
      all_goals
        go_roundw
        case rel => exact ⟨_, _, _, _, _, putI f a b, rfl, rfl, rfl, by omega, by omega, by omega, by omega, (by assumption), hid ⟨putI_len hf.out.1 a b, putI_okB hf.out.1 hf.out.2 a b⟩, st⟩
        case measure => first | (simp [intOf]; done) | (simp [intOf]; omega)
    · have hd : decide ((0 : Int) < q) = false := by simpa using hlt
      have HFL := hid hf.out.1
      go_wp2_with (first | (go_at_call 82; refine (one_s (SRC.out _ st.keep) (st.get (by repeat (first | exact At.here | apply At.there))) (by assumption) (by omega) (by omega) (by omega)).mono ?_; rintro _ _ ⟨v, s', k', rfl, hs', hk', hk, hb1⟩; replace st := st.wrote (by ((repeat (first | exact Upd.here | apply Upd.there)); done)) hk hb1; clear hk hb1; rcases v with _ | _) | ((with_reducible refine gate_lst ?_); (first | ((with_reducible refine gate_alloc rfl ?_); (first | (refine ia_alloc (sl := 2) st rfl rfl rfl ?_; clear st; intro B2 _ st) | (refine ia_alloc (sl := 3) st rfl rfl rfl ?_; clear st; intro B3 _ st))) | ((with_reducible refine gate_load rfl ?_); (first | (refine' ia_load1 st rfl rfl rfl ?_ ?_; rotate_left 1; (focus (first | exact N0.out | exact N1.out | exact N2.out | exact N3.out | exact N4.out | exact N5.out | exact G2.out | exact G3.out | exact G4.out | exact G0.out | exact G1.out | (refine frv_get _ _ ?_; (first | omega | (simp; done) | (simp; omega) | (simp [*]; omega))) | exact rfl))) | (refine' ia_load1Z (hb.keep st.keep (by simp)) rfl rfl rfl ?_ ?_; rotate_left 1; (focus exact rfl)) | (refine' ia_load1Z (hb'.keep st.keep (by simp)) rfl rfl rfl ?_ ?_; rotate_left 1; (focus exact rfl)) | (refine' ia_load1C (hb.keep st.keep (by simp)) rfl rfl rfl ?_ ?_; rotate_left 1; (focus (first | exact N0.out | exact N1.out | exact N2.out | exact N3.out | exact N4.out | exact N5.out | exact G2.out | exact G3.out | exact G4.out | exact G0.out | exact G1.out | (refine frv_get _ _ ?_; (first | omega | (simp; done) | (simp; omega) | (simp [*]; omega))) | exact rfl))) | (refine' ia_load1C (hb'.keep st.keep (by simp)) rfl rfl rfl ?_ ?_; rotate_left 1; (focus (first | exact N0.out | exact N1.out | exact N2.out | exact N3.out | exact N4.out | exact N5.out | exact G2.out | exact G3.out | exact G4.out | exact G0.out | exact G1.out | (refine frv_get _ _ ?_; (first | omega | (simp; done) | (simp; omega) | (simp [*]; omega))) | exact rfl))) | (refine' ia_load1B (hb1.keep st.keep (by simp)) rfl rfl rfl ?_ ?_; rotate_left 1; (focus (first | exact N0.out | exact N1.out | exact N2.out | exact N3.out | exact N4.out | exact N5.out | exact G2.out | exact G3.out | exact G4.out | exact G0.out | exact G1.out | (refine frv_get _ _ ?_; (first | omega | (simp; done) | (simp; omega) | (simp [*]; omega))) | exact rfl))) | (refine' ia_load1B (hb2.keep st.keep (by simp)) rfl rfl rfl ?_ ?_; rotate_left 1; (focus (first | exact N0.out | exact N1.out | exact N2.out | exact N3.out | exact N4.out | exact N5.out | exact G2.out | exact G3.out | exact G4.out | exact G0.out | exact G1.out | (refine frv_get _ _ ?_; (first | omega | (simp; done) | (simp; omega) | (simp [*]; omega))) | exact rfl))) | (refine ia_loadAll st rfl rfl rfl ?_ ?_; (focus (first | rfl | (simp; done) | (simp; assumption) | (simp; omega) | (simp [*]; done)))) | (refine ia_loadC (hb.keep st.keep (by simp)) rfl rfl rfl ?_ ?_; (focus (first | rfl | (simp; done) | (simp; assumption) | (simp; omega) | (simp [*]; done)))) | (refine ia_loadC (hb'.keep st.keep (by simp)) rfl rfl rfl ?_ ?_; (focus (first | rfl | (simp; done) | (simp; assumption) | (simp; omega) | (simp [*]; done)))) | (refine ia_loadC (Cl.of (hb1.keep st.keep (by simp))) rfl rfl rfl ?_ ?_; (focus (first | rfl | (simp; done) | (simp; assumption) | (simp; omega) | (simp [*]; done)))) | (refine ia_loadC (Cl.of (hb2.keep st.keep (by simp))) rfl rfl rfl ?_ ?_; (focus (first | rfl | (simp; done) | (simp; assumption) | (simp; omega) | (simp [*]; done)))))) | ((with_reducible refine gate_store rfl ?_); (first | (refine ia_store1 st rfl rfl rfl rfl rfl rfl ?_ ?_; (focus (first | omega | (simp; done) | (simp; omega) | (simp [*]; omega))); clear st; intro _ st; (try simp only [Act.put, Act.eval, Array.getD_eq_getD_getElem?, List.getElem?_toArray, List.getElem?_cons_succ, List.getElem?_cons_zero, Option.getD_some, List.setIfInBounds_toArray, List.getElem_toArray, List.getElem_cons_succ, List.getElem_cons_zero, List.set_cons_zero, List.set_cons_succ] at st)) | (refine ia_storeAll st rfl rfl rfl rfl ?_ ?_ ?_ ?_; (focus (first | rfl | (simp; done) | (simp; assumption) | (simp; omega) | (simp [*]; done))); (focus (first | exact frv_one _ | exact fv_one _ | exact p8_one _ | exact k3_one _ | exact i1_one _ | (simp [Value.oneCell']; done))); (focus (first | rfl | (simp; done) | (simp; assumption) | (simp; omega) | (simp [*]; done))); clear st; intro _ st; (try simp only [List.set_cons_zero, List.set_cons_succ] at st)) | (refine ia_storeSeg st rfl rfl rfl rfl ?_ ?_ ?_ ?_; (focus (first | rfl | (simp; done) | (simp; assumption) | (simp; omega) | (simp [*]; done))); (focus (first | exact frv_one _ | exact fv_one _ | exact p8_one _ | exact k3_one _ | exact i1_one _ | (simp [Value.oneCell']; done))); (focus (first | omega | (simp; done) | (simp; omega) | (simp [*]; omega))); clear st; intro _ st; (try simp only [List.set_cons_zero, List.set_cons_succ] at st)))) | ((with_reducible refine gate_addr rfl ?_); (first | (refine' ia_slcP HP.out rfl rfl rfl rfl ?_ ?_ ?_) | (refine' ia_slcP HP2.out rfl rfl rfl rfl ?_ ?_ ?_)); rotate_left 1; (focus (first | exact (rfl : (0 : Int) = ((0 : Nat) : Int)) | exact (rfl : (1 : Int) = ((1 : Nat) : Int)) | exact rfl | exact HE1.out | exact HE2.out)); (focus (first | omega | (simp; done) | (simp; omega) | (simp [*]; omega)))) | ((with_reducible refine gate_build rfl ?_); refine' la_build ?_ rfl rfl ?_; rotate_left 1; (focus ((try simp only [List.map_cons, List.map_nil, Act.put, Act.eval, Array.getD_eq_getD_getElem?, List.getElem?_toArray, List.getElem?_cons_succ, List.getElem?_cons_zero, Option.getD_some, List.setIfInBounds_toArray, List.set_cons_succ, List.set_cons_zero, List.getElem_toArray, List.getElem_cons_succ, List.getElem_cons_zero]); (first | (with_reducible exact tFrB) | (with_reducible exact built_fil))))))) | ((with_reducible refine qgate_nil ?_); refine wpQuiet_nil ?_; (try intro _ st)) | ((with_reducible refine qgate_any ?_); (first | ((first | (with_reducible refine qg_move rfl ?_)); refine qa_val (fun _ _ => rfl) rfl ?_) | ((with_reducible refine qgate_load rfl ?_); (first | (refine' iq_load1 rfl rfl rfl ?_ ?_; rotate_left 1; (focus (first | exact N0.out | exact N1.out | exact N2.out | exact N3.out | exact N4.out | exact N5.out | exact G2.out | exact G3.out | exact G4.out | exact G0.out | exact G1.out | (refine frv_get _ _ ?_; (first | omega | (simp; done) | (simp; omega) | (simp [*]; omega))) | exact rfl))) | (refine' iq_load1Z hb rfl rfl rfl ?_ ?_; rotate_left 1; (focus exact rfl)) | (refine' iq_load1Z hb' rfl rfl rfl ?_ ?_; rotate_left 1; (focus exact rfl)) | (refine' iq_load1C hb rfl rfl rfl ?_ ?_; rotate_left 1; (focus (first | exact N0.out | exact N1.out | exact N2.out | exact N3.out | exact N4.out | exact N5.out | exact G2.out | exact G3.out | exact G4.out | exact G0.out | exact G1.out | (refine frv_get _ _ ?_; (first | omega | (simp; done) | (simp; omega) | (simp [*]; omega))) | exact rfl))) | (refine' iq_load1C hb' rfl rfl rfl ?_ ?_; rotate_left 1; (focus (first | exact N0.out | exact N1.out | exact N2.out | exact N3.out | exact N4.out | exact N5.out | exact G2.out | exact G3.out | exact G4.out | exact G0.out | exact G1.out | (refine frv_get _ _ ?_; (first | omega | (simp; done) | (simp; omega) | (simp [*]; omega))) | exact rfl))))) | ((with_reducible refine qgate_addr rfl ?_); (first | (refine' iq_slc rfl rfl rfl rfl ?_ ?_ ?_) | (refine' iq_slcP HP.out rfl rfl rfl rfl ?_ ?_ ?_) | (refine' iq_slcP HP2.out rfl rfl rfl rfl ?_ ?_ ?_) | (refine' iq_arr rfl rfl rfl rfl ?_ ?_ ?_)); rotate_left 1; (focus (first | exact (rfl : (0 : Int) = ((0 : Nat) : Int)) | exact (rfl : (1 : Int) = ((1 : Nat) : Int)) | exact rfl | exact HE1.out | exact HE2.out)); (focus (first | omega | (simp; done) | (simp; omega) | (simp [*]; omega)))) | ((with_reducible refine qgate_conv rfl ?_); refine' iq_conv rfl rfl rfl ?_ ?_; rotate_left 1; (focus (first | (refine IntWalk.i64_in _ ?_; omega) | (refine i8_wrap ?_ ?_ <;> omega) | exact rfl))) | ((with_reducible refine qgate_bin rfl ?_); refine' qa_bin ?_ rfl rfl rfl rfl ?_; rotate_left 1; (focus (first | exact run_add64 (by omega) (by omega) | exact run_sub64 (by omega) (by omega) | (intro w'; go_simp; exact rfl))))); all_goals (try (simp only [Nat.zero_add, Nat.add_zero, Nat.mul_one, Nat.zero_mul, Act.put, Act.eval, Array.getD_eq_getD_getElem?, List.getElem?_toArray, List.getElem?_cons_succ, List.getElem?_cons_zero, Option.getD_some, List.setIfInBounds_toArray, List.set_cons_succ, List.set_cons_zero, List.getElem_toArray, List.getElem_cons_succ, List.getElem_cons_zero]))) | ((with_reducible refine rgate (id := 20) ?_); refine wp_region_sched_st (id := 20) st [0, 1, 2, 3, 4] [5, 6, 7, 8, 9] [] (fun _ h => h.nil) (by kernel_rfl) (by kernel_rfl) ?_; clear st; simp only [sel, List.filterMap_cons, List.filterMap_nil, List.getElem?_cons_succ, List.getElem?_cons_zero]) | (with_reducible refine loud_go ?_) | ((with_reducible refine aftS_go ?_ ?_); (focus exact st.nil)) | (with_reducible refine loud_nil ?_))
      · refine bodyPost_cell rfl tFr.toAggT rfl _ rfl _ _ (st.get (by repeat (first | exact At.here | apply At.there))) (by rw [frv_length]; exact HFL.out) ?_
        refine ⟨f, _, _, rfl, hf.out.1, hf.out.2, ?_, ?_, st.keep, st.get (by repeat (first | exact At.here | apply At.there))⟩
        · assumption
        · omega
      · go_loopw [7] (fun i wr => ∃ (y k2 : Nat) (s2 : Int) (f : List Nat), y ≤ 12 ∧ i = .int .i64 y ∧ k2 + 2 * (12 - y) ≤ k + 112 ∧ Sd s2 ∧ Hid (f.length = 12 ∧ okB f = true) ∧ St [g] w wr [(B3, frv f, 42), (B2, frv zf, 42), (g, srcC p m c k2 s2, T)]) (fun i _ => 12 - (intOf i).toNat)
        case atStart => exact ⟨0, _, _, f, by omega, rfl, by omega, (by assumption), hf, st⟩
        case round =>
          clear st hs1 hs' hf HFL
          obtain ⟨y, k2, s2, f, hy, rfl, hk2, hs2, hf, st⟩ := hrel
          by_cases hly : y < 12
          · have hd : decide ((y : Int) < 12) = true := by simp; omega
            have hyf : y < f.length := by rw [hf.out.1]; exact hly
            have hro := (frOk_ok hf.out.1 hf.out.2).ro_lt y
            go_wp2_with fail
            refine wp_region_any (by kernel_rfl) ?_
            replace st := st.call (Keep.drew _)
            refine wpAny_of_held (S := fun w' => St [g] w w' []) _ _ _ _ ?_
            change wpAnyH _ _ _ _ _ 10 (Array.replicate 10 false) _ _
            refine takeH (i := 0) rfl (by kernel_rfl) (by kernel_rfl) (by kernel_rfl) (fun _ _ _ h => h) rfl (fun w hw => rfl) st.nil ?_
            (simp only [Act.put, Act.eval, Array.getD_eq_getD_getElem?, List.getElem?_toArray, List.getElem?_cons_succ, List.getElem?_cons_zero, Option.getD_some, List.setIfInBounds_toArray, List.set_cons_succ, List.set_cons_zero, List.getElem_toArray, List.getElem_cons_succ, List.getElem_cons_zero])
            refine takeH (i := 1) rfl (by kernel_rfl) (by kernel_rfl) (by kernel_rfl) (fun _ _ _ h => h) rfl (fun w hw => rfl) st.nil ?_
            (simp only [Act.put, Act.eval, Array.getD_eq_getD_getElem?, List.getElem?_toArray, List.getElem?_cons_succ, List.getElem?_cons_zero, Option.getD_some, List.setIfInBounds_toArray, List.set_cons_succ, List.set_cons_zero, List.getElem_toArray, List.getElem_cons_succ, List.getElem_cons_zero])
            refine takeH (i := 4) rfl (by kernel_rfl) (by kernel_rfl) (by kernel_rfl) (fun _ _ _ h => h) rfl (fun w hw => rfl) st.nil ?_
            (simp only [Act.put, Act.eval, Array.getD_eq_getD_getElem?, List.getElem?_toArray, List.getElem?_cons_succ, List.getElem?_cons_zero, Option.getD_some, List.setIfInBounds_toArray, List.set_cons_succ, List.set_cons_zero, List.getElem_toArray, List.getElem_cons_succ, List.getElem_cons_zero])
            refine anyH_ready (rs := [2, 5]) (by kernel_rfl) (by simp) ?_
            refine AllH.one rfl rfl ?_ ?_
            · ((with_reducible refine gate_addr rfl ?_); refine wpl_indexAddr0 rfl _ _ _ rfl _ rfl _ _ rfl tFr y rfl hly ?_)
              (simp only [Act.put, Act.eval, Array.getD_eq_getD_getElem?, List.getElem?_toArray, List.getElem?_cons_succ, List.getElem?_cons_zero, Option.getD_some, List.setIfInBounds_toArray, List.set_cons_succ, List.set_cons_zero, List.getElem_toArray, List.getElem_cons_succ, List.getElem_cons_zero])
              refine wpList_aftH st.nil ?_
              refine anyH_ready (rs := [3, 5]) (by kernel_rfl) (by simp) ?_
              refine AllH.one rfl rfl ?_ ?_
              · ((with_reducible refine gate_load rfl ?_); refine wpl_load1 rfl _ _ rfl _ rfl tU16 _ ((st.get (by repeat (first | exact At.here | apply At.there))).cellv (frv_get _ _ hyf)) ?_)
                (simp only [Act.put, Act.eval, Array.getD_eq_getD_getElem?, List.getElem?_toArray, List.getElem?_cons_succ, List.getElem?_cons_zero, Option.getD_some, List.setIfInBounds_toArray, List.set_cons_succ, List.set_cons_zero, List.getElem_toArray, List.getElem_cons_succ, List.getElem_cons_zero])
                refine wpList_aftH st.nil ?_
                refine anyH_ready (rs := [5]) (by kernel_rfl) (by simp) ?_
                refine AllH.one rfl rfl ?_ ?_
                · ((with_reducible refine gate_call rfl ?_); refine wpl_call rfl _ rfl _ rfl 62 _ _ rfl _ Tryz.func62 (by kernel_rfl) (by kernel_rfl) #[.pointer (some ⟨g, 0, none⟩), .int .i64 4096] (by simp [Act.eval, Act.put]) ?_; refine (pick_s (SRC.out _ st.keep) (st.get (by repeat (first | exact At.here | apply At.there))) (by assumption) (by omega) (by omega) (by omega)).mono ?_; rintro _ _ ⟨v, s', k', rfl, hv, hs', hk', hk, hb1⟩; refine ⟨.int .i64 v, rfl, ?_⟩; replace st := st.wrote (by ((repeat (first | exact Upd.here | apply Upd.there)); done)) hk hb1; clear hk hb1; obtain ⟨vn, rfl⟩ := Int.eq_ofNat_of_zero_le hv.1)
                  (simp only [Act.put, Act.eval, Array.getD_eq_getD_getElem?, List.getElem?_toArray, List.getElem?_cons_succ, List.getElem?_cons_zero, Option.getD_some, List.setIfInBounds_toArray, List.set_cons_succ, List.set_cons_zero, List.getElem_toArray, List.getElem_cons_succ, List.getElem_cons_zero])
                  refine wpList_aftH st.nil ?_
                  refine takeH (i := 6) rfl (by kernel_rfl) (by kernel_rfl) (by kernel_rfl) (fun _ _ _ h => h) rfl (fun w hw => (conv_run rfl .i64 .u16 (vn : Int) (vn : Int) rfl (by kernel_rfl) Tryz.underlying40 (u16_in _ (by omega)))) st.nil ?_
                  (simp only [Act.put, Act.eval, Array.getD_eq_getD_getElem?, List.getElem?_toArray, List.getElem?_cons_succ, List.getElem?_cons_zero, Option.getD_some, List.setIfInBounds_toArray, List.set_cons_succ, List.set_cons_zero, List.getElem_toArray, List.getElem_cons_succ, List.getElem_cons_zero])
                  refine anyH_ready (rs := [7]) (by kernel_rfl) (by simp) ?_
                  refine AllH.one rfl rfl ?_ ?_
                  · ((with_reducible refine gate_bin rfl ?_); refine wpl_bin rfl _ _ _ _ _ rfl _ _ _ _ rfl rfl (.int .u16 ((ro f y ||| vn : Nat) : Int)) (fun w' => run_or hro (by omega) w') ?_)
                    (simp only [Act.put, Act.eval, Array.getD_eq_getD_getElem?, List.getElem?_toArray, List.getElem?_cons_succ, List.getElem?_cons_zero, Option.getD_some, List.setIfInBounds_toArray, List.set_cons_succ, List.set_cons_zero, List.getElem_toArray, List.getElem_cons_succ, List.getElem_cons_zero])
                    refine wpList_aftH st.nil ?_
                    refine anyH_ready (rs := [8]) (by kernel_rfl) (by simp) ?_
                    refine AllH.one rfl rfl ?_ ?_
                    · ((with_reducible refine gate_addr rfl ?_); refine wpl_indexAddr0 rfl _ _ _ rfl _ rfl _ _ rfl tFr y rfl hly ?_)
                      (simp only [Act.put, Act.eval, Array.getD_eq_getD_getElem?, List.getElem?_toArray, List.getElem?_cons_succ, List.getElem?_cons_zero, Option.getD_some, List.setIfInBounds_toArray, List.set_cons_succ, List.set_cons_zero, List.getElem_toArray, List.getElem_cons_succ, List.getElem_cons_zero])
                      refine wpList_aftH st.nil ?_
                      refine anyH_ready (rs := [9]) (by kernel_rfl) (by simp) ?_
                      refine AllH.one rfl rfl ?_ ?_
                      · ((with_reducible refine gate_store rfl ?_); refine wpl_store1 rfl _ _ _ rfl _ _ rfl (.int .u16 _) rfl tU16 rfl rfl st _ _ (by repeat (first | exact Upd.here | apply Upd.there)) (by rw [frv_length]; exact hyf) ?_; rw [frv_set];clear st; intro _ st)
                        (simp only [Act.put, Act.eval, Array.getD_eq_getD_getElem?, List.getElem?_toArray, List.getElem?_cons_succ, List.getElem?_cons_zero, Option.getD_some, List.setIfInBounds_toArray, List.set_cons_succ, List.set_cons_zero, List.getElem_toArray, List.getElem_cons_succ, List.getElem_cons_zero])
                        refine wpList_aftH st.nil ?_
                        refine wpAnyH_done (by kernel_rfl) ?_ _
                        (go_wp2_with fail; go_roundw; (case rel => exact ⟨y + 1, _, _, f.set y (ro f y ||| vn), by omega, by go_num, by omega, (by assumption), hid ⟨by rw [List.length_set]; exact hf.out.1, or_okB hf.out.1 hf.out.2 hly (by omega)⟩, st⟩); (case measure => (first | (simp [intOf]; done) | (simp [intOf]; omega))))
                      exact AllH.nil
                    exact AllH.nil
                  exact AllH.nil
                exact AllH.nil
              refine AllH.one rfl rfl ?_ ?_
              · ((with_reducible refine gate_call rfl ?_); refine wpl_call rfl _ rfl _ rfl 62 _ _ rfl _ Tryz.func62 (by kernel_rfl) (by kernel_rfl) #[.pointer (some ⟨g, 0, none⟩), .int .i64 4096] (by simp [Act.eval, Act.put]) ?_; refine (pick_s (SRC.out _ st.keep) (st.get (by repeat (first | exact At.here | apply At.there))) (by assumption) (by omega) (by omega) (by omega)).mono ?_; rintro _ _ ⟨v, s', k', rfl, hv, hs', hk', hk, hb1⟩; refine ⟨.int .i64 v, rfl, ?_⟩; replace st := st.wrote (by ((repeat (first | exact Upd.here | apply Upd.there)); done)) hk hb1; clear hk hb1; obtain ⟨vn, rfl⟩ := Int.eq_ofNat_of_zero_le hv.1)
                (simp only [Act.put, Act.eval, Array.getD_eq_getD_getElem?, List.getElem?_toArray, List.getElem?_cons_succ, List.getElem?_cons_zero, Option.getD_some, List.setIfInBounds_toArray, List.set_cons_succ, List.set_cons_zero, List.getElem_toArray, List.getElem_cons_succ, List.getElem_cons_zero])
                refine wpList_aftH st.nil ?_
                refine takeH (i := 6) rfl (by kernel_rfl) (by kernel_rfl) (by kernel_rfl) (fun _ _ _ h => h) rfl (fun w hw => (conv_run rfl .i64 .u16 (vn : Int) (vn : Int) rfl (by kernel_rfl) Tryz.underlying40 (u16_in _ (by omega)))) st.nil ?_
                (simp only [Act.put, Act.eval, Array.getD_eq_getD_getElem?, List.getElem?_toArray, List.getElem?_cons_succ, List.getElem?_cons_zero, Option.getD_some, List.setIfInBounds_toArray, List.set_cons_succ, List.set_cons_zero, List.getElem_toArray, List.getElem_cons_succ, List.getElem_cons_zero])
                refine anyH_ready (rs := [3]) (by kernel_rfl) (by simp) ?_
                refine AllH.one rfl rfl ?_ ?_
                · ((with_reducible refine gate_load rfl ?_); refine wpl_load1 rfl _ _ rfl _ rfl tU16 _ ((st.get (by repeat (first | exact At.here | apply At.there))).cellv (frv_get _ _ hyf)) ?_)
                  (simp only [Act.put, Act.eval, Array.getD_eq_getD_getElem?, List.getElem?_toArray, List.getElem?_cons_succ, List.getElem?_cons_zero, Option.getD_some, List.setIfInBounds_toArray, List.set_cons_succ, List.set_cons_zero, List.getElem_toArray, List.getElem_cons_succ, List.getElem_cons_zero])
                  refine wpList_aftH st.nil ?_
                  refine anyH_ready (rs := [7]) (by kernel_rfl) (by simp) ?_
                  refine AllH.one rfl rfl ?_ ?_
                  · ((with_reducible refine gate_bin rfl ?_); refine wpl_bin rfl _ _ _ _ _ rfl _ _ _ _ rfl rfl (.int .u16 ((ro f y ||| vn : Nat) : Int)) (fun w' => run_or hro (by omega) w') ?_)
                    (simp only [Act.put, Act.eval, Array.getD_eq_getD_getElem?, List.getElem?_toArray, List.getElem?_cons_succ, List.getElem?_cons_zero, Option.getD_some, List.setIfInBounds_toArray, List.set_cons_succ, List.set_cons_zero, List.getElem_toArray, List.getElem_cons_succ, List.getElem_cons_zero])
                    refine wpList_aftH st.nil ?_
                    refine anyH_ready (rs := [8]) (by kernel_rfl) (by simp) ?_
                    refine AllH.one rfl rfl ?_ ?_
                    · ((with_reducible refine gate_addr rfl ?_); refine wpl_indexAddr0 rfl _ _ _ rfl _ rfl _ _ rfl tFr y rfl hly ?_)
                      (simp only [Act.put, Act.eval, Array.getD_eq_getD_getElem?, List.getElem?_toArray, List.getElem?_cons_succ, List.getElem?_cons_zero, Option.getD_some, List.setIfInBounds_toArray, List.set_cons_succ, List.set_cons_zero, List.getElem_toArray, List.getElem_cons_succ, List.getElem_cons_zero])
                      refine wpList_aftH st.nil ?_
                      refine anyH_ready (rs := [9]) (by kernel_rfl) (by simp) ?_
                      refine AllH.one rfl rfl ?_ ?_
                      · ((with_reducible refine gate_store rfl ?_); refine wpl_store1 rfl _ _ _ rfl _ _ rfl (.int .u16 _) rfl tU16 rfl rfl st _ _ (by repeat (first | exact Upd.here | apply Upd.there)) (by rw [frv_length]; exact hyf) ?_; rw [frv_set];clear st; intro _ st)
                        (simp only [Act.put, Act.eval, Array.getD_eq_getD_getElem?, List.getElem?_toArray, List.getElem?_cons_succ, List.getElem?_cons_zero, Option.getD_some, List.setIfInBounds_toArray, List.set_cons_succ, List.set_cons_zero, List.getElem_toArray, List.getElem_cons_succ, List.getElem_cons_zero])
                        refine wpList_aftH st.nil ?_
                        refine wpAnyH_done (by kernel_rfl) ?_ _
                        (go_wp2_with fail; go_roundw; (case rel => exact ⟨y + 1, _, _, f.set y (ro f y ||| vn), by omega, by go_num, by omega, (by assumption), hid ⟨by rw [List.length_set]; exact hf.out.1, or_okB hf.out.1 hf.out.2 hly (by omega)⟩, st⟩); (case measure => (first | (simp [intOf]; done) | (simp [intOf]; omega))))
                      exact AllH.nil
                    exact AllH.nil
                  exact AllH.nil
                exact AllH.nil
              exact AllH.nil
            refine AllH.one rfl rfl ?_ ?_
            · ((with_reducible refine gate_call rfl ?_); refine wpl_call rfl _ rfl _ rfl 62 _ _ rfl _ Tryz.func62 (by kernel_rfl) (by kernel_rfl) #[.pointer (some ⟨g, 0, none⟩), .int .i64 4096] (by simp [Act.eval, Act.put]) ?_; refine (pick_s (SRC.out _ st.keep) (st.get (by repeat (first | exact At.here | apply At.there))) (by assumption) (by omega) (by omega) (by omega)).mono ?_; rintro _ _ ⟨v, s', k', rfl, hv, hs', hk', hk, hb1⟩; refine ⟨.int .i64 v, rfl, ?_⟩; replace st := st.wrote (by ((repeat (first | exact Upd.here | apply Upd.there)); done)) hk hb1; clear hk hb1; obtain ⟨vn, rfl⟩ := Int.eq_ofNat_of_zero_le hv.1)
              (simp only [Act.put, Act.eval, Array.getD_eq_getD_getElem?, List.getElem?_toArray, List.getElem?_cons_succ, List.getElem?_cons_zero, Option.getD_some, List.setIfInBounds_toArray, List.set_cons_succ, List.set_cons_zero, List.getElem_toArray, List.getElem_cons_succ, List.getElem_cons_zero])
              refine wpList_aftH st.nil ?_
              refine takeH (i := 6) rfl (by kernel_rfl) (by kernel_rfl) (by kernel_rfl) (fun _ _ _ h => h) rfl (fun w hw => (conv_run rfl .i64 .u16 (vn : Int) (vn : Int) rfl (by kernel_rfl) Tryz.underlying40 (u16_in _ (by omega)))) st.nil ?_
              (simp only [Act.put, Act.eval, Array.getD_eq_getD_getElem?, List.getElem?_toArray, List.getElem?_cons_succ, List.getElem?_cons_zero, Option.getD_some, List.setIfInBounds_toArray, List.set_cons_succ, List.set_cons_zero, List.getElem_toArray, List.getElem_cons_succ, List.getElem_cons_zero])
              refine anyH_ready (rs := [2]) (by kernel_rfl) (by simp) ?_
              refine AllH.one rfl rfl ?_ ?_
              · ((with_reducible refine gate_addr rfl ?_); refine wpl_indexAddr0 rfl _ _ _ rfl _ rfl _ _ rfl tFr y rfl hly ?_)
                (simp only [Act.put, Act.eval, Array.getD_eq_getD_getElem?, List.getElem?_toArray, List.getElem?_cons_succ, List.getElem?_cons_zero, Option.getD_some, List.setIfInBounds_toArray, List.set_cons_succ, List.set_cons_zero, List.getElem_toArray, List.getElem_cons_succ, List.getElem_cons_zero])
                refine wpList_aftH st.nil ?_
                refine anyH_ready (rs := [3]) (by kernel_rfl) (by simp) ?_
                refine AllH.one rfl rfl ?_ ?_
                · ((with_reducible refine gate_load rfl ?_); refine wpl_load1 rfl _ _ rfl _ rfl tU16 _ ((st.get (by repeat (first | exact At.here | apply At.there))).cellv (frv_get _ _ hyf)) ?_)
                  (simp only [Act.put, Act.eval, Array.getD_eq_getD_getElem?, List.getElem?_toArray, List.getElem?_cons_succ, List.getElem?_cons_zero, Option.getD_some, List.setIfInBounds_toArray, List.set_cons_succ, List.set_cons_zero, List.getElem_toArray, List.getElem_cons_succ, List.getElem_cons_zero])
                  refine wpList_aftH st.nil ?_
                  refine anyH_ready (rs := [7]) (by kernel_rfl) (by simp) ?_
                  refine AllH.one rfl rfl ?_ ?_
                  · ((with_reducible refine gate_bin rfl ?_); refine wpl_bin rfl _ _ _ _ _ rfl _ _ _ _ rfl rfl (.int .u16 ((ro f y ||| vn : Nat) : Int)) (fun w' => run_or hro (by omega) w') ?_)
                    (simp only [Act.put, Act.eval, Array.getD_eq_getD_getElem?, List.getElem?_toArray, List.getElem?_cons_succ, List.getElem?_cons_zero, Option.getD_some, List.setIfInBounds_toArray, List.set_cons_succ, List.set_cons_zero, List.getElem_toArray, List.getElem_cons_succ, List.getElem_cons_zero])
                    refine wpList_aftH st.nil ?_
                    refine anyH_ready (rs := [8]) (by kernel_rfl) (by simp) ?_
                    refine AllH.one rfl rfl ?_ ?_
                    · ((with_reducible refine gate_addr rfl ?_); refine wpl_indexAddr0 rfl _ _ _ rfl _ rfl _ _ rfl tFr y rfl hly ?_)
                      (simp only [Act.put, Act.eval, Array.getD_eq_getD_getElem?, List.getElem?_toArray, List.getElem?_cons_succ, List.getElem?_cons_zero, Option.getD_some, List.setIfInBounds_toArray, List.set_cons_succ, List.set_cons_zero, List.getElem_toArray, List.getElem_cons_succ, List.getElem_cons_zero])
                      refine wpList_aftH st.nil ?_
                      refine anyH_ready (rs := [9]) (by kernel_rfl) (by simp) ?_
                      refine AllH.one rfl rfl ?_ ?_
                      · ((with_reducible refine gate_store rfl ?_); refine wpl_store1 rfl _ _ _ rfl _ _ rfl (.int .u16 _) rfl tU16 rfl rfl st _ _ (by repeat (first | exact Upd.here | apply Upd.there)) (by rw [frv_length]; exact hyf) ?_; rw [frv_set];clear st; intro _ st)
                        (simp only [Act.put, Act.eval, Array.getD_eq_getD_getElem?, List.getElem?_toArray, List.getElem?_cons_succ, List.getElem?_cons_zero, Option.getD_some, List.setIfInBounds_toArray, List.set_cons_succ, List.set_cons_zero, List.getElem_toArray, List.getElem_cons_succ, List.getElem_cons_zero])
                        refine wpList_aftH st.nil ?_
                        refine wpAnyH_done (by kernel_rfl) ?_ _
                        (go_wp2_with fail; go_roundw; (case rel => exact ⟨y + 1, _, _, f.set y (ro f y ||| vn), by omega, by go_num, by omega, (by assumption), hid ⟨by rw [List.length_set]; exact hf.out.1, or_okB hf.out.1 hf.out.2 hly (by omega)⟩, st⟩); (case measure => (first | (simp [intOf]; done) | (simp [intOf]; omega))))
                      exact AllH.nil
                    exact AllH.nil
                  exact AllH.nil
                exact AllH.nil
              exact AllH.nil
            exact AllH.nil
          · obtain rfl : y = 12 := by omega
            have HFL := hid hf.out.1
            go_wp2_with (first | ((with_reducible refine gate_lst ?_); (first | ((with_reducible refine gate_alloc rfl ?_); (first | (refine ia_alloc (sl := 2) st rfl rfl rfl ?_; clear st; intro B2 _ st) | (refine ia_alloc (sl := 3) st rfl rfl rfl ?_; clear st; intro B3 _ st))) | ((with_reducible refine gate_load rfl ?_); (first | (refine' ia_load1 st rfl rfl rfl ?_ ?_; rotate_left 1; (focus (first | exact N0.out | exact N1.out | exact N2.out | exact N3.out | exact N4.out | exact N5.out | exact G2.out | exact G3.out | exact G4.out | exact G0.out | exact G1.out | (refine frv_get _ _ ?_; (first | omega | (simp; done) | (simp; omega) | (simp [*]; omega))) | exact rfl))) | (refine' ia_load1Z (hb.keep st.keep (by simp)) rfl rfl rfl ?_ ?_; rotate_left 1; (focus exact rfl)) | (refine' ia_load1Z (hb'.keep st.keep (by simp)) rfl rfl rfl ?_ ?_; rotate_left 1; (focus exact rfl)) | (refine' ia_load1C (hb.keep st.keep (by simp)) rfl rfl rfl ?_ ?_; rotate_left 1; (focus (first | exact N0.out | exact N1.out | exact N2.out | exact N3.out | exact N4.out | exact N5.out | exact G2.out | exact G3.out | exact G4.out | exact G0.out | exact G1.out | (refine frv_get _ _ ?_; (first | omega | (simp; done) | (simp; omega) | (simp [*]; omega))) | exact rfl))) | (refine' ia_load1C (hb'.keep st.keep (by simp)) rfl rfl rfl ?_ ?_; rotate_left 1; (focus (first | exact N0.out | exact N1.out | exact N2.out | exact N3.out | exact N4.out | exact N5.out | exact G2.out | exact G3.out | exact G4.out | exact G0.out | exact G1.out | (refine frv_get _ _ ?_; (first | omega | (simp; done) | (simp; omega) | (simp [*]; omega))) | exact rfl))) | (refine' ia_load1B (hb1.keep st.keep (by simp)) rfl rfl rfl ?_ ?_; rotate_left 1; (focus (first | exact N0.out | exact N1.out | exact N2.out | exact N3.out | exact N4.out | exact N5.out | exact G2.out | exact G3.out | exact G4.out | exact G0.out | exact G1.out | (refine frv_get _ _ ?_; (first | omega | (simp; done) | (simp; omega) | (simp [*]; omega))) | exact rfl))) | (refine' ia_load1B (hb2.keep st.keep (by simp)) rfl rfl rfl ?_ ?_; rotate_left 1; (focus (first | exact N0.out | exact N1.out | exact N2.out | exact N3.out | exact N4.out | exact N5.out | exact G2.out | exact G3.out | exact G4.out | exact G0.out | exact G1.out | (refine frv_get _ _ ?_; (first | omega | (simp; done) | (simp; omega) | (simp [*]; omega))) | exact rfl))) | (refine ia_loadAll st rfl rfl rfl ?_ ?_; (focus (first | rfl | (simp; done) | (simp; assumption) | (simp; omega) | (simp [*]; done)))) | (refine ia_loadC (hb.keep st.keep (by simp)) rfl rfl rfl ?_ ?_; (focus (first | rfl | (simp; done) | (simp; assumption) | (simp; omega) | (simp [*]; done)))) | (refine ia_loadC (hb'.keep st.keep (by simp)) rfl rfl rfl ?_ ?_; (focus (first | rfl | (simp; done) | (simp; assumption) | (simp; omega) | (simp [*]; done)))) | (refine ia_loadC (Cl.of (hb1.keep st.keep (by simp))) rfl rfl rfl ?_ ?_; (focus (first | rfl | (simp; done) | (simp; assumption) | (simp; omega) | (simp [*]; done)))) | (refine ia_loadC (Cl.of (hb2.keep st.keep (by simp))) rfl rfl rfl ?_ ?_; (focus (first | rfl | (simp; done) | (simp; assumption) | (simp; omega) | (simp [*]; done)))))) | ((with_reducible refine gate_store rfl ?_); (first | (refine ia_store1 st rfl rfl rfl rfl rfl rfl ?_ ?_; (focus (first | omega | (simp; done) | (simp; omega) | (simp [*]; omega))); clear st; intro _ st; (try simp only [Act.put, Act.eval, Array.getD_eq_getD_getElem?, List.getElem?_toArray, List.getElem?_cons_succ, List.getElem?_cons_zero, Option.getD_some, List.setIfInBounds_toArray, List.getElem_toArray, List.getElem_cons_succ, List.getElem_cons_zero, List.set_cons_zero, List.set_cons_succ] at st)) | (refine ia_storeAll st rfl rfl rfl rfl ?_ ?_ ?_ ?_; (focus (first | rfl | (simp; done) | (simp; assumption) | (simp; omega) | (simp [*]; done))); (focus (first | exact frv_one _ | exact fv_one _ | exact p8_one _ | exact k3_one _ | exact i1_one _ | (simp [Value.oneCell']; done))); (focus (first | rfl | (simp; done) | (simp; assumption) | (simp; omega) | (simp [*]; done))); clear st; intro _ st; (try simp only [List.set_cons_zero, List.set_cons_succ] at st)) | (refine ia_storeSeg st rfl rfl rfl rfl ?_ ?_ ?_ ?_; (focus (first | rfl | (simp; done) | (simp; assumption) | (simp; omega) | (simp [*]; done))); (focus (first | exact frv_one _ | exact fv_one _ | exact p8_one _ | exact k3_one _ | exact i1_one _ | (simp [Value.oneCell']; done))); (focus (first | omega | (simp; done) | (simp; omega) | (simp [*]; omega))); clear st; intro _ st; (try simp only [List.set_cons_zero, List.set_cons_succ] at st)))) | ((with_reducible refine gate_addr rfl ?_); (first | (refine' ia_slcP HP.out rfl rfl rfl rfl ?_ ?_ ?_) | (refine' ia_slcP HP2.out rfl rfl rfl rfl ?_ ?_ ?_)); rotate_left 1; (focus (first | exact (rfl : (0 : Int) = ((0 : Nat) : Int)) | exact (rfl : (1 : Int) = ((1 : Nat) : Int)) | exact rfl | exact HE1.out | exact HE2.out)); (focus (first | omega | (simp; done) | (simp; omega) | (simp [*]; omega)))) | ((with_reducible refine gate_build rfl ?_); refine' la_build ?_ rfl rfl ?_; rotate_left 1; (focus ((try simp only [List.map_cons, List.map_nil, Act.put, Act.eval, Array.getD_eq_getD_getElem?, List.getElem?_toArray, List.getElem?_cons_succ, List.getElem?_cons_zero, Option.getD_some, List.setIfInBounds_toArray, List.set_cons_succ, List.set_cons_zero, List.getElem_toArray, List.getElem_cons_succ, List.getElem_cons_zero]); (first | (with_reducible exact tFrB) | (with_reducible exact built_fil))))))) | ((with_reducible refine qgate_nil ?_); refine wpQuiet_nil ?_; (try intro _ st)) | ((with_reducible refine qgate_any ?_); (first | ((first | (with_reducible refine qg_move rfl ?_)); refine qa_val (fun _ _ => rfl) rfl ?_) | ((with_reducible refine qgate_load rfl ?_); (first | (refine' iq_load1 rfl rfl rfl ?_ ?_; rotate_left 1; (focus (first | exact N0.out | exact N1.out | exact N2.out | exact N3.out | exact N4.out | exact N5.out | exact G2.out | exact G3.out | exact G4.out | exact G0.out | exact G1.out | (refine frv_get _ _ ?_; (first | omega | (simp; done) | (simp; omega) | (simp [*]; omega))) | exact rfl))) | (refine' iq_load1Z hb rfl rfl rfl ?_ ?_; rotate_left 1; (focus exact rfl)) | (refine' iq_load1Z hb' rfl rfl rfl ?_ ?_; rotate_left 1; (focus exact rfl)) | (refine' iq_load1C hb rfl rfl rfl ?_ ?_; rotate_left 1; (focus (first | exact N0.out | exact N1.out | exact N2.out | exact N3.out | exact N4.out | exact N5.out | exact G2.out | exact G3.out | exact G4.out | exact G0.out | exact G1.out | (refine frv_get _ _ ?_; (first | omega | (simp; done) | (simp; omega) | (simp [*]; omega))) | exact rfl))) | (refine' iq_load1C hb' rfl rfl rfl ?_ ?_; rotate_left 1; (focus (first | exact N0.out | exact N1.out | exact N2.out | exact N3.out | exact N4.out | exact N5.out | exact G2.out | exact G3.out | exact G4.out | exact G0.out | exact G1.out | (refine frv_get _ _ ?_; (first | omega | (simp; done) | (simp; omega) | (simp [*]; omega))) | exact rfl))))) | ((with_reducible refine qgate_addr rfl ?_); (first | (refine' iq_slc rfl rfl rfl rfl ?_ ?_ ?_) | (refine' iq_slcP HP.out rfl rfl rfl rfl ?_ ?_ ?_) | (refine' iq_slcP HP2.out rfl rfl rfl rfl ?_ ?_ ?_) | (refine' iq_arr rfl rfl rfl rfl ?_ ?_ ?_)); rotate_left 1; (focus (first | exact (rfl : (0 : Int) = ((0 : Nat) : Int)) | exact (rfl : (1 : Int) = ((1 : Nat) : Int)) | exact rfl | exact HE1.out | exact HE2.out)); (focus (first | omega | (simp; done) | (simp; omega) | (simp [*]; omega)))) | ((with_reducible refine qgate_conv rfl ?_); refine' iq_conv rfl rfl rfl ?_ ?_; rotate_left 1; (focus (first | (refine IntWalk.i64_in _ ?_; omega) | (refine i8_wrap ?_ ?_ <;> omega) | exact rfl))) | ((with_reducible refine qgate_bin rfl ?_); refine' qa_bin ?_ rfl rfl rfl rfl ?_; rotate_left 1; (focus (first | exact run_add64 (by omega) (by omega) | exact run_sub64 (by omega) (by omega) | (intro w'; go_simp; exact rfl))))); all_goals (try (simp only [Nat.zero_add, Nat.add_zero, Nat.mul_one, Nat.zero_mul, Act.put, Act.eval, Array.getD_eq_getD_getElem?, List.getElem?_toArray, List.getElem?_cons_succ, List.getElem?_cons_zero, Option.getD_some, List.setIfInBounds_toArray, List.set_cons_succ, List.set_cons_zero, List.getElem_toArray, List.getElem_cons_succ, List.getElem_cons_zero]))) | ((with_reducible refine rgate (id := 20) ?_); refine wp_region_sched_st (id := 20) st [0, 1, 2, 3, 4] [5, 6, 7, 8, 9] [] (fun _ h => h.nil) (by kernel_rfl) (by kernel_rfl) ?_; clear st; simp only [sel, List.filterMap_cons, List.filterMap_nil, List.getElem?_cons_succ, List.getElem?_cons_zero]) | (with_reducible refine loud_go ?_) | ((with_reducible refine aftS_go ?_ ?_); (focus exact st.nil)) | (with_reducible refine loud_nil ?_))
            refine bodyPost_cell rfl tFr.toAggT rfl _ rfl _ _ (st.get (by repeat (first | exact At.here | apply At.there))) (by rw [frv_length]; exact HFL.out) ?_
            refine ⟨f, _, _, rfl, hf.out.1, hf.out.2, ?_, ?_, st.keep, st.get (by repeat (first | exact At.here | apply At.there))⟩
            · assumption
            · omega
end Go.Proofs.YtmfgbkmkcljciaaGreatDoor
/- Drawn books, whichever they are: they are valid, of seven pages at most; no condition. -/
namespace Go.Proofs.YtmfgbkmkcljciaaGreatDoor
open Go.RowKit
set_option linter.unusedSimpArgs false
set_option linter.unusedVariables false
theorem out_ofG {g b : Nat} {w w1 : World} {L : List (Nat × List Value × TypeId)} {cs : List Value} {E : TypeId} (st : St [g] w w1 L) (h : At b cs E L) (hne : b ≠ g) : w.heap.size ≤ b := by
  rcases st.ge _ h.mem with h1 | h1
  · exact h1
  · exact absurd (by simpa using h1) hne
theorem seg_at {w : World} {b : Nat} {R : List Fm} {sp : List Value} {T : TypeId} {j : Nat} (h : Blk w b (encs fv R ++ sp) T) (hj : j < R.length) : Cl w b (j * 12) (fv R[j]) := by
  have hc : Cl w b 0 (encs fv R) := ⟨h.lt, fun i v hi => by
    rw [Nat.zero_add]
    refine h.cellv ?_
    rw [List.getElem?_append_left (List.getElem?_eq_some_iff.1 hi).1]
    exact hi⟩
  have := hc.seg fv_len hj
  rwa [Nat.zero_add] at this
theorem encs_sn {α : Type} (e : α → List Value) (l : List α) (x : α) : encs e (l ++ [x]) = encs e l ++ e x := by rw [encs_append]; simp [encs]
theorem okL_snoc {R : List Fm} {x : Fm} (h : okL R = true) (hx : okB x.1 = true) : okL (R ++ [x]) = true := by
  unfold okL at h ⊢
  rw [List.all_append, h]
  simp [hx]
theorem okL_at {R : List Fm} (h : okL R = true) {j : Nat} (hj : j < R.length) : okB R[j].1 = true := by
  unfold okL at h
  exact List.all_eq_true.1 h _ (List.getElem_mem hj)
theorem five {v : Int} (h : 0 ≤ v ∧ v < 5) : v = 0 ∨ v = 1 ∨ v = 2 ∨ ((v == 0) = false ∧ (v == 1) = false ∧ (v == 2) = false) := six ⟨h.1, by omega⟩
theorem l01Moved_x (f : List Nat) (ok : FrOk f) (b o : Nat) (e s : Int) (he : -100 ≤ e ∧ e ≤ 100) (hs : -100 ≤ s ∧ s ≤ 100) (w : World) (hb : Cl w b o (frv f)) :
    Calls Tryz.prog 63 #[.pointer (some ⟨b, o, none⟩), .int .i64 e, .int .i64 s] w fun r w' => ∃ F : List Nat, r = .returned (.agg (frv F).toArray) ∧ F.length = 12 ∧ okB F = true ∧ Keep [] w w' :=
  (l01Moved_c f ok b o e s he hs w hb).mono fun r w' ⟨h1, h2⟩ => ⟨_, h1, over_length _ _ _, over_okB _ _ _, h2⟩
def DrawnB (p : Option Addr) (m c g k : Nat) (T : TypeId) (w : World) (e : Ending) (w' : World) : Prop := ∃ (R : List Fm) (n : Nat) (v : Value) (s' : Int) (k' : Nat), e = .returned v ∧ R.length = n ∧ n ≤ 7 ∧ okL R = true ∧ Gives 42 12 n (encs fv R) w v w' ∧ Sd s' ∧ k' ≤ k + 2000 ∧ Keep [g] w w' ∧ Blk w' g (srcC p m c k' s') T

set_option maxRecDepth 100000 in
set_option maxHeartbeats 4000000 in
theorem l02Drawn_c {p : Option Addr} {m c g k : Nat} {s : Int} {T : TypeId} {w : World} (h : SrcOk p m g w) (hb : Blk w g (srcC p m c k s) T) (hs : Sd s) (hk : k ≤ 5000) :
    Calls Tryz.prog 31 #[.pointer (some ⟨g, 0, none⟩), .int .i64 7] w (DrawnB p m c g k T w) := by
  have st := St.start1 hb
  have SRC := hid (fun w' (hk : Keep [g] w w') => h.keep hk)
  clear h hb
  go_enter Tryz.func31, Tryz.ntmps31
  go_wp2_with (first | (go_at_call 62; refine (pick_s (SRC.out _ st.keep) (st.get (by repeat (first | exact At.here | apply At.there))) (by assumption) (by omega) (by omega) (by omega)).mono ?_; rintro _ _ ⟨v, s', k', rfl, hv, hs', hk', hk, hb1⟩; replace st := st.wrote (by ((repeat (first | exact Upd.here | apply Upd.there)); done)) hk hb1; clear hk hb1) | (go_at_call 61; refine (l01Drawn_c (SRC.out _ st.keep) (st.get (by repeat (first | exact At.here | apply At.there))) (by assumption) (by omega)).mono ?_; rintro _ _ ⟨F, s', k', rfl, hF, hok, hs', hk', hk, hb1⟩; have HF := hid (And.intro hF hok); replace st := st.wrote (by ((repeat (first | exact Upd.here | apply Upd.there)); done)) hk hb1; clear hk hb1) | ((with_reducible refine gate_bsl rfl ?_); refine ia_bsl0 (sl := 8) st rfl rfl rfl ?_; clear st; intro B8 _ st) | ((with_reducible refine gate_lst ?_); (first | ((with_reducible refine gate_alloc rfl ?_); (first | (refine ia_alloc (sl := 6) st rfl rfl rfl ?_; clear st; intro B6 _ st))) | ((with_reducible refine gate_load rfl ?_); (first | (refine ia_loadAll st rfl rfl rfl ?_ ?_; (focus (first | rfl | (simp; done) | (simp; assumption) | (simp; omega) | (simp [*]; done)))) | (refine ia_loadC (hb.keep st.keep (by simp)) rfl rfl rfl ?_ ?_; (focus (first | rfl | (simp; done) | (simp; assumption) | (simp; omega) | (simp [*]; done)))) | (refine ia_loadC (hb'.keep st.keep (by simp)) rfl rfl rfl ?_ ?_; (focus (first | rfl | (simp; done) | (simp; assumption) | (simp; omega) | (simp [*]; done)))) | (refine ia_loadC (Cl.of (hb1.keep st.keep (by simp))) rfl rfl rfl ?_ ?_; (focus (first | rfl | (simp; done) | (simp; assumption) | (simp; omega) | (simp [*]; done)))) | (refine ia_loadC (Cl.of (hb2.keep st.keep (by simp))) rfl rfl rfl ?_ ?_; (focus (first | rfl | (simp; done) | (simp; assumption) | (simp; omega) | (simp [*]; done)))))) | ((with_reducible refine gate_store rfl ?_); (first | (refine ia_storeAll st rfl rfl rfl rfl ?_ ?_ ?_ ?_; (focus (first | rfl | (simp; done) | (simp; assumption) | (simp; omega) | (simp [*]; done))); (focus (first | exact frv_one _ | exact fv_one _ | exact p8_one _ | exact k3_one _ | exact i1_one _ | (simp [Value.oneCell']; done))); (focus (first | rfl | (simp; done) | (simp; assumption) | (simp; omega) | (simp [*]; done))); clear st; intro _ st; (try simp only [List.set_cons_zero, List.set_cons_succ] at st)) | (refine ia_storeSeg st rfl rfl rfl rfl ?_ ?_ ?_ ?_; (focus (first | rfl | (simp; done) | (simp; assumption) | (simp; omega) | (simp [*]; done))); (focus (first | exact frv_one _ | exact fv_one _ | exact p8_one _ | exact k3_one _ | exact i1_one _ | (simp [Value.oneCell']; done))); (focus (first | omega | (simp; done) | (simp; omega) | (simp [*]; omega))); clear st; intro _ st; (try simp only [List.set_cons_zero, List.set_cons_succ] at st)))) | ((with_reducible refine gate_addr rfl ?_); (first | (refine' ia_slcP HP.out rfl rfl rfl rfl ?_ ?_ ?_) | (refine' ia_slcP HP2.out rfl rfl rfl rfl ?_ ?_ ?_)); rotate_left 1; (focus (first | exact (rfl : (0 : Int) = ((0 : Nat) : Int)) | exact (rfl : (1 : Int) = ((1 : Nat) : Int)) | exact rfl | exact HE1.out | exact HE2.out)); (focus (first | omega | (simp; done) | (simp; omega) | (simp [*]; omega)))))))
  go_loopw [5, 7] (fun v r wr => ∃ (q : Int) (n k1 : Nat) (s1 : Int) (R : List Fm) (F : List Nat) (gO cap : Nat) (spare : List Value), v = .slice (some ⟨gO, 0, none⟩) n cap ∧ r = .int .i64 q ∧ 0 ≤ q ∧ (n : Int) + q ≤ 7 ∧ Hid (R.length = n ∧ okL R = true) ∧ k1 + 120 * q.toNat ≤ k + 1200 ∧ Sd s1 ∧ Hid (F.length = 12 ∧ okB F = true) ∧ St [g] w wr [(B6, frv F, 42), (gO, encs fv R ++ spare, 42), (g, srcC p m c k1 s1, T)] ∧ Hid ((encs fv R ++ spare).length = cap * 12) ∧ cap ≤ maxLen) (fun _ r _ => (intOf r).toNat)
  case atStart => exact ⟨_, 0, _, _, [], F, B8, 0, [], rfl, rfl, hv.1, by omega, hid ⟨rfl, rfl⟩, by omega, (by assumption), HF, st, hid rfl, Nat.zero_le _⟩
  case round =>
    clear st hs
    obtain ⟨q, n, k1, s1, R, F, gO, cap, spare, rfl, rfl, hq, hnq, HR, hk1, hs1, HF, st, HC, hcm⟩ := hrel
    by_cases hlt : 0 < q
    · have hd : decide ((0 : Int) < q) = true := by simpa using hlt
      have hRL : (encs fv R).length = n * 12 := by rw [encs_length fv_len, HR.out.1]
      have HRL := hid hRL
      have hFL := HF.out.1
      clear hRL
      rcases Nat.eq_zero_or_pos n with h0 | hpos
      · subst h0
        go_wp2_with (first | (go_at_call 62; refine (pick_s (SRC.out _ st.keep) (st.get (by repeat (first | exact At.here | apply At.there))) (by assumption) (by omega) (by omega) (by omega)).mono ?_; rintro _ _ ⟨v, s', k', rfl, hv, hs', hk', hk, hb1⟩; replace st := st.wrote (by ((repeat (first | exact Upd.here | apply Upd.there)); done)) hk hb1; clear hk hb1) | (go_at_call 61; refine (l01Drawn_c (SRC.out _ st.keep) (st.get (by repeat (first | exact At.here | apply At.there))) (by assumption) (by omega)).mono ?_; rintro _ _ ⟨F, s', k', rfl, hF, hok, hs', hk', hk, hb1⟩; have HF := hid (And.intro hF hok); replace st := st.wrote (by ((repeat (first | exact Upd.here | apply Upd.there)); done)) hk hb1; clear hk hb1) | (go_at_call 63; refine (l01Moved_x F (frOk_ok HF.out.1 HF.out.2) _ 0 _ _ ⟨by omega, by omega⟩ ⟨by omega, by omega⟩ _ (.of (st.get (by repeat (first | exact At.here | apply At.there))))).mono ?_; rintro _ _ ⟨F, rfl, hF, hok, hk⟩; have HF := hid (And.intro hF hok); replace st := st.call hk; clear hk) | ((with_reducible refine gate_bsl rfl ?_); refine ia_bsl1 (sl := 48) st rfl rfl rfl rfl rfl ?_ (by decide) ?_; (focus (first | rfl | (simp; done) | (simp; assumption) | (simp; omega) | (simp [*]; done))); clear st; intro B48 _ st) | ((with_reducible refine gate_app rfl ?_); refine ia_appendR (news := (frv F)) (xs := (encs fv R)) (spare := spare) st rfl rfl rfl rfl HRL.out HC.out hcm (.fr (st.get (by repeat (first | exact At.here | apply At.there)))) (fun h => by cases h) (by rw [frv_length]; have := HF.out.1; omega) (frv_one _) (by unfold maxLen; omega) (by omega) ?_; clear st; intro g2 cap2 spare2 _ st hcap2 hcm2; (try simp only [List.set_cons_zero, List.set_cons_succ] at st)) | ((with_reducible refine gate_lst ?_); (first | ((with_reducible refine gate_alloc rfl ?_); (first | (refine ia_alloc (sl := 6) st rfl rfl rfl ?_; clear st; intro B6 _ st))) | ((with_reducible refine gate_load rfl ?_); (first | (refine ia_loadAll st rfl rfl rfl ?_ ?_; (focus (first | rfl | (simp; done) | (simp; assumption) | (simp; omega) | (simp [*]; done)))) | (refine ia_loadC (hb.keep st.keep (by simp)) rfl rfl rfl ?_ ?_; (focus (first | rfl | (simp; done) | (simp; assumption) | (simp; omega) | (simp [*]; done)))) | (refine ia_loadC (hb'.keep st.keep (by simp)) rfl rfl rfl ?_ ?_; (focus (first | rfl | (simp; done) | (simp; assumption) | (simp; omega) | (simp [*]; done)))) | (refine ia_loadC (Cl.of (hb1.keep st.keep (by simp))) rfl rfl rfl ?_ ?_; (focus (first | rfl | (simp; done) | (simp; assumption) | (simp; omega) | (simp [*]; done)))) | (refine ia_loadC (Cl.of (hb2.keep st.keep (by simp))) rfl rfl rfl ?_ ?_; (focus (first | rfl | (simp; done) | (simp; assumption) | (simp; omega) | (simp [*]; done)))))) | ((with_reducible refine gate_store rfl ?_); (first | (refine ia_storeAll st rfl rfl rfl rfl ?_ ?_ ?_ ?_; (focus (first | rfl | (simp; done) | (simp; assumption) | (simp; omega) | (simp [*]; done))); (focus (first | exact frv_one _ | exact fv_one _ | exact p8_one _ | exact k3_one _ | exact i1_one _ | (simp [Value.oneCell']; done))); (focus (first | rfl | (simp; done) | (simp; assumption) | (simp; omega) | (simp [*]; done))); clear st; intro _ st; (try simp only [List.set_cons_zero, List.set_cons_succ] at st)) | (refine ia_storeSeg st rfl rfl rfl rfl ?_ ?_ ?_ ?_; (focus (first | rfl | (simp; done) | (simp; assumption) | (simp; omega) | (simp [*]; done))); (focus (first | exact frv_one _ | exact fv_one _ | exact p8_one _ | exact k3_one _ | exact i1_one _ | (simp [Value.oneCell']; done))); (focus (first | omega | (simp; done) | (simp; omega) | (simp [*]; omega))); clear st; intro _ st; (try simp only [List.set_cons_zero, List.set_cons_succ] at st)))) | ((with_reducible refine gate_addr rfl ?_); (first | (refine' ia_slcP HP.out rfl rfl rfl rfl ?_ ?_ ?_) | (refine' ia_slcP HP2.out rfl rfl rfl rfl ?_ ?_ ?_)); rotate_left 1; (focus (first | exact (rfl : (0 : Int) = ((0 : Nat) : Int)) | exact (rfl : (1 : Int) = ((1 : Nat) : Int)) | exact rfl | exact HE1.out | exact HE2.out)); (focus (first | omega | (simp; done) | (simp; omega) | (simp [*]; omega)))))))
        all_goals
          have st2 := st.drop
          rw [← show encs fv (R ++ [⟨F, frOk_ok HF.out.1 HF.out.2⟩]) = encs fv R ++ frv F from encs_sn fv R _] at st2 hcap2
          go_roundw
          case rel => exact ⟨q - 1, _, _, _, R ++ [⟨F, frOk_ok HF.out.1 HF.out.2⟩], F, g2, cap2, spare2, rfl, rfl, by omega, by omega, hid ⟨by rw [List.length_append, HR.out.1]; rfl, okL_snoc HR.out.2 HF.out.2⟩, by omega, (by assumption), HF, st2, hid hcap2, hcm2⟩
          case measure => first | (simp [intOf]; done) | (simp [intOf]; omega)
      · have hd2 : decide ((0 : Int) < (n : Int)) = true := by simp; omega
        go_wp2_with (first | (go_at_call 62; (with_reducible refine (pick_s (n := (n : Int)) (SRC.out _ st.keep) (st.get (by repeat (first | exact At.here | apply At.there))) (by assumption) (by omega) (by omega) (by omega)).mono ?_); rintro _ _ ⟨v, s', k', rfl, hv, hs', hk', hk, hb1⟩; replace st := st.wrote (by ((repeat (first | exact Upd.here | apply Upd.there)); done)) hk hb1; clear hk hb1; obtain ⟨j, rfl⟩ := Int.eq_ofNat_of_zero_le hv.1; have hjn : j < n := (by omega); have hjR : j < R.length := (by rw [HR.out.1]; exact hjn); have HF := hid (show R[j].1.length = 12 ∧ okB R[j].1 = true from ⟨R[j].2.len, okL_at HR.out.2 hjR⟩)) | (go_at_call 62; refine (pick_s (SRC.out _ st.keep) (st.get (by repeat (first | exact At.here | apply At.there))) (by assumption) (by omega) (by omega) (by omega)).mono ?_; rintro _ _ ⟨v, s', k', rfl, hv, hs', hk', hk, hb1⟩; replace st := st.wrote (by ((repeat (first | exact Upd.here | apply Upd.there)); done)) hk hb1; clear hk hb1) | (go_at_call 61; refine (l01Drawn_c (SRC.out _ st.keep) (st.get (by repeat (first | exact At.here | apply At.there))) (by assumption) (by omega)).mono ?_; rintro _ _ ⟨F, s', k', rfl, hF, hok, hs', hk', hk, hb1⟩; have HF := hid (And.intro hF hok); replace st := st.wrote (by ((repeat (first | exact Upd.here | apply Upd.there)); done)) hk hb1; clear hk hb1) | (go_at_call 63; refine (l01Moved_x F (frOk_ok HF.out.1 HF.out.2) _ 0 _ _ ⟨by omega, by omega⟩ ⟨by omega, by omega⟩ _ (.of (st.get (by repeat (first | exact At.here | apply At.there))))).mono ?_; rintro _ _ ⟨F, rfl, hF, hok, hk⟩; have HF := hid (And.intro hF hok); replace st := st.call hk; clear hk) | ((with_reducible refine gate_load rfl ?_); (with_reducible refine gate_dst (N := 45) rfl ?_); refine ia_loadC (seg_at (st.get (by repeat (first | exact At.here | apply At.there))) hjR) rfl rfl rfl (fv_len _) ?_; (obtain ⟨F, hFe⟩ : ∃ F, F = R[j].1 := ⟨_, rfl⟩); rw [← hFe] at HF; rw [show fv R[j] = frv F by rw [hFe]; rfl]; have hF := HF.out.1) | ((with_reducible refine gate_bsl rfl ?_); refine ia_bsl1 (sl := 48) st rfl rfl rfl rfl rfl ?_ (by decide) ?_; (focus (first | rfl | (simp; done) | (simp; assumption) | (simp; omega) | (simp [*]; done))); clear st; intro B48 _ st) | ((with_reducible refine gate_app rfl ?_); refine ia_appendR (news := (frv F)) (xs := (encs fv R)) (spare := spare) st rfl rfl rfl rfl HRL.out HC.out hcm (.fr (st.get (by repeat (first | exact At.here | apply At.there)))) (fun h => by cases h) (by rw [frv_length]; have := HF.out.1; omega) (frv_one _) (by unfold maxLen; omega) (by omega) ?_; clear st; intro g2 cap2 spare2 _ st hcap2 hcm2; (try simp only [List.set_cons_zero, List.set_cons_succ] at st)) | ((with_reducible refine gate_lst ?_); (first | ((with_reducible refine gate_alloc rfl ?_); (first | (refine ia_alloc (sl := 6) st rfl rfl rfl ?_; clear st; intro B6 _ st))) | ((with_reducible refine gate_load rfl ?_); (first | (refine ia_loadAll st rfl rfl rfl ?_ ?_; (focus (first | rfl | (simp; done) | (simp; assumption) | (simp; omega) | (simp [*]; done)))) | (refine ia_loadC (hb.keep st.keep (by simp)) rfl rfl rfl ?_ ?_; (focus (first | rfl | (simp; done) | (simp; assumption) | (simp; omega) | (simp [*]; done)))) | (refine ia_loadC (hb'.keep st.keep (by simp)) rfl rfl rfl ?_ ?_; (focus (first | rfl | (simp; done) | (simp; assumption) | (simp; omega) | (simp [*]; done)))) | (refine ia_loadC (Cl.of (hb1.keep st.keep (by simp))) rfl rfl rfl ?_ ?_; (focus (first | rfl | (simp; done) | (simp; assumption) | (simp; omega) | (simp [*]; done)))) | (refine ia_loadC (Cl.of (hb2.keep st.keep (by simp))) rfl rfl rfl ?_ ?_; (focus (first | rfl | (simp; done) | (simp; assumption) | (simp; omega) | (simp [*]; done)))))) | ((with_reducible refine gate_store rfl ?_); (first | (refine ia_storeAll st rfl rfl rfl rfl ?_ ?_ ?_ ?_; (focus (first | rfl | (simp; done) | (simp; assumption) | (simp; omega) | (simp [*]; done))); (focus (first | exact frv_one _ | exact fv_one _ | exact p8_one _ | exact k3_one _ | exact i1_one _ | (simp [Value.oneCell']; done))); (focus (first | rfl | (simp; done) | (simp; assumption) | (simp; omega) | (simp [*]; done))); clear st; intro _ st; (try simp only [List.set_cons_zero, List.set_cons_succ] at st)) | (refine ia_storeSeg st rfl rfl rfl rfl ?_ ?_ ?_ ?_; (focus (first | rfl | (simp; done) | (simp; assumption) | (simp; omega) | (simp [*]; done))); (focus (first | exact frv_one _ | exact fv_one _ | exact p8_one _ | exact k3_one _ | exact i1_one _ | (simp [Value.oneCell']; done))); (focus (first | omega | (simp; done) | (simp; omega) | (simp [*]; omega))); clear st; intro _ st; (try simp only [List.set_cons_zero, List.set_cons_succ] at st)))) | ((with_reducible refine gate_addr rfl ?_); (first | (refine' ia_slcP HP.out rfl rfl rfl rfl ?_ ?_ ?_) | (refine' ia_slcP HP2.out rfl rfl rfl rfl ?_ ?_ ?_)); rotate_left 1; (focus (first | exact (rfl : (0 : Int) = ((0 : Nat) : Int)) | exact (rfl : (1 : Int) = ((1 : Nat) : Int)) | exact rfl | exact HE1.out | exact HE2.out)); (focus (first | omega | (simp; done) | (simp; omega) | (simp [*]; omega)))))))
        all_goals
          have st2 := st.drop
          rw [← show encs fv (R ++ [⟨F, frOk_ok HF.out.1 HF.out.2⟩]) = encs fv R ++ frv F from encs_sn fv R _] at st2 hcap2
          go_roundw
          case rel => exact ⟨q - 1, _, _, _, R ++ [⟨F, frOk_ok HF.out.1 HF.out.2⟩], F, g2, cap2, spare2, rfl, rfl, by omega, by omega, hid ⟨by rw [List.length_append, HR.out.1]; rfl, okL_snoc HR.out.2 HF.out.2⟩, by omega, (by assumption), HF, st2, hid hcap2, hcm2⟩
          case measure => first | (simp [intOf]; done) | (simp [intOf]; omega)
    · have hd : decide ((0 : Int) < q) = false := by simpa using hlt
      go_wp2_with (first | ((with_reducible refine gate_lst ?_); (first | ((with_reducible refine gate_alloc rfl ?_); (first | (refine ia_alloc (sl := 6) st rfl rfl rfl ?_; clear st; intro B6 _ st))) | ((with_reducible refine gate_load rfl ?_); (first | (refine ia_loadAll st rfl rfl rfl ?_ ?_; (focus (first | rfl | (simp; done) | (simp; assumption) | (simp; omega) | (simp [*]; done)))) | (refine ia_loadC (hb.keep st.keep (by simp)) rfl rfl rfl ?_ ?_; (focus (first | rfl | (simp; done) | (simp; assumption) | (simp; omega) | (simp [*]; done)))) | (refine ia_loadC (hb'.keep st.keep (by simp)) rfl rfl rfl ?_ ?_; (focus (first | rfl | (simp; done) | (simp; assumption) | (simp; omega) | (simp [*]; done)))) | (refine ia_loadC (Cl.of (hb1.keep st.keep (by simp))) rfl rfl rfl ?_ ?_; (focus (first | rfl | (simp; done) | (simp; assumption) | (simp; omega) | (simp [*]; done)))) | (refine ia_loadC (Cl.of (hb2.keep st.keep (by simp))) rfl rfl rfl ?_ ?_; (focus (first | rfl | (simp; done) | (simp; assumption) | (simp; omega) | (simp [*]; done)))))) | ((with_reducible refine gate_store rfl ?_); (first | (refine ia_storeAll st rfl rfl rfl rfl ?_ ?_ ?_ ?_; (focus (first | rfl | (simp; done) | (simp; assumption) | (simp; omega) | (simp [*]; done))); (focus (first | exact frv_one _ | exact fv_one _ | exact p8_one _ | exact k3_one _ | exact i1_one _ | (simp [Value.oneCell']; done))); (focus (first | rfl | (simp; done) | (simp; assumption) | (simp; omega) | (simp [*]; done))); clear st; intro _ st; (try simp only [List.set_cons_zero, List.set_cons_succ] at st)) | (refine ia_storeSeg st rfl rfl rfl rfl ?_ ?_ ?_ ?_; (focus (first | rfl | (simp; done) | (simp; assumption) | (simp; omega) | (simp [*]; done))); (focus (first | exact frv_one _ | exact fv_one _ | exact p8_one _ | exact k3_one _ | exact i1_one _ | (simp [Value.oneCell']; done))); (focus (first | omega | (simp; done) | (simp; omega) | (simp [*]; omega))); clear st; intro _ st; (try simp only [List.set_cons_zero, List.set_cons_succ] at st)))) | ((with_reducible refine gate_addr rfl ?_); (first | (refine' ia_slcP HP.out rfl rfl rfl rfl ?_ ?_ ?_) | (refine' ia_slcP HP2.out rfl rfl rfl rfl ?_ ?_ ?_)); rotate_left 1; (focus (first | exact (rfl : (0 : Int) = ((0 : Nat) : Int)) | exact (rfl : (1 : Int) = ((1 : Nat) : Int)) | exact rfl | exact HE1.out | exact HE2.out)); (focus (first | omega | (simp; done) | (simp; omega) | (simp [*]; omega)))))))
      go_ret
      have hne := st.nd
      simp only [List.map_cons, List.nodup_cons, List.mem_cons, not_or] at hne
      refine ⟨R, n, _, _, _, rfl, HR.out.1, by omega, HR.out.2, ⟨gO, cap, spare, rfl, out_ofG st (.there .here) hne.2.1.1, st.get (.there .here), HC.out, hcm⟩, ?_, ?_, st.keep, st.get (by repeat (first | exact At.here | apply At.there))⟩
      · assumption
      · omega
theorem bk_of7 {R : List Fm} (h : okL R = true) (hn : R.length ≤ 40) : bkB R = true := by unfold bkB; rw [h, decide_eq_true hn]; rfl
theorem A2Book_c {p : Option Addr} {m c : Nat} {w : World} (hm : m ≤ 4096) (B : List Int) (hB : B.length = m) (h8 : ∀ x ∈ B, 0 ≤ x ∧ x ≤ 255) (hr : Rd w p m (encs u1 B)) :
    Calls Tryz.prog 5 #[.slice p m c] w fun e w' => ∃ (R : List Fm) (n : Nat) (v : Value), e = .returned v ∧ R.length = n ∧ n ≤ 7 ∧ bkB R = true ∧ Gives 42 12 n (encs fv R) w v w' ∧ Keep [] w w' := by
  have st := St.start w
  have HSRC := hid (fun (g : Nat) (w' : World) (hk : Keep [] w w') (hg : w.heap.size ≤ g) => (⟨hm, ⟨B, hB, h8, hr.keep hk⟩, fun hm0 b f hp => by
    obtain ⟨b', f', hp', hc⟩ := hr hm0
    rw [hp] at hp'
    cases hp'
    have := hc.1
    omega⟩ : SrcOk p m g w'))
  clear hr hB h8
  go_enter Tryz.func5, Tryz.ntmps5
  go_wp2_with (first | (go_at_call 32; refine (l00From_c p m c _).mono ?_; rintro _ _ ⟨g, rfl, hg, hbg, hk⟩; have hg2 := Nat.le_trans st.keep.size hg; replace st := st.adopt hk hg hbg; clear hk hbg; have hst1 := hid st.keep) | (go_at_call 31; refine (l02Drawn_c (HSRC.out _ _ st.keep hg2) (st.get (by repeat (first | exact At.here | apply At.there))) ⟨by omega, by omega⟩ (by omega)).mono ?_; rintro _ _ ⟨R, n, v, s', k', rfl, hRn, hn, hok, hgv, hs', hk', hk, hb1⟩; have HG := hid (hgv.since hst1.out); replace st := st.wrote (by ((repeat (first | exact Upd.here | apply Upd.there)); done)) hk hb1; clear hk hb1 hgv))
  go_ret
  exact ⟨R, n, v, rfl, hRn, hn, bk_of7 hok (by omega), HG.out, st.keep⟩
end Go.Proofs.YtmfgbkmkcljciaaGreatDoor
/- What the functions on books answer where the books are valid and no slice is nil; no condition. -/
namespace Go.Proofs.YtmfgbkmkcljciaaGreatDoor
open Go.RowKit
set_option linter.unusedSimpArgs false
set_option linter.unusedVariables false
def GiveC (E : TypeId) (sz n : Nat) (xs : List Value) (w : World) (e : Ending) (w' : World) : Prop := ∃ v, e = .returned (.tuple #[v, .int .i64 0]) ∧ Gives E sz n xs w v w' ∧ Keep [] w w'
def Give2C (m n : Nat) (xs ys : List Value) (w : World) (e : Ending) (w' : World) : Prop := ∃ v u, e = .returned (.tuple #[v, u, .int .i64 0]) ∧ Gives2 42 2 12 1 m n xs ys w v u w' ∧ Keep [] w w'
theorem BookCode.give {R : List Fm} {n : Nat} {code : Int} {q : Prop} {w w' : World} {e : Ending} (h : BookCode R n code q w e w') (hc : code = 0) (hq : ¬ q) : GiveC 42 12 n (encs fv R) w e w' := by
  subst hc
  obtain ⟨v, rfl, h | h, hk⟩ := h
  · exact absurd h.1 hq
  · exact ⟨v, rfl, h, hk⟩
theorem IntsCode.give {R : List Int} {n : Nat} {code : Int} {q : Prop} {w w' : World} {e : Ending} (h : IntsCode R n code q w e w') (hc : code = 0) (hq : ¬ q) : GiveC 2 1 n (encs i1 R) w e w' := by
  subst hc
  obtain ⟨v, rfl, h | h, hk⟩ := h
  · exact absurd h.1 hq
  · exact ⟨v, rfl, h, hk⟩
theorem DistCode.give {R : List Fm} {I : List Int} {m n : Nat} {code : Int} {q : Prop} {w w' : World} {e : Ending} (h : DistCode R I m n code q w e w') (hc : code = 0) (hq : ¬ q) : Give2C m n (encs fv R) (encs i1 I) w e w' := by
  subst hc
  obtain ⟨v, u, rfl, h | h, hk⟩ := h
  · exact absurd h.1 hq
  · exact ⟨v, u, rfl, h, hk⟩
theorem noq {c : Int} {b : Nat} (hc : c = 0) : ¬ (c ≠ 0 ∨ (some ⟨b, 0, none⟩ : Option Addr) = none) := by
  rintro (h | h)
  · exact h hc
  · cases h
section
variable {B : List Fm} {n b c : Nat} {w : World}
theorem okC_0 (h : bkB B = true) : okC B = 0 := if_pos h
theorem BookText_v (h : bkB B = true) (hB : B.length = n) (hr : Rd w (some ⟨b, 0, none⟩) n (encs fv B)) : Calls Tryz.prog 7 #[.slice (some ⟨b, 0, none⟩) n c] w fun e w' => e = .returned (.string ⟨(btxt B).toArray⟩) ∧ Keep [] w w' := by
  have h40 := bkB_len h
  have := BookText_c B n hB (by omega) _ c w hr
  unfold bkT at this
  rw [if_pos h] at this
  exact this
theorem ReadBook_v (h : bkB B = true) (hB : B.length = n) (hg : GlobM w) : Calls Tryz.prog 6 #[.string ⟨(btxt B).toArray⟩] w (GiveC 42 12 n (encs fv B) w) := by
  have h40 := bkB_len h
  have hl : (btxt B).length ≤ 1000000 := by
    have := btx_length B B.length
    unfold btxt
    omega
  obtain ⟨h1, h2⟩ := rb_read h
  have h3 : rbC (btxt B) = 0 := by unfold rbC; rw [h1]; rfl
  have := ReadBook_c (btxt B) _ rfl hl w hg
  rw [h2, hB] at this
  exact this.mono fun e w' hh => hh.give h3 (fun hn => hn h3)
theorem JumpsOf_v (h : bkB B = true) (hB : B.length = n) {q : Nat} (hq : n - 1 = q) (hr : Rd w (some ⟨b, 0, none⟩) n (encs fv B)) : Calls Tryz.prog 8 #[.slice (some ⟨b, 0, none⟩) n c] w (GiveC 2 1 q (encs i1 (jmpL B)) w) := by
  have h40 := bkB_len h
  have := JumpsOf_c B n hB (by omega) _ c w hr
  unfold jmpR at this
  rw [if_pos h, jmpL_length, hB, hq] at this
  exact this.mono fun e w' hh => hh.give (okC_0 h) (noq (okC_0 h))
theorem specJumpsOf_v (h : bkB B = true) (hB : B.length = n) {q : Nat} (hq : n - 1 = q) (hr : Rd w (some ⟨b, 0, none⟩) n (encs fv B)) : Calls Tryz.prog 9 #[.slice (some ⟨b, 0, none⟩) n c] w (GiveC 2 1 q (encs i1 (jmpL B)) w) := by
  have h40 := bkB_len h
  have := specJumpsOf_c B n hB (by omega) _ c w hr
  unfold jmpR at this
  rw [if_pos h, jmpL_length, hB, hq] at this
  exact this.mono fun e w' hh => hh.give (okC_0 h) (fun q => q)
theorem BackBook_v (h : bkB B = true) (hB : B.length = n) (hr : Rd w (some ⟨b, 0, none⟩) n (encs fv B)) : Calls Tryz.prog 10 #[.slice (some ⟨b, 0, none⟩) n c] w (GiveC 42 12 n (encs fv B.reverse) w) := by
  have h40 := bkB_len h
  have h0 : bkCode B = 0 := if_pos h
  have := BackBook_c B n hB (by omega) (some ⟨b, 0, none⟩) (fun h => by cases h) c w hr
  unfold backR at this
  rw [if_pos h, List.length_reverse, hB] at this
  exact this.mono fun e w' hh => hh.give h0 (noq h0)
theorem specBackBook_v (h : bkB B = true) (hB : B.length = n) (hr : Rd w (some ⟨b, 0, none⟩) n (encs fv B)) : Calls Tryz.prog 11 #[.slice (some ⟨b, 0, none⟩) n c] w (GiveC 42 12 n (encs fv B.reverse) w) := by
  have h40 := bkB_len h
  have := specBackBook_c B n hB (by omega) _ c w hr
  unfold backR at this
  rw [if_pos h, List.length_reverse, hB] at this
  exact this.mono fun e w' hh => hh.give (if_pos h) (fun q => q)
theorem AllJumps_v (h : bkB B = true) (hB : B.length = n) (hr : Rd w (some ⟨b, 0, none⟩) n (encs fv B)) : Calls Tryz.prog 12 #[.slice (some ⟨b, 0, none⟩) n c] w fun e w' => e = .returned (.tuple #[.int .i64 (sumI (jmpL B)), .int .i64 0]) ∧ Keep [] w w' := by
  have h40 := bkB_len h
  have := AllJumps_c B n hB (by omega) _ c w hr
  unfold allR at this
  rw [if_pos h, okC_0 h] at this
  exact this
theorem LoopJumps_v (h : bkB B = true) (hB : B.length = n) (hr : Rd w (some ⟨b, 0, none⟩) n (encs fv B)) : Calls Tryz.prog 13 #[.slice (some ⟨b, 0, none⟩) n c] w fun e w' => e = .returned (.tuple #[.int .i64 (loopR B), .int .i64 0]) ∧ Keep [] w w' := by
  have h40 := bkB_len h
  have := Loop_c B n hB (by omega) _ c w hr
  rw [okC_0 h] at this
  exact this
theorem Distinct_v (h : bkB B = true) (hB : B.length = n) {m : Nat} (hm : (dbk B).length = m) (hr : Rd w (some ⟨b, 0, none⟩) n (encs fv B)) : Calls Tryz.prog 20 #[.slice (some ⟨b, 0, none⟩) n c] w (Give2C m n (encs fv (dbk B)) (encs i1 (dpl B)) w) := by
  have h40 := bkB_len h
  have := Distinct_c B n hB (by omega) _ c w hr
  unfold disR disI at this
  rw [if_pos h, if_pos h, dpl_length, hB, hm] at this
  exact this.mono fun e w' hh => hh.give (okC_0 h) (noq (okC_0 h))
theorem specDistinct_v (h : bkB B = true) (hB : B.length = n) {m : Nat} (hm : (dbk B).length = m) (hr : Rd w (some ⟨b, 0, none⟩) n (encs fv B)) : Calls Tryz.prog 21 #[.slice (some ⟨b, 0, none⟩) n c] w (Give2C m n (encs fv (dbk B)) (encs i1 (dpl B)) w) := by
  have h40 := bkB_len h
  have := specDistinct_c B n hB (by omega) _ c w hr
  unfold disR disI at this
  rw [if_pos h, if_pos h, dpl_length, hB, hm] at this
  exact this.mono fun e w' hh => hh.give (okC_0 h) (fun q => q)
theorem RepeatsIn_v (h : bkB B = true) (hB : B.length = n) (hr : Rd w (some ⟨b, 0, none⟩) n (encs fv B)) : Calls Tryz.prog 22 #[.slice (some ⟨b, 0, none⟩) n c] w (GiveC 2 1 n (encs i1 (repL B)) w) := by
  have h40 := bkB_len h
  have := RepeatsIn_c B n hB (by omega) _ c w hr
  unfold repR at this
  rw [if_pos h, repL_length, hB] at this
  exact this.mono fun e w' hh => hh.give (okC_0 h) (noq (okC_0 h))
theorem specRepeats_v (h : bkB B = true) (hB : B.length = n) (hr : Rd w (some ⟨b, 0, none⟩) n (encs fv B)) : Calls Tryz.prog 23 #[.slice (some ⟨b, 0, none⟩) n c] w (GiveC 2 1 n (encs i1 (repL B)) w) := by
  have h40 := bkB_len h
  have := specRepeats_c B n hB (by omega) _ c w hr
  unfold repR at this
  rw [if_pos h, repL_length, hB] at this
  exact this.mono fun e w' hh => hh.give (okC_0 h) (fun q => q)
theorem CutBook_v (h : bkB B = true) (hB : B.length = n) (hc : n ≤ c) {f t : Nat} (hft : f ≤ t) (htn : t ≤ n) (hr : Rd w (some ⟨b, 0, none⟩) n (encs fv B)) : Calls Tryz.prog 25 #[.slice (some ⟨b, 0, none⟩) n c, .int .i64 f, .int .i64 t] w (GiveC 42 12 (t - f) (encs fv ((B.drop f).take (t - f))) w) := by
  have h40 := bkB_len h
  have h0 : cutBC B f t = 0 := by
    unfold cutBC cutIn
    rw [if_pos h, hB, if_pos]
    rw [Bool.and_eq_true]
    exact ⟨inB_yes (by omega) (by omega), inB_yes (by omega) (by omega)⟩
  have := CutBook_c B n hB (by omega) (some ⟨b, 0, none⟩) (fun h => by cases h) c hc f t w hr
  have h1 : cutBR B f t = (B.drop f).take (t - f) := by
    unfold cutBR
    rw [if_pos h0]
    simp only [Int.toNat_natCast]
  have h2 : ((B.drop f).take (t - f)).length = t - f := by rw [List.length_take, List.length_drop]; omega
  rw [h1, h2] at this
  exact this.mono fun e w' hh => hh.give h0 (noq h0)
theorem Join_v {A : List Fm} {m b' c' : Nat} (hA : A.length = m) (hB : B.length = n) (h : bkB (A ++ B) = true) (hr : Rd w (some ⟨b', 0, none⟩) m (encs fv A)) (hr' : Rd w (some ⟨b, 0, none⟩) n (encs fv B)) :
    Calls Tryz.prog 26 #[.slice (some ⟨b', 0, none⟩) m c', .slice (some ⟨b, 0, none⟩) n c] w fun e w' => ∃ v, e = .returned (.tuple #[v, .int .i64 0]) ∧ SlOut 42 12 (m + n) (encs fv (A ++ B)) True w v w' ∧ Keep [] w w' := by
  have h40 := bkB_len h
  rw [List.length_append] at h40
  have hab : bkB A = true ∧ bkB B = true := by
    have h1 := bkB_ok h
    unfold okL at h1
    rw [List.all_append, Bool.and_eq_true] at h1
    exact ⟨bk_of7 h1.1 (by omega), bk_of7 h1.2 (by omega)⟩
  have h0 : joC A B = 0 := by
    unfold joC
    rw [hab.1, hab.2, Bool.and_self, if_pos rfl, if_pos (by rw [List.length_append]; exact h40)]
  have := Join_b A B m n hA hB (by omega) (by omega) (some ⟨b', 0, none⟩) (some ⟨b, 0, none⟩) c' c (fun h => by cases h) (fun h => by cases h) w hr hr'
  have h1 : joR A B = A ++ B := if_pos h0
  unfold BookCode at this
  rw [h0, h1, List.length_append, hA, hB] at this
  exact this
theorem ToAndFro_v (h : bkB B = true) (hB : B.length = n) (hn : n ≤ 20) {m : Nat} (hm : (froF B).length = m) (hr : Rd w (some ⟨b, 0, none⟩) n (encs fv B)) : Calls Tryz.prog 27 #[.slice (some ⟨b, 0, none⟩) n c] w (GiveC 42 12 m (encs fv (froF B)) w) := by
  have hl : (froF B).length = n + (n - 2) := by unfold froF; rw [froL_length B hB (by omega), hB]
  have h0 : froC B = 0 := by
    unfold froC
    rw [if_pos h, if_pos (by omega)]
  have := ToAndFro_c B n hB (by omega) (some ⟨b, 0, none⟩) (fun h => by cases h) c w hr
  have h1 : froR B = froF B := if_pos h0
  rw [h1, hm] at this
  exact this.mono fun e w' hh => hh.give h0 (noq h0)
theorem specFro_v (h : bkB B = true) (hB : B.length = n) (hn : n ≤ 20) {m : Nat} (hm : (froF B).length = m) (hr : Rd w (some ⟨b, 0, none⟩) n (encs fv B)) : Calls Tryz.prog 28 #[.slice (some ⟨b, 0, none⟩) n c] w (GiveC 42 12 m (encs fv (froF B)) w) := by
  have hl : (froF B).length = n + (n - 2) := by unfold froF; rw [froL_length B hB (by omega), hB]
  have h0 : froC B = 0 := by
    unfold froC
    rw [if_pos h, if_pos (by omega)]
  have := specFro_c B n hB (by omega) (some ⟨b, 0, none⟩) (fun h => by cases h) c w hr
  have h1 : froR B = froF B := if_pos h0
  rw [h1, hm] at this
  exact this.mono fun e w' hh => hh.give h0 (fun q => q)
theorem ev_0 (h : bkB B = true) (hB : B.length = n) {s f : Nat} (hs : 1 ≤ s) (hs2 : s ≤ 40) (hf : f < n) : evC B s f = 0 := by
  unfold evC evIn
  rw [if_pos h, hB, if_pos]
  rw [Bool.and_eq_true]
  exact ⟨inB_yes (by omega) (by omega), inB_yes (by omega) (by omega)⟩
theorem ev_R (h : bkB B = true) (hB : B.length = n) {s f : Nat} (hs : 1 ≤ s) (hs2 : s ≤ 40) (hf : f < n) : evR B s f = evL B s f (evN n s f) := by
  unfold evR
  rw [if_pos (ev_0 h hB hs hs2 hf), hB]
  simp only [Int.toNat_natCast]
theorem EveryPage_v (h : bkB B = true) (hB : B.length = n) {s f : Nat} (hs : 1 ≤ s) (hs2 : s ≤ 40) (hf : f < n) (hr : Rd w (some ⟨b, 0, none⟩) n (encs fv B)) : Calls Tryz.prog 29 #[.slice (some ⟨b, 0, none⟩) n c, .int .i64 s, .int .i64 f] w (GiveC 42 12 (evN n s f) (encs fv (evL B s f (evN n s f))) w) := by
  have h40 := bkB_len h
  have h0 := ev_0 h hB hs hs2 hf
  have := EveryPage_c B n hB (by omega) (some ⟨b, 0, none⟩) c s f w hr
  rw [ev_R h hB hs hs2 hf, evL_length] at this
  exact this.mono fun e w' hh => hh.give h0 (noq h0)
theorem specEvery_v (h : bkB B = true) (hB : B.length = n) {s f : Nat} (hs : 1 ≤ s) (hs2 : s ≤ 40) (hf : f < n) (hr : Rd w (some ⟨b, 0, none⟩) n (encs fv B)) : Calls Tryz.prog 30 #[.slice (some ⟨b, 0, none⟩) n c, .int .i64 s, .int .i64 f] w (GiveC 42 12 (evN n s f) (encs fv (evL B s f (evN n s f))) w) := by
  have h40 := bkB_len h
  have h0 := ev_0 h hB hs hs2 hf
  have := specEvery_c B n hB (by omega) (some ⟨b, 0, none⟩) c s f w hr
  rw [ev_R h hB hs hs2 hf, evL_length] at this
  exact this.mono fun e w' hh => hh.give h0 (fun q => q)
theorem SameBook_v {p p' : Option Addr} {c' : Nat} (hr : Rd w p n (encs fv B)) (hr' : Rd w p' n (encs fv B)) (hB : B.length = n) (hn : n ≤ 1000) : Calls Tryz.prog 14 #[.slice p n c, .slice p' n c'] w fun e w' => e = .returned (.bool true) ∧ Keep [] w w' := by
  have := SameBook_c B B n n hB hB (by omega) (by omega) p p' c c' w hr hr'
  rw [show decide (B = B) = true by simp] at this
  exact this
theorem specSameBook_v {p p' : Option Addr} {c' : Nat} (hr : Rd w p n (encs fv B)) (hr' : Rd w p' n (encs fv B)) (hB : B.length = n) (hn : n ≤ 1000) : Calls Tryz.prog 15 #[.slice p n c, .slice p' n c'] w fun e w' => e = .returned (.bool true) ∧ Keep [] w w' := by
  have := specSameBook_c B B n n hB hB (by omega) (by omega) p p' c c' w hr hr'
  rw [show decide (B = B) = true by simp] at this
  exact this
theorem A2Same_v {I : List Int} {p p' : Option Addr} {c' : Nat} (hr : Rd w p n (encs i1 I)) (hr' : Rd w p' n (encs i1 I)) (hI : I.length = n) (hn : n ≤ 1000) : Calls Tryz.prog 17 #[.slice p n c, .slice p' n c'] w fun e w' => e = .returned (.bool true) ∧ Keep [] w w' := A2Same_c I n hI (by omega) p p' c c' w hr hr'
theorem a2At_v {p : Option Addr} {m : Nat} {a : Int} {k : Int} (ha : 0 ≤ a ∧ a ≤ 10) (hk : 1 ≤ k ∧ k ≤ 100) (hm : m ≤ 3000) (I : List Int) (hI : I.length = m) (h8 : ∀ x ∈ I, 0 ≤ x ∧ x ≤ 255) (hr : Rd w p m (encs u1 I)) :
    Calls Tryz.prog 24 #[.slice p m c, .int .i64 a, .int .i64 k] w (At2 k w) := by
  obtain ⟨j, rfl⟩ := Int.eq_ofNat_of_zero_le ha.1
  exact a2At_c (by omega) (by omega) hk.1 (by omega) I hI h8 hr
theorem DifferBy_v (x y : Fm) (hx : okB x.1 = true) (hy : okB y.1 = true) : Calls Tryz.prog 18 #[.agg (fv x).toArray, .agg (fv y).toArray] w fun e w' => e = .returned (.tuple #[.int .i64 (jmp x y), .int .i64 0]) ∧ Keep [] w w' := by
  have := Differ_c x.1 y.1 x.2 y.2 w
  unfold difR at this
  rw [codeG_0 hx hy, if_pos rfl] at this
  exact this
theorem JumpsRev_v (h : bkB B = true) (hB : B.length = n) {q : Nat} (hq : n - 1 = q) (hr : Rd w (some ⟨b, 0, none⟩) n (encs fv B.reverse)) : Calls Tryz.prog 8 #[.slice (some ⟨b, 0, none⟩) n c] w (GiveC 2 1 q (encs i1 (jmpL B).reverse) w) := by
  have := JumpsOf_v (c := c) ((bkB_rev B).trans h) (by rw [List.length_reverse]; exact hB) hq hr
  rw [jmpL_rev] at this
  exact this
theorem LoopRev_v (h : bkB B = true) (hB : B.length = n) (hr : Rd w (some ⟨b, 0, none⟩) n (encs fv B.reverse)) : Calls Tryz.prog 13 #[.slice (some ⟨b, 0, none⟩) n c] w fun e w' => e = .returned (.tuple #[.int .i64 (loopR B), .int .i64 0]) ∧ Keep [] w w' := by
  have := LoopJumps_v (c := c) ((bkB_rev B).trans h) (by rw [List.length_reverse]; exact hB) hr
  rw [loop_rev] at this
  exact this
theorem Valid_v (h : bkB B = true) (hB : B.length = n) (hr : Rd w (some ⟨b, 0, none⟩) n (encs fv B)) : Calls Tryz.prog 16 #[.slice (some ⟨b, 0, none⟩) n c] w fun e w' => e = .returned (.bool true) ∧ Keep [] w w' :=
  ValidBook_v h n hB (by have := bkB_len h; omega) _ c w hr
end
theorem CutBook0_v {B : List Fm} {n b c : Nat} {w : World} (h : bkB B = true) (hB : B.length = n) (hc : n ≤ c) {t : Nat} (htn : t ≤ n) (hr : Rd w (some ⟨b, 0, none⟩) n (encs fv B)) : Calls Tryz.prog 25 #[.slice (some ⟨b, 0, none⟩) n c, .int .i64 0, .int .i64 t] w (GiveC 42 12 t (encs fv (B.take t)) w) := by
  have := CutBook_v h hB hc (Nat.zero_le t) htn hr
  rw [Nat.sub_zero, List.drop_zero] at this
  exact this
theorem CutBook1_v {B : List Fm} {n b c : Nat} {w : World} (h : bkB B = true) (hB : B.length = n) (hc : n ≤ c) {t : Nat} (htn : t ≤ n) {r : Nat} (hr0 : n - t = r) (hr : Rd w (some ⟨b, 0, none⟩) n (encs fv B)) : Calls Tryz.prog 25 #[.slice (some ⟨b, 0, none⟩) n c, .int .i64 t, .int .i64 n] w (GiveC 42 12 r (encs fv (B.drop t)) w) := by
  have := CutBook_v h hB hc htn (Nat.le_refl n) hr
  rw [List.take_of_length_le (by rw [List.length_drop, hB]; omega), hr0] at this
  exact this
theorem JoinCut_v {B : List Fm} {n : Nat} {w : World} (h : bkB B = true) (hB : B.length = n) {t r b b' c c' : Nat} (ht : t ≤ n) (hr0 : n - t = r) (hr : Rd w (some ⟨b, 0, none⟩) t (encs fv (B.take t))) (hr' : Rd w (some ⟨b', 0, none⟩) r (encs fv (B.drop t))) :
    Calls Tryz.prog 26 #[.slice (some ⟨b, 0, none⟩) t c, .slice (some ⟨b', 0, none⟩) r c'] w fun e w' => ∃ v, e = .returned (.tuple #[v, .int .i64 0]) ∧ SlOut 42 12 n (encs fv B) True w v w' ∧ Keep [] w w' := by
  have h1 : (B.take t).length = t := by rw [List.length_take]; omega
  have h2 : (B.drop t).length = r := by rw [List.length_drop]; omega
  have := Join_v (c := c') (c' := c) h1 h2 (by rw [List.take_append_drop]; exact h) hr hr'
  rw [List.take_append_drop, show t + r = n by omega] at this
  exact this
theorem everyE {B : List Fm} {n : Nat} (h : bkB B = true) (hB : B.length = n) {si : Int} (hs : 1 ≤ si ∧ si ≤ 40) {f : Nat} (hf : f < n) : ∃ (E : List Fm) (ne : Nat), E.length = ne ∧ ne ≤ 1000 ∧ 0 < ne ∧ E.getD 0 fz = B.getD f fz ∧
    (∀ (w : World) (b c : Nat), Rd w (some ⟨b, 0, none⟩) n (encs fv B) → Calls Tryz.prog 29 #[.slice (some ⟨b, 0, none⟩) n c, .int .i64 si, .int .i64 f] w (GiveC 42 12 ne (encs fv E) w)) ∧
    (∀ (w : World) (b c : Nat), Rd w (some ⟨b, 0, none⟩) n (encs fv B) → Calls Tryz.prog 30 #[.slice (some ⟨b, 0, none⟩) n c, .int .i64 si, .int .i64 f] w (GiveC 42 12 ne (encs fv E) w)) := by
  obtain ⟨s, rfl⟩ := Int.eq_ofNat_of_zero_le (show 0 ≤ si by omega)
  have h40 := bkB_len h
  have hN : 0 < evN n s f := (evN_iff (k := 0) (by omega) hf).1 (by omega)
  have hN2 : evN n s f ≤ 1000 := by
    rcases Nat.lt_or_ge 1000 (evN n s f) with h1 | h1
    · have := (evN_iff (k := 1000) (by omega : 0 < s) hf).2 h1
      have h2 : 1000 * 1 ≤ 1000 * s := Nat.mul_le_mul_left _ (by omega)
      omega
    · exact h1
  refine ⟨evL B s f (evN n s f), evN n s f, evL_length _ _ _ _, hN2, hN, ?_, fun w b c hr => EveryPage_v h hB (by omega) (by omega) hf hr, fun w b c hr => specEvery_v h hB (by omega) (by omega) hf hr⟩
  unfold evL
  rw [List.getD_eq_getElem?_getD, List.getElem?_map, List.getElem?_range hN]
  simp only [Option.map_some, Option.getD_some, Nat.zero_mul, Nat.add_zero]
theorem run_lssF {P : Program} {T : TypeId} {a b : Int} (h : ¬ a < b) (w : World) : (binOp .lss T (.int .i64 a) (.int .i64 b)).run P w = .ok (.bool false) w := by
  have e : decide (a < b) = false := by simpa using h
  go_simp
  try exact e
theorem run_gtrF {P : Program} {T : TypeId} {a b : Int} (h : ¬ b < a) (w : World) : (binOp .gtr T (.int .i64 a) (.int .i64 b)).run P w = .ok (.bool false) w := by
  have e : decide (b < a) = false := by simpa using h
  go_simp
  try exact e
theorem run_gtrT {P : Program} {T : TypeId} {a b : Int} (h : b < a) (w : World) : (binOp .gtr T (.int .i64 a) (.int .i64 b)).run P w = .ok (.bool true) w := by
  have e : decide (b < a) = true := by simpa using h
  go_simp
  try exact e
theorem run_geqF {P : Program} {T : TypeId} {a b : Int} (h : ¬ b ≤ a) (w : World) : (binOp .geq T (.int .i64 a) (.int .i64 b)).run P w = .ok (.bool false) w := by
  have e : decide (b ≤ a) = false := by simpa using h
  go_simp
  try exact e
theorem run_eqlT {P : Program} {T : TypeId} (a : Int) (w : World) : (binOp .eql T (.int .i64 a) (.int .i64 a)).run P w = .ok (.bool true) w := by
  go_simp
theorem text3 {B : List Fm} {n : Nat} (h : bkB B = true) (hB : B.length = n) : ∃ tx : List UInt8, (∀ (w : World) (b c : Nat), Rd w (some ⟨b, 0, none⟩) n (encs fv B) → Calls Tryz.prog 7 #[.slice (some ⟨b, 0, none⟩) n c] w fun e w' => e = .returned (.string ⟨tx.toArray⟩) ∧ Keep [] w w') ∧
    ∀ w : World, GlobM w → Calls Tryz.prog 6 #[.string ⟨tx.toArray⟩] w (GiveC 42 12 n (encs fv B) w) := ⟨btxt B, fun w b c hr => BookText_v h hB hr, fun w hg => ReadBook_v h hB hg⟩
theorem sums3 {B : List Fm} {n : Nat} (h : bkB B = true) (hB : B.length = n) : ∃ sA lp : Int, (∀ (w : World) (b c : Nat), Rd w (some ⟨b, 0, none⟩) n (encs fv B) → Calls Tryz.prog 12 #[.slice (some ⟨b, 0, none⟩) n c] w fun e w' => e = .returned (.tuple #[.int .i64 sA, .int .i64 0]) ∧ Keep [] w w') ∧
    (∀ (w : World) (b c : Nat), Rd w (some ⟨b, 0, none⟩) n (encs fv B) → Calls Tryz.prog 13 #[.slice (some ⟨b, 0, none⟩) n c] w fun e w' => e = .returned (.tuple #[.int .i64 lp, .int .i64 0]) ∧ Keep [] w w') ∧
    (∀ (w : World) (b c : Nat), Rd w (some ⟨b, 0, none⟩) n (encs fv B.reverse) → Calls Tryz.prog 13 #[.slice (some ⟨b, 0, none⟩) n c] w fun e w' => e = .returned (.tuple #[.int .i64 lp, .int .i64 0]) ∧ Keep [] w w') ∧ sumI (jmpL B) = sA ∧ sA ≤ lp :=
  ⟨sumI (jmpL B), loopR B, fun w b c hr => AllJumps_v h hB hr, fun w b c hr => LoopJumps_v h hB hr, fun w b c hr => LoopRev_v h hB hr, rfl, by
    have := loop_ge B
    unfold allR at this
    rw [if_pos h] at this
    exact this⟩
/-- The greatest jump of a valid book, in all cases. -/
theorem great3 {B : List Fm} {n q : Nat} (h : bkB B = true) (hB : B.length = n) (hq : n - 1 = q) : ∃ ga gm gc : Int, (∀ (w : World) (b c : Nat), Rd w (some ⟨b, 0, none⟩) n (encs fv B) → Calls Tryz.prog 19 #[.slice (some ⟨b, 0, none⟩) n c] w fun e w' => e = .returned (.tuple #[.int .i64 ga, .int .i64 gm, .int .i64 gc]) ∧ Keep [] w w') ∧
    (∀ i, i < q → (jmpL B).getD i 0 ≤ gm ∧ ((jmpL B).getD i 0 = gm → ga ≤ (i : Int)) ∧ ((i : Int) = ga → (jmpL B).getD i 0 = gm)) ∧ ((gc = 0 ∧ 2 ≤ n ∧ 0 ≤ ga ∧ ga < (q : Int)) ∨ (gc = 6 ∧ n = 1) ∨ (gc = 6 ∧ n = 0)) := by
  have h40 := bkB_len h
  refine ⟨grA B, grM B, grC B, fun w b c hr => Greatest_c B n hB (by omega) _ c w hr, ?_, ?_⟩
  · intro i hi
    have h2 : ¬ B.length < 2 := by omega
    have hc : grC B = 0 := by unfold grC; rw [if_pos h, if_neg h2]
    have hl : (jmpL B).length = q := by rw [jmpL_length, hB, hq]
    have hs := gAt_spec (J := jmpL B) (by omega)
    rw [hl] at hs
    unfold grA grM
    rw [if_pos hc, if_pos hc]
    refine ⟨hs.2.1 i hi, fun e => ?_, fun e => ?_⟩
    · rcases Nat.lt_or_ge i (gAt (jmpL B)) with h3 | h3
      · have := hs.2.2 i h3
        omega
      · omega
    · have : i = gAt (jmpL B) := by omega
      rw [this]
  · by_cases h2 : B.length < 2
    · have hc : grC B = 6 := by unfold grC; rw [if_pos h, if_pos h2]
      rcases Nat.eq_zero_or_pos n with h0 | h0
      · exact Or.inr (Or.inr ⟨hc, h0⟩)
      · exact Or.inr (Or.inl ⟨hc, by omega⟩)
    · have hc : grC B = 0 := by unfold grC; rw [if_pos h, if_neg h2]
      have hl : (jmpL B).length = q := by rw [jmpL_length, hB, hq]
      have hs := gAt_spec (J := jmpL B) (by omega)
      have h1 := hs.1
      rw [hl] at h1
      refine Or.inl ⟨hc, by omega, ?_⟩
      unfold grA
      rw [if_pos hc]
      omega
end Go.Proofs.YtmfgbkmkcljciaaGreatDoor
