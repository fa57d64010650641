/- A frame's text: the law FrameText; no condition. -/
import Derived.Test.YtdpjeccnnpjchaaText
namespace Go.Proofs.Ytdpjeccnnpjchaa
open Go.RowKit
set_option linter.unusedSimpArgs false
set_option linter.unusedVariables false
def ftx (f : List Nat) : ByteArray := if okB f = true then ⟨(txt f).toArray⟩ else ⟨#[]⟩
theorem specFrameText_c (f : List Nat) (ok : FrOk f) (w : World) :
    Calls Try.prog 6 #[.agg (frv f).toArray] w fun e w' => e = .returned (.string (ftx f)) ∧ Keep [] w w' := by
  have st := St.start w
  have hf := ok.len
  have HV := hid (fun b w' (hb : Blk w' b (frv f) 25) => l01Ok_c f hf b 0 w' (Cl.of hb))
  have HT := hid (fun b w' (hb : Blk w' b (frv f) 25) => l01Text_c f ok b 0 w' (Cl.of hb))
  unfold ftx
  rcases Bool.eq_false_or_eq_true (okB f) with q | q
  · rw [if_pos q]
    rw [q] at HV
    go_enter Try.func6, Try.ntmps6
    go_wp2_with (first | (go_at_call 17; refine (HV.out _ _ (st.get (by repeat (first | exact At.here | apply At.there)))).mono ?_; rintro _ _ ⟨rfl, hk⟩; replace st := st.call hk; clear hk) | (go_at_call 18; refine (HT.out _ _ (st.get (by repeat (first | exact At.here | apply At.there)))).mono ?_; rintro _ _ ⟨rfl, hk⟩; replace st := st.call hk; clear hk) | ((with_reducible refine gate_lst ?_); (first | ((with_reducible refine gate_box rfl ?_); (first | (refine ia_box (sl := 1) st rfl rfl rfl rfl rfl ?_; clear st; intro B1 _ st))))))
    go_ret
    exact ⟨rfl, st.keep⟩
  · rw [if_neg (by rw [q]; decide)]
    rw [q] at HV
    go_enter Try.func6, Try.ntmps6
    go_wp2_with (first | (go_at_call 17; refine (HV.out _ _ (st.get (by repeat (first | exact At.here | apply At.there)))).mono ?_; rintro _ _ ⟨rfl, hk⟩; replace st := st.call hk; clear hk) | ((with_reducible refine gate_lst ?_); (first | ((with_reducible refine gate_box rfl ?_); (first | (refine ia_box (sl := 1) st rfl rfl rfl rfl rfl ?_; clear st; intro B1 _ st))))))
    go_ret
    exact ⟨rfl, st.keep⟩
theorem FrameText_c (f : List Nat) (ok : FrOk f) (w : World) :
    Calls Try.prog 8 #[.agg (frv f).toArray] w fun e w' => e = .returned (.string (ftx f)) ∧ Keep [] w w' := by
  have st := St.start w
  have hf := ok.len
  have HV := hid (ValidFrame_c f hf)
  have HT := hid (frameText_c f ok)
  unfold ftx
  rcases Bool.eq_false_or_eq_true (okB f) with q | q
  · rw [if_pos q]
    rw [q] at HV
    go_enter Try.func8, Try.ntmps8
    go_wp2_with (first | (go_at_call 19; refine (HV.out _).mono ?_; rintro _ _ ⟨rfl, hk⟩; replace st := st.call hk; clear hk) | (go_at_call 20; refine (HT.out _).mono ?_; rintro _ _ ⟨rfl, hk⟩; replace st := st.call hk; clear hk) | ((with_reducible refine gate_lst ?_); (first | ((with_reducible refine gate_box rfl ?_); (first | (refine ia_box (sl := 1) st rfl rfl rfl rfl rfl ?_; clear st; intro B1 _ st))) | ((with_reducible refine gate_load rfl ?_); (first | (refine ia_loadAll st rfl rfl rfl ?_ ?_; (focus (first | rfl | (simp; done) | (simp; assumption) | (simp; omega) | (simp [*]; done)))) | (refine ia_loadC (hb.keep st.keep (by simp)) rfl rfl rfl ?_ ?_; (focus (first | rfl | (simp; done) | (simp; assumption) | (simp; omega) | (simp [*]; done)))) | (refine ia_loadC (hb'.keep st.keep (by simp)) rfl rfl rfl ?_ ?_; (focus (first | rfl | (simp; done) | (simp; assumption) | (simp; omega) | (simp [*]; done)))) | (refine ia_loadC (Cl.of (hb1.keep st.keep (by simp))) rfl rfl rfl ?_ ?_; (focus (first | rfl | (simp; done) | (simp; assumption) | (simp; omega) | (simp [*]; done)))) | (refine ia_loadC (Cl.of (hb2.keep st.keep (by simp))) rfl rfl rfl ?_ ?_; (focus (first | rfl | (simp; done) | (simp; assumption) | (simp; omega) | (simp [*]; done)))))))))
    go_ret
    exact ⟨rfl, st.keep⟩
  · rw [if_neg (by rw [q]; decide)]
    rw [q] at HV
    go_enter Try.func8, Try.ntmps8
    go_wp2_with (first | (go_at_call 19; refine (HV.out _).mono ?_; rintro _ _ ⟨rfl, hk⟩; replace st := st.call hk; clear hk) | ((with_reducible refine gate_lst ?_); (first | ((with_reducible refine gate_box rfl ?_); (first | (refine ia_box (sl := 1) st rfl rfl rfl rfl rfl ?_; clear st; intro B1 _ st))) | ((with_reducible refine gate_load rfl ?_); (first | (refine ia_loadAll st rfl rfl rfl ?_ ?_; (focus (first | rfl | (simp; done) | (simp; assumption) | (simp; omega) | (simp [*]; done)))) | (refine ia_loadC (hb.keep st.keep (by simp)) rfl rfl rfl ?_ ?_; (focus (first | rfl | (simp; done) | (simp; assumption) | (simp; omega) | (simp [*]; done)))) | (refine ia_loadC (hb'.keep st.keep (by simp)) rfl rfl rfl ?_ ?_; (focus (first | rfl | (simp; done) | (simp; assumption) | (simp; omega) | (simp [*]; done)))) | (refine ia_loadC (Cl.of (hb1.keep st.keep (by simp))) rfl rfl rfl ?_ ?_; (focus (first | rfl | (simp; done) | (simp; assumption) | (simp; omega) | (simp [*]; done)))) | (refine ia_loadC (Cl.of (hb2.keep st.keep (by simp))) rfl rfl rfl ?_ ?_; (focus (first | rfl | (simp; done) | (simp; assumption) | (simp; omega) | (simp [*]; done)))))))))
    go_ret
    exact ⟨rfl, st.keep⟩
theorem law_FrameText (f : List Nat) (ok : FrOk f) (w : World) :
    Calls Try.prog 3 #[.agg (frv f).toArray] w fun e w' => e = .returned (.bool true) ∧ Keep [] w w' := by
  have st := St.start w
  have hf := ok.len
  have HF := hid (toFrame_c f hf)
  have HS := hid (specFrameText_c f ok)
  have HI := hid (FrameText_c f ok)
  obtain ⟨t, ht⟩ : ∃ t, ftx f = t := ⟨_, rfl⟩
  rw [ht] at HS HI
  clear ht
  go_enter Try.func3, Try.ntmps3
  go_wp2_with (first | (go_at_call 7; refine (HF.out _).mono ?_; rintro _ _ ⟨rfl, hk⟩; replace st := st.call hk; clear hk) | (go_at_call 6; refine (HS.out _).mono ?_; rintro _ _ ⟨rfl, hk⟩; replace st := st.call hk; clear hk) | (go_at_call 8; refine (HI.out _).mono ?_; rintro _ _ ⟨rfl, hk⟩; replace st := st.call hk; clear hk) | ((with_reducible refine gate_lst ?_); (first | ((with_reducible refine gate_box rfl ?_); (first | (refine ia_box (sl := 1) st rfl rfl rfl rfl rfl ?_; clear st; intro B1 _ st))) | ((with_reducible refine gate_load rfl ?_); (first | (refine ia_loadAll st rfl rfl rfl ?_ ?_; (focus (first | rfl | (simp; done) | (simp; assumption) | (simp; omega) | (simp [*]; done)))) | (refine ia_loadC (hb.keep st.keep (by simp)) rfl rfl rfl ?_ ?_; (focus (first | rfl | (simp; done) | (simp; assumption) | (simp; omega) | (simp [*]; done)))) | (refine ia_loadC (hb'.keep st.keep (by simp)) rfl rfl rfl ?_ ?_; (focus (first | rfl | (simp; done) | (simp; assumption) | (simp; omega) | (simp [*]; done)))) | (refine ia_loadC (Cl.of (hb1.keep st.keep (by simp))) rfl rfl rfl ?_ ?_; (focus (first | rfl | (simp; done) | (simp; assumption) | (simp; omega) | (simp [*]; done)))) | (refine ia_loadC (Cl.of (hb2.keep st.keep (by simp))) rfl rfl rfl ?_ ?_; (focus (first | rfl | (simp; done) | (simp; assumption) | (simp; omega) | (simp [*]; done)))))))))
  all_goals
    go_ret
    exact ⟨rfl, st.keep⟩
end Go.Proofs.Ytdpjeccnnpjchaa
