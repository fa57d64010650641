/- SheetText: the law; no condition. -/
import Derived.Test.YtlljflmbnbjccaaDoorShT
namespace Go.Proofs.YtlljflmbnbjccaaDoor
open Go.RowKit
set_option linter.unusedSimpArgs false
set_option linter.unusedVariables false
set_option maxHeartbeats 16000000 in
set_option maxRecDepth 100000 in
theorem law_SheetText (w : World) (S : List (Int × Int)) (n1 : Nat) (hB1 : S.length = n1) (hn1 : n1 ≤ 9223372036854775807) (p1 : Option Addr) (c1 : Nat) (hr1 : Rd w p1 n1 (encs p8 S)) (hq1 : R8 S) :
    Calls Tryd.prog 3 #[.slice p1 n1 c1] w fun e w' => e = .returned (.bool true) ∧ Keep [] w w' := by
  have st := St.start w
  by_cases hbig1 : 1000000 < n1
  · have hz1 : szN (1000000 : Int) n1 = -1 := by unfold szN; rw [if_pos (by omega)]
    go_enter Tryd.func3, Tryd.ntmps3
    go_wp2_with (first | (go_at_call 5; (with_reducible refine (szShotS_v hz1 hn1 (by omega) _).mono ?_); rintro _ _ ⟨rfl, hk⟩; replace st := st.call hk; clear hk))
    go_ret
    exact ⟨rfl, st.keep⟩
  obtain ⟨l1, hl10⟩ : ∃ l : Nat, l = 1000000 - n1 := ⟨_, rfl⟩
  have hz1 : szN (1000000 : Int) n1 = (l1 : Int) := by unfold szN; rw [if_neg (by omega)]; omega
  have hl1 : n1 ≤ 1000000 := by omega
  have hll1 : l1 ≤ 1000000 := by omega
  clear hl10
  have HS := hid (fun (w' : World) (p1 : Option Addr) (c1 : Nat) (hp1 : p1 = none → n1 = 0) (hc1 : n1 ≤ c1) (hr1 : Rd w' p1 n1 (encs p8 S)) => specSheetText_c S n1 hB1 hl1 hq1 p1 c1 w' hr1)
  have HI := hid (fun (w' : World) (p1 : Option Addr) (c1 : Nat) (hp1 : p1 = none → n1 = 0) (hc1 : n1 ≤ c1) (hr1 : Rd w' p1 n1 (encs p8 S)) => SheetText_c S n1 hB1 hl1 hq1 p1 c1 w' hr1)
  rcases Nat.eq_zero_or_pos n1 with h01 | hpos1
  · subst h01
    go_enter Tryd.func3, Tryd.ntmps3
    go_wp2_with (first | (go_at_call 5; (with_reducible refine (szShotS_v hz1 hn1 (by omega) _).mono ?_); rintro _ _ ⟨rfl, hk⟩; replace st := st.call hk; clear hk) | (go_at_call 7; (with_reducible refine (toShotS_n S 0 hB1 hl1 _ _ false (.inl rfl) _ (hr1.keep st.keep)).mono ?_); rintro _ _ ⟨g, rfl, hg, hbg, hk⟩; replace st := st.adopt hk hg hbg; clear hk hg hbg) | (go_at_call 7; (with_reducible refine (toShotS_nil p1 c1 _).mono ?_); rintro _ _ ⟨rfl, hk⟩; replace st := st.call hk; clear hk) | (go_at_call 6; refine (HS.out _ _ _ (by first | exact (fun _ => trivial) | exact (fun _ => rfl) | (intro h; cases h)) (by omega) (by first | exact Rd.nil | exact Rd.bk (st.get (by repeat (first | exact At.here | apply At.there))) | exact Rd.sh (st.get (by repeat (first | exact At.here | apply At.there))) | exact Rd.dt (st.get (by repeat (first | exact At.here | apply At.there))) | exact Rd.tr (st.get (by repeat (first | exact At.here | apply At.there))))).mono ?_; rintro _ _ ⟨rfl, hk⟩; replace st := st.call hk; clear hk) | (go_at_call 8; refine (HI.out _ _ _ (by first | exact (fun _ => trivial) | exact (fun _ => rfl) | (intro h; cases h)) (by omega) (by first | exact Rd.nil | exact Rd.bk (st.get (by repeat (first | exact At.here | apply At.there))) | exact Rd.sh (st.get (by repeat (first | exact At.here | apply At.there))) | exact Rd.dt (st.get (by repeat (first | exact At.here | apply At.there))) | exact Rd.tr (st.get (by repeat (first | exact At.here | apply At.there))))).mono ?_; rintro _ _ ⟨rfl, hk⟩; replace st := st.call hk; clear hk) | (go_at_call 9; refine (intactShotS_v (st.get (by repeat (first | exact At.here | apply At.there))) (st.get (by repeat (first | exact At.here | apply At.there))) (by first | exact hB1) (by omega)).mono ?_; rintro _ _ ⟨rfl, hk⟩; replace st := st.call hk; clear hk))
    all_goals
      go_ret
      exact ⟨rfl, st.keep⟩
  · skip
    go_enter Tryd.func3, Tryd.ntmps3
    go_wp2_with (first | (go_at_call 5; (with_reducible refine (szShotS_v hz1 hn1 (by omega) _).mono ?_); rintro _ _ ⟨rfl, hk⟩; replace st := st.call hk; clear hk) | (go_at_call 7; (with_reducible refine (toShotS_n S n1 hB1 hl1 _ _ false (.inl rfl) _ (hr1.keep st.keep)).mono ?_); rintro _ _ ⟨g, rfl, hg, hbg, hk⟩; replace st := st.adopt hk hg hbg; clear hk hg hbg) | (go_at_call 7; (with_reducible refine (toShotS_n S n1 hB1 hl1 _ _ true (.inr hpos1) _ (hr1.keep st.keep)).mono ?_); rintro _ _ ⟨g, rfl, hg, hbg, hk⟩; replace st := st.adopt hk hg hbg; clear hk hg hbg) | (go_at_call 6; refine (HS.out _ _ _ (by first | exact (fun _ => trivial) | exact (fun _ => rfl) | (intro h; cases h)) (by omega) (by first | exact Rd.nil | exact Rd.bk (st.get (by repeat (first | exact At.here | apply At.there))) | exact Rd.sh (st.get (by repeat (first | exact At.here | apply At.there))) | exact Rd.dt (st.get (by repeat (first | exact At.here | apply At.there))) | exact Rd.tr (st.get (by repeat (first | exact At.here | apply At.there))))).mono ?_; rintro _ _ ⟨rfl, hk⟩; replace st := st.call hk; clear hk) | (go_at_call 8; refine (HI.out _ _ _ (by first | exact (fun _ => trivial) | exact (fun _ => rfl) | (intro h; cases h)) (by omega) (by first | exact Rd.nil | exact Rd.bk (st.get (by repeat (first | exact At.here | apply At.there))) | exact Rd.sh (st.get (by repeat (first | exact At.here | apply At.there))) | exact Rd.dt (st.get (by repeat (first | exact At.here | apply At.there))) | exact Rd.tr (st.get (by repeat (first | exact At.here | apply At.there))))).mono ?_; rintro _ _ ⟨rfl, hk⟩; replace st := st.call hk; clear hk) | (go_at_call 9; refine (intactShotS_v (st.get (by repeat (first | exact At.here | apply At.there))) (st.get (by repeat (first | exact At.here | apply At.there))) (by first | exact hB1) (by omega)).mono ?_; rintro _ _ ⟨rfl, hk⟩; replace st := st.call hk; clear hk))
    all_goals
      go_ret
      exact ⟨rfl, st.keep⟩
end Go.Proofs.YtlljflmbnbjccaaDoor
