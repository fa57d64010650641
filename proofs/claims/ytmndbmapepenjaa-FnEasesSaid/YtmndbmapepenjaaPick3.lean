/- A number picked out of given bytes lies below its bound; no condition. -/
import Derived.Test.YtmndbmapepenjaaPick2
namespace Go.Proofs.Ytmndbmapepenjaa
open Go.RowKit
set_option linter.unusedSimpArgs false
set_option linter.unusedVariables false
theorem rem_b {x n : Int} (h0 : 0 ≤ x) (hn : 0 < n) : 0 ≤ x % n ∧ x % n < n := ⟨Int.emod_nonneg _ (by omega), Int.emod_lt_of_pos _ hn⟩
theorem Rd.keepM {w w1 : World} {p : Option Addr} {m g : Nat} {cs : List Value} (h : Rd w p m cs) (hk : Keep [g] w w1) (hne : 0 < m → ∀ b f, p = some ⟨b, f, none⟩ → b ≠ g) : Rd w1 p m cs := fun hn => by
  obtain ⟨b, f, hp, hc⟩ := h hn
  exact ⟨b, f, hp, hc.keep hk (by simpa using hne hn b f hp)⟩
set_option maxRecDepth 100000 in
theorem pick_c (B : List Int) (m : Nat) (hB : B.length = m) (hm : m ≤ 4096) (h8 : ∀ x ∈ B, 0 ≤ x ∧ x ≤ 255) (p : Option Addr) (c g k : Nat) (s : Int) (T : TypeId) (n : Int) (hn : 1 < n) (hn2 : n ≤ 65536) (hk : k ≤ 9998) (hs0 : 0 ≤ s) (hs1 : s < 18446744073709551616) (w : World) (hr : Rd w p m (encs u1 B)) (hg : Blk w g (srcC p m c k s) T) (hne : 0 < m → ∀ b f, p = some ⟨b, f, none⟩ → b ≠ g) :
    Calls Try.prog 58 #[.pointer (some ⟨g, 0, none⟩), .int .i64 n] w fun e w' => ∃ (v s' : Int) (k' : Nat), e = .returned (.int .i64 v) ∧ (0 ≤ v ∧ v < n) ∧ (0 ≤ s' ∧ s' < 18446744073709551616) ∧ k' ≤ k + 2 ∧ Keep [g] w w' ∧ Blk w' g (srcC p m c k' s') T := by
  have st := St.start1 hg
  have hd : decide (n ≤ 1) = false := by simp; omega
  have HN := hid (fun (w' : World) (hk : Keep [g] w w') (hb : Blk w' g (srcC p m c k s) T) => next_c B m hB hm h8 p c g k s T (by omega) hs0 hs1 w' (hr.keepM hk hne) hb hne)
  have HN2 := hid (fun (w' : World) (s1 : Int) (hk : Keep [g] w w') (hb : Blk w' g (srcC p m c (k + 1) s1) T) (h1 : 0 ≤ s1) (h2 : s1 < 18446744073709551616) => next_c B m hB hm h8 p c g (k + 1) s1 T (by omega) h1 h2 w' (hr.keepM hk hne) hb hne)
  by_cases h2 : 200 < n
  · have hd2 : decide (200 < n) = true := by simpa using h2
    go_enter Try.func58, Try.ntmps58
    go_wp2_with (first | (go_at_call 75; (first | (refine (HN.out _ st.keep (st.get .here)).mono ?_; rintro _ _ ⟨v, s1, rfl, ⟨hv0, hv1⟩, ⟨hs2, hs3⟩, hk, hb1⟩) | (refine (HN2.out _ _ st.keep (st.get .here) hs2 hs3).mono ?_; rintro _ _ ⟨v2, s2, rfl, ⟨hv2, hv3⟩, ⟨hs4, hs5⟩, hk, hb1⟩)); replace st := st.wrote .here hk hb1; clear hk hb1))
    obtain ⟨r0, r1⟩ := rem_b (x := v * 256 + v2) (n := n) (by omega) (by omega)
    go_ret
    exact ⟨_, s2, k + 1 + 1, rfl, ⟨r0, r1⟩, ⟨hs4, hs5⟩, by omega, st.keep, st.get .here⟩
  · have hd2 : decide (200 < n) = false := by simpa using h2
    go_enter Try.func58, Try.ntmps58
    go_wp2_with (first | (go_at_call 75; (refine (HN.out _ st.keep (st.get .here)).mono ?_; rintro _ _ ⟨v, s1, rfl, ⟨hv0, hv1⟩, ⟨hs2, hs3⟩, hk, hb1⟩); replace st := st.wrote .here hk hb1; clear hk hb1))
    obtain ⟨r0, r1⟩ := rem_b (x := v) (n := n) (by omega) (by omega)
    go_ret
    exact ⟨_, s1, k + 1, rfl, ⟨r0, r1⟩, ⟨hs2, hs3⟩, by omega, st.keep, st.get .here⟩
theorem l00From_c (p : Option Addr) (m c : Nat) (w : World) :
    Calls Try.prog 57 #[.slice p m c] w fun e w' => ∃ g, e = .returned (.pointer (some ⟨g, 0, none⟩)) ∧ w.heap.size ≤ g ∧ Blk w' g (srcC p m c 0 0) 96 ∧ Keep [] w w' := by
  have st := St.start w
  go_enter Try.func57, Try.ntmps57
  go_wp2_with (first | ((with_reducible refine gate_lst ?_); (first | ((with_reducible refine gate_box rfl ?_); (first | (refine ia_box (sl := 5) st rfl rfl rfl rfl rfl ?_; clear st; intro B5 _ st))))))
  go_ret
  exact ⟨_, rfl, (by have := st.ge _ (List.Mem.head _); simpa using this), st.get .here, st.keep⟩
theorem P6Pick_c (B : List Int) (m : Nat) (hB : B.length = m) (hm : m ≤ 4096) (h8 : ∀ x ∈ B, 0 ≤ x ∧ x ≤ 255) (p : Option Addr) (c : Nat) (n : Int) (hn : 1 < n) (hn2 : n ≤ 65536) (w : World) (hr : Rd w p m (encs u1 B)) :
    Calls Try.prog 26 #[.slice p m c, .int .i64 n] w fun e w' => ∃ v : Int, e = .returned (.int .i64 v) ∧ (0 ≤ v ∧ v < n) ∧ Keep [] w w' := by
  have st := St.start w
  have HG := hid (fun (g : Nat) (hg : w.heap.size ≤ g) (hm : 0 < m) (b f : Nat) (hp : p = some ⟨b, f, none⟩) => (by
    obtain ⟨b', f', hp', hc⟩ := hr hm
    rw [hp] at hp'
    cases hp'
    have := hc.1
    omega : b ≠ g))
  go_enter Try.func26, Try.ntmps26
  go_wp2_with (first | (go_at_call 57; (refine (l00From_c p m c _).mono ?_; rintro _ _ ⟨g, rfl, hg, hbg, hk⟩; have hg2 := Nat.le_trans st.keep.size hg; replace st := st.adopt hk hg hbg; clear hk hbg)) | (go_at_call 58; (refine (pick_c B m hB hm h8 p c g 0 0 _ n hn hn2 (by omega) (by omega) (by omega) _ (hr.keep st.keep) (st.get .here) (HG.out g hg2)).mono ?_; rintro _ _ ⟨v, s1, k1, rfl, hv, hs, hk1, hk, hb1⟩); replace st := st.wrote .here hk hb1; clear hk hb1))
  go_ret
  exact ⟨v, rfl, hv, st.keep⟩
theorem f6big_c (m c : Nat) (p : Option Addr) (b : Bool) (h : decide (4096 < m) = b) (hm : m ≤ 9223372036854775807) (w : World) :
    Calls Try.prog 25 #[.slice p m c] w fun e w' => e = .returned (.bool b) ∧ Keep [] w w' := by
  have st := St.start w
  go_enter Try.func25, Try.ntmps25
  go_wp2_with fail
  go_ret
  exact ⟨by rw [← h]; simp; omega, st.keep⟩
end Go.Proofs.Ytmndbmapepenjaa
