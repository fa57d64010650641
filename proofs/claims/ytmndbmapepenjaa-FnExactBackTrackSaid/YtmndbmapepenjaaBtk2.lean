/- Tracks backwards: the library's iterator over a track from its end; no condition. -/
import Derived.Test.YtmndbmapepenjaaBtk
import Derived.Test.YtmndbmapepenjaaRound
import Derived.RangeFuncBox
import Derived.OwnWalkIn
import Derived.TacticsInMore
import Derived.LoopNIn
import Derived.LoopIn
namespace Go.Proofs.Ytmndbmapepenjaa
open Go.RowKit
set_option linter.unusedSimpArgs false
set_option linter.unusedVariables false
/-- Whatever lay below n₀ lies as it lay, but for the blocks of ex. -/
structure KpB (ex : List Nat) (n₀ : Nat) (A B : World) : Prop where
  size : A.heap.size ≤ B.heap.size
  block : ∀ k, k < n₀ → k ∉ ex → B.heap[k]? = A.heap[k]?
theorem KpB.refl (ex : List Nat) (n₀ : Nat) (A : World) : KpB ex n₀ A A := ⟨Nat.le_refl _, fun _ _ _ => rfl⟩
theorem KpB.trans {ex : List Nat} {n₀ : Nat} {A B C : World} (h : KpB ex n₀ A B) (k : KpB ex n₀ B C) : KpB ex n₀ A C := ⟨Nat.le_trans h.size k.size, fun i hi he => (k.block i hi he).trans (h.block i hi he)⟩
theorem KpB.putObj {ex : List Nat} {n₀ : Nat} (W : World) (l : Nat) (o : Obj) (hl : n₀ ≤ l) : KpB ex n₀ W (W.putObj l o) := by
  have hg := grownBy_putObj' W l o
  refine ⟨hg.size, fun k hk he => ?_⟩
  by_cases h : k < W.heap.size
  · exact hg.block k h (fun e => by cases e; omega)
  · have h2 : (W.putObj l o).heap.size = W.heap.size := by simp
    rw [Array.getElem?_eq_none (by omega), Array.getElem?_eq_none (by omega)]
theorem KpB.cell {ex : List Nat} {n₀ : Nat} {A B : World} (h : KpB ex n₀ A B) {b : Nat} (hb : b < n₀) (he : b ∉ ex) (j : Nat) : B.cell? ⟨b, j, none⟩ = A.cell? ⟨b, j, none⟩ := World.cell?_of_block (h.block b hb he)
def uptoB {α : Type} (f : Nat → α) (k : Nat) : List α := (List.range k).map f
theorem uptoB_succ {α : Type} (f : Nat → α) (k : Nat) : uptoB f (k + 1) = uptoB f k ++ [f k] := by simp [uptoB, List.range_succ]
theorem uptoB_length {α : Type} (f : Nat → α) (k : Nat) : (uptoB f k).length = k := by simp [uptoB]
/-- What a round is handed: an index and a valid key. -/
abbrev BkS : Type := { x : Nat × Ky // (0 ≤ x.2.1 ∧ x.2.1 ≤ 200) ∧ (-24 ≤ x.2.2.1 ∧ x.2.2.1 ≤ 24) ∧ (-24 ≤ x.2.2.2 ∧ x.2.2.2 ≤ 24) }
def bkEnc (x : BkS) : Array Value := #[.int .i64 (x.1.1 : Nat), .agg (k3 x.1.2).toArray]
set_option maxRecDepth 100000 in
set_option maxHeartbeats 2000000 in
theorem back1_in (l Bs n₀ b f m cap n : Nat) (ex : List Nat) (T : List Ky) (E : Nat → BkS) (hE : ∀ k, k < m → (E k).1 = (m - 1 - k, T.getD (m - 1 - k) kz)) (hn : 1 ≤ n) (hm : m ≤ 1000000) (hT : T.length = m) (hbs : Bs < n₀) (hbx : Bs ∉ ex) (hb : b < n₀) (hbe : b ∉ ex) (J Jx : List BkS → World → Prop)
    (hY : ∀ pre x W, J pre W → pre.length < m → YieldAt Fence.wide (n - 1) Try.prog l (bkEnc x) W fun e W' =>
      (e = .returned (.bool true) ∧ J (pre ++ [x]) W' ∧ KpB ex n₀ W W') ∨ (e = .returned (.bool false) ∧ Jx (pre ++ [x]) W'))
    (W : World) (hBs : W.cell? ⟨Bs, 0, none⟩ = some (.slice (some ⟨b, f, none⟩) m cap)) (hc : Cl W b f (encs k3 T)) (h0 : J [] W) :
    CallsIn Fence.wide n Try.prog 74 #[.func (.yield l) #[] #[], .pointer (some ⟨Bs, 0, none⟩)] W fun e W' => (∃ v, e = .returned v) ∧
      ((∃ ys, ys = uptoB E m ∧ J ys W') ∨ (∃ pre, (∃ k, k ≤ m ∧ pre = uptoB E k) ∧ Jx pre W')) := by
  refine callsIn_of_wp Try.func74 rfl trivial ?_ rfl
  simp only [Try.ntmps74, List.size_toArray, List.length_cons, List.length_nil, Nat.reduceAdd, Nat.reduceSub, Array.replicate_succ, Array.replicate_zero, List.push_toArray, List.append_toArray, List.nil_append, List.cons_append]
  gi_wp2
  gi_loopw [3] (fun i wr => ∃ k : Nat, k ≤ m ∧ i = .int .i64 ((m : Int) - 1 - k) ∧ J (uptoB E k) wr ∧ KpB ex n₀ W wr) (fun i _ => (intOf i + 1).toNat)
  case atStart => exact ⟨0, Nat.zero_le _, by simp, h0, KpB.refl _ _ _⟩
  case round =>
    obtain ⟨k, hk, rfl, hJs, hnx⟩ := hrel
    have hBs' := (hnx.cell hbs hbx 0).trans hBs
    by_cases hlt : k < m
    · have hd : decide ((0 : Int) ≤ (m : Int) - 1 - k) = true := by simp; omega
      obtain ⟨q, hq⟩ : ∃ q : Nat, q = m - 1 - k := ⟨_, rfl⟩
      have hqi : (m : Int) - 1 - k = (q : Int) := by omega
      have hqm : q < m := by omega
      obtain ⟨fn, tmps, assign, body, hy, hR⟩ := hY _ (E k) wr hJs (by rw [uptoB_length]; exact hlt)
      have hqT : q < T.length := by omega
      have hcl := hc.seg k3_len hqT
      rw [← getK hqT] at hcl
      have hEk := hE k hlt
      rw [← hq] at hEk
      unfold bkEnc at hy
      rw [hEk] at hy
      simp only at hy
      obtain ⟨x, hx⟩ : ∃ x, T.getD q kz = x := ⟨_, rfl⟩
      rw [hx] at hy hcl
      obtain ⟨xt, xx, xy⟩ := x
      rw [show (k3 (xt, xx, xy)).toArray = #[.int .i16 xt, .int .i8 xx, .int .i8 xy] from rfl] at hy
      have g0 : wr.cell? ⟨b, f + q * 3, none⟩ = some (.int .i16 xt) := (hnx.cell hb hbe _).trans (by have := hcl.2 0 _ rfl; simpa using this)
      have g1 : wr.cell? ⟨b, f + q * 3 + 1, none⟩ = some (.int .i8 xx) := (hnx.cell hb hbe _).trans (hcl.2 1 _ rfl)
      have g2 : wr.cell? ⟨b, f + q * 3 + 2, none⟩ = some (.int .i8 xy) := (hnx.cell hb hbe _).trans (hcl.2 2 _ rfl)
      rw [hqi]
      have HQ := hid hqi
      clear hcl hx hqT hEk hE hqi hd hc hq
      gi_wp2
      refine hR.mono ?_
      rintro e W3 (⟨rfl, hJ3, hk3⟩ | ⟨rfl, hJx3⟩)
      · gi_wp2
        go_roundw
        case rel => exact ⟨k + 1, by omega, by rw [show (q : Int) - 1 = (m : Int) - 1 - ((k + 1 : Nat) : Int) by have := HQ.out; omega], by rw [uptoB_succ]; exact hJ3, hnx.trans hk3⟩
        case measure => first | (simp [intOf]; done) | (simp [intOf]; omega)
      · gi_wp2
        refine bodyPost_ret (results_none rfl _ _ _) rfl ?_
        exact ⟨⟨_, rfl⟩, .inr ⟨_, ⟨k + 1, by omega, (uptoB_succ _ _).symm⟩, hJx3⟩⟩
    · obtain rfl : k = m := by omega
      have hd : decide ((0 : Int) ≤ (k : Int) - 1 - k) = false := by simp; omega
      have hk1 : (k : Int) - 1 - k = -1 := by omega
      rw [hk1]
      clear hk1 hd
      gi_wp2
      go_end0
      exact ⟨⟨_, rfl⟩, .inl ⟨_, rfl, hJs⟩⟩
theorem Backward_c (p : Option Addr) (m c : Nat) (w : World) : Calls Try.prog 54 #[.slice p m c] w fun e w' => ∃ g, e = .returned (.func (.func 74) #[] #[.pointer (some ⟨g, 0, none⟩)]) ∧ w.heap.size ≤ g ∧ Blk w' g [.slice p m c] 26 ∧ Keep [] w w' := by
  have st := St.start w
  go_enter Try.func54, Try.ntmps54
  go_wp2_with (first | ((with_reducible refine gate_lst ?_); (first | ((with_reducible refine gate_box rfl ?_); (first | (refine ia_box (sl := 1) st rfl rfl rfl rfl rfl ?_; clear st; intro B1 _ st))))))
  go_ret
  exact ⟨_, rfl, by have := st.ge _ (List.Mem.head _); simpa using this, st.get .here, st.keep⟩
/-- A range over it, at a caller whose blocks ex alone turn below n₀. -/
theorem back_stops (Bs n₀ b f m cap n : Nat) (ex : List Nat) (T : List Ky) (E : Nat → BkS) (hE : ∀ k, k < m → (E k).1 = (m - 1 - k, T.getD (m - 1 - k) kz)) (hn : 1 ≤ n) (hm : m ≤ 1000000) (hT : T.length = m) (hbx : Bs ∉ ex) (hb : b < n₀) (hbe : b ∉ ex)
    (w : World) (hw : w.heap.size = n₀) (hBs : Blk w Bs [.slice (some ⟨b, f, none⟩) m cap] 26) (hc : Cl w b f (encs k3 T)) :
    SeqStopsK Fence.wide n Try.prog 74 #[.pointer (some ⟨Bs, 0, none⟩)] bkEnc (KpB ex n₀) (fun ys => ys = uptoB E m) (fun _ => True) m w := fun l J Jx W hW _ _ hY h0 => by
  have hbs : Bs < n₀ := by have := hBs.lt; omega
  refine (back1_in l Bs n₀ b f m cap n ex T E hE hn hm hT hbs hbx hb hbe J Jx hY W ((hW.cell (p := ⟨Bs, 0, none⟩) (show Bs < w.heap.size by omega)).trans (hBs.cellv rfl)) ⟨Nat.lt_of_lt_of_le (by omega) hW.size, fun j v hj => (hW.cell (p := ⟨b, f + j, none⟩) (show b < w.heap.size by omega)).trans (hc.2 j v hj)⟩ h0).mono ?_
  rintro e W' ⟨he, ⟨ys, rfl, hj⟩ | ⟨pre, ⟨k, hk, rfl⟩, hj⟩⟩
  · exact ⟨he, .inl ⟨_, rfl, hj⟩⟩
  · exact ⟨he, .inr ⟨_, trivial, hj⟩⟩
end Go.Proofs.Ytmndbmapepenjaa
