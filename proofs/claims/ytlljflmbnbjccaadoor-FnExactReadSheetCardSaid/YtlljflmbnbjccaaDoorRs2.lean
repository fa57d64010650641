/- ReadSheet: the walks; no condition. -/
import Derived.Test.YtlljflmbnbjccaaDoorRsP
namespace Go.Proofs.YtlljflmbnbjccaaDoor
open Go.RowKit
set_option linter.unusedSimpArgs false
set_option linter.unusedVariables false
def ShotsCode' (R : List Sh) (n : Nat) (code : Int) (nilOk : Prop) (w : World) (e : Ending) (w' : World) : Prop := ∃ v, e = .returned (.tuple #[v, .int .i64 code]) ∧ SlOut 37 2 n (encs p8 R) nilOk w v w' ∧ Keep [] w w'
theorem built_shot (a b : Int) : Tryd.prog.built 37 [(0, .int .i8 a), (1, .int .i8 b)] = some (p8 (a, b)).toArray := by kernel_rfl
theorem strCut_c (s : List UInt8) (n : Nat) (hn : s.length = n) (hn1 : n ≤ 1000000) (w : World) (hg : Glob w) {p q : List UInt8} {b : Bool} (h : Lib.cut s [120] = (p, q, b)) :
    Calls Tryd.prog 26 #[.string ⟨s.toArray⟩, .string ⟨#[120]⟩] w fun e w' => e = .returned (.tuple #[.string ⟨p.toArray⟩, .string ⟨q.toArray⟩, .bool b]) ∧ Keep [] w w' := by
  have hsz : (⟨s.toArray⟩ : ByteArray).size = n := by rw [← hn]; rfl
  obtain ⟨m, hm⟩ := hg.max
  refine (Any.strings_Cut sh145 ⟨s.toArray⟩ ⟨#[120]⟩ m w (by omega) hm).mono fun e w' ⟨h1, k, h2⟩ => ⟨?_, by rw [h2]; exact Keep.drewN w k⟩
  rw [h1]
  have e1 : (⟨s.toArray⟩ : ByteArray).data.toList = s := by simp
  have e2 : (⟨#[120]⟩ : ByteArray).data.toList = [120] := rfl
  rw [e1, e2, h]
def WordsPost (l : List UInt8) (w : World) (e : Ending) (w' : World) : Prop := ∃ v, e = .returned v ∧ Gives 9 1 (wds 32 l).length (encs sv (wds 32 l)) w v w' ∧ Keep [] w w'
theorem wds_len (c : UInt8) : ∀ l, (wds c l).length ≤ l.length + 1
  | [] => by simp [wds]
  | b :: l => by
    have := wds_len c l
    unfold wds
    split
    · simp; omega
    · cases hw : wds c l with
      | nil => simp [consH]
      | cons x r => rw [hw] at this; simp [consH] at this ⊢; omega
theorem wds_el (c : UInt8) : ∀ l, ∀ x ∈ wds c l, x.length ≤ l.length
  | [] => by simp [wds]
  | b :: l => by
    have ih := wds_el c l
    unfold wds
    split
    · intro x hx
      rcases List.mem_cons.1 hx with rfl | hx
      · simp
      · have := ih x hx; simp; omega
    · cases hw : wds c l with
      | nil => exact absurd hw (wds_ne c l)
      | cons y r =>
        rw [hw] at ih
        intro x hx
        simp only [consH] at hx
        rcases List.mem_cons.1 hx with rfl | hx
        · have := ih y (by simp); simp; omega
        · have := ih x (by simp [hx]); simp; omega
theorem strSplit_c (l : List UInt8) (n : Nat) (hn : l.length = n) (hn1 : n ≤ 1000000) (w : World) (hg : Glob w) :
    Calls Tryd.prog 38 #[.string ⟨l.toArray⟩, .string ⟨#[32]⟩] w (WordsPost l w) := by
  have hsz : (⟨l.toArray⟩ : ByteArray).size = n := by rw [← hn]; rfl
  obtain ⟨m, hm⟩ := hg.max
  refine (Any.strings_Split sh146 (by kernel_rfl) ⟨l.toArray⟩ ⟨#[32]⟩ m w (by omega) hm (by decide)).mono fun e w' ⟨h1, h2⟩ => ?_
  have e1 : (⟨l.toArray⟩ : ByteArray).data.toList = l := by simp
  have e2 : (⟨#[32]⟩ : ByteArray).data.toList = [32] := rfl
  have hd := Lib.splitB_data ⟨#[32]⟩ 0 (Lib.countB ⟨l.toArray⟩ ⟨#[32]⟩) ⟨l.toArray⟩
  rw [show Lib.countB ⟨l.toArray⟩ ⟨#[32]⟩ = Lib.count l [32] by unfold Lib.countB; rw [e1, e2]] at hd h1 h2
  rw [e1, e2, split_wds] at hd
  have hlen : (wds 32 l).length = Lib.count l [32] + 1 := by
    rw [← hd, List.length_map, Lib.splitB_all ⟨#[32]⟩ (by decide) 0 (Lib.count l [32]) ⟨l.toArray⟩ (by unfold Lib.countB; rw [e1, e2])]
  have hc : (Lib.splitB ⟨#[32]⟩ 0 (Lib.count l [32]) ⟨l.toArray⟩).map Value.string = encs sv (wds 32 l) := by
    rw [← hd]
    generalize Lib.splitB ⟨#[32]⟩ 0 (Lib.count l [32]) ⟨l.toArray⟩ = Z
    induction Z with
    | nil => rfl
    | cons z Z ih =>
      rw [List.map_cons, List.map_cons, ih]
      simp [encs, sv]
  have hw := wds_len 32 l
  refine ⟨_, h1, ⟨w.heap.size, Lib.count l [32] + 1, [], by rw [hlen], Nat.le_refl _, ?_, ?_, ?_⟩, ?_⟩
  · rw [h2, hc, List.append_nil]
    exact Blk.alloc w _ _
  · rw [List.append_nil, encs_sv_length, hlen]
    omega
  · unfold maxLen; omega
  · rw [h2]
    exact Keep.alloc w _
theorem wordsOf_c (l : List UInt8) (n : Nat) (hn : l.length = n) (hn1 : n ≤ 1000000) (h0 : l ≠ []) (w : World) (hg : Glob w) :
    Calls Tryd.prog 25 #[.string ⟨l.toArray⟩] w (WordsPost l w) := by
  have st := St.start w
  have HE : Hid (decide (l = ([] : List UInt8)) = false) := hid (by simpa using h0)
  have HS := hid (fun w' (hk : Keep [] w w') => strSplit_c l n hn hn1 w' (hg.keep hk))
  have HP := hid (fun (v : Value) (w1 w2 : World) (hk : Keep [] w w1) (h : Gives 9 1 (wds 32 l).length (encs sv (wds 32 l)) w1 v w2) => h.since hk)
  clear h0 hn
  unfold WordsPost
  go_enter Tryd.func25, Tryd.ntmps25
  go_wp2_with (first | ((with_reducible refine gate_sq rfl ?_); refine la_seq (l := l) (m := []) HE.out rfl rfl rfl rfl ?_) | (go_at_call 38; refine (HS.out _ st.keep).mono ?_; rintro _ _ ⟨v, rfl, hgv, hk⟩; replace hgv := HP.out _ _ _ st.keep hgv; replace st := st.call hk; clear hk))
  go_ret
  exact ⟨_, rfl, hgv, st.keep⟩
theorem wordsOf_nil (w : World) : Calls Tryd.prog 25 #[.string ⟨#[]⟩] w fun e w' => e = .returned (.slice none 0 0) ∧ Keep [] w w' := by
  have st := St.start w
  have HE : Hid (decide (([] : List UInt8) = []) = true) := hid (by decide)
  go_enter Tryd.func25, Tryd.ntmps25
  go_wp2_with (first | ((with_reducible refine gate_sq rfl ?_); refine la_seq (l := []) (m := []) HE.out rfl rfl rfl rfl ?_))
  go_ret
  exact ⟨rfl, st.keep⟩
end Go.Proofs.YtlljflmbnbjccaaDoor
