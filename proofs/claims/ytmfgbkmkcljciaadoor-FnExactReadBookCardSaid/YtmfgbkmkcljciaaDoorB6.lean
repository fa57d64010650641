/- Two frames: both valid, met, joined, cut out; no condition. -/
import Derived.Test.YtmfgbkmkcljciaaDoorB5
namespace Go.Proofs.YtmfgbkmkcljciaaDoor
open Go.RowKit
set_option linter.unusedSimpArgs false
set_option linter.unusedVariables false

/-- The code of a question about two frames. -/
def codeG (f g : List Nat) : Int := if okB f = true ∧ okB g = true then 0 else 1
theorem codeG_0 {f g : List Nat} (h : okB f = true) (h' : okB g = true) : codeG f g = 0 := by simp [codeG, h, h']
theorem codeG_1 {f g : List Nat} (h : okB f = false) : codeG f g = 1 := by simp [codeG, h]
theorem codeG_2 {f g : List Nat} (h : okB g = false) : codeG f g = 1 := by simp [codeG, h]
theorem codeG_ok {f g : List Nat} (h : codeG f g = 0) : okB f = true ∧ okB g = true := by
  unfold codeG at h
  split at h
  · assumption
  · cases h
/-! ### Lists of frames in memory -/
def fsv (fs : List (List Nat)) : List Value := fs.flatMap frv
theorem fsv_append (fs gs : List (List Nat)) : fsv (fs ++ gs) = fsv fs ++ fsv gs := by simp [fsv]
theorem fsv_length {fs : List (List Nat)} (hl : ∀ f ∈ fs, f.length = 12) : (fsv fs).length = fs.length * 12 := by
  induction fs with
  | nil => rfl
  | cons f fs ih =>
    have h1 := hl f (by simp)
    have h2 := ih (fun g hg => hl g (by simp [hg]))
    simp only [fsv, List.flatMap_cons, List.length_append, List.length_cons, frv_length] at h2 ⊢
    omega
theorem fsv_get {fs : List (List Nat)} (hl : ∀ f ∈ fs, f.length = 12) : ∀ {k j : Nat}, k < fs.length → j < 12 → (fsv fs)[k * 12 + j]? = (frv (fs.getD k zf))[j]? := by
  induction fs with
  | nil => intro k j hk; simp at hk
  | cons f fs ih =>
    intro k j hk hj
    have h1 := hl f (by simp)
    simp only [fsv, List.flatMap_cons] at ih ⊢
    cases k with
    | zero => rw [List.getElem?_append_left (by rw [frv_length]; omega)]; simp
    | succ k =>
      rw [List.getElem?_append_right (by rw [frv_length]; omega), frv_length, show (k + 1) * 12 + j - f.length = k * 12 + j by omega]
      rw [ih (fun g hg => hl g (by simp [hg])) (by simpa using hk) hj]
      simp
theorem Cl.frame {w : World} {b o : Nat} {fs : List (List Nat)} (h : Cl w b o (fsv fs)) (hl : ∀ f ∈ fs, f.length = 12) {k : Nat} (hk : k < fs.length) : Cl w b (o + k * 12) (frv (fs.getD k zf)) :=
  ⟨h.1, fun j v hj => by
    have hjl : j < 12 := by
      have := (List.getElem?_eq_some_iff.1 hj).1
      rw [frv_length] at this
      have h2 : (fs.getD k zf).length = 12 := by
        rw [List.getD_eq_getElem?_getD, List.getElem?_eq_getElem hk]; exact hl _ (List.getElem_mem hk)
      omega
    rw [Nat.add_assoc]
    exact h.2 _ v (by rw [fsv_get hl hk hjl]; exact hj)⟩
theorem getD_mem {fs : List (List Nat)} {k : Nat} (hk : k < fs.length) : fs.getD k zf ∈ fs := by
  rw [List.getD_eq_getElem?_getD, List.getElem?_eq_getElem hk]; exact List.getElem_mem hk
theorem are1_c (f : List Nat) (hf : f.length = 12) (w : World) : Calls Tryd.prog 44 #[.agg (frv f).toArray] w fun e w' => e = .returned (.bool (!okB f)) ∧ Keep [] w w' := by
  have st := St.start w
  go_enter Tryd.func44, Tryd.ntmps44
  go_wp2_with (first | ((with_reducible refine gate_box rfl ?_); refine wpl_box rfl _ _ rfl _ rfl _ rfl st ?_; clear st; intro _ _ st) | ((with_reducible refine gate_load rfl ?_); refine wpl_loadAll rfl _ _ rfl _ rfl tFr.toAggT _ _ (st.get (by repeat (first | exact At.here | apply At.there))) (by simp [frv_length, zf_length, mk_length, withD_length, part_length, rowsOf_length, *]) ?_) | (go_at_call 45; refine (ValidFrame_c f hf _).mono ?_; rintro _ _ ⟨rfl, hk⟩; replace st := st.call hk; clear hk))
  go_ret
  exact ⟨rfl, st.keep⟩
def allOk (fs : List (List Nat)) : Bool := fs.all okB
def IdxFPost (fs : List (List Nat)) (w : World) (e : Ending) (w' : World) : Prop := ∃ i : Int, e = .returned (.int .i64 i) ∧ (allOk fs = true → i = -1) ∧ (allOk fs = false → 0 ≤ i) ∧ Keep [] w w'
theorem allOk_not {fs : List (List Nat)} {k : Nat} (hk : k < fs.length) (h : okB (fs.getD k zf) = false) : allOk fs = false := by
  rw [Bool.eq_false_iff]
  intro ha
  have := List.all_eq_true.1 ha _ (getD_mem hk)
  rw [h] at this; cases this
theorem allOk_of {fs : List (List Nat)} (h : ∀ k, k < fs.length → okB (fs.getD k zf) = true) : allOk fs = true := by
  unfold allOk
  rw [List.all_eq_true]
  intro x hx
  obtain ⟨i, hi, rfl⟩ := List.mem_iff_getElem.1 hx
  have := h i hi
  rwa [List.getD_eq_getElem?_getD, List.getElem?_eq_getElem hi] at this
set_option maxRecDepth 100000 in
theorem indexFuncFr_c (fs : List (List Nat)) (hl : ∀ f ∈ fs, f.length = 12) (hn : fs.length ≤ maxLen) (b o cap : Nat) (w : World) (hb : Cl w b o (fsv fs)) :
    Calls Tryd.prog 54 #[.slice (some ⟨b, o, none⟩) fs.length cap, .func (.func 44) #[] #[]] w (IdxFPost fs w) := by
  have st := St.start w
  have hmx : fs.length ≤ 9223372036854775807 := by simp only [maxLen] at hn; omega
  go_enter Tryd.func54, Tryd.ntmps54
  go_wp2_with fail
  go_loopw [8] (fun i wr => ∃ k : Nat, k ≤ fs.length ∧ i = .int .i64 k ∧ (∀ y, y < k → okB (fs.getD y zf) = true) ∧ St [] w wr []) (fun i _ => fs.length - (intOf i).toNat)
  case atStart => exact ⟨0, by omega, rfl, by omega, st⟩
  case round =>
    clear st
    obtain ⟨k, hk, rfl, hle, st⟩ := hrel
    have HL := hid hle
    clear hle
    by_cases hlt : k < fs.length
    · have hd : decide ((k : Int) < (fs.length : Int)) = true := by simpa using hlt
      have hfl : (fs.getD k zf).length = 12 := hl _ (getD_mem hlt)
      have hc := (hb.frame hl hlt).keep st.keep (by simp)
      rcases Bool.eq_false_or_eq_true (okB (fs.getD k zf)) with h | h
      · obtain ⟨fk, hfk⟩ : ∃ fk, fk = fs.getD k zf := ⟨_, rfl⟩
        rw [← hfk] at hfl hc h
        have HK := hid hfk
        clear hfk
        go_wp2_with (first | ((with_reducible refine gate_addr rfl ?_); refine wpl_slcAddr rfl _ _ rfl _ _ _ _ rfl _ _ rfl tFrS k rfl hlt ?_) | ((with_reducible refine gate_load rfl ?_); refine wpl_loadC rfl _ _ rfl _ rfl tFr.toAggT (frv fk) (by rw [frv_length, hfl]) (fun j v hj => by rw [Addr.add_lit]; exact hc.cellv hj) ?_) | (go_at_call 44; refine (are1_c fk hfl _).mono ?_; rintro _ _ ⟨rfl, hk⟩; replace st := st.call hk; clear hk))
        go_roundw
        case rel =>
          refine ⟨k + 1, by omega, by go_num, fun y hy => ?_, st⟩
          by_cases e : y = k
          · subst e; rw [← HK.out]; exact h
          · exact HL.out y (by omega)
        case measure => simp [intOf]; omega
      · have hno := allOk_not hlt h
        obtain ⟨fk, hfk⟩ : ∃ fk, fk = fs.getD k zf := ⟨_, rfl⟩
        rw [← hfk] at hfl hc h
        have HK := hid hfk
        clear hfk
        go_wp2_with (first | ((with_reducible refine gate_addr rfl ?_); refine wpl_slcAddr rfl _ _ rfl _ _ _ _ rfl _ _ rfl tFrS k rfl hlt ?_) | ((with_reducible refine gate_load rfl ?_); refine wpl_loadC rfl _ _ rfl _ rfl tFr.toAggT (frv fk) (by rw [frv_length, hfl]) (fun j v hj => by rw [Addr.add_lit]; exact hc.cellv hj) ?_) | (go_at_call 44; refine (are1_c fk hfl _).mono ?_; rintro _ _ ⟨rfl, hk⟩; replace st := st.call hk; clear hk))
        go_ret
        exact ⟨k, rfl, fun h => (by rw [hno] at h; cases h), fun _ => (by omega), st.keep⟩
    · obtain rfl : k = fs.length := by omega
      go_wp2_with fail
      go_ret
      exact ⟨-1, rfl, fun _ => rfl, fun h => (by rw [allOk_of (fun y hy => HL.out y (by omega))] at h; cases h), st.keep⟩
theorem containsFr_c (fs : List (List Nat)) (hl : ∀ f ∈ fs, f.length = 12) (hn : fs.length ≤ maxLen) (b o cap : Nat) (w : World) (hb : Cl w b o (fsv fs)) :
    Calls Tryd.prog 43 #[.slice (some ⟨b, o, none⟩) fs.length cap, .func (.func 44) #[] #[]] w fun e w' => e = .returned (.bool (!allOk fs)) ∧ Keep [] w w' := by
  have st := St.start w
  rcases Bool.eq_false_or_eq_true (allOk fs) with h | h
  · rw [h]
    go_enter Tryd.func43, Tryd.ntmps43
    go_wp2_with (go_at_call 54; refine (indexFuncFr_c fs hl hn b o cap _ hb).mono ?_; rintro _ _ ⟨i, rfl, h1, h2, hk⟩; replace st := st.call hk; obtain rfl := h1 h; clear h1 h2 hk)
    go_ret
    exact ⟨rfl, st.keep⟩
  · rw [h]
    go_enter Tryd.func43, Tryd.ntmps43
    go_wp2_with (go_at_call 54; refine (indexFuncFr_c fs hl hn b o cap _ hb).mono ?_; rintro _ _ ⟨i, rfl, h1, h2, hk⟩; replace st := st.call hk; have h3 := h2 h; clear h1 h2 hk)
    go_ret
    exact ⟨by simp [*], st.keep⟩
theorem areFrames_c (fs : List (List Nat)) (hl : ∀ f ∈ fs, f.length = 12) (hn : fs.length ≤ maxLen) (b o cap : Nat) (w : World) (hb : Cl w b o (fsv fs)) :
    Calls Tryd.prog 33 #[.slice (some ⟨b, o, none⟩) fs.length cap] w fun e w' => e = .returned (.bool (allOk fs)) ∧ Keep [] w w' := by
  have st := St.start w
  go_enter Tryd.func33, Tryd.ntmps33
  go_wp2_with (first | (go_at_call 43; refine (containsFr_c fs hl hn b o cap _ hb).mono ?_; rintro _ _ ⟨rfl, hk⟩; replace st := st.call hk; clear hk))
  go_ret
  exact ⟨by simp, st.keep⟩
theorem areTwo_c (f g : List Nat) (hf : f.length = 12) (hg : g.length = 12) (b cap : Nat) (T : TypeId) (w : World) (hb : Blk w b (frv f ++ frv g) T) :
    Calls Tryd.prog 33 #[.slice (some ⟨b, 0, none⟩) 2 cap] w fun e w' => e = .returned (.bool (decide (codeG f g = 0))) ∧ Keep [] w w' := by
  have h := areFrames_c [f, g] (by simp [hf, hg]) (by simp [maxLen]) b 0 cap w (.of (cs := fsv [f, g]) (T := T) (by simpa [fsv] using hb))
  have e : allOk [f, g] = decide (codeG f g = 0) := by
    rcases Bool.eq_false_or_eq_true (okB f) with h1 | h1 <;> rcases Bool.eq_false_or_eq_true (okB g) with h2 | h2 <;> simp [allOk, codeG, h1, h2]
  rw [e] at h
  exact h
/-- What a function on two frames answers. -/
def twoR (k : Nat → Nat → Nat) (f g : List Nat) : List Nat := if codeG f g = 0 then mixR k f g else zf
theorem twoR_len (k : Nat → Nat → Nat) (f g : List Nat) : (twoR k f g).length = 12 := by
  unfold twoR
  split
  · exact mixR_length k f g
  · rfl


end Go.Proofs.YtmfgbkmkcljciaaDoor
