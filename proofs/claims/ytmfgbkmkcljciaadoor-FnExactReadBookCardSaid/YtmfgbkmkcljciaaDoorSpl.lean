/- A text is cut at a letter (the reference's walk); no condition. -/
import Derived.Test.YtmfgbkmkcljciaaDoorWds
import Derived.Test.YtmfgbkmkcljciaaDoorText
import Derived.Test.YtmfgbkmkcljciaaDoorRes
import Derived.Test.YtmfgbkmkcljciaaDoorSx
namespace Go.Proofs.YtmfgbkmkcljciaaDoor
open Go.RowKit
set_option linter.unusedSimpArgs false
set_option linter.unusedVariables false
def PcPost (c : UInt8) (l : List UInt8) (w : World) (e : Ending) (w' : World) : Prop := ∃ v, e = .returned v ∧ Gives 9 1 (wds c l).length (encs sv (wds c l)) w v w' ∧ Keep [] w w'
set_option maxHeartbeats 2000000 in
set_option maxRecDepth 100000 in
theorem l01Split_g (c : UInt8) (l : List UInt8) (n : Nat) (hn : l.length = n) (hn1 : n ≤ 1000000) (w : World) :
    Calls Tryd.prog 9 #[.string ⟨l.toArray⟩, .int .u8 (c.toNat : Nat)] w (PcPost c l w) := by
  have st := St.start w
  obtain ⟨cn, hcn⟩ : ∃ cn, c.toNat = cn := ⟨_, rfl⟩
  rw [hcn]
  have HCN := hid hcn
  have heq : (((cn : Nat) : Int) == ((cn : Nat) : Int)) = true := by simp
  have hsz : (⟨l.toArray⟩ : ByteArray).size = n := by rw [← hn]; rfl
  have HLE := hid (pcB_le c l)
  have HLL := hid (pcL_le c l)
  go_enter Tryd.func9, Tryd.ntmps9
  go_wp2_with (first | ((with_reducible refine gate_bsl rfl ?_); refine ia_bsl0 (sl := 8) st rfl rfl rfl ?_; clear st; intro B8 _ st))
  go_loopw [5, 6, 7] (fun v b i wr => ∃ (k g cap : Nat) (spare : List Value), k ≤ n ∧ i = .int .i64 k ∧ b = .int .i64 (pcB c l k : Nat) ∧ v = .slice (some ⟨g, 0, none⟩) (pcL c l k).length cap ∧ St [] w wr [(g, encs sv (pcL c l k) ++ spare, 9)] ∧ (encs sv (pcL c l k) ++ spare).length = cap * 1 ∧ cap ≤ maxLen) (fun _ _ i _ => n - (intOf i).toNat)
  case atStart => exact ⟨0, B8, 0, [], by omega, rfl, rfl, rfl, st, rfl, Nat.zero_le _⟩
  case round =>
    clear st
    obtain ⟨k, g, cap, spare, hk, rfl, rfl, rfl, st, hcap, hcm⟩ := hrel
    have HC := hid hcap
    clear hcap
    by_cases hlt : k < n
    · have hd : decide ((k : Int) < (n : Int)) = true := by simpa using hlt
      have hkl : k < l.length := by omega
      have hb := HLE.out k
      have hll := HLL.out k
      have HG : Hid ((l.getD k 0).toNat = (l.getD k 0).toNat) := hid rfl
      by_cases h10 : l.getD k 0 = c
      · have e1 : pcB c l (k + 1) = k + 1 := (pcL_step h10).1
        have e2 : pcL c l (k + 1) = pcL c l k ++ [(l.drop (pcB c l k)).take (k - pcB c l k)] := (pcL_step h10).2
        have e3 : encs sv (pcL c l (k + 1)) = encs sv (pcL c l k) ++ sv ((l.drop (pcB c l k)).take (k - pcB c l k)) := by rw [e2, encs_append]; simp [encs]
        have e4 : (pcL c l (k + 1)).length = (pcL c l k).length + 1 := by rw [e2, List.length_append]; rfl
        have HE1 := hid e1
        have HE3 := hid e3
        have HE4 := hid e4
        have HSL : Hid ((encs sv (pcL c l k)).length = (pcL c l k).length * 1) := hid (by rw [encs_length sv_len])
        have HI := hid h10
        clear e1 e2 e3 e4
        go_wp2_with (first | ((with_reducible refine gate_ind rfl ?_); refine ia_sidx (l := l) (k := k) rfl rfl rfl rfl Tryd.underlying9 hkl ?_; rw [HI.out, HCN.out]) | ((with_reducible refine gate_scut rfl ?_); refine ia_scut (l := l) (i := pcB c l k) (j := k) rfl rfl rfl rfl rfl Tryd.underlying9 hb (by omega) ?_) | ((with_reducible refine gate_bsl rfl ?_); refine ia_bsl1 (sl := 25) st rfl rfl rfl rfl rfl ?_ (by decide) ?_; (focus (first | rfl | (simp; done) | (simp; assumption) | (simp; omega) | (simp [*]; done))); clear st; intro B25 _ st) | ((with_reducible refine gate_app rfl ?_); refine ia_appendR (news := (sv ((l.drop (pcB c l k)).take (k - pcB c l k)))) (xs := (encs sv (pcL c l k))) (spare := spare) st rfl rfl rfl rfl HSL.out HC.out hcm (.fr (st.get (by repeat (first | exact At.here | apply At.there)))) (fun h => by cases h) (sv_len _) (sv_one _) (by unfold maxLen; omega) (by omega) ?_; clear st; intro g2 cap2 spare2 _ st hcap2 hcm2; (try simp only [List.set_cons_zero, List.set_cons_succ] at st)))
        go_roundw
        case rel => exact ⟨k + 1, g2, cap2, spare2, by omega, by go_num, by rw [HE1.out]; go_num, by rw [HE4.out], by rw [HE3.out]; exact st.drop, by rw [HE3.out]; exact hcap2, hcm2⟩
        case measure => first | (simp [intOf]; done) | (simp [intOf]; omega)
      · have e1 : pcB c l (k + 1) = pcB c l k := (pcL_stay h10).1
        have e2 : pcL c l (k + 1) = pcL c l k := (pcL_stay h10).2
        have HE1 := hid e1
        have HE2 := hid e2
        obtain ⟨ch, hch⟩ : ∃ ch, (l.getD k 0).toNat = ch := ⟨_, rfl⟩
        have hne : (((ch : Nat) : Int) == ((cn : Nat) : Int)) = false := by
          rw [beq_eq_false_iff_ne]
          intro e
          apply h10
          apply UInt8.toNat_inj.1
          rw [hch]
          rw [hcn]
          omega
        have HI := hid hch
        clear e1 e2 hch h10
        go_wp2_with (first | ((with_reducible refine gate_ind rfl ?_); refine ia_sidx (l := l) (k := k) rfl rfl rfl rfl Tryd.underlying9 hkl ?_; rw [HI.out]))
        go_roundw
        case rel => exact ⟨k + 1, g, cap, spare, by omega, by go_num, by rw [HE1.out], by rw [HE2.out], by rw [HE2.out]; exact st, by rw [HE2.out]; exact HC.out, hcm⟩
        case measure => first | (simp [intOf]; done) | (simp [intOf]; omega)
    · obtain rfl : k = n := by omega
      have hd : decide ((k : Int) < (k : Int)) = false := by simp
      have hb := HLE.out k
      have hll := HLL.out k
      have HN := hid hn
      have HSL : Hid ((encs sv (pcL c l k)).length = (pcL c l k).length * 1) := hid (by rw [encs_length sv_len])
      have HF : Hid (encs sv (wds c l) = encs sv (pcL c l k) ++ sv (l.drop (pcB c l k)) ∧ (wds c l).length = (pcL c l k).length + 1) := hid (by
        have e := pc_wds c l
        rw [hn] at e
        rw [← e, encs_append, List.length_append]
        exact ⟨by simp [encs], rfl⟩)
      clear hn
      go_wp2_with (first | ((with_reducible refine gate_scut rfl ?_); refine ia_scutF (l := l) (i := pcB c l k) rfl rfl rfl rfl Tryd.underlying9 (by rw [HN.out]; exact hb) ?_) | ((with_reducible refine gate_bsl rfl ?_); refine ia_bsl1 (sl := 33) st rfl rfl rfl rfl rfl ?_ (by decide) ?_; (focus (first | rfl | (simp; done) | (simp; assumption) | (simp; omega) | (simp [*]; done))); clear st; intro B33 _ st) | ((with_reducible refine gate_app rfl ?_); refine ia_appendR (news := (sv (l.drop (pcB c l k)))) (xs := (encs sv (pcL c l k))) (spare := spare) st rfl rfl rfl rfl HSL.out HC.out hcm (.fr (st.get (by repeat (first | exact At.here | apply At.there)))) (fun h => by cases h) (sv_len _) (sv_one _) (by unfold maxLen; omega) (by omega) ?_; clear st; intro g2 cap2 spare2 _ st hcap2 hcm2; (try simp only [List.set_cons_zero, List.set_cons_succ] at st)))
      go_ret
      exact ⟨.slice (some ⟨g2, 0, none⟩) ((pcL c l k).length + 1) cap2, rfl, ⟨g2, cap2, spare2, by rw [HF.out.2], out_of st (.there .here), by rw [HF.out.1]; exact st.get (.there .here), by rw [HF.out.1]; exact hcap2, hcm2⟩, st.keep⟩
section
variable {P : Program} {ops : Array Oper} {rest : List Oper} {o : Oper} {a : Act} {w : World} {Q : Exit → Act → World → Prop}
theorem gate_sq {T U : TypeId} {x y : Operand} (_ho : o.op = .binOp .eql T x y U) (h : wpList P ops Q (o :: rest) a w) : wpList P ops Q (o :: rest) a w := h
theorem la_seq {T U : TypeId} {x y : Operand} {l m : List UInt8} {v : Bool} (hv : decide (l = m) = v) (hgd : o.guard = none) (ho : o.op = .binOp .eql T x y U) (hx : a.eval x = .string ⟨l.toArray⟩) (hy : a.eval y = .string ⟨m.toArray⟩)
    (h : wpList P ops Q rest (a.put o.dst (.bool v)) w) : wpList P ops Q (o :: rest) a w :=
  wpl_val hgd _ (by
    subst hv
    unfold execOp
    simp only [ho, hx, hy]
    by_cases e : l = m
    · subst e; go_simp
    · go_simp) h
end
theorem cell_keep {w w' : World} (hk : Keep [] w w') {b : Nat} {v : Value} (h : w.cell? ⟨b, 0, none⟩ = some v) : w'.cell? ⟨b, 0, none⟩ = some v := by
  have hlt : b < w.heap.size := by
    unfold World.cell? at h
    cases hh : w.heap[b]? with
    | none => simp [hh] at h
    | some o => exact (Array.getElem?_eq_some_iff.1 hh).1
  unfold World.cell? at h ⊢
  rw [hk.block b hlt (by simp)]
  exact h
theorem words_get {W : List (List UInt8)} {sp : List Value} {k : Nat} {x : List UInt8} (hk : k < W.length) (hx : W[k] = x) : (encs sv W ++ sp)[k]? = some (.string ⟨x.toArray⟩) := by
  have := encs_getA sv_len W sp k hk 0 (by omega)
  rw [Nat.mul_one, Nat.add_zero, hx] at this
  exact this
def allTo (f : List UInt8 → Bool) (W : List (List UInt8)) (k : Nat) : Prop := ∀ j (h : j < W.length), j < k → f W[j] = true
theorem allTo.step {f : List UInt8 → Bool} {W : List (List UInt8)} {k : Nat} (h : allTo f W k) (hk : k < W.length) (e : f W[k] = true) : allTo f W (k + 1) := fun j hj hjk => by
  by_cases e2 : j = k
  · subst e2; exact e
  · exact h j hj (by omega)
theorem allTo.all {f : List UInt8 → Bool} {W : List (List UInt8)} {k : Nat} (h : allTo f W k) (hk : W.length = k) : W.all f = true := by
  rw [List.all_eq_true]
  intro x hx
  obtain ⟨j, hj, rfl⟩ := List.mem_iff_getElem.1 hx
  exact h j hj (by omega)
theorem mapG_step {α : Type} {e : α → List Value} {f : List UInt8 → α} {W : List (List UInt8)} {k : Nat} (hk : k < W.length) : encs e ((W.take (k + 1)).map f) = encs e ((W.take k).map f) ++ e (f W[k]) := by
  rw [List.take_succ_eq_append_getElem hk, List.map_append, encs_append]
  simp [encs]
theorem mapG_len {α : Type} {e : α → List Value} {s : Nat} (hs : ∀ a, (e a).length = s) {f : List UInt8 → α} {W : List (List UInt8)} {k : Nat} (hk : k ≤ W.length) : (encs e ((W.take k).map f)).length = k * s := by
  rw [encs_length hs, List.length_map, List.length_take, Nat.min_eq_left hk]
section
variable {P : Program} {ops : Array Oper} {rest : List Oper} {o : Oper} {a : Act} {w : World} {Q : Exit → Act → World → Prop}
theorem gate_sn {T U : TypeId} {x y : Operand} (_ho : o.op = .binOp .neq T x y U) (h : wpList P ops Q (o :: rest) a w) : wpList P ops Q (o :: rest) a w := h
theorem la_sneq {T U : TypeId} {x y : Operand} {l m : List UInt8} {v : Bool} (hv : (!decide (l = m)) = v) (hgd : o.guard = none) (ho : o.op = .binOp .neq T x y U) (hx : a.eval x = .string ⟨l.toArray⟩) (hy : a.eval y = .string ⟨m.toArray⟩)
    (h : wpList P ops Q rest (a.put o.dst (.bool v)) w) : wpList P ops Q (o :: rest) a w :=
  wpl_val hgd _ (by
    subst hv
    unfold execOp
    simp only [ho, hx, hy]
    by_cases e : l = m
    · subst e; go_simp
    · go_simp) h
end
end Go.Proofs.YtmfgbkmkcljciaaDoor
