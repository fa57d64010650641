/- Books joined: the library's Grow and Concat, the reference and the program; no condition. -/
import Derived.Test.YtmfgbkmkcljciaaFro
import Derived.Test.YtmfgbkmkcljciaaSched
import Derived.Lib.AppendZerosOnto
namespace Go.Proofs.Ytmfgbkmkcljciaa
open Go.RowKit
set_option linter.unusedSimpArgs false
set_option linter.unusedVariables false

section
variable {P : Program} {ops : Array Oper} {rest : List Oper} {o : Oper} {a : Act} {w w0 : World} {Q : Exit → Act → World → Prop} {M : List Nat} {L : List (Nat × List Value × TypeId)}
theorem gate_app2 {s x : Operand} {T T' : TypeId} (_ho : o.op = .call { callee := .builtin .append, args := #[s, x], argTypes := #[T, T'] }) (h : wpList P ops Q (o :: rest) a w) : wpList P ops Q (o :: rest) a w := h
/-- The nil slice grows by zero values. -/
theorem ia_appZ {s x : Operand} {T T' E : TypeId} {sz y k : Nat} {z : List Value} {K K' : IntKind} (st : St M w0 w L) (hgd : o.guard = none) (ho : o.op = .call { callee := .builtin .append, args := #[s, x], argTypes := #[T, T'] })
    (hs : a.eval s = .slice none 0 0) (hx : a.eval x = .int K k) [hT : SlcC P T E sz y z] [hI : IntC P T' K'] (h0 : 0 < k) (h63 : k ≤ 4611686018427387904) (hby : k * y ≤ 140737488355328)
    (h : ∀ g cap cells w1, St M w0 w1 ((g, cells, E) :: L) → cells.length = cap * sz → k ≤ cap → cap ≤ maxLen → wpList P ops Q rest (a.put o.dst (.slice (some ⟨g, 0, none⟩) k cap)) w1) : wpList P ops Q (o :: rest) a w := by
  obtain ⟨i, v, hi, hs', hy', hz, hc⟩ := hT.out.i
  subst hs'
  subst hy'
  have hp := hT.out.p
  have hold : (Builtin.firstCells i.size 0 (.slice none 0 0)).run P w.drew = .ok ([] : List Value).toArray w.drew := run_firstCells_none w.drew i.size 0 0 0
  have hr := Lib.run_append_grow_zeros (P := P) w T T' o.type E i v K K' hT.out.u hI.out hi hz none 0 0 [] hold k h0 hp (by omega) (by omega) (by omega) (by rw [Nat.zero_add]; exact growslice_fits (by omega) hby)
  simp only [Nat.zero_add] at hr
  have hge := grownCap_ge w k 0 E
  have hcm' := grownCap_le_maxLen w k 0 E (by unfold maxLen; omega)
  obtain ⟨zs, hzs⟩ : ∃ zs : List Value, ([] : List Value).toArray ++ Builtin.zeroCells v.cells k ++ Builtin.zeroCells v.cells (grownCap w k 0 E - k) = zs.toArray := ⟨_, (Array.toArray_toList).symm⟩
  have hzl : zs.length = grownCap w k 0 E * i.size := by
    have h1 := congrArg Array.size hzs
    have h2 := hT.out.l
    simp only [Array.size_append, size_zeroCells, hc, List.size_toArray, List.length_nil, Nat.zero_add, h2] at h1
    rw [← h1, ← Nat.add_mul]
    congr 1
    omega
  rw [hzs] at hr
  have st1 := (st.call (Keep.drew w)).alloc zs E
  refine wpList_plain hgd fun Kc hK => ?_
  unfold Oper.wp execOp
  simp only [ho, resolve, invoke, builtin, Sem.run_bind, Sem.run_pure, Result.andThen_ok, List.map_toArray, List.map_cons, List.map_nil, hs, hx, hr]
  exact hK _ _ (h _ _ zs _ st1 hzl hge hcm')
/-- A slice cut at its length: its own head. -/
theorem ia_cutH {T E : TypeId} {s y n c : Nat} {z : List Value} {x ih : Operand} {p : Option Addr} {k : IntKind} {h : Nat} (hgd : o.guard = none) (ho : o.op = .slice T x none (some ih) none) (hx : a.eval x = .slice p n c) (hih : a.eval ih = .int k h) [hT : SlcC P T E s y z] (hhc : h ≤ c)
    (hk : wpList P ops Q rest (a.put o.dst (.slice p h c)) w) : wpList P ops Q (o :: rest) a w := by
  have he : P.elem T = E := by unfold Program.elem; rw [hT.out.u]
  have hu : P.underlying T = some (.slice (P.elem T)) := by rw [he]; exact hT.out.u
  have hr := run_slice_h (P := P) w T p n c hu k h (by omega) (by omega)
  rw [he, hT.out.sizeOf w] at hr
  simp only [Result.andThen_ok, Int.toNat_natCast, sliced_zero P] at hr
  exact wpl_val hgd _ (by
    unfold execOp
    simp only [ho, hx, hih, Sem.run_bind, Sem.run_pure, Result.andThen_ok, Option.map_some, Option.map_none, run_sliceAt_slice w T _ _ _ _ hu, hr]) hk
/-- The nil slice grows by nothing. -/
theorem ia_appNil {s x : Operand} {T E : TypeId} {sz y c : Nat} {z : List Value} {p : Option Addr} (hgd : o.guard = none) (ho : o.op = .call { callee := .builtin .append, args := #[s, x], argTypes := #[T, T] }) (hs : a.eval s = .slice none 0 0) (hx : a.eval x = .slice p 0 c) [hT : SlcC P T E sz y z]
    (h : wpList P ops Q rest (a.put o.dst (.slice none 0 0)) w) : wpList P ops Q (o :: rest) a w := by
  obtain ⟨u, v, hi, hs', hy', hz, hc⟩ := hT.out.i
  have hrun : (Builtin.append_ #[T, T] o.type #[.slice none 0 0, .slice p 0 c]).run P w = .ok (.slice none 0 0) w := by
    have hfc : (Builtin.firstCells u.size 0 (.slice p 0 c)).run P w = .ok ([] : List Value).toArray w := by
      cases p with
      | none => exact run_firstCells_none w u.size 0 0 c
      | some ad => exact run_firstCells_some w u.size 0 ad 0 c [] (by simp) (by simp)
    simp [Builtin.append_, run_underlying hT.out.u, sizeOf, typeInfo, hi, Builtin.lenOf, hfc, storeCells]
  refine wpList_plain hgd fun K hK => ?_
  unfold Oper.wp execOp
  simp only [ho, resolve, invoke, builtin, Sem.run_bind, Sem.run_pure, Result.andThen_ok, List.map_toArray, List.map_cons, List.map_nil, hs, hx, hrun]
  exact hK _ _ h
end
def GrowPost (N : Nat) (w : World) (e : Ending) (w' : World) : Prop := ∃ v, e = .returned v ∧ ((N = 0 ∧ v = .slice none 0 0) ∨ (0 < N ∧ Gives 52 12 0 [] w v w')) ∧ Keep [] w w'
set_option maxHeartbeats 1000000 in
set_option maxRecDepth 100000 in
theorem GrowB_c (N : Nat) (hN : N ≤ 4000000) (w : World) : Calls Try.prog 88 #[.slice none 0 0, .int .i64 N] w (GrowPost N w) := by
  have st := St.start w
  rcases Nat.eq_zero_or_pos N with h0 | hpos
  · subst h0
    go_enter Try.func88, Try.ntmps88
    go_wp2_with fail
    go_ret
    exact ⟨_, rfl, Or.inl ⟨rfl, rfl⟩, st.keep⟩
  · have hd : decide ((0 : Int) < (N : Int)) = true := by simp; omega
    go_enter Try.func88, Try.ntmps88
    go_wp2_with (first | ((with_reducible refine gate_slice rfl ?_); refine ia_cutH (h := 0) rfl rfl rfl rfl (by omega) ?_) | ((with_reducible refine gate_app2 rfl ?_); refine ia_appZ (k := N) st rfl rfl rfl rfl hpos (by omega) (by omega) ?_; clear st; intro g cap cells _ st hcl hkc hcm))
    go_ret
    exact ⟨_, rfl, Or.inr ⟨hpos, g, cap, cells, rfl, out_of st .here, st.get .here, hcl, hcm⟩, st.keep⟩
theorem tBookS : SlcT Try.prog 79 26 1 24 [.slice none 0 0] := slcT_of Try.underlying79 (.slice none 0 0) (by kernel_rfl) rfl (by decide) rfl
instance : SlcC Try.prog 79 26 1 24 [.slice none 0 0] := ⟨tBookS⟩
instance : OneC Try.prog 26 (.slice none 0 0) := ⟨oneT_of Try.underlying26 rfl (by kernel_rfl) rfl⟩
/-- What Concat answers: nil where there is nothing. -/
def ConcPost (R : List Fm) (N : Nat) (w : World) (e : Ending) (w' : World) : Prop := ∃ v, e = .returned v ∧ ((N = 0 ∧ v = .slice none 0 0) ∨ Gives 52 12 N (encs fv R) w v w') ∧ Keep [] w w'
def szK (n m k : Nat) : Nat := if k = 0 then 0 else if k = 1 then n else n + m
set_option maxHeartbeats 2000000 in
set_option maxRecDepth 100000 in
theorem ConcatB_c (A B : List Fm) (n m : Nat) (hA : A.length = n) (hB : B.length = m) (hn : n ≤ 1000000) (hm : m ≤ 1000000) (p p' : Option Addr) (c c' : Nat) (hp : p = none → n = 0) (hp' : p' = none → m = 0) (g0 : Nat) (w : World) (hb0 : Blk w g0 [.slice p n c, .slice p' m c'] 26) (hr : Rd w p n (encs fv A)) (hr' : Rd w p' m (encs fv B)) :
    Calls Try.prog 68 #[.slice (some ⟨g0, 0, none⟩) 2 2] w (ConcPost (A ++ B) (n + m) w) := by
  have st := St.start w
  have HG := hid (GrowB_c (n + m) (by omega))
  have hlen : (encs fv A).length = n * 12 := by rw [encs_fv_length, hA]
  have hlen' : (encs fv B).length = m * 12 := by rw [encs_fv_length, hB]
  have HLEN := hid hlen
  have HLEN' := hid hlen'
  have HP0 := hid hp
  have HP1 := hid hp'
  have hb1 := hb0
  have N0 : Hid (([.slice p n c, .slice p' m c'] : List Value)[0 + 0 * 1]? = some (.slice p n c)) := hid rfl
  have N1 : Hid (([.slice p n c, .slice p' m c'] : List Value)[0 + 1 * 1]? = some (.slice p' m c')) := hid rfl
  have N2 : Hid (([.slice p n c, .slice p' m c'] : List Value)[0]? = some (.slice p n c)) := hid rfl
  have N3 : Hid (([.slice p n c, .slice p' m c'] : List Value)[1]? = some (.slice p' m c')) := hid rfl
  clear hlen hlen' hA hB hp hp'
  go_enter Try.func68, Try.ntmps68
  go_wp2_with (first | ((with_reducible refine gate_lst ?_); (first | ((with_reducible refine gate_load rfl ?_); (first | (refine' ia_load1 st rfl rfl rfl ?_ ?_; rotate_left 1; (focus (first | exact N0.out | exact N1.out | exact N2.out | exact N3.out | exact G0.out | exact G1.out | (refine frv_get _ _ ?_; (first | omega | (simp; done) | (simp; omega) | (simp [*]; omega))) | exact rfl))) | (refine' ia_load1Z (hb.keep st.keep (by simp)) rfl rfl rfl ?_ ?_; rotate_left 1; (focus exact rfl)) | (refine' ia_load1Z (hb'.keep st.keep (by simp)) rfl rfl rfl ?_ ?_; rotate_left 1; (focus exact rfl)) | (refine' ia_load1C (hb.keep st.keep (by simp)) rfl rfl rfl ?_ ?_; rotate_left 1; (focus (first | exact N0.out | exact N1.out | exact N2.out | exact N3.out | exact G0.out | exact G1.out | (refine frv_get _ _ ?_; (first | omega | (simp; done) | (simp; omega) | (simp [*]; omega))) | exact rfl))) | (refine' ia_load1C (hb'.keep st.keep (by simp)) rfl rfl rfl ?_ ?_; rotate_left 1; (focus (first | exact N0.out | exact N1.out | exact N2.out | exact N3.out | exact G0.out | exact G1.out | (refine frv_get _ _ ?_; (first | omega | (simp; done) | (simp; omega) | (simp [*]; omega))) | exact rfl))) | (refine' ia_load1B (hb1.keep st.keep (by simp)) rfl rfl rfl ?_ ?_; rotate_left 1; (focus (first | exact N0.out | exact N1.out | exact N2.out | exact N3.out | exact G0.out | exact G1.out | (refine frv_get _ _ ?_; (first | omega | (simp; done) | (simp; omega) | (simp [*]; omega))) | exact rfl))) | (refine' ia_load1B (hb2.keep st.keep (by simp)) rfl rfl rfl ?_ ?_; rotate_left 1; (focus (first | exact N0.out | exact N1.out | exact N2.out | exact N3.out | exact G0.out | exact G1.out | (refine frv_get _ _ ?_; (first | omega | (simp; done) | (simp; omega) | (simp [*]; omega))) | exact rfl))))) | ((with_reducible refine gate_addr rfl ?_); (first | (refine' ia_slcP HP.out rfl rfl rfl rfl ?_ ?_ ?_) | (refine' ia_slcP HP2.out rfl rfl rfl rfl ?_ ?_ ?_)); rotate_left 1; (focus (first | exact (rfl : (0 : Int) = ((0 : Nat) : Int)) | exact (rfl : (1 : Int) = ((1 : Nat) : Int)) | exact rfl | exact HE1.out | exact HE2.out)); (focus (first | omega | (simp; done) | (simp; omega) | (simp [*]; omega)))))))
  go_loopw [3, 11] (fun v i wr => ∃ k : Nat, k ≤ 2 ∧ i = .int .i64 k ∧ v = .int .i64 (szK n m k : Nat) ∧ St [] w wr []) (fun _ i _ => 2 - (intOf i).toNat)
  case atStart => exact ⟨0, by omega, rfl, rfl, st⟩
  case round =>
    clear st
    obtain ⟨k, hk, rfl, rfl, st⟩ := hrel
    have hk3 : k = 0 ∨ k = 1 ∨ k = 2 := by omega
    rcases hk3 with rfl | rfl | rfl
    · simp only [szK, if_pos]
      go_wp2_with (first | ((with_reducible refine gate_lst ?_); (first | ((with_reducible refine gate_load rfl ?_); (first | (refine' ia_load1 st rfl rfl rfl ?_ ?_; rotate_left 1; (focus (first | exact N0.out | exact N1.out | exact N2.out | exact N3.out | exact G0.out | exact G1.out | (refine frv_get _ _ ?_; (first | omega | (simp; done) | (simp; omega) | (simp [*]; omega))) | exact rfl))) | (refine' ia_load1Z (hb.keep st.keep (by simp)) rfl rfl rfl ?_ ?_; rotate_left 1; (focus exact rfl)) | (refine' ia_load1Z (hb'.keep st.keep (by simp)) rfl rfl rfl ?_ ?_; rotate_left 1; (focus exact rfl)) | (refine' ia_load1C (hb.keep st.keep (by simp)) rfl rfl rfl ?_ ?_; rotate_left 1; (focus (first | exact N0.out | exact N1.out | exact N2.out | exact N3.out | exact G0.out | exact G1.out | (refine frv_get _ _ ?_; (first | omega | (simp; done) | (simp; omega) | (simp [*]; omega))) | exact rfl))) | (refine' ia_load1C (hb'.keep st.keep (by simp)) rfl rfl rfl ?_ ?_; rotate_left 1; (focus (first | exact N0.out | exact N1.out | exact N2.out | exact N3.out | exact G0.out | exact G1.out | (refine frv_get _ _ ?_; (first | omega | (simp; done) | (simp; omega) | (simp [*]; omega))) | exact rfl))) | (refine' ia_load1B (hb1.keep st.keep (by simp)) rfl rfl rfl ?_ ?_; rotate_left 1; (focus (first | exact N0.out | exact N1.out | exact N2.out | exact N3.out | exact G0.out | exact G1.out | (refine frv_get _ _ ?_; (first | omega | (simp; done) | (simp; omega) | (simp [*]; omega))) | exact rfl))) | (refine' ia_load1B (hb2.keep st.keep (by simp)) rfl rfl rfl ?_ ?_; rotate_left 1; (focus (first | exact N0.out | exact N1.out | exact N2.out | exact N3.out | exact G0.out | exact G1.out | (refine frv_get _ _ ?_; (first | omega | (simp; done) | (simp; omega) | (simp [*]; omega))) | exact rfl))))) | ((with_reducible refine gate_addr rfl ?_); (first | (refine' ia_slcP HP.out rfl rfl rfl rfl ?_ ?_ ?_) | (refine' ia_slcP HP2.out rfl rfl rfl rfl ?_ ?_ ?_)); rotate_left 1; (focus (first | exact (rfl : (0 : Int) = ((0 : Nat) : Int)) | exact (rfl : (1 : Int) = ((1 : Nat) : Int)) | exact rfl | exact HE1.out | exact HE2.out)); (focus (first | omega | (simp; done) | (simp; omega) | (simp [*]; omega)))))))
      go_roundw
      case rel => exact ⟨1, by omega, by go_num, by simp [szK], st⟩
      case measure => simp [intOf]
    · have hs1 : szK n m 1 = n := by simp [szK]
      rw [hs1]
      go_wp2_with (first | ((with_reducible refine gate_lst ?_); (first | ((with_reducible refine gate_load rfl ?_); (first | (refine' ia_load1 st rfl rfl rfl ?_ ?_; rotate_left 1; (focus (first | exact N0.out | exact N1.out | exact N2.out | exact N3.out | exact G0.out | exact G1.out | (refine frv_get _ _ ?_; (first | omega | (simp; done) | (simp; omega) | (simp [*]; omega))) | exact rfl))) | (refine' ia_load1Z (hb.keep st.keep (by simp)) rfl rfl rfl ?_ ?_; rotate_left 1; (focus exact rfl)) | (refine' ia_load1Z (hb'.keep st.keep (by simp)) rfl rfl rfl ?_ ?_; rotate_left 1; (focus exact rfl)) | (refine' ia_load1C (hb.keep st.keep (by simp)) rfl rfl rfl ?_ ?_; rotate_left 1; (focus (first | exact N0.out | exact N1.out | exact N2.out | exact N3.out | exact G0.out | exact G1.out | (refine frv_get _ _ ?_; (first | omega | (simp; done) | (simp; omega) | (simp [*]; omega))) | exact rfl))) | (refine' ia_load1C (hb'.keep st.keep (by simp)) rfl rfl rfl ?_ ?_; rotate_left 1; (focus (first | exact N0.out | exact N1.out | exact N2.out | exact N3.out | exact G0.out | exact G1.out | (refine frv_get _ _ ?_; (first | omega | (simp; done) | (simp; omega) | (simp [*]; omega))) | exact rfl))) | (refine' ia_load1B (hb1.keep st.keep (by simp)) rfl rfl rfl ?_ ?_; rotate_left 1; (focus (first | exact N0.out | exact N1.out | exact N2.out | exact N3.out | exact G0.out | exact G1.out | (refine frv_get _ _ ?_; (first | omega | (simp; done) | (simp; omega) | (simp [*]; omega))) | exact rfl))) | (refine' ia_load1B (hb2.keep st.keep (by simp)) rfl rfl rfl ?_ ?_; rotate_left 1; (focus (first | exact N0.out | exact N1.out | exact N2.out | exact N3.out | exact G0.out | exact G1.out | (refine frv_get _ _ ?_; (first | omega | (simp; done) | (simp; omega) | (simp [*]; omega))) | exact rfl))))) | ((with_reducible refine gate_addr rfl ?_); (first | (refine' ia_slcP HP.out rfl rfl rfl rfl ?_ ?_ ?_) | (refine' ia_slcP HP2.out rfl rfl rfl rfl ?_ ?_ ?_)); rotate_left 1; (focus (first | exact (rfl : (0 : Int) = ((0 : Nat) : Int)) | exact (rfl : (1 : Int) = ((1 : Nat) : Int)) | exact rfl | exact HE1.out | exact HE2.out)); (focus (first | omega | (simp; done) | (simp; omega) | (simp [*]; omega)))))))
      go_roundw
      case rel => exact ⟨2, by omega, by go_num, by simp [szK], st⟩
      case measure => simp [intOf]
    · have hs2 : szK n m 2 = n + m := by simp [szK]
      rw [hs2]
      obtain ⟨wo, rfl⟩ : ∃ wo : World, wo = wr := ⟨_, rfl⟩
      obtain ⟨N, hN⟩ : ∃ N, n + m = N := ⟨_, rfl⟩
      rw [hN] at HG ⊢
      have hN2 : N ≤ 2000000 := by omega
      have HNN := hid hN
      clear hN
      rcases Nat.eq_zero_or_pos N with hz | hpos
      · have hn0 : n = 0 := by have := HNN.out; omega
        have hm0 : m = 0 := by have := HNN.out; omega
        subst hz
        subst hn0
        subst hm0
        go_wp2_with (first | (go_at_call 88; refine (HG.out _).mono ?_; rintro _ _ ⟨v, rfl, (⟨_, rfl⟩ | ⟨h0, _⟩), hk⟩; rotate_left 1; (exact absurd h0 (by omega)); replace st := st.call hk; clear hk) | ((with_reducible refine gate_lst ?_); (first | ((with_reducible refine gate_load rfl ?_); (first | (refine' ia_load1 st rfl rfl rfl ?_ ?_; rotate_left 1; (focus (first | exact N0.out | exact N1.out | exact N2.out | exact N3.out | exact G0.out | exact G1.out | (refine frv_get _ _ ?_; (first | omega | (simp; done) | (simp; omega) | (simp [*]; omega))) | exact rfl))) | (refine' ia_load1Z (hb.keep st.keep (by simp)) rfl rfl rfl ?_ ?_; rotate_left 1; (focus exact rfl)) | (refine' ia_load1Z (hb'.keep st.keep (by simp)) rfl rfl rfl ?_ ?_; rotate_left 1; (focus exact rfl)) | (refine' ia_load1C (hb.keep st.keep (by simp)) rfl rfl rfl ?_ ?_; rotate_left 1; (focus (first | exact N0.out | exact N1.out | exact N2.out | exact N3.out | exact G0.out | exact G1.out | (refine frv_get _ _ ?_; (first | omega | (simp; done) | (simp; omega) | (simp [*]; omega))) | exact rfl))) | (refine' ia_load1C (hb'.keep st.keep (by simp)) rfl rfl rfl ?_ ?_; rotate_left 1; (focus (first | exact N0.out | exact N1.out | exact N2.out | exact N3.out | exact G0.out | exact G1.out | (refine frv_get _ _ ?_; (first | omega | (simp; done) | (simp; omega) | (simp [*]; omega))) | exact rfl))) | (refine' ia_load1B (hb1.keep st.keep (by simp)) rfl rfl rfl ?_ ?_; rotate_left 1; (focus (first | exact N0.out | exact N1.out | exact N2.out | exact N3.out | exact G0.out | exact G1.out | (refine frv_get _ _ ?_; (first | omega | (simp; done) | (simp; omega) | (simp [*]; omega))) | exact rfl))) | (refine' ia_load1B (hb2.keep st.keep (by simp)) rfl rfl rfl ?_ ?_; rotate_left 1; (focus (first | exact N0.out | exact N1.out | exact N2.out | exact N3.out | exact G0.out | exact G1.out | (refine frv_get _ _ ?_; (first | omega | (simp; done) | (simp; omega) | (simp [*]; omega))) | exact rfl))))) | ((with_reducible refine gate_addr rfl ?_); (first | (refine' ia_slcP HP.out rfl rfl rfl rfl ?_ ?_ ?_) | (refine' ia_slcP HP2.out rfl rfl rfl rfl ?_ ?_ ?_)); rotate_left 1; (focus (first | exact (rfl : (0 : Int) = ((0 : Nat) : Int)) | exact (rfl : (1 : Int) = ((1 : Nat) : Int)) | exact rfl | exact HE1.out | exact HE2.out)); (focus (first | omega | (simp; done) | (simp; omega) | (simp [*]; omega)))))))
        go_loopw [6, 27] (fun v i wr => ∃ k : Nat, k ≤ 2 ∧ i = .int .i64 k ∧ v = .slice none 0 0 ∧ St [] w wr []) (fun _ i _ => 2 - (intOf i).toNat)
        case atStart => exact ⟨0, by omega, rfl, rfl, st⟩
        case round =>
          clear st
          obtain ⟨k, hk, rfl, rfl, st⟩ := hrel
          have hk3 : k = 0 ∨ k = 1 ∨ k = 2 := by omega
          rcases hk3 with rfl | rfl | rfl
          · go_wp2_with (first | ((with_reducible refine gate_app rfl ?_); refine ia_appNil rfl rfl rfl rfl ?_) | ((with_reducible refine gate_lst ?_); (first | ((with_reducible refine gate_load rfl ?_); (first | (refine' ia_load1 st rfl rfl rfl ?_ ?_; rotate_left 1; (focus (first | exact N0.out | exact N1.out | exact N2.out | exact N3.out | exact G0.out | exact G1.out | (refine frv_get _ _ ?_; (first | omega | (simp; done) | (simp; omega) | (simp [*]; omega))) | exact rfl))) | (refine' ia_load1Z (hb.keep st.keep (by simp)) rfl rfl rfl ?_ ?_; rotate_left 1; (focus exact rfl)) | (refine' ia_load1Z (hb'.keep st.keep (by simp)) rfl rfl rfl ?_ ?_; rotate_left 1; (focus exact rfl)) | (refine' ia_load1C (hb.keep st.keep (by simp)) rfl rfl rfl ?_ ?_; rotate_left 1; (focus (first | exact N0.out | exact N1.out | exact N2.out | exact N3.out | exact G0.out | exact G1.out | (refine frv_get _ _ ?_; (first | omega | (simp; done) | (simp; omega) | (simp [*]; omega))) | exact rfl))) | (refine' ia_load1C (hb'.keep st.keep (by simp)) rfl rfl rfl ?_ ?_; rotate_left 1; (focus (first | exact N0.out | exact N1.out | exact N2.out | exact N3.out | exact G0.out | exact G1.out | (refine frv_get _ _ ?_; (first | omega | (simp; done) | (simp; omega) | (simp [*]; omega))) | exact rfl))) | (refine' ia_load1B (hb1.keep st.keep (by simp)) rfl rfl rfl ?_ ?_; rotate_left 1; (focus (first | exact N0.out | exact N1.out | exact N2.out | exact N3.out | exact G0.out | exact G1.out | (refine frv_get _ _ ?_; (first | omega | (simp; done) | (simp; omega) | (simp [*]; omega))) | exact rfl))) | (refine' ia_load1B (hb2.keep st.keep (by simp)) rfl rfl rfl ?_ ?_; rotate_left 1; (focus (first | exact N0.out | exact N1.out | exact N2.out | exact N3.out | exact G0.out | exact G1.out | (refine frv_get _ _ ?_; (first | omega | (simp; done) | (simp; omega) | (simp [*]; omega))) | exact rfl))))) | ((with_reducible refine gate_addr rfl ?_); (first | (refine' ia_slcP HP.out rfl rfl rfl rfl ?_ ?_ ?_) | (refine' ia_slcP HP2.out rfl rfl rfl rfl ?_ ?_ ?_)); rotate_left 1; (focus (first | exact (rfl : (0 : Int) = ((0 : Nat) : Int)) | exact (rfl : (1 : Int) = ((1 : Nat) : Int)) | exact rfl | exact HE1.out | exact HE2.out)); (focus (first | omega | (simp; done) | (simp; omega) | (simp [*]; omega)))))))
            go_roundw
            case rel => exact ⟨1, by omega, by go_num, rfl, st⟩
            case measure => simp [intOf]
          · go_wp2_with (first | ((with_reducible refine gate_app rfl ?_); refine ia_appNil rfl rfl rfl rfl ?_) | ((with_reducible refine gate_lst ?_); (first | ((with_reducible refine gate_load rfl ?_); (first | (refine' ia_load1 st rfl rfl rfl ?_ ?_; rotate_left 1; (focus (first | exact N0.out | exact N1.out | exact N2.out | exact N3.out | exact G0.out | exact G1.out | (refine frv_get _ _ ?_; (first | omega | (simp; done) | (simp; omega) | (simp [*]; omega))) | exact rfl))) | (refine' ia_load1Z (hb.keep st.keep (by simp)) rfl rfl rfl ?_ ?_; rotate_left 1; (focus exact rfl)) | (refine' ia_load1Z (hb'.keep st.keep (by simp)) rfl rfl rfl ?_ ?_; rotate_left 1; (focus exact rfl)) | (refine' ia_load1C (hb.keep st.keep (by simp)) rfl rfl rfl ?_ ?_; rotate_left 1; (focus (first | exact N0.out | exact N1.out | exact N2.out | exact N3.out | exact G0.out | exact G1.out | (refine frv_get _ _ ?_; (first | omega | (simp; done) | (simp; omega) | (simp [*]; omega))) | exact rfl))) | (refine' ia_load1C (hb'.keep st.keep (by simp)) rfl rfl rfl ?_ ?_; rotate_left 1; (focus (first | exact N0.out | exact N1.out | exact N2.out | exact N3.out | exact G0.out | exact G1.out | (refine frv_get _ _ ?_; (first | omega | (simp; done) | (simp; omega) | (simp [*]; omega))) | exact rfl))) | (refine' ia_load1B (hb1.keep st.keep (by simp)) rfl rfl rfl ?_ ?_; rotate_left 1; (focus (first | exact N0.out | exact N1.out | exact N2.out | exact N3.out | exact G0.out | exact G1.out | (refine frv_get _ _ ?_; (first | omega | (simp; done) | (simp; omega) | (simp [*]; omega))) | exact rfl))) | (refine' ia_load1B (hb2.keep st.keep (by simp)) rfl rfl rfl ?_ ?_; rotate_left 1; (focus (first | exact N0.out | exact N1.out | exact N2.out | exact N3.out | exact G0.out | exact G1.out | (refine frv_get _ _ ?_; (first | omega | (simp; done) | (simp; omega) | (simp [*]; omega))) | exact rfl))))) | ((with_reducible refine gate_addr rfl ?_); (first | (refine' ia_slcP HP.out rfl rfl rfl rfl ?_ ?_ ?_) | (refine' ia_slcP HP2.out rfl rfl rfl rfl ?_ ?_ ?_)); rotate_left 1; (focus (first | exact (rfl : (0 : Int) = ((0 : Nat) : Int)) | exact (rfl : (1 : Int) = ((1 : Nat) : Int)) | exact rfl | exact HE1.out | exact HE2.out)); (focus (first | omega | (simp; done) | (simp; omega) | (simp [*]; omega)))))))
            go_roundw
            case rel => exact ⟨2, by omega, by go_num, rfl, st⟩
            case measure => simp [intOf]
          · go_wp2_with (first | ((with_reducible refine gate_lst ?_); (first | ((with_reducible refine gate_load rfl ?_); (first | (refine' ia_load1 st rfl rfl rfl ?_ ?_; rotate_left 1; (focus (first | exact N0.out | exact N1.out | exact N2.out | exact N3.out | exact G0.out | exact G1.out | (refine frv_get _ _ ?_; (first | omega | (simp; done) | (simp; omega) | (simp [*]; omega))) | exact rfl))) | (refine' ia_load1Z (hb.keep st.keep (by simp)) rfl rfl rfl ?_ ?_; rotate_left 1; (focus exact rfl)) | (refine' ia_load1Z (hb'.keep st.keep (by simp)) rfl rfl rfl ?_ ?_; rotate_left 1; (focus exact rfl)) | (refine' ia_load1C (hb.keep st.keep (by simp)) rfl rfl rfl ?_ ?_; rotate_left 1; (focus (first | exact N0.out | exact N1.out | exact N2.out | exact N3.out | exact G0.out | exact G1.out | (refine frv_get _ _ ?_; (first | omega | (simp; done) | (simp; omega) | (simp [*]; omega))) | exact rfl))) | (refine' ia_load1C (hb'.keep st.keep (by simp)) rfl rfl rfl ?_ ?_; rotate_left 1; (focus (first | exact N0.out | exact N1.out | exact N2.out | exact N3.out | exact G0.out | exact G1.out | (refine frv_get _ _ ?_; (first | omega | (simp; done) | (simp; omega) | (simp [*]; omega))) | exact rfl))) | (refine' ia_load1B (hb1.keep st.keep (by simp)) rfl rfl rfl ?_ ?_; rotate_left 1; (focus (first | exact N0.out | exact N1.out | exact N2.out | exact N3.out | exact G0.out | exact G1.out | (refine frv_get _ _ ?_; (first | omega | (simp; done) | (simp; omega) | (simp [*]; omega))) | exact rfl))) | (refine' ia_load1B (hb2.keep st.keep (by simp)) rfl rfl rfl ?_ ?_; rotate_left 1; (focus (first | exact N0.out | exact N1.out | exact N2.out | exact N3.out | exact G0.out | exact G1.out | (refine frv_get _ _ ?_; (first | omega | (simp; done) | (simp; omega) | (simp [*]; omega))) | exact rfl))))) | ((with_reducible refine gate_addr rfl ?_); (first | (refine' ia_slcP HP.out rfl rfl rfl rfl ?_ ?_ ?_) | (refine' ia_slcP HP2.out rfl rfl rfl rfl ?_ ?_ ?_)); rotate_left 1; (focus (first | exact (rfl : (0 : Int) = ((0 : Nat) : Int)) | exact (rfl : (1 : Int) = ((1 : Nat) : Int)) | exact rfl | exact HE1.out | exact HE2.out)); (focus (first | omega | (simp; done) | (simp; omega) | (simp [*]; omega)))))))
            go_ret
            exact ⟨_, rfl, Or.inl ⟨rfl, rfl⟩, st.keep⟩
      · go_wp2_with (first | (go_at_call 88; refine (HG.out _).mono ?_; rintro _ _ ⟨v, rfl, (⟨h0, _⟩ | ⟨_, ⟨g, cap, spare, rfl, hg, hbg, hcap, hcm⟩⟩), hk⟩; (exact absurd h0 (by omega)); (replace st := st.adopt hk hg hbg; clear hk hg hbg; rw [List.nil_append] at st hcap)) | ((with_reducible refine gate_lst ?_); (first | ((with_reducible refine gate_load rfl ?_); (first | (refine' ia_load1 st rfl rfl rfl ?_ ?_; rotate_left 1; (focus (first | exact N0.out | exact N1.out | exact N2.out | exact N3.out | exact G0.out | exact G1.out | (refine frv_get _ _ ?_; (first | omega | (simp; done) | (simp; omega) | (simp [*]; omega))) | exact rfl))) | (refine' ia_load1Z (hb.keep st.keep (by simp)) rfl rfl rfl ?_ ?_; rotate_left 1; (focus exact rfl)) | (refine' ia_load1Z (hb'.keep st.keep (by simp)) rfl rfl rfl ?_ ?_; rotate_left 1; (focus exact rfl)) | (refine' ia_load1C (hb.keep st.keep (by simp)) rfl rfl rfl ?_ ?_; rotate_left 1; (focus (first | exact N0.out | exact N1.out | exact N2.out | exact N3.out | exact G0.out | exact G1.out | (refine frv_get _ _ ?_; (first | omega | (simp; done) | (simp; omega) | (simp [*]; omega))) | exact rfl))) | (refine' ia_load1C (hb'.keep st.keep (by simp)) rfl rfl rfl ?_ ?_; rotate_left 1; (focus (first | exact N0.out | exact N1.out | exact N2.out | exact N3.out | exact G0.out | exact G1.out | (refine frv_get _ _ ?_; (first | omega | (simp; done) | (simp; omega) | (simp [*]; omega))) | exact rfl))) | (refine' ia_load1B (hb1.keep st.keep (by simp)) rfl rfl rfl ?_ ?_; rotate_left 1; (focus (first | exact N0.out | exact N1.out | exact N2.out | exact N3.out | exact G0.out | exact G1.out | (refine frv_get _ _ ?_; (first | omega | (simp; done) | (simp; omega) | (simp [*]; omega))) | exact rfl))) | (refine' ia_load1B (hb2.keep st.keep (by simp)) rfl rfl rfl ?_ ?_; rotate_left 1; (focus (first | exact N0.out | exact N1.out | exact N2.out | exact N3.out | exact G0.out | exact G1.out | (refine frv_get _ _ ?_; (first | omega | (simp; done) | (simp; omega) | (simp [*]; omega))) | exact rfl))))) | ((with_reducible refine gate_addr rfl ?_); (first | (refine' ia_slcP HP.out rfl rfl rfl rfl ?_ ?_ ?_) | (refine' ia_slcP HP2.out rfl rfl rfl rfl ?_ ?_ ?_)); rotate_left 1; (focus (first | exact (rfl : (0 : Int) = ((0 : Nat) : Int)) | exact (rfl : (1 : Int) = ((1 : Nat) : Int)) | exact rfl | exact HE1.out | exact HE2.out)); (focus (first | omega | (simp; done) | (simp; omega) | (simp [*]; omega)))))))
        go_loopw [6, 27] (fun v i wr => ∃ k j : Nat, ∃ R : List Value, k ≤ 2 ∧ j ≤ N ∧ ((k = 0 ∧ j = 0 ∧ R = []) ∨ (k = 1 ∧ j = n ∧ R = encs fv A) ∨ (k = 2 ∧ j = N ∧ R = encs fv A ++ encs fv B)) ∧ i = .int .i64 k ∧ Own 52 12 j R [] w wr [] v) (fun _ i _ => 2 - (intOf i).toNat)
        case atStart => exact ⟨0, 0, [], by omega, by omega, Or.inl ⟨rfl, rfl, rfl⟩, rfl, g, cap, spare, rfl, st, hcap, hcm⟩
        case round =>
          clear st hcap hcm
          obtain ⟨k, j, R, hk, hjN, hcase, rfl, g, cap, spare, rfl, st, hcap, hcm⟩ := hrel
          have HC := hid hcap
          clear hcap
          rcases hcase with ⟨rfl, rfl, rfl⟩ | ⟨rfl, rfl, rfl⟩ | ⟨rfl, rfl, rfl⟩
          · go_wp2_with (first | ((with_reducible refine gate_app rfl ?_); refine ia_appendR (news := (encs fv A)) (xs := []) (spare := spare) st rfl rfl rfl rfl (by simp) HC.out hcm (hr.keep st.keep) HP0.out HLEN.out (encs_one fv_one _) (by unfold maxLen; omega) (by omega) ?_; clear st; intro g2 cap2 spare2 _ st hcap2 hcm2; (try simp only [List.set_cons_zero, List.set_cons_succ] at st)) | ((with_reducible refine gate_lst ?_); (first | ((with_reducible refine gate_load rfl ?_); (first | (refine' ia_load1 st rfl rfl rfl ?_ ?_; rotate_left 1; (focus (first | exact N0.out | exact N1.out | exact N2.out | exact N3.out | exact G0.out | exact G1.out | (refine frv_get _ _ ?_; (first | omega | (simp; done) | (simp; omega) | (simp [*]; omega))) | exact rfl))) | (refine' ia_load1Z (hb.keep st.keep (by simp)) rfl rfl rfl ?_ ?_; rotate_left 1; (focus exact rfl)) | (refine' ia_load1Z (hb'.keep st.keep (by simp)) rfl rfl rfl ?_ ?_; rotate_left 1; (focus exact rfl)) | (refine' ia_load1C (hb.keep st.keep (by simp)) rfl rfl rfl ?_ ?_; rotate_left 1; (focus (first | exact N0.out | exact N1.out | exact N2.out | exact N3.out | exact G0.out | exact G1.out | (refine frv_get _ _ ?_; (first | omega | (simp; done) | (simp; omega) | (simp [*]; omega))) | exact rfl))) | (refine' ia_load1C (hb'.keep st.keep (by simp)) rfl rfl rfl ?_ ?_; rotate_left 1; (focus (first | exact N0.out | exact N1.out | exact N2.out | exact N3.out | exact G0.out | exact G1.out | (refine frv_get _ _ ?_; (first | omega | (simp; done) | (simp; omega) | (simp [*]; omega))) | exact rfl))) | (refine' ia_load1B (hb1.keep st.keep (by simp)) rfl rfl rfl ?_ ?_; rotate_left 1; (focus (first | exact N0.out | exact N1.out | exact N2.out | exact N3.out | exact G0.out | exact G1.out | (refine frv_get _ _ ?_; (first | omega | (simp; done) | (simp; omega) | (simp [*]; omega))) | exact rfl))) | (refine' ia_load1B (hb2.keep st.keep (by simp)) rfl rfl rfl ?_ ?_; rotate_left 1; (focus (first | exact N0.out | exact N1.out | exact N2.out | exact N3.out | exact G0.out | exact G1.out | (refine frv_get _ _ ?_; (first | omega | (simp; done) | (simp; omega) | (simp [*]; omega))) | exact rfl))))) | ((with_reducible refine gate_addr rfl ?_); (first | (refine' ia_slcP HP.out rfl rfl rfl rfl ?_ ?_ ?_) | (refine' ia_slcP HP2.out rfl rfl rfl rfl ?_ ?_ ?_)); rotate_left 1; (focus (first | exact (rfl : (0 : Int) = ((0 : Nat) : Int)) | exact (rfl : (1 : Int) = ((1 : Nat) : Int)) | exact rfl | exact HE1.out | exact HE2.out)); (focus (first | omega | (simp; done) | (simp; omega) | (simp [*]; omega)))))))
            rw [List.nil_append] at hcap2 st
            go_roundw
            case rel => exact ⟨1, n, encs fv A, by omega, by have := HNN.out; omega, Or.inr (Or.inl ⟨rfl, rfl, rfl⟩), by go_num, g2, cap2, spare2, rfl, st, hcap2, hcm2⟩
            case measure => simp [intOf]
          · go_wp2_with (first | ((with_reducible refine gate_app rfl ?_); refine ia_appendR (news := (encs fv B)) (xs := (encs fv A)) (spare := spare) st rfl rfl rfl rfl HLEN.out HC.out hcm (hr'.keep st.keep) HP1.out HLEN'.out (encs_one fv_one _) (by unfold maxLen; omega) (by omega) ?_; clear st; intro g2 cap2 spare2 _ st hcap2 hcm2; (try simp only [List.set_cons_zero, List.set_cons_succ] at st)) | ((with_reducible refine gate_lst ?_); (first | ((with_reducible refine gate_load rfl ?_); (first | (refine' ia_load1 st rfl rfl rfl ?_ ?_; rotate_left 1; (focus (first | exact N0.out | exact N1.out | exact N2.out | exact N3.out | exact G0.out | exact G1.out | (refine frv_get _ _ ?_; (first | omega | (simp; done) | (simp; omega) | (simp [*]; omega))) | exact rfl))) | (refine' ia_load1Z (hb.keep st.keep (by simp)) rfl rfl rfl ?_ ?_; rotate_left 1; (focus exact rfl)) | (refine' ia_load1Z (hb'.keep st.keep (by simp)) rfl rfl rfl ?_ ?_; rotate_left 1; (focus exact rfl)) | (refine' ia_load1C (hb.keep st.keep (by simp)) rfl rfl rfl ?_ ?_; rotate_left 1; (focus (first | exact N0.out | exact N1.out | exact N2.out | exact N3.out | exact G0.out | exact G1.out | (refine frv_get _ _ ?_; (first | omega | (simp; done) | (simp; omega) | (simp [*]; omega))) | exact rfl))) | (refine' ia_load1C (hb'.keep st.keep (by simp)) rfl rfl rfl ?_ ?_; rotate_left 1; (focus (first | exact N0.out | exact N1.out | exact N2.out | exact N3.out | exact G0.out | exact G1.out | (refine frv_get _ _ ?_; (first | omega | (simp; done) | (simp; omega) | (simp [*]; omega))) | exact rfl))) | (refine' ia_load1B (hb1.keep st.keep (by simp)) rfl rfl rfl ?_ ?_; rotate_left 1; (focus (first | exact N0.out | exact N1.out | exact N2.out | exact N3.out | exact G0.out | exact G1.out | (refine frv_get _ _ ?_; (first | omega | (simp; done) | (simp; omega) | (simp [*]; omega))) | exact rfl))) | (refine' ia_load1B (hb2.keep st.keep (by simp)) rfl rfl rfl ?_ ?_; rotate_left 1; (focus (first | exact N0.out | exact N1.out | exact N2.out | exact N3.out | exact G0.out | exact G1.out | (refine frv_get _ _ ?_; (first | omega | (simp; done) | (simp; omega) | (simp [*]; omega))) | exact rfl))))) | ((with_reducible refine gate_addr rfl ?_); (first | (refine' ia_slcP HP.out rfl rfl rfl rfl ?_ ?_ ?_) | (refine' ia_slcP HP2.out rfl rfl rfl rfl ?_ ?_ ?_)); rotate_left 1; (focus (first | exact (rfl : (0 : Int) = ((0 : Nat) : Int)) | exact (rfl : (1 : Int) = ((1 : Nat) : Int)) | exact rfl | exact HE1.out | exact HE2.out)); (focus (first | omega | (simp; done) | (simp; omega) | (simp [*]; omega)))))))
            go_roundw
            case rel => exact ⟨2, N, encs fv A ++ encs fv B, by omega, by omega, Or.inr (Or.inr ⟨rfl, rfl, rfl⟩), by go_num, g2, cap2, spare2, by rw [HNN.out], st, hcap2, hcm2⟩
            case measure => simp [intOf]
          · go_wp2_with (first | ((with_reducible refine gate_lst ?_); (first | ((with_reducible refine gate_load rfl ?_); (first | (refine' ia_load1 st rfl rfl rfl ?_ ?_; rotate_left 1; (focus (first | exact N0.out | exact N1.out | exact N2.out | exact N3.out | exact G0.out | exact G1.out | (refine frv_get _ _ ?_; (first | omega | (simp; done) | (simp; omega) | (simp [*]; omega))) | exact rfl))) | (refine' ia_load1Z (hb.keep st.keep (by simp)) rfl rfl rfl ?_ ?_; rotate_left 1; (focus exact rfl)) | (refine' ia_load1Z (hb'.keep st.keep (by simp)) rfl rfl rfl ?_ ?_; rotate_left 1; (focus exact rfl)) | (refine' ia_load1C (hb.keep st.keep (by simp)) rfl rfl rfl ?_ ?_; rotate_left 1; (focus (first | exact N0.out | exact N1.out | exact N2.out | exact N3.out | exact G0.out | exact G1.out | (refine frv_get _ _ ?_; (first | omega | (simp; done) | (simp; omega) | (simp [*]; omega))) | exact rfl))) | (refine' ia_load1C (hb'.keep st.keep (by simp)) rfl rfl rfl ?_ ?_; rotate_left 1; (focus (first | exact N0.out | exact N1.out | exact N2.out | exact N3.out | exact G0.out | exact G1.out | (refine frv_get _ _ ?_; (first | omega | (simp; done) | (simp; omega) | (simp [*]; omega))) | exact rfl))) | (refine' ia_load1B (hb1.keep st.keep (by simp)) rfl rfl rfl ?_ ?_; rotate_left 1; (focus (first | exact N0.out | exact N1.out | exact N2.out | exact N3.out | exact G0.out | exact G1.out | (refine frv_get _ _ ?_; (first | omega | (simp; done) | (simp; omega) | (simp [*]; omega))) | exact rfl))) | (refine' ia_load1B (hb2.keep st.keep (by simp)) rfl rfl rfl ?_ ?_; rotate_left 1; (focus (first | exact N0.out | exact N1.out | exact N2.out | exact N3.out | exact G0.out | exact G1.out | (refine frv_get _ _ ?_; (first | omega | (simp; done) | (simp; omega) | (simp [*]; omega))) | exact rfl))))) | ((with_reducible refine gate_addr rfl ?_); (first | (refine' ia_slcP HP.out rfl rfl rfl rfl ?_ ?_ ?_) | (refine' ia_slcP HP2.out rfl rfl rfl rfl ?_ ?_ ?_)); rotate_left 1; (focus (first | exact (rfl : (0 : Int) = ((0 : Nat) : Int)) | exact (rfl : (1 : Int) = ((1 : Nat) : Int)) | exact rfl | exact HE1.out | exact HE2.out)); (focus (first | omega | (simp; done) | (simp; omega) | (simp [*]; omega)))))))
            go_ret
            refine ⟨_, rfl, Or.inr ?_, st.keep⟩
            rw [HNN.out, encs_append]
            exact ⟨g, cap, spare, rfl, out_of st .here, st.get .here, HC.out, hcm⟩
def joC (A B : List Fm) : Int := if (bkB A && bkB B) = true then (if (A ++ B).length ≤ 40 then 0 else 3) else 1
def joR (A B : List Fm) : List Fm := if joC A B = 0 then A ++ B else []
theorem joR_len (A B : List Fm) : (joR A B).length ≤ 40 := by
  unfold joR
  split
  · rename_i h
    unfold joC at h
    split at h
    · split at h
      · assumption
      · cases h
    · cases h
  · simp
set_option maxHeartbeats 2000000 in
set_option maxRecDepth 100000 in
theorem specJoin_b (A B : List Fm) (n m : Nat) (hA : A.length = n) (hB : B.length = m) (hn : n ≤ 1000000) (hm : m ≤ 1000000) (p p' : Option Addr) (c c' : Nat) (hp : p = none → n = 0) (hp' : p' = none → m = 0) (w : World) (hr : Rd w p n (encs fv A)) (hr' : Rd w p' m (encs fv B)) :
    Calls Try.prog 35 #[.slice p n c, .slice p' m c'] w (BookCode (joR A B) (joR A B).length (joC A B) False w) := by
  have st := St.start w
  have HVA := hid (fun w' hk => l02Ok_c A n hA (by omega) p c w' (hr.keep (w1 := w') hk))
  have HVB := hid (fun w' hk => l02Ok_c B m hB (by omega) p' c' w' (hr'.keep (w1 := w') hk))
  rcases Bool.eq_false_or_eq_true (bkB A) with h1 | h1
  · rw [h1] at HVA
    rcases Bool.eq_false_or_eq_true (bkB B) with h2 | h2
    · rw [h2] at HVB
      have HL := hid (show (encs fv A).length = n * 12 by rw [encs_fv_length, hA])
      have HL' := hid (show (encs fv B).length = m * 12 by rw [encs_fv_length, hB])
      have hab : (A ++ B).length = n + m := by rw [List.length_append, hA, hB]
      have HP0 := hid hp
      have HP1 := hid hp'
      obtain ⟨N, hN⟩ : ∃ N, n + m = N := ⟨_, rfl⟩
      have HN := hid hN
      have hN2 : N ≤ 2000000 := by omega
      rw [hN] at hab
      by_cases h40 : N ≤ 40
      · have hC : joC A B = 0 := by unfold joC; rw [h1, h2]; simp only [Bool.and_self, if_true]; rw [if_pos (by omega)]
        have hR : joR A B = A ++ B := by unfold joR; rw [hC, if_pos rfl]
        rw [hC, hR, hab]
        have HA := hid (encs_append (e := fv) A B)
        have hd : decide ((40 : Int) < (N : Int)) = false := by simp; omega
        have hd1 : decide ((40 : Int) < (n : Int) + (m : Int)) = false := by simp; omega
        clear hA hB hab hC hR h1 h2 hN hp hp'
        go_enter Try.func35, Try.ntmps35
        go_wp2_with (first | (go_at_call 58; (first | (with_reducible refine (HVA.out _ st.keep).mono ?_) | (with_reducible refine (HVB.out _ st.keep).mono ?_)); rintro _ _ ⟨rfl, hk⟩; replace st := st.call hk; clear hk) | ((with_reducible refine gate_bsl rfl ?_); refine ia_bsl0 (sl := 16) st rfl rfl rfl ?_; clear st; intro B16 _ st) | ((with_reducible refine gate_app rfl ?_); refine ia_appendR0 (news := (encs fv A)) st rfl rfl rfl rfl (hr.keep st.keep) HP0.out HL.out (encs_one fv_one _) (by unfold maxLen; omega) (by omega) ?_; clear st; intro g2 cap2 spare2 _ st hcap2 hcm2; (try simp only [List.set_cons_zero, List.set_cons_succ] at st)) | ((with_reducible refine gate_app rfl ?_); refine ia_appendR (news := (encs fv B)) (xs := (encs fv A)) (spare := spare2) st rfl rfl rfl rfl HL.out hcap2 hcm2 (hr'.keep st.keep) HP1.out HL'.out (encs_one fv_one _) (by unfold maxLen; omega) (by omega) ?_; clear st; intro g3 cap3 spare3 _ st hcap3 hcm3; (try simp only [List.set_cons_zero, List.set_cons_succ] at st)) | ((with_reducible refine gate_lst ?_); (first | ((with_reducible refine' wpl_ung ?_ ?_ ?_); rotate_left 1; (focus exact rfl); (focus exact rfl)))))
        go_ret2
        exact ⟨_, rfl, Or.inr ⟨g3, cap3, spare3, by rw [HN.out]; rfl, out_of st .here, by rw [HA.out]; exact st.get .here, by rw [HA.out]; exact hcap3, hcm3⟩, st.keep⟩
      · have hC : joC A B = 3 := by unfold joC; rw [h1, h2]; simp only [Bool.and_self, if_true]; rw [if_neg (by omega)]
        have hR : joR A B = [] := by unfold joR; rw [hC, if_neg (by decide)]
        rw [hC, hR]
        have hd : decide ((40 : Int) < (N : Int)) = true := by simp; omega
        have hd1 : decide ((40 : Int) < (n : Int) + (m : Int)) = true := by simp; omega
        clear hA hB hab hC hR h1 h2 hN hp hp'
        go_enter Try.func35, Try.ntmps35
        go_wp2_with (first | (go_at_call 58; (first | (with_reducible refine (HVA.out _ st.keep).mono ?_) | (with_reducible refine (HVB.out _ st.keep).mono ?_)); rintro _ _ ⟨rfl, hk⟩; replace st := st.call hk; clear hk) | ((with_reducible refine gate_bsl rfl ?_); refine ia_bsl0 (sl := 16) st rfl rfl rfl ?_; clear st; intro B16 _ st) | ((with_reducible refine gate_bsl rfl ?_); refine ia_bsl0 (sl := 24) st rfl rfl rfl ?_; clear st; intro B24 _ st) | ((with_reducible refine gate_app rfl ?_); refine ia_appendR0 (news := (encs fv A)) st rfl rfl rfl rfl (hr.keep st.keep) HP0.out HL.out (encs_one fv_one _) (by unfold maxLen; omega) (by omega) ?_; clear st; intro g2 cap2 spare2 _ st hcap2 hcm2; (try simp only [List.set_cons_zero, List.set_cons_succ] at st)) | ((with_reducible refine gate_app rfl ?_); refine ia_appendR (news := (encs fv B)) (xs := (encs fv A)) (spare := spare2) st rfl rfl rfl rfl HL.out hcap2 hcm2 (hr'.keep st.keep) HP1.out HL'.out (encs_one fv_one _) (by unfold maxLen; omega) (by omega) ?_; clear st; intro g3 cap3 spare3 _ st hcap3 hcm3; (try simp only [List.set_cons_zero, List.set_cons_succ] at st)) | ((with_reducible refine gate_lst ?_); (first | ((with_reducible refine' wpl_ung ?_ ?_ ?_); rotate_left 1; (focus exact rfl); (focus exact rfl)))))
        go_ret2
        exact ⟨_, rfl, Or.inr (gives0 st .here), st.keep⟩
    · rw [h2] at HVB
      have hC : joC A B = 1 := by unfold joC; rw [h1, h2]; rfl
      have hR : joR A B = [] := by unfold joR; rw [hC, if_neg (by decide)]
      rw [hC, hR]
      clear hA hB hC hR h1 h2 hp hp'
      go_enter Try.func35, Try.ntmps35
      go_wp2_with (first | (go_at_call 58; (first | (with_reducible refine (HVA.out _ st.keep).mono ?_) | (with_reducible refine (HVB.out _ st.keep).mono ?_)); rintro _ _ ⟨rfl, hk⟩; replace st := st.call hk; clear hk) | ((with_reducible refine gate_bsl rfl ?_); refine ia_bsl0 (sl := 15) st rfl rfl rfl ?_; clear st; intro B15 _ st) | ((with_reducible refine gate_lst ?_); (first | ((with_reducible refine' wpl_ung ?_ ?_ ?_); rotate_left 1; (focus exact rfl); (focus exact rfl)))))
      go_ret2
      exact ⟨_, rfl, Or.inr (gives0 st .here), st.keep⟩
  · rw [h1] at HVA
    have hC : joC A B = 1 := by unfold joC; rw [h1]; rfl
    have hR : joR A B = [] := by unfold joR; rw [hC, if_neg (by decide)]
    rw [hC, hR]
    clear hA hB hC hR h1 hp hp'
    go_enter Try.func35, Try.ntmps35
    go_wp2_with (first | (go_at_call 58; (first | (with_reducible refine (HVA.out _ st.keep).mono ?_) | (with_reducible refine (HVB.out _ st.keep).mono ?_)); rintro _ _ ⟨rfl, hk⟩; replace st := st.call hk; clear hk) | ((with_reducible refine gate_bsl rfl ?_); refine ia_bsl0 (sl := 15) st rfl rfl rfl ?_; clear st; intro B15 _ st) | ((with_reducible refine gate_lst ?_); (first | ((with_reducible refine' wpl_ung ?_ ?_ ?_); rotate_left 1; (focus exact rfl); (focus exact rfl)))))
    go_ret2
    exact ⟨_, rfl, Or.inr (gives0 st .here), st.keep⟩
set_option maxHeartbeats 2000000 in
set_option maxRecDepth 100000 in
theorem Join_b (A B : List Fm) (n m : Nat) (hA : A.length = n) (hB : B.length = m) (hn : n ≤ 1000000) (hm : m ≤ 1000000) (p p' : Option Addr) (c c' : Nat) (hp : p = none → n = 0) (hp' : p' = none → m = 0) (w : World) (hr : Rd w p n (encs fv A)) (hr' : Rd w p' m (encs fv B)) :
    Calls Try.prog 36 #[.slice p n c, .slice p' m c'] w (BookCode (joR A B) (joR A B).length (joC A B) True w) := by
  have st := St.start w
  have HVA := hid (fun w' hk => ValidBook_c A n hA (by omega) p c w' (hr.keep (w1 := w') hk))
  have HVB := hid (fun w' hk => ValidBook_c B m hB (by omega) p' c' w' (hr'.keep (w1 := w') hk))
  rcases Bool.eq_false_or_eq_true (bkB A) with h1 | h1
  · rw [h1] at HVA
    rcases Bool.eq_false_or_eq_true (bkB B) with h2 | h2
    · rw [h2] at HVB
      have HCC := hid (fun g0 w' (hk : Keep [] w w') hb0 => ConcatB_c A B n m hA hB hn hm p p' c c' hp hp' g0 w' hb0 (hr.keep hk) (hr'.keep hk))
      have hab : (A ++ B).length = n + m := by rw [List.length_append, hA, hB]
      obtain ⟨N, hN⟩ : ∃ N, n + m = N := ⟨_, rfl⟩
      have hN2 : N ≤ 2000000 := by omega
      rw [hN] at hab HCC
      obtain ⟨R, hRR⟩ : ∃ R, A ++ B = R := ⟨_, rfl⟩
      by_cases h40 : N ≤ 40
      · have hC : joC A B = 0 := by unfold joC; rw [h1, h2]; simp only [Bool.and_self, if_true]; rw [if_pos (by omega)]
        have hR : joR A B = A ++ B := by unfold joR; rw [hC, if_pos rfl]
        rw [hC, hR, hab]
        rw [hRR] at HCC ⊢
        clear hA hB hab hC hR h1 h2 hN hp hp' hr hr' hRR
        go_enter Try.func36, Try.ntmps36
        go_wp2_with (first | (go_at_call 23; (first | (with_reducible refine (HVA.out _ st.keep).mono ?_) | (with_reducible refine (HVB.out _ st.keep).mono ?_)); rintro _ _ ⟨rfl, hk⟩; replace st := st.call hk; clear hk) | ((with_reducible refine gate_bsl rfl ?_); refine wpl_buildSlice2 rfl _ _ _ rfl _ _ rfl rfl _ _ rfl rfl SlcC.out ?_ ?_ (by decide) st ?_; (focus (first | rfl | (simp; done) | (simp; assumption) | (simp; omega) | (simp [*]; done))); (focus (first | rfl | (simp; done) | (simp; assumption) | (simp; omega) | (simp [*]; done))); clear st; intro B16 _ st) | (go_at_call 68; refine (HCC.out _ _ st.keep (st.get (by repeat (first | exact At.here | apply At.there)))).mono ?_; rintro _ _ ⟨v, rfl, (⟨hz, rfl⟩ | ⟨g, cap, spare, rfl, hg, hbg, hcap, hcm⟩), hk⟩ <;> (first | (replace st := st.adopt hk hg hbg; clear hk hg hbg) | (replace hz := hid hz; replace st := st.call hk; clear hk))) | (go_at_call 67; (first | (with_reducible refine (limited_0 (n := N) (by omega) h40 _).mono ?_) | (with_reducible refine (limited_0 (n := 0) (by omega) (by omega) _).mono ?_)); rintro _ _ ⟨rfl, hk⟩; replace st := st.call hk; clear hk) | ((with_reducible refine gate_lst ?_); (first | ((with_reducible refine' wpl_ung ?_ ?_ ?_); rotate_left 1; (focus exact rfl); (focus exact rfl)))))
        · go_ret2
          exact ⟨_, rfl, Or.inl ⟨trivial, hz.out, rfl⟩, st.keep⟩
        · go_ret2
          exact ⟨_, rfl, Or.inr ⟨g, cap, spare, rfl, out_of st .here, st.get .here, hcap, hcm⟩, st.keep⟩
      · have hC : joC A B = 3 := by unfold joC; rw [h1, h2]; simp only [Bool.and_self, if_true]; rw [if_neg (by omega)]
        have hR : joR A B = [] := by unfold joR; rw [hC, if_neg (by decide)]
        rw [hC, hR]
        rw [hRR] at HCC
        clear hA hB hab hC hR h1 h2 hN hp hp' hr hr' hRR
        go_enter Try.func36, Try.ntmps36
        go_wp2_with (first | (go_at_call 23; (first | (with_reducible refine (HVA.out _ st.keep).mono ?_) | (with_reducible refine (HVB.out _ st.keep).mono ?_)); rintro _ _ ⟨rfl, hk⟩; replace st := st.call hk; clear hk) | ((with_reducible refine gate_bsl rfl ?_); refine wpl_buildSlice2 rfl _ _ _ rfl _ _ rfl rfl _ _ rfl rfl SlcC.out ?_ ?_ (by decide) st ?_; (focus (first | rfl | (simp; done) | (simp; assumption) | (simp; omega) | (simp [*]; done))); (focus (first | rfl | (simp; done) | (simp; assumption) | (simp; omega) | (simp [*]; done))); clear st; intro B16 _ st) | (go_at_call 68; refine (HCC.out _ _ st.keep (st.get (by repeat (first | exact At.here | apply At.there)))).mono ?_; rintro _ _ ⟨v, rfl, (⟨hz, _⟩ | ⟨g, cap, spare, rfl, hg, hbg, hcap, hcm⟩), hk⟩; (exact absurd hz (by omega)); replace st := st.adopt hk hg hbg; clear hk hg hbg) | (go_at_call 67; refine (limited_3 (n := N) (by omega) h40 _).mono ?_; rintro _ _ ⟨rfl, hk⟩; replace st := st.call hk; clear hk) | ((with_reducible refine gate_lst ?_); (first | ((with_reducible refine' wpl_ung ?_ ?_ ?_); rotate_left 1; (focus exact rfl); (focus exact rfl)))))
        go_ret2
        exact ⟨_, rfl, Or.inl ⟨trivial, rfl, rfl⟩, st.keep⟩
    · rw [h2] at HVB
      have hC : joC A B = 1 := by unfold joC; rw [h1, h2]; rfl
      have hR : joR A B = [] := by unfold joR; rw [hC, if_neg (by decide)]
      rw [hC, hR]
      clear hA hB hC hR h1 h2 hp hp'
      go_enter Try.func36, Try.ntmps36
      go_wp2_with (first | (go_at_call 23; (first | (with_reducible refine (HVA.out _ st.keep).mono ?_) | (with_reducible refine (HVB.out _ st.keep).mono ?_)); rintro _ _ ⟨rfl, hk⟩; replace st := st.call hk; clear hk) | ((with_reducible refine gate_lst ?_); (first | ((with_reducible refine' wpl_ung ?_ ?_ ?_); rotate_left 1; (focus exact rfl); (focus exact rfl)))))
      go_ret2
      exact ⟨_, rfl, Or.inl ⟨trivial, rfl, rfl⟩, st.keep⟩
  · rw [h1] at HVA
    have hC : joC A B = 1 := by unfold joC; rw [h1]; rfl
    have hR : joR A B = [] := by unfold joR; rw [hC, if_neg (by decide)]
    rw [hC, hR]
    clear hA hB hC hR h1 hp hp'
    go_enter Try.func36, Try.ntmps36
    go_wp2_with (first | (go_at_call 23; (first | (with_reducible refine (HVA.out _ st.keep).mono ?_) | (with_reducible refine (HVB.out _ st.keep).mono ?_)); rintro _ _ ⟨rfl, hk⟩; replace st := st.call hk; clear hk) | ((with_reducible refine gate_lst ?_); (first | ((with_reducible refine' wpl_ung ?_ ?_ ?_); rotate_left 1; (focus exact rfl); (focus exact rfl)))))
    go_ret2
    exact ⟨_, rfl, Or.inl ⟨trivial, rfl, rfl⟩, st.keep⟩
end Go.Proofs.Ytmfgbkmkcljciaa
