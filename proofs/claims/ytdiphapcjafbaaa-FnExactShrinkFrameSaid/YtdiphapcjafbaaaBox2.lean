/- BoxOf; no condition. -/
import Derived.Test.YtdiphapcjafbaaaBox
import Derived.Test.YtdiphapcjafbaaaB9
namespace Go.Proofs.Ytdiphapcjafbaaa
open Go.RowKit
set_option linter.unusedSimpArgs false
set_option linter.unusedVariables false

theorem run_min8 {P : Program} (ats : Array TypeId) (ty : TypeId) (a b : Nat) (w : World) : (Builtin.min_ ats ty #[.int .i8 (a : Int), .int .i8 (b : Int)]).run P w = .ok (.int .i8 ((min a b : Nat) : Int)) w := by
  by_cases h : (b : Int) < a
  · simp [Builtin.min_, Builtin.min2, h, show min a b = b by omega]
  · simp [Builtin.min_, Builtin.min2, h, show min a b = a by omega]
theorem run_max8 {P : Program} (ats : Array TypeId) (ty : TypeId) (a b : Nat) (w : World) : (Builtin.max_ ats ty #[.int .i8 (a : Int), .int .i8 (b : Int)]).run P w = .ok (.int .i8 ((max a b : Nat) : Int)) w := by
  by_cases h : (a : Int) < b
  · simp [Builtin.max_, Builtin.max2, h, show max a b = b by omega]
  · simp [Builtin.max_, Builtin.max2, h, show max a b = a by omega]
section
variable {P : Program} {ops : Array Oper} {rest : List Oper} {o : Oper} {a : Act} {Q : Act → Prop} {C : World → Prop}
theorem wpq_min8 (hgd : o.guard = none) (x y : Operand) (T U : TypeId) (ho : o.op = .call { callee := .builtin .min, args := #[x, y], argTypes := #[T, U] }) (n m : Nat) (hx : a.eval x = .int .i8 n) (hy : a.eval y = .int .i8 m)
    (h : wpQuiet P ops C Q rest (a.put o.dst (.int .i8 ((min n m : Nat) : Int)))) : wpQuiet P ops C Q (o :: rest) a :=
  wpq_val hgd _ (fun w' _ => by
    unfold execOp
    simp only [ho, resolve, invoke, builtin, Sem.run_bind, Sem.run_pure, Result.andThen_ok, List.map_toArray, List.map_cons, List.map_nil, hx, hy, run_min8]) h
theorem wpq_max8 (hgd : o.guard = none) (x y : Operand) (T U : TypeId) (ho : o.op = .call { callee := .builtin .max, args := #[x, y], argTypes := #[T, U] }) (n m : Nat) (hx : a.eval x = .int .i8 n) (hy : a.eval y = .int .i8 m)
    (h : wpQuiet P ops C Q rest (a.put o.dst (.int .i8 ((max n m : Nat) : Int)))) : wpQuiet P ops C Q (o :: rest) a :=
  wpq_val hgd _ (fun w' _ => by
    unfold execOp
    simp only [ho, resolve, invoke, builtin, Sem.run_bind, Sem.run_pure, Result.andThen_ok, List.map_toArray, List.map_cons, List.map_nil, hx, hy, run_max8]) h
end
/-- What BoxOf answers: the box and the code. -/
def BoxCase (f : List Nat) (r : Int × Int × Int × Int) (c : Int) : Prop :=
  (okB f = false ∧ r = (0, 0, 0, 0) ∧ c = 1) ∨ (okB f = true ∧ (dots f).length = 0 ∧ r = (0, 0, 0, 0) ∧ c = 6) ∨ (okB f = true ∧ (∃ n, (dots f).length = n ∧ 0 < n) ∧ r = boxN f ∧ c = 0)
theorem box_case (f : List Nat) : ∃ r c, BoxCase f r c := by
  rcases Bool.eq_false_or_eq_true (okB f) with h | h
  · by_cases h0 : (dots f).length = 0
    · exact ⟨_, _, Or.inr (Or.inl ⟨h, h0, rfl, rfl⟩)⟩
    · exact ⟨_, _, Or.inr (Or.inr ⟨h, ⟨_, rfl, by omega⟩, rfl, rfl⟩)⟩
  · exact ⟨_, _, Or.inl ⟨h, rfl, rfl⟩⟩
set_option maxRecDepth 100000 in
theorem l01Box_0 (f : List Nat) (ok : FrOk f) (h0 : (dots f).length = 0) (b o : Nat) (w : World) (hb : Cl w b o (frv f)) :
    Calls Try.prog 121 #[.pointer (some ⟨b, o, none⟩)] w fun e w' => e = .returned (.tuple #[.agg (bxv (0, 0, 0, 0)).toArray, .bool false]) ∧ Keep [] w w' := by
  have hf := ok.len
  have st := St.start w
  go_enter Try.func121, Try.ntmps121
  go_wp2_with (first | ((with_reducible refine gate_alloc rfl ?_); (with_reducible refine gate_dst (N := 2) rfl ?_); refine wpl_alloc rfl _ rfl tBox st ?_; clear st; intro B2 _ st) | (go_at_call 94; refine (l01Dots_n f ok 0 h0 _ _ _ (hb.keep st.keep (by simp))).mono ?_; rintro _ _ ⟨v, rfl, ⟨g, cap, spare, rfl, hg, hbg, hcap, hcm⟩, hk⟩; replace st := st.adopt hk hg hbg; clear hk hg hbg hcap hcm) | ((with_reducible refine gate_build rfl ?_); refine wpl_zero rfl _ rfl _ built_box0 ?_) | ((with_reducible refine gate_store rfl ?_); refine wpl_storeAll rfl _ _ _ rfl _ rfl _ rfl tBox rfl (bxv_one _ _ _ _) st _ _ (by repeat (first | exact Upd.here | apply Upd.there)) rfl ?_; clear st; intro _ st))
  refine bodyPost_cell_tmp rfl tBox rfl _ rfl _ _ (st.get (by repeat (first | exact At.here | apply At.there))) rfl _ rfl ?_
  exact ⟨rfl, st.keep⟩
set_option maxRecDepth 100000 in
theorem specBox_c (f : List Nat) (ok : FrOk f) (r : Int × Int × Int × Int) (c : Int) (hc : BoxCase f r c) (w : World) :
    Calls Try.prog 70 #[.agg (frv f).toArray] w fun e w' => e = .returned (.tuple #[.agg (bxv r).toArray, .int .i64 c]) ∧ Keep [] w w' := by
  have hf := ok.len
  have st := St.start w
  rcases hc with ⟨h, rfl, rfl⟩ | ⟨h, h0, rfl, rfl⟩ | ⟨h, ⟨n, hn, hp⟩, rfl, rfl⟩
  · go_enter Try.func70, Try.ntmps70
    go_wp2_with (first | ((with_reducible refine gate_box rfl ?_); refine wpl_box rfl _ _ rfl _ rfl _ rfl st ?_; clear st; intro _ _ st) | ((with_reducible refine gate_alloc rfl ?_); refine wpl_alloc rfl _ rfl tBox st ?_; clear st; intro _ _ st) | (go_at_call 73; refine (l01Ok_c f hf _ _ _ (.of (st.get (.there .here)))).mono ?_; rintro _ _ ⟨rfl, hk⟩; replace st := st.call hk; clear hk) | ((with_reducible refine gate_build rfl ?_); refine wpl_zero rfl _ rfl _ built_box0 ?_) | ((with_reducible refine gate_store rfl ?_); refine wpl_storeAll rfl _ _ _ rfl _ rfl _ rfl tBox rfl (bxv_one _ _ _ _) st _ _ (by repeat (first | exact Upd.here | apply Upd.there)) rfl ?_; clear st; intro _ st))
    refine bodyPost_cell_tmp rfl tBox rfl _ rfl _ _ (st.get (by repeat (first | exact At.here | apply At.there))) rfl _ rfl ?_
    exact ⟨rfl, st.keep⟩
  · go_enter Try.func70, Try.ntmps70
    go_wp2_with (first | ((with_reducible refine gate_box rfl ?_); refine wpl_box rfl _ _ rfl _ rfl _ rfl st ?_; clear st; intro _ _ st) | ((with_reducible refine gate_alloc rfl ?_); refine wpl_alloc rfl _ rfl tBox st ?_; clear st; intro _ _ st) | (go_at_call 73; refine (l01Ok_c f hf _ _ _ (.of (st.get (.there .here)))).mono ?_; rintro _ _ ⟨rfl, hk⟩; replace st := st.call hk; clear hk) | (go_at_call 121; refine (l01Box_0 f ok h0 _ _ _ (.of (st.get (.there .here)))).mono ?_; rintro _ _ ⟨rfl, hk⟩; replace st := st.call hk; clear hk) | ((with_reducible refine gate_build rfl ?_); refine wpl_zero rfl _ rfl _ built_box0 ?_) | ((with_reducible refine gate_store rfl ?_); refine wpl_storeAll rfl _ _ _ rfl _ rfl _ rfl tBox rfl (bxv_one _ _ _ _) st _ _ (by repeat (first | exact Upd.here | apply Upd.there)) rfl ?_; clear st; intro _ st))
    refine bodyPost_cell_tmp rfl tBox rfl _ rfl _ _ (st.get (by repeat (first | exact At.here | apply At.there))) rfl _ rfl ?_
    exact ⟨rfl, st.keep⟩
  · go_enter Try.func70, Try.ntmps70
    go_wp2_with (first | ((with_reducible refine gate_box rfl ?_); refine wpl_box rfl _ _ rfl _ rfl _ rfl st ?_; clear st; intro _ _ st) | ((with_reducible refine gate_alloc rfl ?_); refine wpl_alloc rfl _ rfl tBox st ?_; clear st; intro _ _ st) | (go_at_call 73; refine (l01Ok_c f hf _ _ _ (.of (st.get (.there .here)))).mono ?_; rintro _ _ ⟨rfl, hk⟩; replace st := st.call hk; clear hk) | (go_at_call 121; refine (l01Box_c f ok n hn hp _ _ _ (.of (st.get (.there .here)))).mono ?_; rintro _ _ ⟨rfl, hk⟩; replace st := st.call hk; clear hk) | ((with_reducible refine gate_store rfl ?_); refine wpl_storeAll rfl _ _ _ rfl _ rfl _ rfl tBox rfl (bxv_one _ _ _ _) st _ _ (by repeat (first | exact Upd.here | apply Upd.there)) rfl ?_; clear st; intro _ st) | ((with_reducible refine gate_load rfl ?_); refine wpl_loadAll rfl _ _ rfl _ rfl tBox _ _ (st.get (by repeat (first | exact At.here | apply At.there))) rfl ?_))
    refine bodyPost_cell_tmp rfl tBox rfl _ rfl _ _ (st.get (by repeat (first | exact At.here | apply At.there))) rfl _ rfl ?_
    exact ⟨rfl, st.keep⟩
theorem fld_box (b f : Nat) (w' : World) (i : Nat) (hi : i < 4) : (Instr.fieldAt 57 (.pointer (some ⟨b, f, none⟩)) i).run Try.prog w' = .ok (.pointer (some ⟨b, f + i, none⟩)) w' := by
  match i, hi with
  | 0, _ => simp [Instr.fieldAt, run_underlying Try.underlying57, Instr.sureAddr]; go_simp
  | 1, _ => simp [Instr.fieldAt, run_underlying Try.underlying57, Instr.sureAddr]; go_simp
  | 2, _ => simp [Instr.fieldAt, run_underlying Try.underlying57, Instr.sureAddr]; go_simp
  | 3, _ => simp [Instr.fieldAt, run_underlying Try.underlying57, Instr.sureAddr]; go_simp
set_option maxRecDepth 100000 in
theorem eqBox_c (a b c d : Int) (w : World) : Calls Try.prog 72 #[.agg #[.int .i8 a, .int .i8 b, .int .i8 c, .int .i8 d], .agg #[.int .i8 a, .int .i8 b, .int .i8 c, .int .i8 d]] w fun e w' => e = .returned (.bool true) ∧ Keep [] w w' := by
  have st := St.start w
  go_enter Try.func72, Try.ntmps72
  go_wp2_with (first | ((with_reducible refine gate_box rfl ?_); refine wpl_box rfl _ _ rfl _ rfl _ rfl st ?_; clear st; intro _ _ st) | ((with_reducible refine gate_field rfl ?_); refine wpl_field rfl _ _ 0 rfl _ _ rfl 0 (fun b f w' => fld_box b f w' 0 (by omega)) ?_) | ((with_reducible refine gate_field rfl ?_); refine wpl_field rfl _ _ 1 rfl _ _ rfl 1 (fun b f w' => fld_box b f w' 1 (by omega)) ?_) | ((with_reducible refine gate_field rfl ?_); refine wpl_field rfl _ _ 2 rfl _ _ rfl 2 (fun b f w' => fld_box b f w' 2 (by omega)) ?_) | ((with_reducible refine gate_field rfl ?_); refine wpl_field rfl _ _ 3 rfl _ _ rfl 3 (fun b f w' => fld_box b f w' 3 (by omega)) ?_) | ((with_reducible refine gate_load rfl ?_); refine wpl_load1 rfl _ _ rfl _ rfl tI8 _ ((st.get (by repeat (first | exact At.here | apply At.there))).cellv rfl) ?_))
  go_ret
  exact ⟨rfl, st.keep⟩
end Go.Proofs.Ytdiphapcjafbaaa
