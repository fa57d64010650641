/- Texts of this seat, one behind the other: Auto, Enc, Ty2, B1, Bk, EqF, B2, Val, B5, B6, Val2, Bk2; no condition. -/
import Derived.Test.YtmfgbkmkcljciaaGreatDoorM1
import Derived.Laws.MakeOwn
import Derived.LoopTactic
import Derived.Deep.LoopGhost
import Derived.Deep.QuietTactic
import Derived.BigQuiet
import Derived.Outline
import Derived.Laws.StructEq
/- The rules again, their side goals in an order that lets one tactic after the other close them; no condition. -/
namespace Go.Proofs.YtmfgbkmkcljciaaGreatDoor
open Go.RowKit
set_option linter.unusedSimpArgs false
set_option linter.unusedVariables false

/-- T is the type of arrays of n elements E of s cells each. -/
structure ArrS (P : Program) (T E : TypeId) (n s : Nat) : Prop where
  a : P.underlying T = some (.array n E)
  e : ∃ i, P.info? E = some i ∧ i.size = s
theorem ArrS.sizeOf {P : Program} {T E : TypeId} {n s : Nat} (h : ArrS P T E n s) (w : World) : (Go.sizeOf E).run P w = .ok s w := by
  obtain ⟨i, hi, hs⟩ := h.e
  simp [Go.sizeOf, typeInfo, hi, hs]
theorem arrS_of {P : Program} {T E : TypeId} {n s : Nat} (hu : P.underlying T = some (.array n E)) (hi : (P.info? E).map (·.size) = some s) : ArrS P T E n s := by
  refine ⟨hu, ?_⟩
  cases h : P.info? E with
  | none => simp [h] at hi
  | some i => simp [h] at hi; exact ⟨i, rfl, hi⟩
theorem Calls.splitB {P : Program} {F : FuncId} {args : Array Value} {w : World} {b : Bool} {K : World → Prop} (h : Calls P F args w fun e w' => e = .returned (.bool b) ∧ K w') :
    Calls P F args w fun e w' => (b = true ∧ e = .returned (.bool true) ∧ K w') ∨ (b = false ∧ e = .returned (.bool false) ∧ K w') :=
  h.mono fun e w' ⟨he, hk⟩ => by cases b with
    | true => exact Or.inl ⟨rfl, he, hk⟩
    | false => exact Or.inr ⟨rfl, he, hk⟩

section
variable {P : Program} {ops : Array Oper} {rest : List Oper} {o : Oper} {a : Act} {w w0 : World} {Q : Exit → Act → World → Prop} {M : List Nat} {L L' : List (Nat × List Value × TypeId)}
theorem gate_lst (h : wpList P ops Q (o :: rest) a w) : wpList P ops Q (o :: rest) a w := h
theorem rgate {id : Nat} {l : Array Oper} (h : (Code.region id l true).wp P Q a w) : (Code.region id l true).wp P Q a w := h
theorem la_load1 {z v : Value} {T : TypeId} {x : Operand} {p : Addr} (hT : OneT P T z) (hv : w.cell? p = some v) (hgd : o.guard = none) (ho : o.op = .load T x) (hx : a.eval x = .pointer (some p))
    (h : wpList P ops Q rest (a.put o.dst v) w) : wpList P ops Q (o :: rest) a w := wpl_load1 hgd T x ho p hx hT v hv h
theorem la_loadC {n : Nat} {z cs : List Value} {T : TypeId} {x : Operand} {b f : Nat} (hT : AggT P T n z) (hb : Cl w b f cs) (hl : cs.length = n) (hgd : o.guard = none) (ho : o.op = .load T x) (hx : a.eval x = .pointer (some ⟨b, f, none⟩))
    (h : wpList P ops Q rest (a.put o.dst (.agg cs.toArray)) w) : wpList P ops Q (o :: rest) a w :=
  wpl_loadC hgd T x ho ⟨b, f, none⟩ hx hT cs hl (fun j v hj => by rw [Addr.add_lit]; exact hb.2 j v hj) h
theorem la_alloc {n : Nat} {z : List Value} {T : TypeId} (hT : AggT P T n z) (st : St M w0 w L) (hgd : o.guard = none) (ho : o.op = .alloc T)
    (h : ∀ B w1, St M w0 w1 ((B, z, T) :: L) → wpList P ops Q rest (a.put o.dst (.pointer (some ⟨B, 0, none⟩))) w1) : wpList P ops Q (o :: rest) a w := wpl_alloc hgd T ho hT st h
theorem la_alloc1 {z : Value} {T : TypeId} (hT : OneT P T z) (st : St M w0 w L) (hgd : o.guard = none) (ho : o.op = .alloc T)
    (h : ∀ B w1, St M w0 w1 ((B, [z], T) :: L) → wpList P ops Q rest (a.put o.dst (.pointer (some ⟨B, 0, none⟩))) w1) : wpList P ops Q (o :: rest) a w := wpl_alloc1 hgd T ho hT st h
theorem la_store1 {z : Value} {old : List Value} {U : TypeId} {T : TypeId} {p x : Operand} {b k : Nat} {v : Value} (hT : OneT P T z) (st : St M w0 w L) (hu : Upd b b old (old.set k v) U L L') (hfit : k < old.length)
    (hgd : o.guard = none) (ho : o.op = .store T p x) (hp : a.eval p = .pointer (some ⟨b, k, none⟩)) (hx : a.eval x = v) (h1 : v.oneCell' = true) (hv : v.cells = #[v])
    (h : ∀ w1, St M w0 w1 L' → wpList P ops Q rest (a.put o.dst undef) w1) : wpList P ops Q (o :: rest) a w := wpl_store1 hgd T p x ho b k hp v hx hT h1 hv st old U hu hfit h
theorem la_storeAll {n : Nat} {z old cs : List Value} {U : TypeId} {T : TypeId} {p x : Operand} {b : Nat} (hT : AggT P T n z) (st : St M w0 w L) (hu : Upd b b old cs U L L') (hl : cs.length = n) (h1 : ∀ v ∈ cs, v.oneCell' = true) (hfit : old.length = n)
    (hgd : o.guard = none) (ho : o.op = .store T p x) (hp : a.eval p = .pointer (some ⟨b, 0, none⟩)) (hx : a.eval x = .agg cs.toArray)
    (h : ∀ w1, St M w0 w1 L' → wpList P ops Q rest (a.put o.dst undef) w1) : wpList P ops Q (o :: rest) a w := wpl_storeAll hgd T p x ho b hp cs hx hT hl h1 st old U hu hfit h
/-- A part of a block is written. -/
theorem la_storeSeg {n : Nat} {z old cs : List Value} {U : TypeId} {T : TypeId} {p x : Operand} {b k : Nat} (hT : AggT P T n z) (st : St M w0 w L) (hu : Upd b b old (old.take k ++ cs ++ old.drop (k + n)) U L L') (hl : cs.length = n) (h1 : ∀ v ∈ cs, v.oneCell' = true) (hfit : k + n ≤ old.length)
    (hgd : o.guard = none) (ho : o.op = .store T p x) (hp : a.eval p = .pointer (some ⟨b, k, none⟩)) (hx : a.eval x = .agg cs.toArray)
    (h : ∀ w1, St M w0 w1 L' → wpList P ops Q rest (a.put o.dst undef) w1) : wpList P ops Q (o :: rest) a w := wpl_store hgd T p x ho b k hp cs hx hT hl h1 st old _ U hu hfit rfl h
theorem la_build {cs : List Value} {T : TypeId} {parts : List (Nat × Operand)} (hb : P.built T (parts.map fun p => (p.1, a.eval p.2)) = some cs.toArray) (hgd : o.guard = none) (ho : o.op = .build T parts.toArray)
    (h : wpList P ops Q rest (a.put o.dst (.agg cs.toArray)) w) : wpList P ops Q (o :: rest) a w := wpl_build hgd T parts ho cs hb h
theorem la_slcAddr {E : TypeId} {s y : Nat} {z : List Value} {T : TypeId} {x ix : Operand} {b f m c : Nat} {k : IntKind} {i : Int} {j : Nat} (hT : SlcT P T E s y z) (hj : i = j) (h1 : j < m) (hgd : o.guard = none) (ho : o.op = .indexAddr T x ix) (hx : a.eval x = .slice (some ⟨b, f, none⟩) m c) (hi : a.eval ix = .int k i)
    (h : wpList P ops Q rest (a.put o.dst (.pointer (some ⟨b, f + j * s, none⟩))) w) : wpList P ops Q (o :: rest) a w := wpl_slcAddr hgd T x ix ho b f m c hx k i hi hT j hj h1 h
end

section
variable {P : Program} {ops : Array Oper} {rest : List Oper} {o : Oper} {a : Act} {w w0 : World} {Q : Act → Prop} {C : World → Prop} {M : List Nat} {L L' : List (Nat × List Value × TypeId)}
theorem qgate_any (h : wpQuiet P ops C Q (o :: rest) a) : wpQuiet P ops C Q (o :: rest) a := h
theorem qgate_nil (h : wpQuiet P ops C Q [] a) : wpQuiet P ops C Q [] a := h
theorem wpq_unguard {d : Option Tmp} {op : Op} {ty : TypeId} {pos : String} {after : Array Edge} {g : Nat × Bool} (hw : Region.wanted ⟨d, op, ty, pos, after, some g⟩ (yielded ops a.tmps) = true)
    (h : wpQuiet P ops C Q (⟨d, op, ty, pos, after, none⟩ :: rest) a) : wpQuiet P ops C Q (⟨d, op, ty, pos, after, some g⟩ :: rest) a := by
  unfold wpQuiet at h ⊢
  rw [if_pos hw]
  rw [if_pos (by simp [Region.wanted])] at h
  exact h
theorem wpq_skip {d : Option Tmp} {op : Op} {ty : TypeId} {pos : String} {after : Array Edge} {g : Nat × Bool} (hw : Region.wanted ⟨d, op, ty, pos, after, some g⟩ (yielded ops a.tmps) = false)
    (h : wpQuiet P ops C Q rest (a.put d undef)) : wpQuiet P ops C Q (⟨d, op, ty, pos, after, some g⟩ :: rest) a := by
  unfold wpQuiet
  rw [if_neg (by rw [hw]; decide)]
  exact h
theorem qa_val {v : Value} (hrun : ∀ w', C w' → (execOp a.eval o).run P w' = .ok (.value v) w') (hgd : o.guard = none) (h : wpQuiet P ops C Q rest (a.put o.dst v)) : wpQuiet P ops C Q (o :: rest) a := wpq_val hgd v hrun h
theorem qa_load1 {z v : Value} {T : TypeId} {x : Operand} {p : Addr} (hT : OneT P T z) (hv : ∀ w', C w' → w'.cell? p = some v) (hgd : o.guard = none) (ho : o.op = .load T x) (hx : a.eval x = .pointer (some p))
    (h : wpQuiet P ops C Q rest (a.put o.dst v)) : wpQuiet P ops C Q (o :: rest) a := wpq_load1 hgd T x ho p hx hT v hv h
theorem qa_loadC {n : Nat} {z cs : List Value} {T : TypeId} {x : Operand} {b f : Nat} (hT : AggT P T n z) (hb : ∀ w', C w' → Cl w' b f cs) (hl : cs.length = n) (hgd : o.guard = none) (ho : o.op = .load T x) (hx : a.eval x = .pointer (some ⟨b, f, none⟩))
    (h : wpQuiet P ops C Q rest (a.put o.dst (.agg cs.toArray))) : wpQuiet P ops C Q (o :: rest) a :=
  wpq_loadSeg hgd T x ho ⟨b, f, none⟩ hx hT cs (fun w' hw' j v hj => by rw [Addr.add_lit]; exact (hb w' hw').2 j v hj) hl h
theorem qa_slcAddr {E : TypeId} {s y : Nat} {z : List Value} {T : TypeId} {x ix : Operand} {b f m c : Nat} {k : IntKind} {i : Int} {j : Nat} (hT : SlcT P T E s y z) (hj : i = j) (h1 : j < m) (hgd : o.guard = none) (ho : o.op = .indexAddr T x ix) (hx : a.eval x = .slice (some ⟨b, f, none⟩) m c) (hi : a.eval ix = .int k i)
    (h : wpQuiet P ops C Q rest (a.put o.dst (.pointer (some ⟨b, f + j * s, none⟩)))) : wpQuiet P ops C Q (o :: rest) a := wpq_slcAddr hgd T x ix ho b f m c hx k i hi hT j hj h1 h
theorem qa_arrAddr {E : TypeId} {n : Nat} {z : Value} {T : TypeId} {x ix : Operand} {b f : Nat} {k : IntKind} {i : Int} {j : Nat} (hT : ArrT P T E n z) (hj : i = j) (h1 : j < n) (hgd : o.guard = none) (ho : o.op = .indexAddr T x ix) (hx : a.eval x = .pointer (some ⟨b, f, none⟩)) (hi : a.eval ix = .int k i)
    (h : wpQuiet P ops C Q rest (a.put o.dst (.pointer (some ⟨b, f + j, none⟩)))) : wpQuiet P ops C Q (o :: rest) a := wpq_indexAddr hgd T x ix ho b f hx k i hi hT j hj h1 h
theorem qa_call {c : Go.Call} {f : Operand} {F : FuncId} {first cap args : Array Value} {fn : Func} {v : Value} (hF : P.funcs[F]? = some fn) (hn : (fn.name == "runtime.NumGoroutine") = false) (hbd : fn.body.isNone = false)
    (hgd : o.guard = none) (ho : o.op = .call c) (hc : c.callee = .value f) (hf : a.eval f = .func (.func F) first cap) (ha : first ++ c.args.map a.eval ++ cap = args)
    (hcall : ∀ w', C w' → Calls P F args w' fun e w'' => e = .returned v ∧ C w'') (h : wpQuiet P ops C Q rest (a.put o.dst v)) : wpQuiet P ops C Q (o :: rest) a :=
  wpq_call hgd c ho f hc F first cap hf fn hF hn hbd args ha v hcall h
theorem qa_callB {c : Go.Call} {f : Operand} {F : FuncId} {first cap args : Array Value} {fn : Func} {v : Bool} (hF : P.funcs[F]? = some fn) (hn : (fn.name == "runtime.NumGoroutine") = false) (hbd : fn.body.isNone = false)
    (hgd : o.guard = none) (ho : o.op = .call c) (hc : c.callee = .value f) (hf : a.eval f = .func (.func F) first cap) (ha : first ++ c.args.map a.eval ++ cap = args)
    (hcall : ∀ w', C w' → Calls P F args w' fun e w'' => e = .returned (.bool v) ∧ C w'') (h1 : v = true → wpQuiet P ops C Q rest (a.put o.dst (.bool true))) (h0 : v = false → wpQuiet P ops C Q rest (a.put o.dst (.bool false))) : wpQuiet P ops C Q (o :: rest) a := by
  refine qa_call hF hn hbd hgd ho hc hf ha hcall ?_
  cases hv : v with
  | true => exact h1 hv
  | false => exact h0 hv
/-- An array's element of s cells. -/
theorem qa_arrAddrS {E : TypeId} {n s : Nat} {T : TypeId} {x ix : Operand} {b f : Nat} {k : IntKind} {i : Int} {j : Nat} (hT : ArrS P T E n s) (hj : i = j) (h1 : j < n) (hgd : o.guard = none) (ho : o.op = .indexAddr T x ix) (hx : a.eval x = .pointer (some ⟨b, f, none⟩)) (hi : a.eval ix = .int k i)
    (h : wpQuiet P ops C Q rest (a.put o.dst (.pointer (some ⟨b, f + j * s, none⟩)))) : wpQuiet P ops C Q (o :: rest) a := by
  subst hj
  have h1' : (j : Int) < n := by omega
  have h0 : (0 : Int) ≤ j := by omega
  exact wpq_val hgd _ (fun w' _ => by
    have hsz := hT.sizeOf w'
    unfold execOp
    simp only [ho, hx, hi, Instr.indexAt, Instr.sureAddr, asIntOf, Sem.run_bind, Sem.run_pure, Result.andThen_ok, run_underlying hT.a w', h0, h1', and_self, if_true, hsz, Addr.add_lit, Int.toNat_natCast]) h
theorem qg_move {x : Operand} (_ho : o.op = .move x) (h : wpQuiet P ops C Q (o :: rest) a) : wpQuiet P ops C Q (o :: rest) a := h
theorem qg_assign {x : Operand} (_ho : o.op = .assign x) (h : wpQuiet P ops C Q (o :: rest) a) : wpQuiet P ops C Q (o :: rest) a := h
theorem qg_un {u : UnOp} {T : TypeId} {x : Operand} (_ho : o.op = .unOp u T x) (h : wpQuiet P ops C Q (o :: rest) a) : wpQuiet P ops C Q (o :: rest) a := h
theorem qg_pick {x y z : Operand} (_ho : o.op = .pick x y z) (h : wpQuiet P ops C Q (o :: rest) a) : wpQuiet P ops C Q (o :: rest) a := h
theorem qg_extract {x : Operand} {k : Nat} (_ho : o.op = .extract x k) (h : wpQuiet P ops C Q (o :: rest) a) : wpQuiet P ops C Q (o :: rest) a := h
theorem qg_nil {x : Operand} (_ho : o.op = .nilCheck x) (h : wpQuiet P ops C Q (o :: rest) a) : wpQuiet P ops C Q (o :: rest) a := h
theorem qa_field {T : TypeId} {x : Operand} {i b f k : Nat} (hf : ∀ (b f : Nat) (w' : World), (Instr.fieldAt T (.pointer (some ⟨b, f, none⟩)) i).run P w' = .ok (.pointer (some ⟨b, f + k, none⟩)) w') (hgd : o.guard = none) (ho : o.op = .fieldAddr T x i) (hx : a.eval x = .pointer (some ⟨b, f, none⟩))
    (h : wpQuiet P ops C Q rest (a.put o.dst (.pointer (some ⟨b, f + k, none⟩)))) : wpQuiet P ops C Q (o :: rest) a := wpq_field hgd T x i ho b f hx k hf h
theorem qa_conv {S D : TypeId} {x : Operand} {k k' : IntKind} {n m : Int} (hs : (P.underlying S).isSome = true) (hd : P.underlying D = some (.int k')) (hm : k'.wrap n = m) (hgd : o.guard = none) (ho : o.op = .convert S D x) (hx : a.eval x = .int k n)
    (h : wpQuiet P ops C Q rest (a.put o.dst (.int k' m))) : wpQuiet P ops C Q (o :: rest) a := wpq_conv hgd S D x ho k k' n m hx hs hd hm h
theorem qa_bin {op : BinOp} {T U : TypeId} {x y : Operand} {k k' : IntKind} {n m : Int} {v : Value} (hb : ∀ w', (binOp op T (.int k n) (.int k' m)).run P w' = .ok v w') (hgd : o.guard = none) (ho : o.op = .binOp op T x y U) (hx : a.eval x = .int k n) (hy : a.eval y = .int k' m)
    (h : wpQuiet P ops C Q rest (a.put o.dst v)) : wpQuiet P ops C Q (o :: rest) a := wpq_bin hgd op T x y U ho k k' n m hx hy v hb h
theorem qa_len {x : Operand} {T E : TypeId} {b : Option Addr} {n c : Nat} (hu : P.underlying T = some (.slice E)) (hgd : o.guard = none) (ho : o.op = .call { callee := .builtin .len, args := #[x], argTypes := #[T] }) (hx : a.eval x = .slice b n c)
    (h : wpQuiet P ops C Q rest (a.put o.dst (.int .i64 n))) : wpQuiet P ops C Q (o :: rest) a := wpq_lenSlice hgd x T ho b n c hx E hu h
theorem qcall {F : FuncId} {args : Array Value} {v : Value} {w1 : World} (hw : St M w0 w1 L) (h : Calls P F args w1 fun e w'' => e = .returned v ∧ Keep [] w1 w'') : Calls P F args w1 fun e w'' => e = .returned v ∧ St M w0 w'' L :=
  h.mono fun _ _ h => ⟨h.1, hw.call h.2⟩
end

theorem wanted_is {ops : Array Oper} {tmps : Array Value} {d : Option Tmp} {op : Op} {ty : TypeId} {pos : String} {after : Array Edge} {j dj : Nat} {b c : Bool} (hd : (ops[j]?).bind (·.dst) = some dj) (hv : tmps[dj]? = some (.bool c)) :
    Region.wanted ⟨d, op, ty, pos, after, some (j, b)⟩ (yielded ops tmps) = (c == b) := by
  unfold Region.wanted yielded
  simp only [hd, Option.bind_some, hv]
  cases c <;> cases b <;> rfl
section
variable {P : Program} {ops : Array Oper} {rest : List Oper} {a : Act} {w : World} {Q : Exit → Act → World → Prop} {d : Option Tmp} {op : Op} {ty : TypeId} {pos : String} {after : Array Edge} {j dj : Nat}
theorem wpl_ung {b : Bool} (hd : (ops[j]?).bind (·.dst) = some dj) (hv : a.tmps[dj]? = some (.bool b)) (h : wpList P ops Q (⟨d, op, ty, pos, after, none⟩ :: rest) a w) : wpList P ops Q (⟨d, op, ty, pos, after, some (j, b)⟩ :: rest) a w :=
  wpl_unguard (by rw [wanted_is hd hv]; cases b <;> rfl) h
end
section
variable {P : Program} {ops : Array Oper} {rest : List Oper} {a : Act} {Q : Act → Prop} {C : World → Prop} {d : Option Tmp} {op : Op} {ty : TypeId} {pos : String} {after : Array Edge} {j dj : Nat}
theorem wpq_ung {b : Bool} (hd : (ops[j]?).bind (·.dst) = some dj) (hv : a.tmps[dj]? = some (.bool b)) (h : wpQuiet P ops C Q (⟨d, op, ty, pos, after, none⟩ :: rest) a) : wpQuiet P ops C Q (⟨d, op, ty, pos, after, some (j, b)⟩ :: rest) a :=
  wpq_unguard (by rw [wanted_is hd hv]; cases b <;> rfl) h
theorem wpq_skp1 (hd : (ops[j]?).bind (·.dst) = some dj) (hv : a.tmps[dj]? = some (.bool true)) (h : wpQuiet P ops C Q rest (a.put d undef)) : wpQuiet P ops C Q (⟨d, op, ty, pos, after, some (j, false)⟩ :: rest) a :=
  wpq_skip (by rw [wanted_is hd hv]; rfl) h
theorem wpq_skp0 (hd : (ops[j]?).bind (·.dst) = some dj) (hv : a.tmps[dj]? = some (.bool false)) (h : wpQuiet P ops C Q rest (a.put d undef)) : wpQuiet P ops C Q (⟨d, op, ty, pos, after, some (j, true)⟩ :: rest) a :=
  wpq_skip (by rw [wanted_is hd hv]; rfl) h
end
/-! ### What is found by the search for instances -/
class OneC (P : Program) (T : TypeId) (z : outParam Value) : Prop where
  out : OneT P T z
class AggC (P : Program) (T : TypeId) (n : outParam Nat) (z : outParam (List Value)) : Prop where
  out : AggT P T n z
class SlcC (P : Program) (T : TypeId) (E : outParam TypeId) (s y : outParam Nat) (z : outParam (List Value)) : Prop where
  out : SlcT P T E s y z
class ArrC (P : Program) (T : TypeId) (E : outParam TypeId) (n s : outParam Nat) : Prop where
  out : ArrS P T E n s
class FldC (P : Program) (T : TypeId) (i : Nat) (k : outParam Nat) : Prop where
  out : ∀ (b f : Nat) (w' : World), (Instr.fieldAt T (.pointer (some ⟨b, f, none⟩)) i).run P w' = .ok (.pointer (some ⟨b, f + k, none⟩)) w'
class IntC (P : Program) (T : TypeId) (k : outParam IntKind) : Prop where
  out : P.underlying T = some (.int k)
class BldC (P : Program) (T : TypeId) (ps : List (Nat × Value)) (cs : outParam (List Value)) : Prop where
  out : P.built T ps = some cs.toArray
class AtC (b : Nat) (cs : outParam (List Value)) (T : outParam TypeId) (i : outParam Nat) (L : List (Nat × List Value × TypeId)) : Prop where
  out : At b cs T L
  at_ : L[i]? = some (b, cs, T)
instance atHere (b : Nat) (cs : List Value) (T : TypeId) (L : List (Nat × List Value × TypeId)) : AtC b cs T 0 ((b, cs, T) :: L) := ⟨.here, rfl⟩
instance atThere (b : Nat) (cs : List Value) (T : TypeId) (i : Nat) (x : Nat × List Value × TypeId) (L : List (Nat × List Value × TypeId)) [h : AtC b cs T i L] : AtC b cs T (i + 1) (x :: L) := ⟨.there h.out, by simpa using h.at_⟩
theorem upd_of {b : Nat} {old new : List Value} {T : TypeId} : ∀ {i : Nat} {L : List (Nat × List Value × TypeId)}, L[i]? = some (b, old, T) → Upd b b old new T L (L.set i (b, new, T))
  | 0, [], h => by simp at h
  | 0, x :: L, h => by
    simp at h
    subst h
    exact .here
  | i + 1, [], h => by simp at h
  | i + 1, x :: L, h => .there (upd_of (i := i) (L := L) (by simpa using h))
theorem St.atC {M : List Nat} {w0 w : World} {L : List (Nat × List Value × TypeId)} {b i : Nat} {cs : List Value} {T : TypeId} (st : St M w0 w L) [h : AtC b cs T i L] : Blk w b cs T := st.get h.out
theorem AtC.upd {b i : Nat} {old new : List Value} {T : TypeId} {L : List (Nat × List Value × TypeId)} (h : AtC b old T i L) : Upd b b old new T L (L.set i (b, new, T)) := upd_of h.at_

section
variable {P : Program} {ops : Array Oper} {rest : List Oper} {o : Oper} {a : Act} {w w0 : World} {Q : Exit → Act → World → Prop} {M : List Nat} {L : List (Nat × List Value × TypeId)} {b k i n : Nat} {T U : TypeId} {x p : Operand} {z v : Value} {zs cs : List Value}
theorem ia_box {sl : Nat} (st : St M w0 w L) (_hN : o.dst = some sl) (hgd : o.guard = none) (ho : o.op = .box T x) (hv : a.eval x = v) (hcs : v.cells = cs.toArray)
    (h : ∀ B w1, St M w0 w1 ((B, cs, T) :: L) → wpList P ops Q rest (a.put o.dst (.pointer (some ⟨B, 0, none⟩))) w1) : wpList P ops Q (o :: rest) a w := wpl_box hgd T x ho v hv cs hcs st h
theorem ia_alloc {sl : Nat} (st : St M w0 w L) (_hN : o.dst = some sl) (hgd : o.guard = none) (ho : o.op = .alloc T) [hT : AggC P T n zs]
    (h : ∀ B w1, St M w0 w1 ((B, zs, T) :: L) → wpList P ops Q rest (a.put o.dst (.pointer (some ⟨B, 0, none⟩))) w1) : wpList P ops Q (o :: rest) a w := wpl_alloc hgd T ho hT.out st h
theorem ia_alloc1 {sl : Nat} (st : St M w0 w L) (_hN : o.dst = some sl) (hgd : o.guard = none) (ho : o.op = .alloc T) [hT : OneC P T z]
    (h : ∀ B w1, St M w0 w1 ((B, [z], T) :: L) → wpList P ops Q rest (a.put o.dst (.pointer (some ⟨B, 0, none⟩))) w1) : wpList P ops Q (o :: rest) a w := wpl_alloc1 hgd T ho hT.out st h
theorem ia_load1 (st : St M w0 w L) (hgd : o.guard = none) (ho : o.op = .load T x) (hx : a.eval x = .pointer (some ⟨b, k, none⟩)) [hT : OneC P T z] [ha : AtC b cs U i L] (hv : cs[k]? = some v)
    (h : wpList P ops Q rest (a.put o.dst v) w) : wpList P ops Q (o :: rest) a w := wpl_load1 hgd T x ho _ hx hT.out v (st.atC.cellv hv) h
theorem ia_load1C {f : Nat} (hb : Cl w b f cs) (hgd : o.guard = none) (ho : o.op = .load T x) (hx : a.eval x = .pointer (some ⟨b, f + k, none⟩)) [hT : OneC P T z] (hv : cs[k]? = some v)
    (h : wpList P ops Q rest (a.put o.dst v) w) : wpList P ops Q (o :: rest) a w := wpl_load1 hgd T x ho _ hx hT.out v (hb.cellv hv) h
theorem ia_load1Z {f : Nat} (hb : Cl w b f cs) (hgd : o.guard = none) (ho : o.op = .load T x) (hx : a.eval x = .pointer (some ⟨b, f, none⟩)) [hT : OneC P T z] (hv : cs[0]? = some v)
    (h : wpList P ops Q rest (a.put o.dst v) w) : wpList P ops Q (o :: rest) a w := wpl_load1 hgd T x ho _ hx hT.out v (by have := hb.2 0 v hv; simpa using this) h
theorem ia_load1B (hb : Blk w b cs U) (hgd : o.guard = none) (ho : o.op = .load T x) (hx : a.eval x = .pointer (some ⟨b, k, none⟩)) [hT : OneC P T z] (hv : cs[k]? = some v)
    (h : wpList P ops Q rest (a.put o.dst v) w) : wpList P ops Q (o :: rest) a w := wpl_load1 hgd T x ho _ hx hT.out v (hb.cellv hv) h
theorem ia_loadAll (st : St M w0 w L) (hgd : o.guard = none) (ho : o.op = .load T x) (hx : a.eval x = .pointer (some ⟨b, 0, none⟩)) [hT : AggC P T n zs] [ha : AtC b cs U i L] (hl : cs.length = n)
    (h : wpList P ops Q rest (a.put o.dst (.agg cs.toArray)) w) : wpList P ops Q (o :: rest) a w := wpl_loadAll hgd T x ho b hx hT.out cs U st.atC hl h
theorem ia_loadC {f : Nat} (hb : Cl w b f cs) (hgd : o.guard = none) (ho : o.op = .load T x) (hx : a.eval x = .pointer (some ⟨b, f, none⟩)) [hT : AggC P T n zs] (hl : cs.length = n)
    (h : wpList P ops Q rest (a.put o.dst (.agg cs.toArray)) w) : wpList P ops Q (o :: rest) a w :=
  wpl_loadC hgd T x ho ⟨b, f, none⟩ hx hT.out cs hl (fun j v hj => by rw [Addr.add_lit]; exact hb.2 j v hj) h
theorem ia_store1 (st : St M w0 w L) (hgd : o.guard = none) (ho : o.op = .store T p x) (hp : a.eval p = .pointer (some ⟨b, k, none⟩)) (hx : a.eval x = v) (h1 : v.oneCell' = true) (hv : v.cells = #[v]) [hT : OneC P T z] [ha : AtC b cs U i L] (hl : k < cs.length)
    (h : ∀ w1, St M w0 w1 (L.set i (b, cs.set k v, U)) → wpList P ops Q rest (a.put o.dst undef) w1) : wpList P ops Q (o :: rest) a w := wpl_store1 hgd T p x ho b k hp v hx hT.out h1 hv st cs U ha.upd hl h
theorem ia_storeAll {old : List Value} (st : St M w0 w L) (hgd : o.guard = none) (ho : o.op = .store T p x) (hp : a.eval p = .pointer (some ⟨b, 0, none⟩)) (hx : a.eval x = .agg cs.toArray) [hT : AggC P T n zs] [ha : AtC b old U i L] (hl : cs.length = n) (h1 : ∀ v ∈ cs, v.oneCell' = true) (hl2 : old.length = n)
    (h : ∀ w1, St M w0 w1 (L.set i (b, cs, U)) → wpList P ops Q rest (a.put o.dst undef) w1) : wpList P ops Q (o :: rest) a w := wpl_storeAll hgd T p x ho b hp cs hx hT.out hl h1 st old U ha.upd hl2 h
theorem ia_storeSeg {old : List Value} (st : St M w0 w L) (hgd : o.guard = none) (ho : o.op = .store T p x) (hp : a.eval p = .pointer (some ⟨b, k, none⟩)) (hx : a.eval x = .agg cs.toArray) [hT : AggC P T n zs] [ha : AtC b old U i L] (hl : cs.length = n) (h1 : ∀ v ∈ cs, v.oneCell' = true) (hl2 : k + n ≤ old.length)
    (h : ∀ w1, St M w0 w1 (L.set i (b, old.take k ++ cs ++ old.drop (k + n), U)) → wpList P ops Q rest (a.put o.dst undef) w1) : wpList P ops Q (o :: rest) a w := wpl_store hgd T p x ho b k hp cs hx hT.out hl h1 st old _ U ha.upd hl2 rfl h
theorem ia_build {parts : List (Nat × Operand)} {ps : List (Nat × Value)} (hgd : o.guard = none) (ho : o.op = .build T parts.toArray) (he : parts.map (fun p => (p.1, a.eval p.2)) = ps) [hb : BldC P T ps cs]
    (h : wpList P ops Q rest (a.put o.dst (.agg cs.toArray)) w) : wpList P ops Q (o :: rest) a w := wpl_build hgd T parts ho cs (by rw [he]; exact hb.out) h
end
section
variable {P : Program} {ops : Array Oper} {rest : List Oper} {o : Oper} {a : Act} {w0 : World} {Q : Act → Prop} {M : List Nat} {L : List (Nat × List Value × TypeId)} {b k i n : Nat} {T U : TypeId} {x p : Operand} {z v : Value} {zs cs : List Value}
theorem iq_load1 (hgd : o.guard = none) (ho : o.op = .load T x) (hx : a.eval x = .pointer (some ⟨b, k, none⟩)) [hT : OneC P T z] [ha : AtC b cs U i L] (hv : cs[k]? = some v)
    (h : wpQuiet P ops (fun w' => St M w0 w' L) Q rest (a.put o.dst v)) : wpQuiet P ops (fun w' => St M w0 w' L) Q (o :: rest) a := wpq_load1 hgd T x ho _ hx hT.out v (fun _ hw => hw.atC.cellv hv) h
theorem iq_load1C {f : Nat} (hb : Cl w0 b f cs) (hgd : o.guard = none) (ho : o.op = .load T x) (hx : a.eval x = .pointer (some ⟨b, f + k, none⟩)) [hT : OneC P T z] (hv : cs[k]? = some v)
    (h : wpQuiet P ops (fun w' => St [] w0 w' L) Q rest (a.put o.dst v)) : wpQuiet P ops (fun w' => St [] w0 w' L) Q (o :: rest) a := wpq_load1 hgd T x ho _ hx hT.out v (fun _ hw => (hb.keep hw.keep (by simp)).cellv hv) h
theorem iq_load1Z {f : Nat} (hb : Cl w0 b f cs) (hgd : o.guard = none) (ho : o.op = .load T x) (hx : a.eval x = .pointer (some ⟨b, f, none⟩)) [hT : OneC P T z] (hv : cs[0]? = some v)
    (h : wpQuiet P ops (fun w' => St [] w0 w' L) Q rest (a.put o.dst v)) : wpQuiet P ops (fun w' => St [] w0 w' L) Q (o :: rest) a := wpq_load1 hgd T x ho _ hx hT.out v (fun _ hw => by have := (hb.keep hw.keep (by simp)).2 0 v hv; simpa using this) h
theorem iq_loadAll (hgd : o.guard = none) (ho : o.op = .load T x) (hx : a.eval x = .pointer (some ⟨b, 0, none⟩)) [hT : AggC P T n zs] [ha : AtC b cs U i L] (hl : cs.length = n)
    (h : wpQuiet P ops (fun w' => St M w0 w' L) Q rest (a.put o.dst (.agg cs.toArray))) : wpQuiet P ops (fun w' => St M w0 w' L) Q (o :: rest) a := wpq_loadAll hgd T x ho b hx hT.out cs U (fun _ hw => hw.atC) hl h
theorem iq_loadC {f : Nat} (hb : Cl w0 b f cs) (hgd : o.guard = none) (ho : o.op = .load T x) (hx : a.eval x = .pointer (some ⟨b, f, none⟩)) [hT : AggC P T n zs] (hl : cs.length = n)
    (h : wpQuiet P ops (fun w' => St [] w0 w' L) Q rest (a.put o.dst (.agg cs.toArray))) : wpQuiet P ops (fun w' => St [] w0 w' L) Q (o :: rest) a :=
  wpq_loadSeg hgd T x ho ⟨b, f, none⟩ hx hT.out cs (fun w' hw' j v hj => by rw [Addr.add_lit]; exact (hb.keep hw'.keep (by simp)).2 j v hj) hl h
end
section
variable {P : Program} {ops : Array Oper} {rest : List Oper} {o : Oper} {a : Act} {Q : Act → Prop} {C : World → Prop} {b f c m k i n j s y : Nat} {T E : TypeId} {x ix : Operand} {zs : List Value} {K : IntKind} {e : Int}
theorem iq_slc (hgd : o.guard = none) (ho : o.op = .indexAddr T x ix) (hx : a.eval x = .slice (some ⟨b, f, none⟩) m c) (hi : a.eval ix = .int K e) [hT : SlcC P T E s y zs] (hj : e = j) (h1 : j < m)
    (h : wpQuiet P ops C Q rest (a.put o.dst (.pointer (some ⟨b, f + j * s, none⟩)))) : wpQuiet P ops C Q (o :: rest) a := wpq_slcAddr hgd T x ix ho b f m c hx K e hi hT.out j hj h1 h
theorem iq_slcP {p : Option Addr} (hp : p = some ⟨b, f, none⟩) (hgd : o.guard = none) (ho : o.op = .indexAddr T x ix) (hx : a.eval x = .slice p m c) (hi : a.eval ix = .int K e) [hT : SlcC P T E s y zs] (hj : e = j) (h1 : j < m)
    (h : wpQuiet P ops C Q rest (a.put o.dst (.pointer (some ⟨b, f + j * s, none⟩)))) : wpQuiet P ops C Q (o :: rest) a := by
  subst hp
  exact wpq_slcAddr hgd T x ix ho b f m c hx K e hi hT.out j hj h1 h
theorem iq_arr (hgd : o.guard = none) (ho : o.op = .indexAddr T x ix) (hx : a.eval x = .pointer (some ⟨b, f, none⟩)) (hi : a.eval ix = .int K e) [hT : ArrC P T E n s] (hj : e = j) (h1 : j < n)
    (h : wpQuiet P ops C Q rest (a.put o.dst (.pointer (some ⟨b, f + j * s, none⟩)))) : wpQuiet P ops C Q (o :: rest) a := qa_arrAddrS hT.out hj h1 hgd ho hx hi h
theorem iq_field (hgd : o.guard = none) (ho : o.op = .fieldAddr T x i) (hx : a.eval x = .pointer (some ⟨b, f, none⟩)) [hf : FldC P T i k]
    (h : wpQuiet P ops C Q rest (a.put o.dst (.pointer (some ⟨b, f + k, none⟩)))) : wpQuiet P ops C Q (o :: rest) a := wpq_field hgd T x i ho b f hx k hf.out h
theorem iq_conv {S D : TypeId} {k' : IntKind} {e' : Int} (hgd : o.guard = none) (ho : o.op = .convert S D x) (hx : a.eval x = .int K e) [hs : IntC P S K] [hd : IntC P D k'] (hm : k'.wrap e = e')
    (h : wpQuiet P ops C Q rest (a.put o.dst (.int k' e'))) : wpQuiet P ops C Q (o :: rest) a := wpq_conv hgd S D x ho K k' e e' hx (by rw [hs.out]; rfl) hd.out hm h
theorem iq_len {p : Option Addr} (hgd : o.guard = none) (ho : o.op = .call { callee := .builtin .len, args := #[x], argTypes := #[T] }) (hx : a.eval x = .slice p n c) [hT : SlcC P T E s y zs]
    (h : wpQuiet P ops C Q rest (a.put o.dst (.int .i64 n))) : wpQuiet P ops C Q (o :: rest) a := wpq_lenSlice hgd x T ho p n c hx E hT.out.u h
end
section
variable {P : Program} {ops : Array Oper} {rest : List Oper} {o : Oper} {a : Act} {w : World} {Q : Exit → Act → World → Prop} {b f c m j s y : Nat} {T E : TypeId} {x ix : Operand} {zs : List Value} {K : IntKind} {e : Int}
theorem ia_slcP {p : Option Addr} (hp : p = some ⟨b, f, none⟩) (hgd : o.guard = none) (ho : o.op = .indexAddr T x ix) (hx : a.eval x = .slice p m c) (hi : a.eval ix = .int K e) [hT : SlcC P T E s y zs] (hj : e = j) (h1 : j < m)
    (h : wpList P ops Q rest (a.put o.dst (.pointer (some ⟨b, f + j * s, none⟩))) w) : wpList P ops Q (o :: rest) a w := by
  subst hp
  exact wpl_slcAddr hgd T x ix ho b f m c hx K e hi hT.out j hj h1 h
end

/-! ### This program's types -/
instance : OneC Tryz.prog 40 (.int .u16 0) := ⟨tU16⟩
instance : OneC Tryz.prog 2 (.int .i64 0) := ⟨tI64⟩
instance : OneC Tryz.prog 3 (.int .i64 0) := ⟨tInt⟩
instance : OneC Tryz.prog 106 (.int .i8 0) := ⟨tI8⟩
instance : OneC Tryz.prog 4 (.bool false) := ⟨tBool⟩
instance : OneC Tryz.prog 9 (.string ⟨#[]⟩) := ⟨tStr⟩
instance : OneC Tryz.prog 5 (.int .u8 0) := ⟨oneT_of Tryz.underlying5 rfl (by kernel_rfl) rfl⟩
instance : AggC Tryz.prog 42 12 (frv zf) := ⟨tFr.toAggT⟩
instance : AggC Tryz.prog 41 12 (frv zf) := ⟨tRaw.toAggT⟩
instance : ArrC Tryz.prog 42 40 12 1 := ⟨arrS_of Tryz.underlying42 (by kernel_rfl)⟩
instance : ArrC Tryz.prog 41 40 12 1 := ⟨arrS_of Tryz.underlying41 (by kernel_rfl)⟩
instance : BldC Tryz.prog 42 [] (frv zf) := ⟨tFrB⟩
instance : IntC Tryz.prog 2 .i64 := ⟨Tryz.underlying2⟩
instance : IntC Tryz.prog 3 .i64 := ⟨Tryz.underlying3⟩
instance : IntC Tryz.prog 106 .i8 := ⟨Tryz.underlying106⟩
instance : IntC Tryz.prog 40 .u16 := ⟨Tryz.underlying40⟩
instance : AggC Tryz.prog 108 2 [.int .i8 0, .int .i8 0] := ⟨tDot⟩
instance : SlcC Tryz.prog 104 108 2 2 [.int .i8 0, .int .i8 0] := ⟨tDotS⟩
instance : SlcC Tryz.prog 24 42 12 24 (frv zf) := ⟨tFrS⟩
instance : SlcC Tryz.prog 120 40 1 2 [.int .u16 0] := ⟨tU16S⟩
instance : SlcC Tryz.prog 53 9 1 16 [.string ⟨#[]⟩] := ⟨tStrS⟩
end Go.Proofs.YtmfgbkmkcljciaaGreatDoor
/- Slices of elements of several cells: how they lie, made, cut, read at a place; no condition. -/
namespace Go.Proofs.YtmfgbkmkcljciaaGreatDoor
open Go.RowKit
set_option linter.unusedSimpArgs false
set_option linter.unusedVariables false

section
variable {w w1 : World} {b o f : Nat} {cs xs ys : List Value} {T : TypeId} {M : List Nat}
theorem Cl.fore (h : Cl w b o (xs ++ ys)) : Cl w b o xs := ⟨h.1, fun j v hj => h.2 j v (by
  have hjl : j < xs.length := (List.getElem?_eq_some_iff.1 hj).1
  rw [List.getElem?_append_left hjl]; exact hj)⟩
theorem Cl.seg {α : Type} {e : α → List Value} {s : Nat} (hs : ∀ a, (e a).length = s) {l : List α} (h : Cl w b o (encs e l)) {k : Nat} (hk : k < l.length) : Cl w b (o + k * s) (e l[k]) := ⟨h.1, fun j v hj => by
  have hjl : j < s := by rw [← hs l[k]]; exact (List.getElem?_eq_some_iff.1 hj).1
  rw [Nat.add_assoc]
  exact h.2 _ v (by rw [encs_get hs l k hk j hjl, hj])⟩
theorem Cl.zero {v : Value} (h : Cl w b o cs) (hv : cs[0]? = some v) : w.cell? ⟨b, o, none⟩ = some v := h.2 0 v hv
theorem Blk.seg {α : Type} {e : α → List Value} {s : Nat} (hs : ∀ a, (e a).length = s) {l : List α} {sp : List Value} (h : Blk w b (encs e l ++ sp) T) {k : Nat} (hk : k < l.length) : Cl w b (k * s) (e l[k]) := by
  have := (Cl.of h).fore.seg hs hk
  rwa [Nat.zero_add] at this
end
/-- What a slice of n elements shows: cs, from its head on. -/
def Rd (w : World) (p : Option Addr) (n : Nat) (cs : List Value) : Prop := 0 < n → ∃ b f, p = some ⟨b, f, none⟩ ∧ Cl w b f cs
theorem Rd.keep {w w1 : World} {p : Option Addr} {n : Nat} {cs : List Value} (h : Rd w p n cs) (hk : Keep [] w w1) : Rd w1 p n cs := fun hn => by
  obtain ⟨b, f, hp, hc⟩ := h hn
  exact ⟨b, f, hp, hc.keep hk (by simp)⟩
theorem Rd.of {w : World} {b n : Nat} {xs ys : List Value} {T : TypeId} (h : Blk w b (xs ++ ys) T) : Rd w (some ⟨b, 0, none⟩) n xs := fun _ => ⟨b, 0, rfl, (Cl.of h).fore⟩
theorem Rd.of0 {w : World} {b n : Nat} {xs : List Value} {T : TypeId} (h : Blk w b xs T) : Rd w (some ⟨b, 0, none⟩) n xs := fun _ => ⟨b, 0, rfl, Cl.of h⟩
theorem Rd.nil {w : World} {p : Option Addr} {cs : List Value} : Rd w p 0 cs := fun h => absurd h (by omega)

theorem made_flat (z : List Value) (n s : Nat) (hs : z.length = s) : madeCells z.toArray (n * s) = (List.replicate n z).flatten.toArray := by
  by_cases h0 : s = 0
  · subst h0
    have : z = [] := List.eq_nil_of_length_eq_zero hs
    subst this
    have e : (List.replicate n ([] : List Value)).flatten = [] := by simp
    rw [e, Nat.mul_zero]; simp [madeCells, Array.range_zero']
  · apply Array.ext
    · simp [madeCells, hs]
    · intro i h1 h2
      have hi : i < n * s := by simpa [madeCells] using h1
      have hi1 : i % s < s := Nat.mod_lt _ (by omega)
      have key : ∀ (n i : Nat), i < n * s → (List.replicate n z).flatten[i]? = z[i % s]? := by
        intro n
        induction n with
        | zero => intro i hi; omega
        | succ n ih =>
          intro i hi
          rw [List.replicate_succ, List.flatten_cons]
          by_cases hlt : i < s
          · rw [List.getElem?_append_left (by omega), Nat.mod_eq_of_lt hlt]
          · rw [List.getElem?_append_right (by omega), hs, ih (i - s) (by rw [Nat.succ_mul] at hi; omega), Nat.mod_eq_sub_mod (a := i) (by omega)]
      have := key n i hi
      simp only [madeCells, Array.getElem_map, Array.getElem_range, List.getElem_toArray, List.size_toArray, hs]
      rw [List.getElem?_eq_getElem (by simpa using h2), List.getElem?_eq_getElem (by omega)] at this
      injection this with this
      rw [this]
      simp [hs, hi1]

section
variable {P : Program} {ops : Array Oper} {rest : List Oper} {o : Oper} {a : Act} {w w0 : World} {Q : Exit → Act → World → Prop} {M : List Nat} {L L' : List (Nat × List Value × TypeId)}
theorem gate_make {T : TypeId} {x y : Operand} (_ho : o.op = .makeSlice T x y) (h : wpList P ops Q (o :: rest) a w) : wpList P ops Q (o :: rest) a w := h
theorem la_makeSlice {E : TypeId} {s y : Nat} {z : List Value} {T : TypeId} {x x' : Operand} {k k' : IntKind} {i i' : Int} {n : Nat} (hT : SlcT P T E s y z) (hn : i = n) (hn' : i' = n) (hy : n * y ≤ 140737488355328) (h63 : n ≤ 9223372036854775807) (st : St M w0 w L)
    (hgd : o.guard = none) (ho : o.op = .makeSlice T x x') (hx : a.eval x = .int k i) (hx' : a.eval x' = .int k' i')
    (h : ∀ B w1, St M w0 w1 ((B, (List.replicate n z).flatten, E) :: L) → wpList P ops Q rest (a.put o.dst (.slice (some ⟨B, 0, none⟩) n n)) w1) : wpList P ops Q (o :: rest) a w := by
  subst hn
  subst hn'
  obtain ⟨u, v, hi, hs, hy', hz, hc⟩ := hT.i
  have hb : (y : Int) * (n : Int) ≤ 281474976710656 := by
    have h1 : ((n * y : Nat) : Int) ≤ 140737488355328 := by omega
    rw [Int.natCast_mul, Int.mul_comm] at h1
    omega
  have hr := run_make (P := P) w T E u v hT.u hi hz k k' n n (by omega) (by omega) (by rw [hy']; exact hb) (by omega)
  rw [hc, Int.toNat_natCast, hs, made_flat z n s hT.l] at hr
  refine wpList_plain hgd fun K hK => ?_
  unfold Oper.wp execOp
  simp only [ho, hx, hx', Sem.run_bind, Sem.run_pure, Result.andThen_ok, hr]
  exact hK _ _ (h _ _ (st.alloc _ E))
theorem la_slcAddrP {p : Option Addr} {E : TypeId} {s y : Nat} {z : List Value} {T : TypeId} {x ix : Operand} {b f m c : Nat} {k : IntKind} {i : Int} {j : Nat} (hp : p = some ⟨b, f, none⟩) (hT : SlcT P T E s y z) (hj : i = j) (h1 : j < m) (hgd : o.guard = none) (ho : o.op = .indexAddr T x ix) (hx : a.eval x = .slice p m c) (hi : a.eval ix = .int k i)
    (h : wpList P ops Q rest (a.put o.dst (.pointer (some ⟨b, f + j * s, none⟩))) w) : wpList P ops Q (o :: rest) a w := by
  subst hp
  exact wpl_slcAddr hgd T x ix ho b f m c hx k i hi hT j hj h1 h
theorem sliced_zero (P : Program) (a : Option Addr) (h c s : Nat) : sliced a 0 h c s = .slice a h c := by
  cases a with
  | none => simp [sliced]
  | some a => obtain ⟨b, f, m⟩ := a; cases m <;> simp [sliced, Addr.add]
end
section
variable {P : Program} {ops : Array Oper} {rest : List Oper} {o : Oper} {a : Act} {w w0 : World} {Q : Act → Prop} {C : World → Prop} {M : List Nat} {L L' : List (Nat × List Value × TypeId)}
theorem qa_slcAddrP {p : Option Addr} {E : TypeId} {s y : Nat} {z : List Value} {T : TypeId} {x ix : Operand} {b f m c : Nat} {k : IntKind} {i : Int} {j : Nat} (hp : p = some ⟨b, f, none⟩) (hT : SlcT P T E s y z) (hj : i = j) (h1 : j < m) (hgd : o.guard = none) (ho : o.op = .indexAddr T x ix) (hx : a.eval x = .slice p m c) (hi : a.eval ix = .int k i)
    (h : wpQuiet P ops C Q rest (a.put o.dst (.pointer (some ⟨b, f + j * s, none⟩)))) : wpQuiet P ops C Q (o :: rest) a := by
  subst hp
  exact wpq_slcAddr hgd T x ix ho b f m c hx k i hi hT j hj h1 h
theorem qg_slice {T : TypeId} {x : Operand} {l h m : Option Operand} (_ho : o.op = .slice T x l h m) (h : wpQuiet P ops C Q (o :: rest) a) : wpQuiet P ops C Q (o :: rest) a := h
theorem qa_sliceH {E : TypeId} {s y : Nat} {z : List Value} {T : TypeId} {x ih : Operand} {p : Option Addr} {m c : Nat} {k : IntKind} {i : Int} {n : Nat} (hT : SlcT P T E s y z) (hn : i = n) (hc : n ≤ c) (hgd : o.guard = none) (ho : o.op = .slice T x none (some ih) none) (hx : a.eval x = .slice p m c) (hi : a.eval ih = .int k i)
    (h : wpQuiet P ops C Q rest (a.put o.dst (.slice p n c))) : wpQuiet P ops C Q (o :: rest) a := by
  subst hn
  exact wpq_val hgd _ (fun w' _ => by
    have he : P.elem T = E := by unfold Program.elem; rw [hT.u]
    have hr := run_slice_h (P := P) w' T p m c (by rw [he]; exact hT.u) k n (by omega) (by omega)
    rw [he, hT.sizeOf w'] at hr
    simp only [Result.andThen_ok, Int.toNat_natCast, sliced_zero P] at hr
    have hu : P.underlying T = some (.slice (P.elem T)) := by rw [he]; exact hT.u
    unfold execOp
    simp only [ho, hx, hi, Sem.run_bind, Sem.run_pure, Result.andThen_ok, Option.map_some, Option.map_none, run_sliceAt_slice w' T _ _ _ _ hu, hr]) h
end
end Go.Proofs.YtmfgbkmkcljciaaGreatDoor
/- More types of this program; no condition. -/
namespace Go.Proofs.YtmfgbkmkcljciaaGreatDoor
open Go.RowKit
theorem frv_len12 (f : List Nat) (h : f.length = 12) : (frv f).length = 12 := by rw [frv_length, h]
theorem tU8 : OneT Tryz.prog 5 (.int .u8 0) := oneT_of Tryz.underlying5 rfl (by kernel_rfl) rfl
theorem tBook : SlcT Tryz.prog 25 42 12 24 (frv zf) := slcT_of Tryz.underlying25 (.agg (frv zf).toArray) (by kernel_rfl) rfl (by decide) rfl
theorem tI64S : SlcT Tryz.prog 30 2 1 8 [.int .i64 0] := slcT_of Tryz.underlying30 (.int .i64 0) (by kernel_rfl) rfl (by decide) rfl
instance : SlcC Tryz.prog 25 42 12 24 (frv zf) := ⟨tBook⟩
instance : SlcC Tryz.prog 30 2 1 8 [.int .i64 0] := ⟨tI64S⟩
end Go.Proofs.YtmfgbkmkcljciaaGreatDoor
/- The small functions on places and frames: what each answers; no condition. -/
namespace Go.Proofs.YtmfgbkmkcljciaaGreatDoor
open Go.RowKit
set_option linter.unusedSimpArgs false
set_option linter.unusedVariables false

def inB (n lo hi : Int) : Bool := decide (lo ≤ n ∧ n ≤ hi)
theorem inB_yes {n lo hi : Int} (h1 : lo ≤ n) (h2 : n ≤ hi) : inB n lo hi = true := by simp [inB, h1, h2]
theorem inB_no1 {n lo hi : Int} (h1 : ¬ lo ≤ n) : inB n lo hi = false := by simp [inB, h1]
theorem inB_no2 {n lo hi : Int} (h1 : ¬ n ≤ hi) : inB n lo hi = false := by simp [inB, h1]
theorem l00In_c (n lo hi : Int) (w : World) : Calls Tryz.prog 60 #[.int .i64 n, .int .i64 lo, .int .i64 hi] w fun e w' => e = .returned (.bool (inB n lo hi)) ∧ Keep [] w w' := by
  by_cases h1 : lo ≤ n
  · by_cases h2 : n ≤ hi
    · rw [inB_yes h1 h2]
      go_enter Tryz.func60, Tryz.ntmps60
      go_wp2
      go_ret
      exact ⟨by simp [h2], Keep.refl _ _⟩
    · rw [inB_no2 h2]
      go_enter Tryz.func60, Tryz.ntmps60
      go_wp2
      go_ret
      exact ⟨by simp [h2], Keep.refl _ _⟩
  · rw [inB_no1 h1]
    go_enter Tryz.func60, Tryz.ntmps60
    go_wp2
    go_ret
    exact ⟨by simp, Keep.refl _ _⟩
theorem inRange_c (n lo hi : Int) (w : World) : Calls Tryz.prog 56 #[.int .i64 n, .int .i64 lo, .int .i64 hi] w fun e w' => e = .returned (.bool (inB n lo hi)) ∧ Keep [] w w' := by
  by_cases h1 : lo ≤ n
  · by_cases h2 : n ≤ hi
    · rw [inB_yes h1 h2]
      go_enter Tryz.func56, Tryz.ntmps56
      go_wp2
      go_ret
      exact ⟨by simp [h2], Keep.refl _ _⟩
    · rw [inB_no2 h2]
      go_enter Tryz.func56, Tryz.ntmps56
      go_wp2
      go_ret
      exact ⟨by simp [h2], Keep.refl _ _⟩
  · rw [inB_no1 h1]
    go_enter Tryz.func56, Tryz.ntmps56
    go_wp2
    go_ret
    exact ⟨by simp, Keep.refl _ _⟩

/-- x, y is a place. -/
def placeB (x y : Int) : Bool := inB x 0 11 && inB y 0 11
theorem l01Place_c (x y : Int) (w : World) : Calls Tryz.prog 100 #[.int .i64 x, .int .i64 y] w fun e w' => e = .returned (.bool (placeB x y)) ∧ Keep [] w w' := by
  have st := St.start w
  unfold placeB
  by_cases h : inB x 0 11 = true
  · rw [h, Bool.true_and]
    go_enter Tryz.func100, Tryz.ntmps100
    go_wp2_with (first | (go_at_call 60; refine (l00In_c _ _ _ _).mono ?_; rintro _ _ ⟨rfl, hk⟩; replace st := st.call hk; clear hk))
    go_ret
    exact ⟨rfl, st.keep⟩
  · have h' : inB x 0 11 = false := by simpa using h
    rw [h', Bool.false_and]
    clear h
    go_enter Tryz.func100, Tryz.ntmps100
    go_wp2_with (first | (go_at_call 60; refine (l00In_c _ _ _ _).mono ?_; rintro _ _ ⟨rfl, hk⟩; replace st := st.call hk; clear hk))
    go_ret
    exact ⟨rfl, st.keep⟩
theorem isPlace_c (x y : Int) (w : World) : Calls Tryz.prog 90 #[.int .i64 x, .int .i64 y] w fun e w' => e = .returned (.bool (placeB x y)) ∧ Keep [] w w' := by
  have st := St.start w
  unfold placeB
  by_cases h : inB x 0 11 = true
  · rw [h, Bool.true_and]
    go_enter Tryz.func90, Tryz.ntmps90
    go_wp2_with (first | (go_at_call 56; refine (inRange_c _ _ _ _).mono ?_; rintro _ _ ⟨rfl, hk⟩; replace st := st.call hk; clear hk))
    go_ret
    exact ⟨rfl, st.keep⟩
  · have h' : inB x 0 11 = false := by simpa using h
    rw [h', Bool.false_and]
    clear h
    go_enter Tryz.func90, Tryz.ntmps90
    go_wp2_with (first | (go_at_call 56; refine (inRange_c _ _ _ _).mono ?_; rintro _ _ ⟨rfl, hk⟩; replace st := st.call hk; clear hk))
    go_ret
    exact ⟨rfl, st.keep⟩

/-! ### The frame's own tests and copies -/
theorem l01Ok_c (f : List Nat) (hf : f.length = 12) (b o : Nat) (w : World) (hb : Cl w b o (frv f)) :
    Calls Tryz.prog 73 #[.pointer (some ⟨b, o, none⟩)] w fun e w' => e = .returned (.bool (okB f)) ∧ Keep [] w w' := by
  have st := St.start w
  go_enter Tryz.func73, Tryz.ntmps73
  go_wp2_with fail
  go_loopw [3] (fun i wr => ∃ k : Nat, k ≤ 12 ∧ i = .int .i64 k ∧ (∀ y, y < k → ro f y ≤ 4095) ∧ St [] w wr []) (fun i _ => 12 - (intOf i).toNat)
  case atStart => exact ⟨0, by omega, rfl, by omega, st⟩
  case round =>
    clear st
    obtain ⟨k, hk, rfl, hle, st⟩ := hrel
    have HL := hid hle
    clear hle
    by_cases hlt : k < 12
    · by_cases hbig : 4095 < ro f k
      · go_wp2_with (first | ((with_reducible refine gate_addr rfl ?_); refine wpl_indexAddr rfl _ _ rfl _ _ rfl _ _ rfl tFr k rfl hlt ?_) | ((with_reducible refine gate_load rfl ?_); refine wpl_load1 rfl _ _ rfl _ rfl tU16 _ ((hb.keep st.keep (by simp)).cellv (frv_get _ _ (by omega))) ?_))
        go_ret
        exact ⟨by rw [okB_not hbig]; rfl, st.keep⟩
      · go_wp2_with (first | ((with_reducible refine gate_addr rfl ?_); refine wpl_indexAddr rfl _ _ rfl _ _ rfl _ _ rfl tFr k rfl hlt ?_) | ((with_reducible refine gate_load rfl ?_); refine wpl_load1 rfl _ _ rfl _ rfl tU16 _ ((hb.keep st.keep (by simp)).cellv (frv_get _ _ (by omega))) ?_))
        go_roundw
        case rel =>
          refine ⟨k + 1, by omega, by go_num, fun y hy => ?_, st⟩
          by_cases e : y = k
          · subst e; omega
          · exact HL.out y (by omega)
        case measure => simp [intOf]; omega
    · obtain rfl : k = 12 := by omega
      go_wp2_with fail
      go_ret
      exact ⟨by rw [okB_of (fun y hy => HL.out y (by omega))]; rfl, st.keep⟩

theorem fill_step (f : List Nat) (hf : f.length = 12) (k : Nat) (hk : k < 12) : (f.take k ++ List.replicate (12 - k) 0).set k (ro f k) = f.take (k + 1) ++ List.replicate (12 - (k + 1)) 0 := by
  have hl : (f.take k).length = k := by rw [List.length_take]; omega
  rw [List.set_append_right _ _ (by omega), hl, Nat.sub_self, show 12 - k = (12 - (k + 1)) + 1 by omega, List.replicate_succ, List.set_cons_zero, List.take_succ_eq_append_getElem (by omega), ro_get _ _ (by omega), List.append_assoc]
  rfl
theorem bigRow_c (r : Nat) (w : World) : Calls Tryz.prog 99 #[.int .u16 r] w fun e w' => e = .returned (.bool (decide (4095 < r))) ∧ Keep [] w w' := by
  go_enter Tryz.func99, Tryz.ntmps99
  go_wp2_with fail
  go_ret
  exact ⟨by simp; omega, Keep.refl _ _⟩
def IdxPost (f : List Nat) (w : World) (e : Ending) (w' : World) : Prop := ∃ i : Int, e = .returned (.int .i64 i) ∧ (okB f = true → i = -1) ∧ (okB f = false → 0 ≤ i) ∧ Keep [] w w'
theorem indexFuncRow_c (f : List Nat) (hf : f.length = 12) (b : Nat) (w : World) (hb : Cl w b 0 (frv f)) :
    Calls Tryz.prog 108 #[.slice (some ⟨b, 0, none⟩) 12 12, .func (.func 99) #[] #[]] w (IdxPost f w) := by
  have st := St.start w
  go_enter Tryz.func108, Tryz.ntmps108
  go_wp2_with fail
  go_loopw [8] (fun i wr => ∃ k : Nat, k ≤ 12 ∧ i = .int .i64 k ∧ (∀ y, y < k → ro f y ≤ 4095) ∧ St [] w wr []) (fun i _ => 12 - (intOf i).toNat)
  case atStart => exact ⟨0, by omega, rfl, by omega, st⟩
  case round =>
    clear st
    obtain ⟨k, hk, rfl, hle, st⟩ := hrel
    have HL := hid hle
    clear hle
    by_cases hlt : k < 12
    · by_cases hbig : 4095 < ro f k
      · have hd : decide (4095 < ro f k) = true := by simpa using hbig
        go_wp2_with (first | ((with_reducible refine gate_addr rfl ?_); refine wpl_slcAddr0 rfl _ _ rfl _ _ _ rfl _ _ rfl tU16S k rfl hlt ?_) | ((with_reducible refine gate_load rfl ?_); refine wpl_load1 rfl _ _ rfl _ rfl tU16 _ ((hb.keep st.keep (by simp)).cellv0 (frv_get _ _ (by omega))) ?_) | (go_at_call 99; refine (bigRow_c _ _).mono ?_; rintro _ _ ⟨rfl, hk⟩; replace st := st.call hk; clear hk))
        go_ret
        exact ⟨k, rfl, fun h => (by rw [okB_not hbig] at h; cases h), fun _ => (by omega), st.keep⟩
      · have hd : decide (4095 < ro f k) = false := by simpa using hbig
        go_wp2_with (first | ((with_reducible refine gate_addr rfl ?_); refine wpl_slcAddr0 rfl _ _ rfl _ _ _ rfl _ _ rfl tU16S k rfl hlt ?_) | ((with_reducible refine gate_load rfl ?_); refine wpl_load1 rfl _ _ rfl _ rfl tU16 _ ((hb.keep st.keep (by simp)).cellv0 (frv_get _ _ (by omega))) ?_) | (go_at_call 99; refine (bigRow_c _ _).mono ?_; rintro _ _ ⟨rfl, hk⟩; replace st := st.call hk; clear hk))
        go_roundw
        case rel =>
          refine ⟨k + 1, by omega, by go_num, fun y hy => ?_, st⟩
          by_cases e : y = k
          · subst e; omega
          · exact HL.out y (by omega)
        case measure => simp [intOf]; omega
    · obtain rfl : k = 12 := by omega
      go_wp2_with fail
      go_ret
      exact ⟨-1, rfl, fun _ => rfl, fun h => (by rw [okB_of (fun y hy => HL.out y (by omega))] at h; cases h), st.keep⟩
theorem containsRow_c (f : List Nat) (hf : f.length = 12) (b : Nat) (w : World) (hb : Cl w b 0 (frv f)) :
    Calls Tryz.prog 98 #[.slice (some ⟨b, 0, none⟩) 12 12, .func (.func 99) #[] #[]] w fun e w' => e = .returned (.bool (!okB f)) ∧ Keep [] w w' := by
  have st := St.start w
  by_cases h : okB f = true
  · rw [h]
    go_enter Tryz.func98, Tryz.ntmps98
    go_wp2_with (go_at_call 108; refine (indexFuncRow_c f hf b _ hb).mono ?_; rintro _ _ ⟨i, rfl, h1, h2, hk⟩; replace st := st.call hk; obtain rfl := h1 h; clear h1 h2 hk)
    go_ret
    exact ⟨rfl, st.keep⟩
  · have h' : okB f = false := by simpa using h
    clear h
    rw [h']
    go_enter Tryz.func98, Tryz.ntmps98
    go_wp2_with (go_at_call 108; refine (indexFuncRow_c f hf b _ hb).mono ?_; rintro _ _ ⟨i, rfl, h1, h2, hk⟩; replace st := st.call hk; have h3 := h2 h'; clear h1 h2 hk)
    go_ret
    exact ⟨by simp [*], st.keep⟩
theorem ValidFrame_c (f : List Nat) (hf : f.length = 12) (w : World) :
    Calls Tryz.prog 79 #[.agg (frv f).toArray] w fun e w' => e = .returned (.bool (okB f)) ∧ Keep [] w w' := by
  have st := St.start w
  go_enter Tryz.func79, Tryz.ntmps79
  go_wp2_with (first | ((with_reducible refine gate_box rfl ?_); refine wpl_box rfl _ _ rfl _ rfl _ rfl st ?_; clear st; intro B1 _ st) | (go_at_call 98; refine (containsRow_c f hf _ _ (.of (st.get .here))).mono ?_; rintro _ _ ⟨rfl, hk⟩; replace st := st.call hk; clear hk))
  go_ret
  exact ⟨by simp, st.keep⟩
end Go.Proofs.YtmfgbkmkcljciaaGreatDoor
/- The laws' own helpers on books: copied, compared, marked and looked at again; no condition. -/
namespace Go.Proofs.YtmfgbkmkcljciaaGreatDoor
open Go.RowKit
set_option linter.unusedSimpArgs false
set_option linter.unusedVariables false

def fil : Fm := ⟨60201 :: List.replicate 11 0, rfl, by simp⟩
theorem built_fil : Tryz.prog.built 42 [(0, .int .u16 60201)] = some (fv fil).toArray := by kernel_rfl
/-- A copied book and the room behind it. -/
def bkC (B : List Fm) : List Fm := B ++ List.replicate (roomN B.length) fil
theorem bkC_length (B : List Fm) : (bkC B).length = B.length + roomN B.length := by simp [bkC]
/-- What a maker of books hands back: a block of its own. -/
def BkOut (B : List Fm) (n cap : Nat) (w : World) (e : Ending) (w' : World) : Prop := ∃ g, e = .returned (.slice (some ⟨g, 0, none⟩) n cap) ∧ w.heap.size ≤ g ∧ Blk w' g (encs fv B) 42 ∧ Keep [] w w'
theorem out_of {w w1 : World} {L : List (Nat × List Value × TypeId)} {g : Nat} {cs : List Value} {E : TypeId} (st : St [] w w1 L) (h : At g cs E L) : w.heap.size ≤ g := by
  rcases st.ge _ h.mem with h | h
  · exact h
  · cases h
theorem Rd.bk {w : World} {g n : Nat} {B : List Fm} {T : TypeId} (h : Blk w g (encs fv (bkC B)) T) : Rd w (some ⟨g, 0, none⟩) n (encs fv B) := by
  unfold bkC at h
  rw [encs_append] at h
  exact .of h
end Go.Proofs.YtmfgbkmkcljciaaGreatDoor
/- Frames compared by ==; no condition. -/
namespace Go.Proofs.YtmfgbkmkcljciaaGreatDoor
open Go.RowKit
set_option linter.unusedSimpArgs false
set_option linter.unusedVariables false

def eqCells (d : Nat) (E : TypeId) (n : Nat) (xs ys : Array Value) : List Nat → Sem Bool
  | [] => pure true
  | i :: l => do
    let a ← Go.part E xs (i * n)
    let b ← Go.part E ys (i * n)
    let r ← Op.equalIn d E a b
    if (!r) = true then pure false else eqCells d E n xs ys l
section
variable {P : Program} (w : World)
theorem run_equalIn_arr (d : Nat) {T E : TypeId} {n m : Nat} (xs ys : Array Value) (ht : P.underlying T = some (.array m E)) (hs : ∀ w, (sizeOf E).run P w = .ok n w) :
    (Op.equalIn (d + 1) T (.agg xs) (.agg ys)).run P w = (eqCells d E n xs ys (List.range' 0 m)).run P w := by
  simp only [Op.equalIn, Sem.run_bind, run_underlying ht, Result.andThen_ok, hs]
  rw [Std.Legacy.Range.forIn_eq_forIn_range']
  simp only [Std.Legacy.Range.size, Nat.sub_zero, Nat.add_sub_cancel, Nat.div_one]
  generalize List.range' 0 m = l
  induction l generalizing w with
  | nil => simp [eqCells]
  | cons f fs ih =>
    simp only [List.forIn_cons, eqCells, Sem.run_bind, Sem.run_ite]
    generalize (Go.part E xs (f * n)).run P w = r1
    cases r1 with
    | ok a w1 =>
      simp only [Result.andThen_ok]
      generalize (Go.part E ys (f * n)).run P w1 = r2
      cases r2 with
      | ok b w2 =>
        simp only [Result.andThen_ok]
        generalize (Op.equalIn d E a b).run P w2 = r3
        cases r3 with
        | ok r w3 =>
          cases r
          · simp only [Result.andThen_ok, Bool.not_false, if_true, Sem.run_pure]
          · simp only [Result.andThen_ok, Bool.not_true, Bool.false_eq_true, if_false, Sem.run_pure]
            exact ih w3
        | halt x w3 => simp [Result.andThen]
      | halt x w2 => simp [Result.andThen]
    | halt x w1 => simp [Result.andThen]
theorem run_eqCells_u16 (d : Nat) {E : TypeId} (hE : OneT P E (.int .u16 0)) (hu : P.underlying E = some (.int .u16)) (f g : List Nat) (hl : f.length = g.length) : ∀ (m k : Nat), k + m = f.length →
    (eqCells (d + 1) E 1 (frv f).toArray (frv g).toArray (List.range' k m)).run P w = .ok (decide (f.drop k = g.drop k)) w
  | 0, k, hk => by
    rw [List.drop_of_length_le (by omega), List.drop_of_length_le (by omega)]
    simp [eqCells]
  | m + 1, k, hk => by
    have h1 : k < f.length := by omega
    have h2 : k < g.length := by omega
    have e1 : (frv f).toArray[k * 1]? = some (.int .u16 (f[k] : Nat)) := by rw [Nat.mul_one]; simp [frv, h1]
    have e2 : (frv g).toArray[k * 1]? = some (.int .u16 (g[k] : Nat)) := by rw [Nat.mul_one]; simp [frv, h2]
    rw [List.range'_succ]
    simp only [eqCells, Sem.run_bind, Go.part, hE.isAgg w, Result.andThen_ok, Bool.false_eq_true, if_false, e1, e2, Sem.run_pure, run_equalIn_int w d E .u16 .u16 _ _ hu, Sem.run_ite]
    have hd : decide (f.drop k = g.drop k) = (decide (f[k] = g[k]) && decide (f.drop (k + 1) = g.drop (k + 1))) := by
      rw [List.drop_eq_getElem_cons h1, List.drop_eq_getElem_cons h2, Bool.eq_iff_iff]
      simp only [decide_eq_true_eq, Bool.and_eq_true, List.cons.injEq]
    rw [hd]
    by_cases e : f[k] = g[k]
    · rw [run_eqCells_u16 d hE hu f g hl m (k + 1) (by omega)]
      simp [e]
    · have e' : ((f[k] : Int) == (g[k] : Int)) = false := by rw [beq_eq_false_iff_ne]; omega
      simp [e, e']
end
theorem run_eqF {w : World} (x y : Fm) : (binOp .eql 42 (.agg (fv x).toArray) (.agg (fv y).toArray)).run Tryz.prog w = .ok (.bool (decide (x = y))) w := by
  rw [run_eql_struct, run_equalIn_arr w 9999 _ _ tFr.a tFr.e.sizeOf, fv, fv, run_eqCells_u16 w 9998 tU16 Tryz.underlying40 x.1 y.1 (by rw [x.2.len, y.2.len]) 12 0 (by rw [x.2.len])]
  simp [Subtype.ext_iff]
theorem run_neF {w : World} (x y : Fm) : (binOp .neq 42 (.agg (fv x).toArray) (.agg (fv y).toArray)).run Tryz.prog w = .ok (.bool (!decide (x = y))) w := by
  rw [run_neq_struct, run_equalIn_arr w 9999 _ _ tFr.a tFr.e.sizeOf, fv, fv, run_eqCells_u16 w 9998 tU16 Tryz.underlying40 x.1 y.1 (by rw [x.2.len, y.2.len]) 12 0 (by rw [x.2.len])]
  simp [Subtype.ext_iff]
theorem noGuardF : Tryz.prog.eqGuardType Tryz.prog.depth 42 = false := by kernel_rfl
section
variable {ops : Array Oper} {rest : List Oper} {o : Oper} {a : Act} {w : World}
theorem exec_eqF {b : BinOp} (hb : b = .eql ∨ b = .neq) {x y : Operand} {U : TypeId} {X Y : Fm} (ho : o.op = .binOp b 42 x y U) (hx : a.eval x = .agg (fv X).toArray) (hy : a.eval y = .agg (fv Y).toArray) :
    (execOp a.eval o).run Tryz.prog w = .ok (.value (.bool (if b = .eql then decide (X = Y) else !decide (X = Y)))) w := by
  unfold execOp
  rcases hb with rfl | rfl
  · simp only [ho, hx, hy, Sem.run_bind, run_eqGuard_agg _ _ _ _ _ _ _ noGuardF, run_eqF, Result.andThen_ok, Sem.run_pure, if_true]
  · simp only [ho, hx, hy, Sem.run_bind, run_eqGuard_agg _ _ _ _ _ _ _ noGuardF, run_neF, Result.andThen_ok, Sem.run_pure, reduceCtorEq, if_false]
end
section
variable {ops : Array Oper} {rest : List Oper} {o : Oper} {a : Act} {w : World} {Q : Exit → Act → World → Prop}
theorem gate_eq {P : Program} {T U : TypeId} {x y : Operand} (_ho : o.op = .binOp .eql T x y U) (h : wpList P ops Q (o :: rest) a w) : wpList P ops Q (o :: rest) a w := h
theorem gate_ne {P : Program} {T U : TypeId} {x y : Operand} (_ho : o.op = .binOp .neq T x y U) (h : wpList P ops Q (o :: rest) a w) : wpList P ops Q (o :: rest) a w := h
theorem la_eqF {x y : Operand} {U : TypeId} {X Y : Fm} (hgd : o.guard = none) (ho : o.op = .binOp .eql 42 x y U) (hx : a.eval x = .agg (fv X).toArray) (hy : a.eval y = .agg (fv Y).toArray)
    (h1 : X = Y → wpList Tryz.prog ops Q rest (a.put o.dst (.bool true)) w) (h0 : X ≠ Y → wpList Tryz.prog ops Q rest (a.put o.dst (.bool false)) w) : wpList Tryz.prog ops Q (o :: rest) a w := by
  have hr := exec_eqF (w := w) (Or.inl rfl) ho hx hy
  by_cases e : X = Y
  · exact wpl_val hgd (.bool true) (by rw [hr]; simp [e]) (h1 e)
  · exact wpl_val hgd (.bool false) (by rw [hr]; simp [e]) (h0 e)
theorem la_neF {x y : Operand} {U : TypeId} {X Y : Fm} (hgd : o.guard = none) (ho : o.op = .binOp .neq 42 x y U) (hx : a.eval x = .agg (fv X).toArray) (hy : a.eval y = .agg (fv Y).toArray)
    (h1 : X = Y → wpList Tryz.prog ops Q rest (a.put o.dst (.bool false)) w) (h0 : X ≠ Y → wpList Tryz.prog ops Q rest (a.put o.dst (.bool true)) w) : wpList Tryz.prog ops Q (o :: rest) a w := by
  have hr := exec_eqF (w := w) (Or.inr rfl) ho hx hy
  by_cases e : X = Y
  · exact wpl_val hgd (.bool false) (by rw [hr]; simp [e]) (h1 e)
  · exact wpl_val hgd (.bool true) (by rw [hr]; simp [e]) (h0 e)
end
section
variable {ops : Array Oper} {rest : List Oper} {o : Oper} {a : Act} {Q : Act → Prop} {C : World → Prop}
theorem qgate_eq {P : Program} {T U : TypeId} {x y : Operand} (_ho : o.op = .binOp .eql T x y U) (h : wpQuiet P ops C Q (o :: rest) a) : wpQuiet P ops C Q (o :: rest) a := h
theorem qgate_ne {P : Program} {T U : TypeId} {x y : Operand} (_ho : o.op = .binOp .neq T x y U) (h : wpQuiet P ops C Q (o :: rest) a) : wpQuiet P ops C Q (o :: rest) a := h
theorem qa_eqF {x y : Operand} {U : TypeId} {X Y : Fm} (hgd : o.guard = none) (ho : o.op = .binOp .eql 42 x y U) (hx : a.eval x = .agg (fv X).toArray) (hy : a.eval y = .agg (fv Y).toArray)
    (h1 : X = Y → wpQuiet Tryz.prog ops C Q rest (a.put o.dst (.bool true))) (h0 : X ≠ Y → wpQuiet Tryz.prog ops C Q rest (a.put o.dst (.bool false))) : wpQuiet Tryz.prog ops C Q (o :: rest) a := by
  by_cases e : X = Y
  · exact wpq_val hgd (.bool true) (fun w' _ => by rw [exec_eqF (w := w') (Or.inl rfl) ho hx hy]; simp [e]) (h1 e)
  · exact wpq_val hgd (.bool false) (fun w' _ => by rw [exec_eqF (w := w') (Or.inl rfl) ho hx hy]; simp [e]) (h0 e)
theorem qa_neF {x y : Operand} {U : TypeId} {X Y : Fm} (hgd : o.guard = none) (ho : o.op = .binOp .neq 42 x y U) (hx : a.eval x = .agg (fv X).toArray) (hy : a.eval y = .agg (fv Y).toArray)
    (h1 : X = Y → wpQuiet Tryz.prog ops C Q rest (a.put o.dst (.bool false))) (h0 : X ≠ Y → wpQuiet Tryz.prog ops C Q rest (a.put o.dst (.bool true))) : wpQuiet Tryz.prog ops C Q (o :: rest) a := by
  by_cases e : X = Y
  · exact wpq_val hgd (.bool false) (fun w' _ => by rw [exec_eqF (w := w') (Or.inr rfl) ho hx hy]; simp [e]) (h1 e)
  · exact wpq_val hgd (.bool true) (fun w' _ => by rw [exec_eqF (w := w') (Or.inr rfl) ho hx hy]; simp [e]) (h0 e)
end
end Go.Proofs.YtmfgbkmkcljciaaGreatDoor
/- Dots put, joined and told: the small functions on frames that write; no condition. -/
namespace Go.Proofs.YtmfgbkmkcljciaaGreatDoor
open Go.RowKit
set_option linter.unusedSimpArgs false
set_option linter.unusedVariables false

theorem u16_wrap {n : Int} (h0 : 0 ≤ n) (h1 : n < 65536) : IntKind.u16.wrap n = n := by
  simp [IntKind.wrap, IntKind.bits, IntKind.signed]; omega
theorem bits_u16 (op : BinOp) (a b : Nat) (ha : a < 65536) (hb : b < 65536) (r : Nat) (hr : r < 65536)
    (h : (match op with | .and => BitVec.ofNat 16 a &&& BitVec.ofNat 16 b | .or => BitVec.ofNat 16 a ||| BitVec.ofNat 16 b | .xor => BitVec.ofNat 16 a ^^^ BitVec.ofNat 16 b | _ => BitVec.ofNat 16 a &&& ~~~BitVec.ofNat 16 b).toNat = r) : bits op .u16 a b = r := by
  have e1 : BitVec.ofInt IntKind.u16.bits (a : Int) = BitVec.ofNat 16 a := by simp [IntKind.bits]
  have e2 : BitVec.ofInt IntKind.u16.bits (b : Int) = BitVec.ofNat 16 b := by simp [IntKind.bits]
  unfold bits
  simp only [e1, e2]
  exact (congrArg (fun n : Nat => IntKind.u16.wrap (n : Int)) h).trans (u16_wrap (by omega) (by omega))
theorem or_u16 (a b : Nat) (ha : a < 65536) (hb : b < 65536) : bits .or .u16 a b = ((a ||| b : Nat) : Int) :=
  bits_u16 .or a b ha hb _ (Nat.or_lt_two_pow (n := 16) ha hb) (by simp [Nat.mod_eq_of_lt ha, Nat.mod_eq_of_lt hb])
theorem and_u16 (a b : Nat) (ha : a < 65536) (hb : b < 65536) : bits .and .u16 a b = ((a &&& b : Nat) : Int) :=
  bits_u16 .and a b ha hb _ (Nat.and_lt_two_pow (n := 16) a hb) (by simp [Nat.mod_eq_of_lt ha, Nat.mod_eq_of_lt hb])
theorem xor_u16 (a b : Nat) (ha : a < 65536) (hb : b < 65536) : bits .xor .u16 a b = ((a ^^^ b : Nat) : Int) :=
  bits_u16 .xor a b ha hb _ (Nat.xor_lt_two_pow (n := 16) ha hb) (by simp [Nat.mod_eq_of_lt ha, Nat.mod_eq_of_lt hb])
/-- a without the bits of b. -/
def andNot (a b : Nat) : Nat := a &&& (65535 - b)
theorem andNot_lt (a b : Nat) : andNot a b < 65536 := Nat.and_lt_two_pow (n := 16) a (by omega)
theorem andNot_u16 (a b : Nat) (ha : a < 65536) (hb : b < 65536) : bits .andNot .u16 a b = ((andNot a b : Nat) : Int) :=
  bits_u16 .andNot a b ha hb _ (andNot_lt a b) (by simp [andNot, Nat.mod_eq_of_lt ha, Nat.mod_eq_of_lt hb, BitVec.toNat_not])
theorem testBit_andNot (a b i : Nat) (hb : b < 65536) (hi : i < 16) : (andNot a b).testBit i = (a.testBit i && !b.testBit i) := by
  unfold andNot
  rw [Nat.testBit_and]
  congr 1
  have := Nat.testBit_two_pow_sub_succ (n := 16) hb i
  rw [show (2 : Nat) ^ 16 - (b + 1) = 65535 - b by omega] at this
  rw [this]; simp [hi]

theorem shl_one {x : Nat} (hx : x < 12) : IntKind.u16.wrap (1 * 2 ^ x) = ((2 ^ x : Nat) : Int) := by
  rw [Int.one_mul]
  have h : (2 : Nat) ^ x ≤ 2 ^ 11 := Nat.pow_le_pow_right (by omega) (by omega)
  have e : ((2 : Int) ^ x) = ((2 ^ x : Nat) : Int) := by simp
  rw [e]
  generalize 2 ^ x = n at h ⊢
  exact u16_wrap (by omega) (by omega)
theorem two_pow_lt {x : Nat} (hx : x < 12) : 2 ^ x < 65536 := by
  have h : (2 : Nat) ^ x ≤ 2 ^ 11 := Nat.pow_le_pow_right (by omega) (by omega)
  omega
theorem conv_u64 {x : Nat} (hx : x < 12) : IntKind.u64.wrap (x : Int) = (x : Int) := by
  simp [IntKind.wrap, IntKind.bits, IntKind.signed]; omega

section
variable {P : Program} {T : TypeId}
theorem run_shl1 {k : IntKind} {x : Nat} (hx : x < 12) (w : World) : (binOp .shl T (.int .u16 1) (.int k (x : Int))).run P w = .ok (.int .u16 ((2 ^ x : Nat) : Int)) w := by
  rw [binOp_shl, shift_shl_u16 k 1 (x : Int) (by omega) (by omega), Int.toNat_natCast, shl_one hx]; rfl
theorem run_or {a b : Nat} (ha : a < 65536) (hb : b < 65536) (w : World) : (binOp .or T (.int .u16 a) (.int .u16 b)).run P w = .ok (.int .u16 ((a ||| b : Nat) : Int)) w := by
  rw [binOp_or, intBits_or, or_u16 a b ha hb]; rfl
theorem run_and {a b : Nat} (ha : a < 65536) (hb : b < 65536) (w : World) : (binOp .and T (.int .u16 a) (.int .u16 b)).run P w = .ok (.int .u16 ((a &&& b : Nat) : Int)) w := by
  rw [binOp_and, intBits_and, and_u16 a b ha hb]; rfl
theorem run_xor {a b : Nat} (ha : a < 65536) (hb : b < 65536) (w : World) : (binOp .xor T (.int .u16 a) (.int .u16 b)).run P w = .ok (.int .u16 ((a ^^^ b : Nat) : Int)) w := by
  rw [binOp_xor, intBits_xor, xor_u16 a b ha hb]; rfl
theorem run_andNot {a b : Nat} (ha : a < 65536) (hb : b < 65536) (w : World) : (binOp .andNot T (.int .u16 a) (.int .u16 b)).run P w = .ok (.int .u16 ((andNot a b : Nat) : Int)) w := by
  rw [binOp_andNot, intBits_andNot, andNot_u16 a b ha hb]; rfl
end

theorem placeB_nat {x y : Nat} (hx : x < 12) (hy : y < 12) : placeB x y = true := by
  simp [placeB, inB]; omega
theorem placeB_iff {x y : Int} : placeB x y = true ↔ 0 ≤ x ∧ x < 12 ∧ 0 ≤ y ∧ y < 12 := by
  simp [placeB, inB]; omega
/-- A dot is put, if there is such a place. -/
def putI (f : List Nat) (x y : Int) : List Nat := if placeB x y = true then withD f x.toNat y.toNat else f
set_option maxRecDepth 100000 in
theorem l01Put_in (f : List Nat) (ok : FrOk f) (b : Nat) (T : TypeId) (x y : Nat) (hx : x < 12) (hy : y < 12) (w : World) (hb : Blk w b (frv f) T) :
    Calls Tryz.prog 81 #[.pointer (some ⟨b, 0, none⟩), .int .i64 x, .int .i64 y] w fun e w' => e = .returned (.tuple #[]) ∧ Keep [b] w w' ∧ Blk w' b (frv (withD f x y)) T := by
  have hf := ok.len
  have st := St.start1 hb
  have hp := placeB_nat hx hy
  have hb1 := ok.ro_lt y
  have hcv := hid (conv_u64 hx)
  go_enter Tryz.func81, Tryz.ntmps81
  go_wp2_with (first | (go_at_call 100; refine (l01Place_c _ _ _).mono ?_; rintro _ _ ⟨rfl, hk⟩; replace st := st.call hk; clear hk))
  (refine wp_region_tail_st st 13 (by kernel_rfl) (by kernel_rfl) ?_; clear st; simp only [List.take_succ_cons, List.take_zero, List.drop_succ_cons, List.drop_zero]; (repeat ((first | (refine wpq_move rfl _ rfl _ rfl ?_) | (refine wpq_nil rfl _ rfl _ rfl ?_) | ((with_reducible refine qgate_addr rfl ?_); refine wpq_indexAddr0 rfl _ _ _ rfl _ rfl _ _ rfl tFr y rfl hy ?_) | ((with_reducible refine qgate_load rfl ?_); refine wpq_load1 rfl _ _ rfl _ rfl tU16 _ (fun _ hw => (hw.get (by repeat (first | exact At.here | apply At.there))).cellv (frv_get _ _ (by omega))) ?_) | ((with_reducible refine qgate_conv rfl ?_); refine wpq_conv rfl _ _ _ rfl _ _ _ _ rfl rfl (by kernel_rfl) hcv.out ?_) | ((with_reducible refine qgate_dst (N := 18) rfl ?_); ((with_reducible refine qgate_bin rfl ?_); refine wpq_bin rfl _ _ _ _ _ rfl _ _ _ _ rfl rfl (.int .u16 ((2 ^ x : Nat) : Int)) (fun w' => run_shl1 hx w') ?_)) | ((with_reducible refine qgate_dst (N := 19) rfl ?_); ((with_reducible refine qgate_bin rfl ?_); refine wpq_bin rfl _ _ _ _ _ rfl _ _ _ _ rfl rfl (.int .u16 ((ro f y ||| 2 ^ x : Nat) : Int)) (fun w' => run_or hb1 (two_pow_lt hx) w') ?_))); (simp only [Act.put, Act.eval, Array.getD_eq_getD_getElem?, List.getElem?_toArray, List.getElem?_cons_succ, List.getElem?_cons_zero, Option.getD_some, List.setIfInBounds_toArray, List.set_cons_succ, List.set_cons_zero, List.getElem_toArray, List.getElem_cons_succ, List.getElem_cons_zero]))); refine wpQuiet_nil ?_; intro _ st)
  go_wp2_with (first | ((with_reducible refine gate_store rfl ?_); refine wpl_store1 rfl _ _ _ rfl _ _ rfl (.int .u16 _) rfl tU16 rfl rfl st _ _ (by repeat (first | exact Upd.here | apply Upd.there)) (by rw [frv_length]; omega) ?_; rw [frv_set];clear st; intro _ st))
  go_end0
  exact ⟨rfl, st.keep1⟩
theorem l01Put_c (f : List Nat) (ok : FrOk f) (b : Nat) (T : TypeId) (x y : Int) (w : World) (hb : Blk w b (frv f) T) :
    Calls Tryz.prog 81 #[.pointer (some ⟨b, 0, none⟩), .int .i64 x, .int .i64 y] w fun e w' => e = .returned (.tuple #[]) ∧ Keep [b] w w' ∧ Blk w' b (frv (putI f x y)) T := by
  by_cases hp : placeB x y = true
  · obtain ⟨h1, h2, h3, h4⟩ := placeB_iff.1 hp
    have := l01Put_in f ok b T x.toNat y.toNat (by omega) (by omega) w hb
    rw [Int.toNat_of_nonneg h1, Int.toNat_of_nonneg h3] at this
    unfold putI
    rw [if_pos hp]
    exact this
  · have hp' : placeB x y = false := by simpa using hp
    have st := St.start1 hb
    unfold putI
    rw [if_neg hp]
    clear hp
    go_enter Tryz.func81, Tryz.ntmps81
    go_wp2_with (first | (go_at_call 100; refine (l01Place_c _ _ _).mono ?_; rintro _ _ ⟨rfl, hk⟩; replace st := st.call hk; clear hk))
    go_end0
    exact ⟨rfl, st.keep1⟩

theorem with_c (f : List Nat) (ok : FrOk f) (x y : Nat) (hx : x < 12) (hy : y < 12) (w : World) :
    Calls Tryz.prog 89 #[.agg (frv f).toArray, .int .i64 x, .int .i64 y] w fun e w' => e = .returned (.agg (frv (withD f x y)).toArray) ∧ Keep [] w w' := by
  have hf := ok.len
  have hl := withD_length f x y
  have st := St.start w
  have hb1 := ok.ro_lt y
  go_enter Tryz.func89, Tryz.ntmps89
  go_wp2_with (first | ((with_reducible refine gate_box rfl ?_); refine wpl_box rfl _ _ rfl _ rfl _ rfl st ?_; clear st; intro _ _ st) | ((with_reducible refine gate_alloc rfl ?_); refine wpl_alloc rfl _ rfl tFr.toAggT st ?_; clear st; intro _ _ st))
  (refine wp_region_tail_st st 7 (by kernel_rfl) (by kernel_rfl) ?_; clear st; simp only [List.take_succ_cons, List.take_zero, List.drop_succ_cons, List.drop_zero]; (repeat ((first | (refine wpq_move rfl _ rfl _ rfl ?_) | ((with_reducible refine qgate_addr rfl ?_); refine wpq_indexAddr0 rfl _ _ _ rfl _ rfl _ _ rfl tFr y rfl hy ?_) | ((with_reducible refine qgate_load rfl ?_); refine wpq_load1 rfl _ _ rfl _ rfl tU16 _ (fun _ hw => (hw.get (by repeat (first | exact At.here | apply At.there))).cellv (frv_get _ _ (by omega))) ?_) | ((with_reducible refine qgate_dst (N := 11) rfl ?_); ((with_reducible refine qgate_bin rfl ?_); refine wpq_bin rfl _ _ _ _ _ rfl _ _ _ _ rfl rfl (.int .u16 ((2 ^ x : Nat) : Int)) (fun w' => run_shl1 hx w') ?_)) | ((with_reducible refine qgate_dst (N := 12) rfl ?_); ((with_reducible refine qgate_bin rfl ?_); refine wpq_bin rfl _ _ _ _ _ rfl _ _ _ _ rfl rfl (.int .u16 ((ro f y ||| 2 ^ x : Nat) : Int)) (fun w' => run_or hb1 (two_pow_lt hx) w') ?_))); (simp only [Act.put, Act.eval, Array.getD_eq_getD_getElem?, List.getElem?_toArray, List.getElem?_cons_succ, List.getElem?_cons_zero, Option.getD_some, List.setIfInBounds_toArray, List.set_cons_succ, List.set_cons_zero, List.getElem_toArray, List.getElem_cons_succ, List.getElem_cons_zero]))); refine wpQuiet_nil ?_; intro _ st)
  go_wp2_with (first | ((with_reducible refine gate_store rfl ?_); refine wpl_store1 rfl _ _ _ rfl _ _ rfl (.int .u16 _) rfl tU16 rfl rfl st _ _ (by repeat (first | exact Upd.here | apply Upd.there)) (by rw [frv_length]; omega) ?_; rw [frv_set, show f.set y (ro f y ||| 2 ^ x) = withD f x y from rfl];clear st; intro _ st) | ((with_reducible refine gate_load rfl ?_); refine wpl_loadAll rfl _ _ rfl _ rfl tFr.toAggT _ _ (st.get (by repeat (first | exact At.here | apply At.there))) (by simp [frv_length, zf_length, mk_length, withD_length, part_length, rowsOf_length, *]) ?_) | ((with_reducible refine gate_store rfl ?_); refine wpl_storeAll rfl _ _ _ rfl _ rfl _ rfl tFr.toAggT (by simp [frv_length, zf_length, mk_length, withD_length, part_length, rowsOf_length, *]) (frv_one _) st _ _ (by repeat (first | exact Upd.here | apply Upd.there)) (by simp [frv_length, zf_length, mk_length, withD_length, part_length, rowsOf_length, *]) ?_; clear st; intro _ st))
  refine bodyPost_cell rfl tFr.toAggT rfl _ rfl _ _ (st.get (by repeat (first | exact At.here | apply At.there))) (by simp [frv_length, zf_length, mk_length, withD_length, part_length, rowsOf_length, *]) ?_
  exact ⟨rfl, st.keep⟩

theorem ret_bool {a b : Bool} (h : a = b) : Ending.returned (.bool a) = .returned (.bool b) := by rw [h]
theorem ret_int {k : IntKind} {a b : Int} (h : a = b) : Ending.returned (.int k a) = .returned (.int k b) := by rw [h]
theorem hasI_yes (f : List Nat) {x y : Nat} (hx : x < 12) (hy : y < 12) : hasI f x y = (ro f y).testBit x := by
  rw [hasI_nat, hasD_in f hx hy]
theorem hasI_no (f : List Nat) {x y : Int} (h : placeB x y = false) : hasI f x y = false := by
  have : ¬ (0 ≤ x ∧ x < 12 ∧ 0 ≤ y ∧ y < 12) := fun h' => by rw [placeB_iff.2 h'] at h; cases h
  simp [hasI, this]
theorem has_rem (r x : Nat) : (((r : Int) / 2 ^ x).tmod 2 == 1) = r.testBit x := by
  have e : ((r : Int) / 2 ^ x) = ((r / 2 ^ x : Nat) : Int) := by simp
  rw [e, Int.tmod_eq_emod_of_nonneg (Int.natCast_nonneg _), Nat.testBit_eq_decide_div_mod_eq]
  rw [Bool.eq_iff_iff]; simp; omega
theorem has_and (r x : Nat) (hr : r < 65536) : (bits .and .u16 ((r : Int) / 2 ^ x) 1 == 1) = r.testBit x := by
  have e : ((r : Int) / 2 ^ x) = ((r / 2 ^ x : Nat) : Int) := by simp
  have h1 : r / 2 ^ x < 65536 := Nat.lt_of_le_of_lt (Nat.div_le_self _ _) hr
  have h2 := and_u16 (r / 2 ^ x) 1 h1 (by omega)
  rw [e, show ((1 : Int)) = ((1 : Nat) : Int) from rfl, h2, Nat.and_one_is_mod, Nat.testBit_eq_decide_div_mod_eq]
  rw [Bool.eq_iff_iff]; simp; omega
theorem l01Has_c (f : List Nat) (ok : FrOk f) (b o : Nat) (x y : Int) (w : World) (hb : Cl w b o (frv f)) :
    Calls Tryz.prog 101 #[.pointer (some ⟨b, o, none⟩), .int .i64 x, .int .i64 y] w fun e w' => e = .returned (.bool (hasI f x y)) ∧ Keep [] w w' := by
  have hf := ok.len
  have st := St.start w
  by_cases hp : placeB x y = true
  · obtain ⟨h1, h2, h3, h4⟩ := placeB_iff.1 hp
    obtain ⟨x, rfl⟩ : ∃ n : Nat, x = n := ⟨x.toNat, by omega⟩
    obtain ⟨y, rfl⟩ : ∃ n : Nat, y = n := ⟨y.toNat, by omega⟩
    have hx : x < 12 := by omega
    have hy : y < 12 := by omega
    clear h1 h2 h3 h4
    have hb1 := ok.ro_lt y
    have hcv := conv_u64 hx
    go_enter Tryz.func101, Tryz.ntmps101
    go_wp2_with (first | (refine wpl_unguard rfl ?_) | (go_at_call 100; refine (l01Place_c _ _ _).mono ?_; rintro _ _ ⟨rfl, hk⟩; replace st := st.call hk; clear hk) | ((with_reducible refine gate_addr rfl ?_); refine wpl_indexAddr rfl _ _ rfl _ _ rfl _ _ rfl tFr y rfl hy ?_) | ((with_reducible refine gate_load rfl ?_); refine wpl_load1 rfl _ _ rfl _ rfl tU16 _ ((hb.keep st.keep (by simp)).cellv (frv_get _ _ (by omega))) ?_))
    go_ret
    exact ⟨ret_bool (by rw [has_rem, hasI_yes f hx hy]), st.keep⟩
  · have hp' : placeB x y = false := by simpa using hp
    clear hp
    go_enter Tryz.func101, Tryz.ntmps101
    go_wp2_with (first | (go_at_call 100; refine (l01Place_c _ _ _).mono ?_; rintro _ _ ⟨rfl, hk⟩; replace st := st.call hk; clear hk))
    go_ret
    exact ⟨ret_bool (hasI_no f hp').symm, st.keep⟩
theorem has_c (f : List Nat) (ok : FrOk f) (x y : Int) (w : World) :
    Calls Tryz.prog 68 #[.agg (frv f).toArray, .int .i64 x, .int .i64 y] w fun e w' => e = .returned (.bool (hasI f x y)) ∧ Keep [] w w' := by
  have hf := ok.len
  have st := St.start w
  by_cases hp : placeB x y = true
  · obtain ⟨h1, h2, h3, h4⟩ := placeB_iff.1 hp
    obtain ⟨x, rfl⟩ : ∃ n : Nat, x = n := ⟨x.toNat, by omega⟩
    obtain ⟨y, rfl⟩ : ∃ n : Nat, y = n := ⟨y.toNat, by omega⟩
    have hx : x < 12 := by omega
    have hy : y < 12 := by omega
    clear h1 h2 h3 h4
    have hb1 := ok.ro_lt y
    go_enter Tryz.func68, Tryz.ntmps68
    go_wp2_with (first | (refine wpl_unguard rfl ?_) | ((with_reducible refine gate_box rfl ?_); refine wpl_box rfl _ _ rfl _ rfl _ rfl st ?_; clear st; intro _ _ st) | (go_at_call 90; refine (isPlace_c _ _ _).mono ?_; rintro _ _ ⟨rfl, hk⟩; replace st := st.call hk; clear hk) | ((with_reducible refine gate_addr rfl ?_); refine wpl_indexAddr0 rfl _ _ rfl _ rfl _ _ rfl tFr y rfl hy ?_) | ((with_reducible refine gate_load rfl ?_); refine wpl_load1 rfl _ _ rfl _ rfl tU16 _ ((st.get (by repeat (first | exact At.here | apply At.there))).cellv (frv_get _ _ (by omega))) ?_))
    go_ret
    exact ⟨ret_bool (by rw [has_and _ _ hb1, hasI_yes f hx hy]), st.keep⟩
  · have hp' : placeB x y = false := by simpa using hp
    clear hp
    go_enter Tryz.func68, Tryz.ntmps68
    go_wp2_with (first | ((with_reducible refine gate_box rfl ?_); refine wpl_box rfl _ _ rfl _ rfl _ rfl st ?_; clear st; intro _ _ st) | (go_at_call 90; refine (isPlace_c _ _ _).mono ?_; rintro _ _ ⟨rfl, hk⟩; replace st := st.call hk; clear hk))
    go_ret
    exact ⟨ret_bool (hasI_no f hp').symm, st.keep⟩
/-- A closure that tells of each place whether p is true there, in every world that keeps what w holds. -/
def Tells (fv : Value) (p : Nat → Nat → Bool) (w : World) : Prop :=
  ∃ (F : FuncId) (fn : Func) (cap : Array Value), fv = .func (.func F) #[] cap ∧ Tryz.prog.funcs[F]? = some fn ∧ (fn.name == "runtime.NumGoroutine") = false ∧ fn.body.isNone = false ∧
    ∀ (x y : Nat) (w1 : World), x < 12 → y < 12 → Keep [] w w1 → Calls Tryz.prog F (#[.int .i64 x, .int .i64 y] ++ cap) w1 fun e w' => e = .returned (.bool (p x y)) ∧ Keep [] w1 w'
set_option maxRecDepth 100000 in
theorem where_c (fv : Value) (p : Nat → Nat → Bool) (w : World) (ht : Tells fv p w) :
    Calls Tryz.prog 66 #[fv] w fun e w' => e = .returned (.agg (frv (mk p)).toArray) ∧ Keep [] w w' := by
  obtain ⟨F, fn, cap, rfl, hF, hn, hbd, hall⟩ := ht
  have HA := hid hall
  clear hall
  have HF := hid hF
  have HN := hid hn
  have HB := hid hbd
  clear hF hn hbd
  have st := St.start w
  go_enter Tryz.func66, Tryz.ntmps66
  go_wp2_with (first | ((with_reducible refine gate_alloc rfl ?_); (with_reducible refine gate_dst (N := 2) rfl ?_); refine wpl_alloc rfl _ rfl tFr.toAggT st ?_; clear st; intro B2 _ st) | ((with_reducible refine gate_alloc rfl ?_); (with_reducible refine gate_dst (N := 3) rfl ?_); refine wpl_alloc rfl _ rfl tFr.toAggT st ?_; clear st; intro B3 _ st) | ((with_reducible refine gate_build rfl ?_); refine wpl_zero rfl _ rfl _ tFrB ?_) | ((with_reducible refine gate_store rfl ?_); refine wpl_storeAll rfl _ _ _ rfl _ rfl _ rfl tFr.toAggT (by simp [frv_length, zf_length, mk_length, withD_length, part_length, rowsOf_length, *]) (frv_one _) st _ _ (by repeat (first | exact Upd.here | apply Upd.there)) (by simp [frv_length, zf_length, mk_length, withD_length, part_length, rowsOf_length, *]) ?_; clear st; intro _ st))
  rw [← upTo_zero p] at st
  go_loopw [7] (fun i wr => ∃ y : Nat, y ≤ 12 ∧ i = .int .i64 y ∧ St [] w wr [(B3, frv (mk (upTo p (12 * y))), 42), (B2, List.replicate 12 (Value.int .u16 0), 42)]) (fun i _ => 12 - (intOf i).toNat)
  case atStart => exact ⟨0, by omega, rfl, st⟩
  case round =>
    clear st
    obtain ⟨y, hy, rfl, st⟩ := hrel
    by_cases hly : y < 12
    · obtain ⟨wo, rfl⟩ : ∃ wo : World, wo = wr := ⟨_, rfl⟩
      have hdy : decide ((y : Int) < 12) = true := by simp; omega
      go_wp2_with fail
      go_loopw [10] (fun i wr => ∃ x : Nat, x ≤ 12 ∧ i = .int .i64 x ∧ St [] w wr [(B3, frv (mk (upTo p (12 * y + x))), 42), (B2, List.replicate 12 (Value.int .u16 0), 42)]) (fun i _ => 12 - (intOf i).toNat)
      case atStart => exact ⟨0, by omega, rfl, st⟩
      case round =>
        clear st
        obtain ⟨x, hx, rfl, st⟩ := hrel
        by_cases hlx : x < 12
        · by_cases hp : p x y = true
          · go_wp2_with (first | ((with_reducible refine gate_call rfl ?_); (with_reducible refine gate_dst (N := 16) rfl ?_); refine wpl_call rfl _ rfl _ rfl F #[] cap rfl fn HF.out HN.out HB.out (#[.int .i64 x, .int .i64 y] ++ cap) (by simp [Act.eval]) ?_; refine (HA.out x y _ hlx hly st.keep).mono ?_; rintro _ _ ⟨rfl, hk⟩; refine ⟨.bool true, by rw [hp], ?_⟩; replace st := st.call hk; clear hk) | ((with_reducible refine gate_load rfl ?_); refine wpl_loadAll rfl _ _ rfl _ rfl tFr.toAggT _ _ (st.get (by repeat (first | exact At.here | apply At.there))) (by rw [frv_length, mk_length]) ?_) | (go_at_call 89; refine (with_c _ (mk_frOk _) x y hlx hly _).mono ?_; rintro _ _ ⟨rfl, hk⟩; replace st := st.call hk; clear hk) | ((with_reducible refine gate_store rfl ?_); refine wpl_storeAll rfl _ _ _ rfl _ rfl _ rfl tFr.toAggT (by rw [frv_length, withD_length, mk_length]) (frv_one _) st _ _ (by repeat (first | exact Upd.here | apply Upd.there)) (by rw [frv_length, mk_length]) ?_; clear st; intro _ st))
            rw [upTo_hit p hlx hly hp] at st
            go_roundw
            case rel => exact ⟨x + 1, by omega, by go_num, st⟩
            case measure => simp [intOf]; omega
          · have hp' : p x y = false := by simpa using hp
            clear hp
            go_wp2_with (first | ((with_reducible refine gate_call rfl ?_); (with_reducible refine gate_dst (N := 16) rfl ?_); refine wpl_call rfl _ rfl _ rfl F #[] cap rfl fn HF.out HN.out HB.out (#[.int .i64 x, .int .i64 y] ++ cap) (by simp [Act.eval]) ?_; refine (HA.out x y _ hlx hly st.keep).mono ?_; rintro _ _ ⟨rfl, hk⟩; refine ⟨.bool false, by rw [hp'], ?_⟩; replace st := st.call hk; clear hk))
            rw [upTo_miss p hlx hly hp'] at st
            go_roundw
            case rel => exact ⟨x + 1, by omega, by go_num, st⟩
            case measure => simp [intOf]; omega
        · obtain rfl : x = 12 := by omega
          go_wp2_with fail
          go_roundw
          case rel => exact ⟨y + 1, by omega, by go_num, by rw [show 12 * (y + 1) = 12 * y + 12 by omega]; exact st⟩
          case measure => simp [intOf]; omega
    · obtain rfl : y = 12 := by omega
      rw [show 12 * 12 = 144 by rfl, upTo_all] at st
      go_wp2_with (first | ((with_reducible refine gate_load rfl ?_); refine wpl_loadAll rfl _ _ rfl _ rfl tFr.toAggT _ _ (st.get (by repeat (first | exact At.here | apply At.there))) (by rw [frv_length, mk_length]) ?_) | ((with_reducible refine gate_store rfl ?_); refine wpl_storeAll rfl _ _ _ rfl _ rfl _ rfl tFr.toAggT (by rw [frv_length, mk_length]) (frv_one _) st _ _ (by repeat (first | exact Upd.here | apply Upd.there)) (by simp) ?_; clear st; intro _ st))
      refine bodyPost_cell rfl tFr.toAggT rfl _ rfl _ _ (st.get (by repeat (first | exact At.here | apply At.there))) (by rw [frv_length, mk_length]) ?_
      exact ⟨rfl, st.keep⟩
end Go.Proofs.YtmfgbkmkcljciaaGreatDoor
/- Books compared, and valid books: the reference and the program; no condition. -/
namespace Go.Proofs.YtmfgbkmkcljciaaGreatDoor
open Go.RowKit
set_option linter.unusedSimpArgs false
set_option linter.unusedVariables false

theorem same_no {A B : List Fm} {k : Nat} (hA : k < A.length) (hB : k < B.length) (h : A[k] ≠ B[k]) : decide (A = B) = false := by
  rw [decide_eq_false_iff_not]
  intro e
  subst e
  exact h rfl
theorem same_yes {A B : List Fm} {n : Nat} (hA : A.length = n) (hB : B.length = n) (h : ∀ j (h1 : j < A.length) (h2 : j < B.length), j < n → A[j] = B[j]) : decide (A = B) = true := by
  rw [decide_eq_true_eq]
  exact List.ext_getElem (by omega) fun j h1 h2 => h j h1 h2 (by omega)
def SameTo (A B : List Fm) (k : Nat) : Prop := ∀ j (h1 : j < A.length) (h2 : j < B.length), j < k → A[j] = B[j]
theorem SameTo.step {A B : List Fm} {k : Nat} (h : SameTo A B k) (hA : k < A.length) (hB : k < B.length) (e : A[k] = B[k]) : SameTo A B (k + 1) := fun j h1 h2 hj => by
  by_cases hk : j = k
  · subst hk; exact e
  · exact h j h1 h2 (by omega)

set_option maxHeartbeats 1000000 in
set_option maxRecDepth 100000 in
theorem l02Same_c (A B : List Fm) (n m : Nat) (hA : A.length = n) (hB : B.length = m) (hn : n ≤ 4000000) (hm : m ≤ 4000000) (p p' : Option Addr) (c c' : Nat) (w : World) (hr : Rd w p n (encs fv A)) (hr' : Rd w p' m (encs fv B)) :
    Calls Tryz.prog 47 #[.slice p n c, .slice p' m c'] w fun e w' => e = .returned (.bool (decide (A = B))) ∧ Keep [] w w' := by
  have st := St.start w
  replace hA := hid hA
  replace hB := hid hB
  by_cases hnm : n = m
  · subst hnm
    go_enter Tryz.func47, Tryz.ntmps47
    go_wp2_with (first | ((with_reducible refine gate_lst ?_); (first | ((with_reducible refine gate_load rfl ?_); (first | (refine ia_loadAll st rfl rfl rfl ?_ ?_; (focus (first | rfl | (simp; done) | (simp; assumption) | (simp; omega) | (simp [*]; done)))) | (refine ia_loadC (hb.keep st.keep (by simp)) rfl rfl rfl ?_ ?_; (focus (first | rfl | (simp; done) | (simp; assumption) | (simp; omega) | (simp [*]; done)))) | (refine ia_loadC (hb'.keep st.keep (by simp)) rfl rfl rfl ?_ ?_; (focus (first | rfl | (simp; done) | (simp; assumption) | (simp; omega) | (simp [*]; done)))) | (refine ia_loadC (Cl.of (hb1.keep st.keep (by simp))) rfl rfl rfl ?_ ?_; (focus (first | rfl | (simp; done) | (simp; assumption) | (simp; omega) | (simp [*]; done)))) | (refine ia_loadC (Cl.of (hb2.keep st.keep (by simp))) rfl rfl rfl ?_ ?_; (focus (first | rfl | (simp; done) | (simp; assumption) | (simp; omega) | (simp [*]; done)))))) | ((with_reducible refine gate_addr rfl ?_); (first | (refine' ia_slcP HP.out rfl rfl rfl rfl ?_ ?_ ?_) | (refine' ia_slcP HP2.out rfl rfl rfl rfl ?_ ?_ ?_)); rotate_left 1; (focus (first | exact (rfl : (0 : Int) = ((0 : Nat) : Int)) | exact (rfl : (1 : Int) = ((1 : Nat) : Int)) | exact rfl | exact HE1.out | exact HE2.out)); (focus (first | omega | (simp; done) | (simp; omega) | (simp [*]; omega)))))) | ((with_reducible refine qgate_nil ?_); refine wpQuiet_nil ?_; (try intro _ st)) | ((with_reducible refine qgate_any ?_); (first | ((first | (with_reducible refine qg_move rfl ?_)); refine qa_val (fun _ _ => rfl) rfl ?_) | ((with_reducible refine qgate_load rfl ?_); (first | (refine iq_loadAll rfl rfl rfl ?_ ?_; (focus (first | rfl | (simp; done) | (simp; assumption) | (simp; omega) | (simp [*]; done)))) | (refine iq_loadC hb rfl rfl rfl ?_ ?_; (focus (first | rfl | (simp; done) | (simp; assumption) | (simp; omega) | (simp [*]; done)))) | (refine iq_loadC hb' rfl rfl rfl ?_ ?_; (focus (first | rfl | (simp; done) | (simp; assumption) | (simp; omega) | (simp [*]; done)))))) | ((with_reducible refine qgate_addr rfl ?_); (first | (refine' iq_slc rfl rfl rfl rfl ?_ ?_ ?_) | (refine' iq_slcP HP.out rfl rfl rfl rfl ?_ ?_ ?_) | (refine' iq_slcP HP2.out rfl rfl rfl rfl ?_ ?_ ?_) | (refine' iq_arr rfl rfl rfl rfl ?_ ?_ ?_)); rotate_left 1; (focus (first | exact (rfl : (0 : Int) = ((0 : Nat) : Int)) | exact (rfl : (1 : Int) = ((1 : Nat) : Int)) | exact rfl | exact HE1.out | exact HE2.out)); (focus (first | omega | (simp; done) | (simp; omega) | (simp [*]; omega)))) | ((with_reducible refine qgate_bin rfl ?_); refine' qa_bin ?_ rfl rfl rfl rfl ?_; rotate_left 1; (focus (first | exact run_add64 (by omega) (by omega) | exact run_sub64 (by omega) (by omega) | (intro w'; go_simp; exact rfl))))); all_goals (try (simp only [Nat.zero_add, Nat.add_zero, Nat.mul_one, Nat.zero_mul, Act.put, Act.eval, Array.getD_eq_getD_getElem?, List.getElem?_toArray, List.getElem?_cons_succ, List.getElem?_cons_zero, Option.getD_some, List.setIfInBounds_toArray, List.set_cons_succ, List.set_cons_zero, List.getElem_toArray, List.getElem_cons_succ, List.getElem_cons_zero]))) | ((with_reducible refine rgate (id := 6) ?_); refine wp_region_quiet_st (id := 6) st (by kernel_rfl) (by kernel_rfl) ?_; clear st))
    go_loopw [5] (fun i wr => ∃ k : Nat, k ≤ n ∧ i = .int .i64 k ∧ SameTo A B k ∧ St [] w wr []) (fun i _ => n - (intOf i).toNat)
    case atStart => exact ⟨0, by omega, rfl, fun _ _ _ h => absurd h (by omega), st⟩
    case round =>
      clear st
      obtain ⟨k, hk, rfl, hs, st⟩ := hrel
      replace hs := hid hs
      by_cases hlt : k < n
      · have hd : decide ((k : Int) < (n : Int)) = true := by simpa using hlt
        obtain ⟨b, f, hp, hcl⟩ := hr (by omega)
        obtain ⟨b', f', hp', hcl'⟩ := hr' (by omega)
        have HP := hid hp
        have HP2 := hid hp'
        have hkA : k < A.length := by rw [hA.out]; exact hlt
        have hkB : k < B.length := by rw [hB.out]; exact hlt
        have hb := hcl.seg fv_len hkA
        have hb' := hcl'.seg fv_len hkB
        have HS := hid (hs.out.step hkA hkB)
        have HN := hid (same_no hkA hkB)
        obtain ⟨x, hx⟩ : ∃ x, A[k] = x := ⟨_, rfl⟩
        obtain ⟨y, hy⟩ : ∃ y, B[k] = y := ⟨_, rfl⟩
        rw [hx] at hb HS HN
        rw [hy] at hb' HS HN
        clear hx hy hp hcl hp' hcl' hkA hkB
        go_wp2_with (first | ((with_reducible refine gate_lst ?_); (first | ((with_reducible refine gate_load rfl ?_); (first | (refine ia_loadAll st rfl rfl rfl ?_ ?_; (focus (first | rfl | (simp; done) | (simp; assumption) | (simp; omega) | (simp [*]; done)))) | (refine ia_loadC (hb.keep st.keep (by simp)) rfl rfl rfl ?_ ?_; (focus (first | rfl | (simp; done) | (simp; assumption) | (simp; omega) | (simp [*]; done)))) | (refine ia_loadC (hb'.keep st.keep (by simp)) rfl rfl rfl ?_ ?_; (focus (first | rfl | (simp; done) | (simp; assumption) | (simp; omega) | (simp [*]; done)))) | (refine ia_loadC (Cl.of (hb1.keep st.keep (by simp))) rfl rfl rfl ?_ ?_; (focus (first | rfl | (simp; done) | (simp; assumption) | (simp; omega) | (simp [*]; done)))) | (refine ia_loadC (Cl.of (hb2.keep st.keep (by simp))) rfl rfl rfl ?_ ?_; (focus (first | rfl | (simp; done) | (simp; assumption) | (simp; omega) | (simp [*]; done)))))) | ((with_reducible refine gate_addr rfl ?_); (first | (refine' ia_slcP HP.out rfl rfl rfl rfl ?_ ?_ ?_) | (refine' ia_slcP HP2.out rfl rfl rfl rfl ?_ ?_ ?_)); rotate_left 1; (focus (first | exact (rfl : (0 : Int) = ((0 : Nat) : Int)) | exact (rfl : (1 : Int) = ((1 : Nat) : Int)) | exact rfl | exact HE1.out | exact HE2.out)); (focus (first | omega | (simp; done) | (simp; omega) | (simp [*]; omega)))))) | ((with_reducible refine qgate_nil ?_); refine wpQuiet_nil ?_; (try intro _ st)) | ((with_reducible refine qgate_any ?_); (first | ((with_reducible refine qgate_ne (P := Tryz.prog) rfl ?_); refine qa_neF rfl rfl rfl rfl ?_ ?_ <;> (intro hE; (simp only [Nat.zero_add, Nat.add_zero, Nat.mul_one, Nat.zero_mul, Act.put, Act.eval, Array.getD_eq_getD_getElem?, List.getElem?_toArray, List.getElem?_cons_succ, List.getElem?_cons_zero, Option.getD_some, List.setIfInBounds_toArray, List.set_cons_succ, List.set_cons_zero, List.getElem_toArray, List.getElem_cons_succ, List.getElem_cons_zero]))) | ((first | (with_reducible refine qg_move rfl ?_)); refine qa_val (fun _ _ => rfl) rfl ?_) | ((with_reducible refine qgate_load rfl ?_); (first | (refine iq_loadAll rfl rfl rfl ?_ ?_; (focus (first | rfl | (simp; done) | (simp; assumption) | (simp; omega) | (simp [*]; done)))) | (refine iq_loadC hb rfl rfl rfl ?_ ?_; (focus (first | rfl | (simp; done) | (simp; assumption) | (simp; omega) | (simp [*]; done)))) | (refine iq_loadC hb' rfl rfl rfl ?_ ?_; (focus (first | rfl | (simp; done) | (simp; assumption) | (simp; omega) | (simp [*]; done)))))) | ((with_reducible refine qgate_addr rfl ?_); (first | (refine' iq_slc rfl rfl rfl rfl ?_ ?_ ?_) | (refine' iq_slcP HP.out rfl rfl rfl rfl ?_ ?_ ?_) | (refine' iq_slcP HP2.out rfl rfl rfl rfl ?_ ?_ ?_) | (refine' iq_arr rfl rfl rfl rfl ?_ ?_ ?_)); rotate_left 1; (focus (first | exact (rfl : (0 : Int) = ((0 : Nat) : Int)) | exact (rfl : (1 : Int) = ((1 : Nat) : Int)) | exact rfl | exact HE1.out | exact HE2.out)); (focus (first | omega | (simp; done) | (simp; omega) | (simp [*]; omega)))) | ((with_reducible refine qgate_bin rfl ?_); refine' qa_bin ?_ rfl rfl rfl rfl ?_; rotate_left 1; (focus (first | exact run_add64 (by omega) (by omega) | exact run_sub64 (by omega) (by omega) | (intro w'; go_simp; exact rfl))))); all_goals (try (simp only [Nat.zero_add, Nat.add_zero, Nat.mul_one, Nat.zero_mul, Act.put, Act.eval, Array.getD_eq_getD_getElem?, List.getElem?_toArray, List.getElem?_cons_succ, List.getElem?_cons_zero, Option.getD_some, List.setIfInBounds_toArray, List.set_cons_succ, List.set_cons_zero, List.getElem_toArray, List.getElem_cons_succ, List.getElem_cons_zero]))) | ((with_reducible refine rgate (id := 6) ?_); refine wp_region_quiet_st (id := 6) st (by kernel_rfl) (by kernel_rfl) ?_; clear st))
        · go_roundw
          case rel => exact ⟨k + 1, by omega, by go_num, HS.out hE, st⟩
          case measure => simp [intOf]; omega
        · go_ret
          exact ⟨ret_bool (HN.out hE).symm, st.keep⟩
      · obtain rfl : k = n := by omega
        go_wp2_with (first | ((with_reducible refine gate_lst ?_); (first | ((with_reducible refine gate_load rfl ?_); (first | (refine ia_loadAll st rfl rfl rfl ?_ ?_; (focus (first | rfl | (simp; done) | (simp; assumption) | (simp; omega) | (simp [*]; done)))) | (refine ia_loadC (hb.keep st.keep (by simp)) rfl rfl rfl ?_ ?_; (focus (first | rfl | (simp; done) | (simp; assumption) | (simp; omega) | (simp [*]; done)))) | (refine ia_loadC (hb'.keep st.keep (by simp)) rfl rfl rfl ?_ ?_; (focus (first | rfl | (simp; done) | (simp; assumption) | (simp; omega) | (simp [*]; done)))) | (refine ia_loadC (Cl.of (hb1.keep st.keep (by simp))) rfl rfl rfl ?_ ?_; (focus (first | rfl | (simp; done) | (simp; assumption) | (simp; omega) | (simp [*]; done)))) | (refine ia_loadC (Cl.of (hb2.keep st.keep (by simp))) rfl rfl rfl ?_ ?_; (focus (first | rfl | (simp; done) | (simp; assumption) | (simp; omega) | (simp [*]; done)))))) | ((with_reducible refine gate_addr rfl ?_); (first | (refine' ia_slcP HP.out rfl rfl rfl rfl ?_ ?_ ?_) | (refine' ia_slcP HP2.out rfl rfl rfl rfl ?_ ?_ ?_)); rotate_left 1; (focus (first | exact (rfl : (0 : Int) = ((0 : Nat) : Int)) | exact (rfl : (1 : Int) = ((1 : Nat) : Int)) | exact rfl | exact HE1.out | exact HE2.out)); (focus (first | omega | (simp; done) | (simp; omega) | (simp [*]; omega)))))) | ((with_reducible refine qgate_nil ?_); refine wpQuiet_nil ?_; (try intro _ st)) | ((with_reducible refine qgate_any ?_); (first | ((first | (with_reducible refine qg_move rfl ?_)); refine qa_val (fun _ _ => rfl) rfl ?_) | ((with_reducible refine qgate_load rfl ?_); (first | (refine iq_loadAll rfl rfl rfl ?_ ?_; (focus (first | rfl | (simp; done) | (simp; assumption) | (simp; omega) | (simp [*]; done)))) | (refine iq_loadC hb rfl rfl rfl ?_ ?_; (focus (first | rfl | (simp; done) | (simp; assumption) | (simp; omega) | (simp [*]; done)))) | (refine iq_loadC hb' rfl rfl rfl ?_ ?_; (focus (first | rfl | (simp; done) | (simp; assumption) | (simp; omega) | (simp [*]; done)))))) | ((with_reducible refine qgate_addr rfl ?_); (first | (refine' iq_slc rfl rfl rfl rfl ?_ ?_ ?_) | (refine' iq_slcP HP.out rfl rfl rfl rfl ?_ ?_ ?_) | (refine' iq_slcP HP2.out rfl rfl rfl rfl ?_ ?_ ?_) | (refine' iq_arr rfl rfl rfl rfl ?_ ?_ ?_)); rotate_left 1; (focus (first | exact (rfl : (0 : Int) = ((0 : Nat) : Int)) | exact (rfl : (1 : Int) = ((1 : Nat) : Int)) | exact rfl | exact HE1.out | exact HE2.out)); (focus (first | omega | (simp; done) | (simp; omega) | (simp [*]; omega)))) | ((with_reducible refine qgate_bin rfl ?_); refine' qa_bin ?_ rfl rfl rfl rfl ?_; rotate_left 1; (focus (first | exact run_add64 (by omega) (by omega) | exact run_sub64 (by omega) (by omega) | (intro w'; go_simp; exact rfl))))); all_goals (try (simp only [Nat.zero_add, Nat.add_zero, Nat.mul_one, Nat.zero_mul, Act.put, Act.eval, Array.getD_eq_getD_getElem?, List.getElem?_toArray, List.getElem?_cons_succ, List.getElem?_cons_zero, Option.getD_some, List.setIfInBounds_toArray, List.set_cons_succ, List.set_cons_zero, List.getElem_toArray, List.getElem_cons_succ, List.getElem_cons_zero]))) | ((with_reducible refine rgate (id := 6) ?_); refine wp_region_quiet_st (id := 6) st (by kernel_rfl) (by kernel_rfl) ?_; clear st))
        go_ret
        exact ⟨ret_bool (same_yes hA.out hB.out hs.out).symm, st.keep⟩
  · have hne : decide (A = B) = false := by
      rw [decide_eq_false_iff_not]; intro e; apply hnm; rw [← hA.out, ← hB.out, e]
    have hni : ¬ (n : Int) = (m : Int) := by omega
    rw [hne]
    go_enter Tryz.func47, Tryz.ntmps47
    go_wp2_with (first | ((with_reducible refine gate_lst ?_); (first | ((with_reducible refine gate_load rfl ?_); (first | (refine ia_loadAll st rfl rfl rfl ?_ ?_; (focus (first | rfl | (simp; done) | (simp; assumption) | (simp; omega) | (simp [*]; done)))) | (refine ia_loadC (hb.keep st.keep (by simp)) rfl rfl rfl ?_ ?_; (focus (first | rfl | (simp; done) | (simp; assumption) | (simp; omega) | (simp [*]; done)))) | (refine ia_loadC (hb'.keep st.keep (by simp)) rfl rfl rfl ?_ ?_; (focus (first | rfl | (simp; done) | (simp; assumption) | (simp; omega) | (simp [*]; done)))) | (refine ia_loadC (Cl.of (hb1.keep st.keep (by simp))) rfl rfl rfl ?_ ?_; (focus (first | rfl | (simp; done) | (simp; assumption) | (simp; omega) | (simp [*]; done)))) | (refine ia_loadC (Cl.of (hb2.keep st.keep (by simp))) rfl rfl rfl ?_ ?_; (focus (first | rfl | (simp; done) | (simp; assumption) | (simp; omega) | (simp [*]; done)))))) | ((with_reducible refine gate_addr rfl ?_); (first | (refine' ia_slcP HP.out rfl rfl rfl rfl ?_ ?_ ?_) | (refine' ia_slcP HP2.out rfl rfl rfl rfl ?_ ?_ ?_)); rotate_left 1; (focus (first | exact (rfl : (0 : Int) = ((0 : Nat) : Int)) | exact (rfl : (1 : Int) = ((1 : Nat) : Int)) | exact rfl | exact HE1.out | exact HE2.out)); (focus (first | omega | (simp; done) | (simp; omega) | (simp [*]; omega)))))) | ((with_reducible refine qgate_nil ?_); refine wpQuiet_nil ?_; (try intro _ st)) | ((with_reducible refine qgate_any ?_); (first | ((first | (with_reducible refine qg_move rfl ?_)); refine qa_val (fun _ _ => rfl) rfl ?_) | ((with_reducible refine qgate_load rfl ?_); (first | (refine iq_loadAll rfl rfl rfl ?_ ?_; (focus (first | rfl | (simp; done) | (simp; assumption) | (simp; omega) | (simp [*]; done)))) | (refine iq_loadC hb rfl rfl rfl ?_ ?_; (focus (first | rfl | (simp; done) | (simp; assumption) | (simp; omega) | (simp [*]; done)))) | (refine iq_loadC hb' rfl rfl rfl ?_ ?_; (focus (first | rfl | (simp; done) | (simp; assumption) | (simp; omega) | (simp [*]; done)))))) | ((with_reducible refine qgate_addr rfl ?_); (first | (refine' iq_slc rfl rfl rfl rfl ?_ ?_ ?_) | (refine' iq_slcP HP.out rfl rfl rfl rfl ?_ ?_ ?_) | (refine' iq_slcP HP2.out rfl rfl rfl rfl ?_ ?_ ?_) | (refine' iq_arr rfl rfl rfl rfl ?_ ?_ ?_)); rotate_left 1; (focus (first | exact (rfl : (0 : Int) = ((0 : Nat) : Int)) | exact (rfl : (1 : Int) = ((1 : Nat) : Int)) | exact rfl | exact HE1.out | exact HE2.out)); (focus (first | omega | (simp; done) | (simp; omega) | (simp [*]; omega)))) | ((with_reducible refine qgate_bin rfl ?_); refine' qa_bin ?_ rfl rfl rfl rfl ?_; rotate_left 1; (focus (first | exact run_add64 (by omega) (by omega) | exact run_sub64 (by omega) (by omega) | (intro w'; go_simp; exact rfl))))); all_goals (try (simp only [Nat.zero_add, Nat.add_zero, Nat.mul_one, Nat.zero_mul, Act.put, Act.eval, Array.getD_eq_getD_getElem?, List.getElem?_toArray, List.getElem?_cons_succ, List.getElem?_cons_zero, Option.getD_some, List.setIfInBounds_toArray, List.set_cons_succ, List.set_cons_zero, List.getElem_toArray, List.getElem_cons_succ, List.getElem_cons_zero]))) | ((with_reducible refine rgate (id := 6) ?_); refine wp_region_quiet_st (id := 6) st (by kernel_rfl) (by kernel_rfl) ?_; clear st))
    go_ret
    exact ⟨rfl, st.keep⟩
set_option maxHeartbeats 1000000 in
set_option maxRecDepth 100000 in
theorem slicesEqual_c (A B : List Fm) (n m : Nat) (hA : A.length = n) (hB : B.length = m) (hn : n ≤ 4000000) (hm : m ≤ 4000000) (p p' : Option Addr) (c c' : Nat) (w : World) (hr : Rd w p n (encs fv A)) (hr' : Rd w p' m (encs fv B)) :
    Calls Tryz.prog 46 #[.slice p n c, .slice p' m c'] w fun e w' => e = .returned (.bool (decide (A = B))) ∧ Keep [] w w' := by
  have st := St.start w
  replace hA := hid hA
  replace hB := hid hB
  by_cases hnm : n = m
  · subst hnm
    go_enter Tryz.func46, Tryz.ntmps46
    go_wp2_with (first | ((with_reducible refine gate_lst ?_); (first | ((with_reducible refine gate_load rfl ?_); (first | (refine ia_loadAll st rfl rfl rfl ?_ ?_; (focus (first | rfl | (simp; done) | (simp; assumption) | (simp; omega) | (simp [*]; done)))) | (refine ia_loadC (hb.keep st.keep (by simp)) rfl rfl rfl ?_ ?_; (focus (first | rfl | (simp; done) | (simp; assumption) | (simp; omega) | (simp [*]; done)))) | (refine ia_loadC (hb'.keep st.keep (by simp)) rfl rfl rfl ?_ ?_; (focus (first | rfl | (simp; done) | (simp; assumption) | (simp; omega) | (simp [*]; done)))) | (refine ia_loadC (Cl.of (hb1.keep st.keep (by simp))) rfl rfl rfl ?_ ?_; (focus (first | rfl | (simp; done) | (simp; assumption) | (simp; omega) | (simp [*]; done)))) | (refine ia_loadC (Cl.of (hb2.keep st.keep (by simp))) rfl rfl rfl ?_ ?_; (focus (first | rfl | (simp; done) | (simp; assumption) | (simp; omega) | (simp [*]; done)))))) | ((with_reducible refine gate_addr rfl ?_); (first | (refine' ia_slcP HP.out rfl rfl rfl rfl ?_ ?_ ?_) | (refine' ia_slcP HP2.out rfl rfl rfl rfl ?_ ?_ ?_)); rotate_left 1; (focus (first | exact (rfl : (0 : Int) = ((0 : Nat) : Int)) | exact (rfl : (1 : Int) = ((1 : Nat) : Int)) | exact rfl | exact HE1.out | exact HE2.out)); (focus (first | omega | (simp; done) | (simp; omega) | (simp [*]; omega)))))) | ((with_reducible refine qgate_nil ?_); refine wpQuiet_nil ?_; (try intro _ st)) | ((with_reducible refine qgate_any ?_); (first | ((first | (with_reducible refine qg_move rfl ?_)); refine qa_val (fun _ _ => rfl) rfl ?_) | ((with_reducible refine qgate_load rfl ?_); (first | (refine iq_loadAll rfl rfl rfl ?_ ?_; (focus (first | rfl | (simp; done) | (simp; assumption) | (simp; omega) | (simp [*]; done)))) | (refine iq_loadC hb rfl rfl rfl ?_ ?_; (focus (first | rfl | (simp; done) | (simp; assumption) | (simp; omega) | (simp [*]; done)))) | (refine iq_loadC hb' rfl rfl rfl ?_ ?_; (focus (first | rfl | (simp; done) | (simp; assumption) | (simp; omega) | (simp [*]; done)))))) | ((with_reducible refine qgate_addr rfl ?_); (first | (refine' iq_slc rfl rfl rfl rfl ?_ ?_ ?_) | (refine' iq_slcP HP.out rfl rfl rfl rfl ?_ ?_ ?_) | (refine' iq_slcP HP2.out rfl rfl rfl rfl ?_ ?_ ?_) | (refine' iq_arr rfl rfl rfl rfl ?_ ?_ ?_)); rotate_left 1; (focus (first | exact (rfl : (0 : Int) = ((0 : Nat) : Int)) | exact (rfl : (1 : Int) = ((1 : Nat) : Int)) | exact rfl | exact HE1.out | exact HE2.out)); (focus (first | omega | (simp; done) | (simp; omega) | (simp [*]; omega)))) | ((with_reducible refine qgate_bin rfl ?_); refine' qa_bin ?_ rfl rfl rfl rfl ?_; rotate_left 1; (focus (first | exact run_add64 (by omega) (by omega) | exact run_sub64 (by omega) (by omega) | (intro w'; go_simp; exact rfl))))); all_goals (try (simp only [Nat.zero_add, Nat.add_zero, Nat.mul_one, Nat.zero_mul, Act.put, Act.eval, Array.getD_eq_getD_getElem?, List.getElem?_toArray, List.getElem?_cons_succ, List.getElem?_cons_zero, Option.getD_some, List.setIfInBounds_toArray, List.set_cons_succ, List.set_cons_zero, List.getElem_toArray, List.getElem_cons_succ, List.getElem_cons_zero]))) | ((with_reducible refine rgate (id := 6) ?_); refine wp_region_quiet_st (id := 6) st (by kernel_rfl) (by kernel_rfl) ?_; clear st))
    go_loopw [13] (fun i wr => ∃ k : Nat, k ≤ n ∧ i = .int .i64 k ∧ SameTo A B k ∧ St [] w wr []) (fun i _ => n - (intOf i).toNat)
    case atStart => exact ⟨0, by omega, rfl, fun _ _ _ h => absurd h (by omega), st⟩
    case round =>
      clear st
      obtain ⟨k, hk, rfl, hs, st⟩ := hrel
      replace hs := hid hs
      by_cases hlt : k < n
      · have hd : decide ((k : Int) < (n : Int)) = true := by simpa using hlt
        obtain ⟨b, f, hp, hcl⟩ := hr (by omega)
        obtain ⟨b', f', hp', hcl'⟩ := hr' (by omega)
        have HP := hid hp
        have HP2 := hid hp'
        have hkA : k < A.length := by rw [hA.out]; exact hlt
        have hkB : k < B.length := by rw [hB.out]; exact hlt
        have hb := hcl.seg fv_len hkA
        have hb' := hcl'.seg fv_len hkB
        have HS := hid (hs.out.step hkA hkB)
        have HN := hid (same_no hkA hkB)
        obtain ⟨x, hx⟩ : ∃ x, A[k] = x := ⟨_, rfl⟩
        obtain ⟨y, hy⟩ : ∃ y, B[k] = y := ⟨_, rfl⟩
        rw [hx] at hb HS HN
        rw [hy] at hb' HS HN
        clear hx hy hp hcl hp' hcl' hkA hkB
        go_wp2_with (first | ((with_reducible refine gate_lst ?_); (first | ((with_reducible refine gate_load rfl ?_); (first | (refine ia_loadAll st rfl rfl rfl ?_ ?_; (focus (first | rfl | (simp; done) | (simp; assumption) | (simp; omega) | (simp [*]; done)))) | (refine ia_loadC (hb.keep st.keep (by simp)) rfl rfl rfl ?_ ?_; (focus (first | rfl | (simp; done) | (simp; assumption) | (simp; omega) | (simp [*]; done)))) | (refine ia_loadC (hb'.keep st.keep (by simp)) rfl rfl rfl ?_ ?_; (focus (first | rfl | (simp; done) | (simp; assumption) | (simp; omega) | (simp [*]; done)))) | (refine ia_loadC (Cl.of (hb1.keep st.keep (by simp))) rfl rfl rfl ?_ ?_; (focus (first | rfl | (simp; done) | (simp; assumption) | (simp; omega) | (simp [*]; done)))) | (refine ia_loadC (Cl.of (hb2.keep st.keep (by simp))) rfl rfl rfl ?_ ?_; (focus (first | rfl | (simp; done) | (simp; assumption) | (simp; omega) | (simp [*]; done)))))) | ((with_reducible refine gate_addr rfl ?_); (first | (refine' ia_slcP HP.out rfl rfl rfl rfl ?_ ?_ ?_) | (refine' ia_slcP HP2.out rfl rfl rfl rfl ?_ ?_ ?_)); rotate_left 1; (focus (first | exact (rfl : (0 : Int) = ((0 : Nat) : Int)) | exact (rfl : (1 : Int) = ((1 : Nat) : Int)) | exact rfl | exact HE1.out | exact HE2.out)); (focus (first | omega | (simp; done) | (simp; omega) | (simp [*]; omega)))))) | ((with_reducible refine qgate_nil ?_); refine wpQuiet_nil ?_; (try intro _ st)) | ((with_reducible refine qgate_any ?_); (first | ((with_reducible refine qgate_ne (P := Tryz.prog) rfl ?_); refine qa_neF rfl rfl rfl rfl ?_ ?_ <;> (intro hE; (simp only [Nat.zero_add, Nat.add_zero, Nat.mul_one, Nat.zero_mul, Act.put, Act.eval, Array.getD_eq_getD_getElem?, List.getElem?_toArray, List.getElem?_cons_succ, List.getElem?_cons_zero, Option.getD_some, List.setIfInBounds_toArray, List.set_cons_succ, List.set_cons_zero, List.getElem_toArray, List.getElem_cons_succ, List.getElem_cons_zero]))) | ((first | (with_reducible refine qg_move rfl ?_)); refine qa_val (fun _ _ => rfl) rfl ?_) | ((with_reducible refine qgate_load rfl ?_); (first | (refine iq_loadAll rfl rfl rfl ?_ ?_; (focus (first | rfl | (simp; done) | (simp; assumption) | (simp; omega) | (simp [*]; done)))) | (refine iq_loadC hb rfl rfl rfl ?_ ?_; (focus (first | rfl | (simp; done) | (simp; assumption) | (simp; omega) | (simp [*]; done)))) | (refine iq_loadC hb' rfl rfl rfl ?_ ?_; (focus (first | rfl | (simp; done) | (simp; assumption) | (simp; omega) | (simp [*]; done)))))) | ((with_reducible refine qgate_addr rfl ?_); (first | (refine' iq_slc rfl rfl rfl rfl ?_ ?_ ?_) | (refine' iq_slcP HP.out rfl rfl rfl rfl ?_ ?_ ?_) | (refine' iq_slcP HP2.out rfl rfl rfl rfl ?_ ?_ ?_) | (refine' iq_arr rfl rfl rfl rfl ?_ ?_ ?_)); rotate_left 1; (focus (first | exact (rfl : (0 : Int) = ((0 : Nat) : Int)) | exact (rfl : (1 : Int) = ((1 : Nat) : Int)) | exact rfl | exact HE1.out | exact HE2.out)); (focus (first | omega | (simp; done) | (simp; omega) | (simp [*]; omega)))) | ((with_reducible refine qgate_bin rfl ?_); refine' qa_bin ?_ rfl rfl rfl rfl ?_; rotate_left 1; (focus (first | exact run_add64 (by omega) (by omega) | exact run_sub64 (by omega) (by omega) | (intro w'; go_simp; exact rfl))))); all_goals (try (simp only [Nat.zero_add, Nat.add_zero, Nat.mul_one, Nat.zero_mul, Act.put, Act.eval, Array.getD_eq_getD_getElem?, List.getElem?_toArray, List.getElem?_cons_succ, List.getElem?_cons_zero, Option.getD_some, List.setIfInBounds_toArray, List.set_cons_succ, List.set_cons_zero, List.getElem_toArray, List.getElem_cons_succ, List.getElem_cons_zero]))) | ((with_reducible refine rgate (id := 6) ?_); refine wp_region_quiet_st (id := 6) st (by kernel_rfl) (by kernel_rfl) ?_; clear st))
        · go_roundw
          case rel => exact ⟨k + 1, by omega, by go_num, HS.out hE, st⟩
          case measure => simp [intOf]; omega
        · go_ret
          exact ⟨ret_bool (HN.out hE).symm, st.keep⟩
      · obtain rfl : k = n := by omega
        go_wp2_with (first | ((with_reducible refine gate_lst ?_); (first | ((with_reducible refine gate_load rfl ?_); (first | (refine ia_loadAll st rfl rfl rfl ?_ ?_; (focus (first | rfl | (simp; done) | (simp; assumption) | (simp; omega) | (simp [*]; done)))) | (refine ia_loadC (hb.keep st.keep (by simp)) rfl rfl rfl ?_ ?_; (focus (first | rfl | (simp; done) | (simp; assumption) | (simp; omega) | (simp [*]; done)))) | (refine ia_loadC (hb'.keep st.keep (by simp)) rfl rfl rfl ?_ ?_; (focus (first | rfl | (simp; done) | (simp; assumption) | (simp; omega) | (simp [*]; done)))) | (refine ia_loadC (Cl.of (hb1.keep st.keep (by simp))) rfl rfl rfl ?_ ?_; (focus (first | rfl | (simp; done) | (simp; assumption) | (simp; omega) | (simp [*]; done)))) | (refine ia_loadC (Cl.of (hb2.keep st.keep (by simp))) rfl rfl rfl ?_ ?_; (focus (first | rfl | (simp; done) | (simp; assumption) | (simp; omega) | (simp [*]; done)))))) | ((with_reducible refine gate_addr rfl ?_); (first | (refine' ia_slcP HP.out rfl rfl rfl rfl ?_ ?_ ?_) | (refine' ia_slcP HP2.out rfl rfl rfl rfl ?_ ?_ ?_)); rotate_left 1; (focus (first | exact (rfl : (0 : Int) = ((0 : Nat) : Int)) | exact (rfl : (1 : Int) = ((1 : Nat) : Int)) | exact rfl | exact HE1.out | exact HE2.out)); (focus (first | omega | (simp; done) | (simp; omega) | (simp [*]; omega)))))) | ((with_reducible refine qgate_nil ?_); refine wpQuiet_nil ?_; (try intro _ st)) | ((with_reducible refine qgate_any ?_); (first | ((first | (with_reducible refine qg_move rfl ?_)); refine qa_val (fun _ _ => rfl) rfl ?_) | ((with_reducible refine qgate_load rfl ?_); (first | (refine iq_loadAll rfl rfl rfl ?_ ?_; (focus (first | rfl | (simp; done) | (simp; assumption) | (simp; omega) | (simp [*]; done)))) | (refine iq_loadC hb rfl rfl rfl ?_ ?_; (focus (first | rfl | (simp; done) | (simp; assumption) | (simp; omega) | (simp [*]; done)))) | (refine iq_loadC hb' rfl rfl rfl ?_ ?_; (focus (first | rfl | (simp; done) | (simp; assumption) | (simp; omega) | (simp [*]; done)))))) | ((with_reducible refine qgate_addr rfl ?_); (first | (refine' iq_slc rfl rfl rfl rfl ?_ ?_ ?_) | (refine' iq_slcP HP.out rfl rfl rfl rfl ?_ ?_ ?_) | (refine' iq_slcP HP2.out rfl rfl rfl rfl ?_ ?_ ?_) | (refine' iq_arr rfl rfl rfl rfl ?_ ?_ ?_)); rotate_left 1; (focus (first | exact (rfl : (0 : Int) = ((0 : Nat) : Int)) | exact (rfl : (1 : Int) = ((1 : Nat) : Int)) | exact rfl | exact HE1.out | exact HE2.out)); (focus (first | omega | (simp; done) | (simp; omega) | (simp [*]; omega)))) | ((with_reducible refine qgate_bin rfl ?_); refine' qa_bin ?_ rfl rfl rfl rfl ?_; rotate_left 1; (focus (first | exact run_add64 (by omega) (by omega) | exact run_sub64 (by omega) (by omega) | (intro w'; go_simp; exact rfl))))); all_goals (try (simp only [Nat.zero_add, Nat.add_zero, Nat.mul_one, Nat.zero_mul, Act.put, Act.eval, Array.getD_eq_getD_getElem?, List.getElem?_toArray, List.getElem?_cons_succ, List.getElem?_cons_zero, Option.getD_some, List.setIfInBounds_toArray, List.set_cons_succ, List.set_cons_zero, List.getElem_toArray, List.getElem_cons_succ, List.getElem_cons_zero]))) | ((with_reducible refine rgate (id := 6) ?_); refine wp_region_quiet_st (id := 6) st (by kernel_rfl) (by kernel_rfl) ?_; clear st))
        go_ret
        exact ⟨ret_bool (same_yes hA.out hB.out hs.out).symm, st.keep⟩
  · have hne : decide (A = B) = false := by
      rw [decide_eq_false_iff_not]; intro e; apply hnm; rw [← hA.out, ← hB.out, e]
    have hni : ¬ (n : Int) = (m : Int) := by omega
    rw [hne]
    go_enter Tryz.func46, Tryz.ntmps46
    go_wp2_with (first | ((with_reducible refine gate_lst ?_); (first | ((with_reducible refine gate_load rfl ?_); (first | (refine ia_loadAll st rfl rfl rfl ?_ ?_; (focus (first | rfl | (simp; done) | (simp; assumption) | (simp; omega) | (simp [*]; done)))) | (refine ia_loadC (hb.keep st.keep (by simp)) rfl rfl rfl ?_ ?_; (focus (first | rfl | (simp; done) | (simp; assumption) | (simp; omega) | (simp [*]; done)))) | (refine ia_loadC (hb'.keep st.keep (by simp)) rfl rfl rfl ?_ ?_; (focus (first | rfl | (simp; done) | (simp; assumption) | (simp; omega) | (simp [*]; done)))) | (refine ia_loadC (Cl.of (hb1.keep st.keep (by simp))) rfl rfl rfl ?_ ?_; (focus (first | rfl | (simp; done) | (simp; assumption) | (simp; omega) | (simp [*]; done)))) | (refine ia_loadC (Cl.of (hb2.keep st.keep (by simp))) rfl rfl rfl ?_ ?_; (focus (first | rfl | (simp; done) | (simp; assumption) | (simp; omega) | (simp [*]; done)))))) | ((with_reducible refine gate_addr rfl ?_); (first | (refine' ia_slcP HP.out rfl rfl rfl rfl ?_ ?_ ?_) | (refine' ia_slcP HP2.out rfl rfl rfl rfl ?_ ?_ ?_)); rotate_left 1; (focus (first | exact (rfl : (0 : Int) = ((0 : Nat) : Int)) | exact (rfl : (1 : Int) = ((1 : Nat) : Int)) | exact rfl | exact HE1.out | exact HE2.out)); (focus (first | omega | (simp; done) | (simp; omega) | (simp [*]; omega)))))) | ((with_reducible refine qgate_nil ?_); refine wpQuiet_nil ?_; (try intro _ st)) | ((with_reducible refine qgate_any ?_); (first | ((first | (with_reducible refine qg_move rfl ?_)); refine qa_val (fun _ _ => rfl) rfl ?_) | ((with_reducible refine qgate_load rfl ?_); (first | (refine iq_loadAll rfl rfl rfl ?_ ?_; (focus (first | rfl | (simp; done) | (simp; assumption) | (simp; omega) | (simp [*]; done)))) | (refine iq_loadC hb rfl rfl rfl ?_ ?_; (focus (first | rfl | (simp; done) | (simp; assumption) | (simp; omega) | (simp [*]; done)))) | (refine iq_loadC hb' rfl rfl rfl ?_ ?_; (focus (first | rfl | (simp; done) | (simp; assumption) | (simp; omega) | (simp [*]; done)))))) | ((with_reducible refine qgate_addr rfl ?_); (first | (refine' iq_slc rfl rfl rfl rfl ?_ ?_ ?_) | (refine' iq_slcP HP.out rfl rfl rfl rfl ?_ ?_ ?_) | (refine' iq_slcP HP2.out rfl rfl rfl rfl ?_ ?_ ?_) | (refine' iq_arr rfl rfl rfl rfl ?_ ?_ ?_)); rotate_left 1; (focus (first | exact (rfl : (0 : Int) = ((0 : Nat) : Int)) | exact (rfl : (1 : Int) = ((1 : Nat) : Int)) | exact rfl | exact HE1.out | exact HE2.out)); (focus (first | omega | (simp; done) | (simp; omega) | (simp [*]; omega)))) | ((with_reducible refine qgate_bin rfl ?_); refine' qa_bin ?_ rfl rfl rfl rfl ?_; rotate_left 1; (focus (first | exact run_add64 (by omega) (by omega) | exact run_sub64 (by omega) (by omega) | (intro w'; go_simp; exact rfl))))); all_goals (try (simp only [Nat.zero_add, Nat.add_zero, Nat.mul_one, Nat.zero_mul, Act.put, Act.eval, Array.getD_eq_getD_getElem?, List.getElem?_toArray, List.getElem?_cons_succ, List.getElem?_cons_zero, Option.getD_some, List.setIfInBounds_toArray, List.set_cons_succ, List.set_cons_zero, List.getElem_toArray, List.getElem_cons_succ, List.getElem_cons_zero]))) | ((with_reducible refine rgate (id := 6) ?_); refine wp_region_quiet_st (id := 6) st (by kernel_rfl) (by kernel_rfl) ?_; clear st))
    go_ret
    exact ⟨rfl, st.keep⟩
end Go.Proofs.YtmfgbkmkcljciaaGreatDoor
/- Row by row: inverted, met, joined, cut out, flipped; no condition. -/
namespace Go.Proofs.YtmfgbkmkcljciaaGreatDoor
open Go.RowKit
set_option linter.unusedSimpArgs false
set_option linter.unusedVariables false

theorem run_sub4095 {P : Program} {T : TypeId} {a : Nat} (ha : a < 4096) (w : World) : (binOp .sub T (.int .u16 4095) (.int .u16 a)).run P w = .ok (.int .u16 ((4095 - a : Nat) : Int)) w := by
  have e : IntKind.u16.wrap (4095 - (a : Int)) = ((4095 - a : Nat) : Int) := by rw [u16_wrap (by omega) (by omega)]; omega
  go_simp
theorem part_get (h : Nat → Nat) (base : List Nat) (y k : Nat) (hk : k < 12) (hy : y ≤ k) : (frv (part h base y))[k]? = some (.int .u16 (ro base k : Nat)) := by
  rw [frv_get _ _ (by rw [part_length]; exact hk), ro_part _ _ _ _ hk, if_neg (by omega)]
/-- A closure that tells a row of two. -/
def Rows2 (fv : Value) (g : Nat → Nat → Nat) : Prop :=
  ∃ (F : FuncId) (fn : Func), fv = .func (.func F) #[] #[] ∧ Tryz.prog.funcs[F]? = some fn ∧ (fn.name == "runtime.NumGoroutine") = false ∧ fn.body.isNone = false ∧
    ∀ (a b : Nat) (w : World), a < 65536 → b < 65536 → Calls Tryz.prog F #[.int .u16 a, .int .u16 b] w fun e w' => e = .returned (.int .u16 (g a b : Nat)) ∧ Keep [] w w'
def mixR (k : Nat → Nat → Nat) (f g : List Nat) : List Nat := rowsOf fun y => k (ro f y) (ro g y)
set_option maxRecDepth 100000 in
theorem mix_c (fv : Value) (k : Nat → Nat → Nat) (ht : Rows2 fv k) (f g : List Nat) (okf : FrOk f) (okg : FrOk g) (w : World) :
    Calls Tryz.prog 94 #[.agg (frv f).toArray, .agg (frv g).toArray, fv] w fun e w' => e = .returned (.agg (frv (mixR k f g)).toArray) ∧ Keep [] w w' := by
  obtain ⟨F, fn, rfl, hF, hn, hbd, hall⟩ := ht
  have HA := hid hall
  clear hall
  have HF := hid hF
  have HN := hid hn
  have HB := hid hbd
  clear hF hn hbd
  have hf := okf.len
  have hg := okg.len
  have st := St.start w
  go_enter Tryz.func94, Tryz.ntmps94
  go_wp2_with (first | ((with_reducible refine gate_box rfl ?_); (with_reducible refine gate_dst (N := 3) rfl ?_); refine wpl_box rfl _ _ rfl _ rfl _ rfl st ?_; clear st; intro B3 _ st) | ((with_reducible refine gate_box rfl ?_); (with_reducible refine gate_dst (N := 4) rfl ?_); refine wpl_box rfl _ _ rfl _ rfl _ rfl st ?_; clear st; intro B4 _ st) | ((with_reducible refine gate_alloc rfl ?_); (with_reducible refine gate_dst (N := 6) rfl ?_); refine wpl_alloc rfl _ rfl tFr.toAggT st ?_; clear st; intro B6 _ st) | ((with_reducible refine gate_load rfl ?_); refine wpl_loadAll rfl _ _ rfl _ rfl tFr.toAggT _ _ (st.get (by repeat (first | exact At.here | apply At.there))) (by simp [frv_length, zf_length, mk_length, withD_length, part_length, rowsOf_length, *]) ?_))
  rw [frv_zero] at st
  go_loopw [10] (fun i wr => ∃ y : Nat, y ≤ 12 ∧ i = .int .i64 y ∧ St [] w wr [(B6, frv zf, 42), (B4, frv g, 42), (B3, frv (part (fun y => k (ro f y) (ro g y)) f y), 42)]) (fun i _ => 12 - (intOf i).toNat)
  case atStart => exact ⟨0, by omega, rfl, by rw [part_zero _ _ hf]; exact st⟩
  case round =>
    clear st
    obtain ⟨y, hy, rfl, st⟩ := hrel
    by_cases hlt : y < 12
    · have hdy : decide ((y : Int) < 12) = true := by simp; omega
      go_wp2_with (first | ((with_reducible refine gate_index rfl ?_); refine wpl_index rfl _ _ _ rfl _ rfl _ _ rfl tFr y rfl hlt _ (frv_get _ _ (by omega)) ?_) | ((with_reducible refine gate_addr rfl ?_); refine wpl_indexAddr0 rfl _ _ rfl _ rfl _ _ rfl tFr y rfl hlt ?_) | ((with_reducible refine gate_load rfl ?_); refine wpl_load1 rfl _ _ rfl _ rfl tU16 _ ((st.get (by repeat (first | exact At.here | apply At.there))).cellv (frv_get _ _ (by omega))) ?_) | ((with_reducible refine gate_call rfl ?_); (with_reducible refine gate_dst (N := 20) rfl ?_); refine wpl_call rfl _ rfl _ rfl F #[] #[] rfl fn HF.out HN.out HB.out #[.int .u16 (ro f y : Nat), .int .u16 (ro g y : Nat)] (by simp [Act.eval, Act.put]) ?_; refine (HA.out (ro f y) (ro g y) _ (okf.ro_lt y) (okg.ro_lt y)).mono ?_; rintro _ _ ⟨rfl, hk⟩; refine ⟨(.int .u16 (k (ro f y) (ro g y) : Nat)), rfl, ?_⟩; replace st := st.call hk; clear hk) | ((with_reducible refine gate_store rfl ?_); refine wpl_store1 rfl _ _ _ rfl _ _ rfl (.int .u16 _) rfl tU16 rfl rfl st _ _ (by repeat (first | exact Upd.here | apply Upd.there)) (by rw [frv_length, part_length]; omega) ?_; rw [frv_set, part_set (fun y => k (ro f y) (ro g y)) f y hlt];clear st; intro _ st))
      go_roundw
      case rel => exact ⟨y + 1, by omega, by go_num, st⟩
      case measure => simp [intOf]; omega
    · obtain rfl : y = 12 := by omega
      rw [part_all] at st
      go_wp2_with (first | ((with_reducible refine gate_load rfl ?_); refine wpl_loadAll rfl _ _ rfl _ rfl tFr.toAggT _ _ (st.get (by repeat (first | exact At.here | apply At.there))) (by rw [frv_length, rowsOf_length]) ?_) | ((with_reducible refine gate_store rfl ?_); refine wpl_storeAll rfl _ _ _ rfl _ rfl _ rfl tFr.toAggT (by rw [frv_length, rowsOf_length]) (frv_one _) st _ _ (by repeat (first | exact Upd.here | apply Upd.there)) (by simp [frv_length, zf_length]) ?_; clear st; intro _ st))
      refine bodyPost_cell rfl tFr.toAggT rfl _ rfl _ _ (st.get (by repeat (first | exact At.here | apply At.there))) (by rw [frv_length, rowsOf_length]) ?_
      exact ⟨rfl, st.keep⟩

theorem differ1_c (a b : Nat) (w : World) (ha : a < 65536) (hb : b < 65536) : Calls Tryz.prog 95 #[.int .u16 a, .int .u16 b] w fun e w' => e = .returned (.int .u16 (a ^^^ b : Nat)) ∧ Keep [] w w' := by
  go_enter Tryz.func95, Tryz.ntmps95
  go_wp2_with (first | ((with_reducible refine gate_bin rfl ?_); refine wpl_bin rfl _ _ _ _ _ rfl _ _ _ _ rfl rfl (.int .u16 ((a ^^^ b : Nat) : Int)) (fun w' => run_xor ha hb w') ?_))
  go_ret
  exact ⟨rfl, Keep.refl _ _⟩
theorem rows2_differ : Rows2 (.func (.func 95) #[] #[]) (fun a b => a ^^^ b) := ⟨_, _, rfl, Tryz.func95, by kernel_rfl, by kernel_rfl, fun a b w ha hb => differ1_c a b w ha hb⟩
def mixOp (k : Nat → Nat → Nat) (f g : List Nat) (w : World) (e : Ending) (w' : World) : Prop := e = .returned (.agg (frv (mixR k f g)).toArray) ∧ Keep [] w w'
theorem mixR_length (k : Nat → Nat → Nat) (f g : List Nat) : (mixR k f g).length = 12 := rowsOf_length _
theorem differ_c (f g : List Nat) (okf : FrOk f) (okg : FrOk g) (w : World) : Calls Tryz.prog 75 #[.agg (frv f).toArray, .agg (frv g).toArray] w fun e w' => e = .returned (.agg (frv (mixR (fun a b => a ^^^ b) f g)).toArray) ∧ Keep [] w w' := by
  have hf := okf.len
  have hg := okg.len
  have st := St.start w
  go_enter Tryz.func75, Tryz.ntmps75
  go_wp2_with (first | ((with_reducible refine gate_box rfl ?_); refine wpl_box rfl _ _ rfl _ rfl _ rfl st ?_; clear st; intro _ _ st) | ((with_reducible refine gate_alloc rfl ?_); refine wpl_alloc rfl _ rfl tFr.toAggT st ?_; clear st; intro _ _ st) | ((with_reducible refine gate_load rfl ?_); refine wpl_loadAll rfl _ _ rfl _ rfl tFr.toAggT _ _ (st.get (by repeat (first | exact At.here | apply At.there))) (by simp [frv_length, zf_length, mk_length, withD_length, part_length, rowsOf_length, *]) ?_) | (go_at_call 94; refine (mix_c _ _ rows2_differ f g okf okg _).mono ?_; rintro _ _ ⟨rfl, hk⟩; replace st := st.call hk; clear hk) | ((with_reducible refine gate_store rfl ?_); refine wpl_storeAll rfl _ _ _ rfl _ rfl _ rfl tFr.toAggT (by rw [frv_length, mixR_length]) (frv_one _) st _ _ (by repeat (first | exact Upd.here | apply Upd.there)) (by simp [frv_length, zf_length, mk_length, withD_length, part_length, rowsOf_length, *]) ?_; clear st; intro _ st))
  refine bodyPost_cell rfl tFr.toAggT rfl _ rfl _ _ (st.get (by repeat (first | exact At.here | apply At.there))) (by rw [frv_length, mixR_length]) ?_
  exact ⟨rfl, st.keep⟩

/-! ### Invert -/
/-- The code of a question about one frame. -/
def codeF (f : List Nat) : Int := if okB f = true then 0 else 1
theorem codeF_0 {f : List Nat} (h : okB f = true) : codeF f = 0 := by simp [codeF, h]
theorem codeF_1 {f : List Nat} (h : okB f = false) : codeF f = 1 := by simp [codeF, h]
def invR (f : List Nat) : List Nat := if okB f = true then rowsOf (fun y => 4095 - ro f y) else zf
theorem invR_ok {f : List Nat} (ok : FrOk f) : FrOk (invR f) := by
  unfold invR
  split
  · exact rowsOf_ok fun y _ => by omega
  · exact zf_ok
end Go.Proofs.YtmfgbkmkcljciaaGreatDoor
/- Two frames: both valid, met, joined, cut out; no condition. -/
namespace Go.Proofs.YtmfgbkmkcljciaaGreatDoor
open Go.RowKit
set_option linter.unusedSimpArgs false
set_option linter.unusedVariables false

/-- The code of a question about two frames. -/
def codeG (f g : List Nat) : Int := if okB f = true ∧ okB g = true then 0 else 1
theorem codeG_0 {f g : List Nat} (h : okB f = true) (h' : okB g = true) : codeG f g = 0 := by simp [codeG, h, h']
theorem codeG_1 {f g : List Nat} (h : okB f = false) : codeG f g = 1 := by simp [codeG, h]
theorem codeG_2 {f g : List Nat} (h : okB g = false) : codeG f g = 1 := by simp [codeG, h]
theorem codeG_ok {f g : List Nat} (h : codeG f g = 0) : okB f = true ∧ okB g = true := by
  unfold codeG at h
  split at h
  · assumption
  · cases h
theorem l01Ok_v {f : List Nat} {v : Bool} (h : okB f = v) (hf : f.length = 12) (b o : Nat) (w : World) (hb : Cl w b o (frv f)) :
    Calls Tryz.prog 73 #[.pointer (some ⟨b, o, none⟩)] w fun e w' => e = .returned (.bool v) ∧ Keep [] w w' := by
  subst h; exact l01Ok_c f hf b o w hb
/-! ### Lists of frames in memory -/
def fsv (fs : List (List Nat)) : List Value := fs.flatMap frv
theorem fsv_append (fs gs : List (List Nat)) : fsv (fs ++ gs) = fsv fs ++ fsv gs := by simp [fsv]
theorem fsv_length {fs : List (List Nat)} (hl : ∀ f ∈ fs, f.length = 12) : (fsv fs).length = fs.length * 12 := by
  induction fs with
  | nil => rfl
  | cons f fs ih =>
    have h1 := hl f (by simp)
    have h2 := ih (fun g hg => hl g (by simp [hg]))
    simp only [fsv, List.flatMap_cons, List.length_append, List.length_cons, frv_length] at h2 ⊢
    omega
theorem fsv_get {fs : List (List Nat)} (hl : ∀ f ∈ fs, f.length = 12) : ∀ {k j : Nat}, k < fs.length → j < 12 → (fsv fs)[k * 12 + j]? = (frv (fs.getD k zf))[j]? := by
  induction fs with
  | nil => intro k j hk; simp at hk
  | cons f fs ih =>
    intro k j hk hj
    have h1 := hl f (by simp)
    simp only [fsv, List.flatMap_cons] at ih ⊢
    cases k with
    | zero => rw [List.getElem?_append_left (by rw [frv_length]; omega)]; simp
    | succ k =>
      rw [List.getElem?_append_right (by rw [frv_length]; omega), frv_length, show (k + 1) * 12 + j - f.length = k * 12 + j by omega]
      rw [ih (fun g hg => hl g (by simp [hg])) (by simpa using hk) hj]
      simp
theorem Cl.frame {w : World} {b o : Nat} {fs : List (List Nat)} (h : Cl w b o (fsv fs)) (hl : ∀ f ∈ fs, f.length = 12) {k : Nat} (hk : k < fs.length) : Cl w b (o + k * 12) (frv (fs.getD k zf)) :=
  ⟨h.1, fun j v hj => by
    have hjl : j < 12 := by
      have := (List.getElem?_eq_some_iff.1 hj).1
      rw [frv_length] at this
      have h2 : (fs.getD k zf).length = 12 := by
        rw [List.getD_eq_getElem?_getD, List.getElem?_eq_getElem hk]; exact hl _ (List.getElem_mem hk)
      omega
    rw [Nat.add_assoc]
    exact h.2 _ v (by rw [fsv_get hl hk hjl]; exact hj)⟩
theorem getD_mem {fs : List (List Nat)} {k : Nat} (hk : k < fs.length) : fs.getD k zf ∈ fs := by
  rw [List.getD_eq_getElem?_getD, List.getElem?_eq_getElem hk]; exact List.getElem_mem hk
theorem are1_c (f : List Nat) (hf : f.length = 12) (w : World) : Calls Tryz.prog 78 #[.agg (frv f).toArray] w fun e w' => e = .returned (.bool (!okB f)) ∧ Keep [] w w' := by
  have st := St.start w
  go_enter Tryz.func78, Tryz.ntmps78
  go_wp2_with (first | ((with_reducible refine gate_box rfl ?_); refine wpl_box rfl _ _ rfl _ rfl _ rfl st ?_; clear st; intro _ _ st) | ((with_reducible refine gate_load rfl ?_); refine wpl_loadAll rfl _ _ rfl _ rfl tFr.toAggT _ _ (st.get (by repeat (first | exact At.here | apply At.there))) (by simp [frv_length, zf_length, mk_length, withD_length, part_length, rowsOf_length, *]) ?_) | (go_at_call 79; refine (ValidFrame_c f hf _).mono ?_; rintro _ _ ⟨rfl, hk⟩; replace st := st.call hk; clear hk))
  go_ret
  exact ⟨rfl, st.keep⟩
def allOk (fs : List (List Nat)) : Bool := fs.all okB
def IdxFPost (fs : List (List Nat)) (w : World) (e : Ending) (w' : World) : Prop := ∃ i : Int, e = .returned (.int .i64 i) ∧ (allOk fs = true → i = -1) ∧ (allOk fs = false → 0 ≤ i) ∧ Keep [] w w'
theorem allOk_not {fs : List (List Nat)} {k : Nat} (hk : k < fs.length) (h : okB (fs.getD k zf) = false) : allOk fs = false := by
  rw [Bool.eq_false_iff]
  intro ha
  have := List.all_eq_true.1 ha _ (getD_mem hk)
  rw [h] at this; cases this
theorem allOk_of {fs : List (List Nat)} (h : ∀ k, k < fs.length → okB (fs.getD k zf) = true) : allOk fs = true := by
  unfold allOk
  rw [List.all_eq_true]
  intro x hx
  obtain ⟨i, hi, rfl⟩ := List.mem_iff_getElem.1 hx
  have := h i hi
  rwa [List.getD_eq_getElem?_getD, List.getElem?_eq_getElem hi] at this
set_option maxRecDepth 100000 in
theorem indexFuncFr_c (fs : List (List Nat)) (hl : ∀ f ∈ fs, f.length = 12) (hn : fs.length ≤ maxLen) (b o cap : Nat) (w : World) (hb : Cl w b o (fsv fs)) :
    Calls Tryz.prog 97 #[.slice (some ⟨b, o, none⟩) fs.length cap, .func (.func 78) #[] #[]] w (IdxFPost fs w) := by
  have st := St.start w
  have hmx : fs.length ≤ 9223372036854775807 := by simp only [maxLen] at hn; omega
  go_enter Tryz.func97, Tryz.ntmps97
  go_wp2_with fail
  go_loopw [8] (fun i wr => ∃ k : Nat, k ≤ fs.length ∧ i = .int .i64 k ∧ (∀ y, y < k → okB (fs.getD y zf) = true) ∧ St [] w wr []) (fun i _ => fs.length - (intOf i).toNat)
  case atStart => exact ⟨0, by omega, rfl, by omega, st⟩
  case round =>
    clear st
    obtain ⟨k, hk, rfl, hle, st⟩ := hrel
    have HL := hid hle
    clear hle
    by_cases hlt : k < fs.length
    · have hd : decide ((k : Int) < (fs.length : Int)) = true := by simpa using hlt
      have hfl : (fs.getD k zf).length = 12 := hl _ (getD_mem hlt)
      have hc := (hb.frame hl hlt).keep st.keep (by simp)
      rcases Bool.eq_false_or_eq_true (okB (fs.getD k zf)) with h | h
      · obtain ⟨fk, hfk⟩ : ∃ fk, fk = fs.getD k zf := ⟨_, rfl⟩
        rw [← hfk] at hfl hc h
        have HK := hid hfk
        clear hfk
        go_wp2_with (first | ((with_reducible refine gate_addr rfl ?_); refine wpl_slcAddr rfl _ _ rfl _ _ _ _ rfl _ _ rfl tFrS k rfl hlt ?_) | ((with_reducible refine gate_load rfl ?_); refine wpl_loadC rfl _ _ rfl _ rfl tFr.toAggT (frv fk) (by rw [frv_length, hfl]) (fun j v hj => by rw [Addr.add_lit]; exact hc.cellv hj) ?_) | (go_at_call 78; refine (are1_c fk hfl _).mono ?_; rintro _ _ ⟨rfl, hk⟩; replace st := st.call hk; clear hk))
        go_roundw
        case rel =>
          refine ⟨k + 1, by omega, by go_num, fun y hy => ?_, st⟩
          by_cases e : y = k
          · subst e; rw [← HK.out]; exact h
          · exact HL.out y (by omega)
        case measure => simp [intOf]; omega
      · have hno := allOk_not hlt h
        obtain ⟨fk, hfk⟩ : ∃ fk, fk = fs.getD k zf := ⟨_, rfl⟩
        rw [← hfk] at hfl hc h
        have HK := hid hfk
        clear hfk
        go_wp2_with (first | ((with_reducible refine gate_addr rfl ?_); refine wpl_slcAddr rfl _ _ rfl _ _ _ _ rfl _ _ rfl tFrS k rfl hlt ?_) | ((with_reducible refine gate_load rfl ?_); refine wpl_loadC rfl _ _ rfl _ rfl tFr.toAggT (frv fk) (by rw [frv_length, hfl]) (fun j v hj => by rw [Addr.add_lit]; exact hc.cellv hj) ?_) | (go_at_call 78; refine (are1_c fk hfl _).mono ?_; rintro _ _ ⟨rfl, hk⟩; replace st := st.call hk; clear hk))
        go_ret
        exact ⟨k, rfl, fun h => (by rw [hno] at h; cases h), fun _ => (by omega), st.keep⟩
    · obtain rfl : k = fs.length := by omega
      go_wp2_with fail
      go_ret
      exact ⟨-1, rfl, fun _ => rfl, fun h => (by rw [allOk_of (fun y hy => HL.out y (by omega))] at h; cases h), st.keep⟩
theorem containsFr_c (fs : List (List Nat)) (hl : ∀ f ∈ fs, f.length = 12) (hn : fs.length ≤ maxLen) (b o cap : Nat) (w : World) (hb : Cl w b o (fsv fs)) :
    Calls Tryz.prog 77 #[.slice (some ⟨b, o, none⟩) fs.length cap, .func (.func 78) #[] #[]] w fun e w' => e = .returned (.bool (!allOk fs)) ∧ Keep [] w w' := by
  have st := St.start w
  rcases Bool.eq_false_or_eq_true (allOk fs) with h | h
  · rw [h]
    go_enter Tryz.func77, Tryz.ntmps77
    go_wp2_with (go_at_call 97; refine (indexFuncFr_c fs hl hn b o cap _ hb).mono ?_; rintro _ _ ⟨i, rfl, h1, h2, hk⟩; replace st := st.call hk; obtain rfl := h1 h; clear h1 h2 hk)
    go_ret
    exact ⟨rfl, st.keep⟩
  · rw [h]
    go_enter Tryz.func77, Tryz.ntmps77
    go_wp2_with (go_at_call 97; refine (indexFuncFr_c fs hl hn b o cap _ hb).mono ?_; rintro _ _ ⟨i, rfl, h1, h2, hk⟩; replace st := st.call hk; have h3 := h2 h; clear h1 h2 hk)
    go_ret
    exact ⟨by simp [*], st.keep⟩
theorem areFrames_c (fs : List (List Nat)) (hl : ∀ f ∈ fs, f.length = 12) (hn : fs.length ≤ maxLen) (b o cap : Nat) (w : World) (hb : Cl w b o (fsv fs)) :
    Calls Tryz.prog 48 #[.slice (some ⟨b, o, none⟩) fs.length cap] w fun e w' => e = .returned (.bool (allOk fs)) ∧ Keep [] w w' := by
  have st := St.start w
  go_enter Tryz.func48, Tryz.ntmps48
  go_wp2_with (first | (go_at_call 77; refine (containsFr_c fs hl hn b o cap _ hb).mono ?_; rintro _ _ ⟨rfl, hk⟩; replace st := st.call hk; clear hk))
  go_ret
  exact ⟨by simp, st.keep⟩
theorem areTwo_c (f g : List Nat) (hf : f.length = 12) (hg : g.length = 12) (b cap : Nat) (T : TypeId) (w : World) (hb : Blk w b (frv f ++ frv g) T) :
    Calls Tryz.prog 48 #[.slice (some ⟨b, 0, none⟩) 2 cap] w fun e w' => e = .returned (.bool (decide (codeG f g = 0))) ∧ Keep [] w w' := by
  have h := areFrames_c [f, g] (by simp [hf, hg]) (by simp [maxLen]) b 0 cap w (.of (cs := fsv [f, g]) (T := T) (by simpa [fsv] using hb))
  have e : allOk [f, g] = decide (codeG f g = 0) := by
    rcases Bool.eq_false_or_eq_true (okB f) with h1 | h1 <;> rcases Bool.eq_false_or_eq_true (okB g) with h2 | h2 <;> simp [allOk, codeG, h1, h2]
  rw [e] at h
  exact h
/-- What a function on two frames answers. -/
def twoR (k : Nat → Nat → Nat) (f g : List Nat) : List Nat := if codeG f g = 0 then mixR k f g else zf
theorem twoR_len (k : Nat → Nat → Nat) (f g : List Nat) : (twoR k f g).length = 12 := by
  unfold twoR
  split
  · exact mixR_length k f g
  · rfl


end Go.Proofs.YtmfgbkmkcljciaaGreatDoor
/- Valid books: the reference and the program; no condition. -/
namespace Go.Proofs.YtmfgbkmkcljciaaGreatDoor
open Go.RowKit
set_option linter.unusedSimpArgs false
set_option linter.unusedVariables false

def okL (B : List Fm) : Bool := B.all fun a => okB a.1
/-- The book is valid. -/
def bkB (B : List Fm) : Bool := okL B && decide (B.length ≤ 40)
theorem okL_no {B : List Fm} {k : Nat} (hk : k < B.length) (h : okB B[k].1 = false) : okL B = false := by
  unfold okL
  rw [List.all_eq_false]
  exact ⟨B[k], List.getElem_mem hk, by simp [h]⟩
def OkTo (B : List Fm) (k : Nat) : Prop := ∀ j (h1 : j < B.length), j < k → okB B[j].1 = true
theorem OkTo.step {B : List Fm} {k : Nat} (h : OkTo B k) (hk : k < B.length) (e : okB B[k].1 = true) : OkTo B (k + 1) := fun j h1 hj => by
  by_cases hjk : j = k
  · subst hjk; exact e
  · exact h j h1 (by omega)
theorem OkTo.all {B : List Fm} {n : Nat} (h : OkTo B n) (hn : B.length = n) : okL B = true := by
  unfold okL
  rw [List.all_eq_true]
  intro a ha
  obtain ⟨j, hj, rfl⟩ := List.mem_iff_getElem.1 ha
  exact h j hj (by omega)
theorem l01Ok_fm (a : Fm) (b o : Nat) (w : World) (hb : Cl w b o (fv a)) : Calls Tryz.prog 73 #[.pointer (some ⟨b, o, none⟩)] w fun e w' => e = .returned (.bool (okB a.1)) ∧ Keep [] w w' := l01Ok_c a.1 a.2.len b o w hb
set_option maxHeartbeats 1000000 in
set_option maxRecDepth 100000 in
theorem l02Ok_c (B : List Fm) (n : Nat) (hB : B.length = n) (hn : n ≤ 4000000) (p : Option Addr) (c : Nat) (w : World) (hr : Rd w p n (encs fv B)) :
    Calls Tryz.prog 39 #[.slice p n c] w fun e w' => e = .returned (.bool (bkB B)) ∧ Keep [] w w' := by
  have st := St.start w
  replace hB := hid hB
  go_enter Tryz.func39, Tryz.ntmps39
  go_wp2_with (first | ((with_reducible refine gate_lst ?_); (first | ((with_reducible refine gate_addr rfl ?_); (first | (refine' ia_slcP HP.out rfl rfl rfl rfl ?_ ?_ ?_) | (refine' ia_slcP HP2.out rfl rfl rfl rfl ?_ ?_ ?_)); rotate_left 1; (focus (first | exact (rfl : (0 : Int) = ((0 : Nat) : Int)) | exact (rfl : (1 : Int) = ((1 : Nat) : Int)) | exact rfl | exact HE1.out | exact HE2.out)); (focus (first | omega | (simp; done) | (simp; omega) | (simp [*]; omega)))))))
  go_loopw [3] (fun i wr => ∃ k : Nat, k ≤ n ∧ i = .int .i64 k ∧ OkTo B k ∧ St [] w wr []) (fun i _ => n - (intOf i).toNat)
  case atStart => exact ⟨0, by omega, rfl, fun _ _ h => absurd h (by omega), st⟩
  case round =>
    clear st
    obtain ⟨k, hk, rfl, hs, st⟩ := hrel
    replace hs := hid hs
    by_cases hlt : k < n
    · have hd : decide ((k : Int) < (n : Int)) = true := by simpa using hlt
      obtain ⟨b, f, hp, hcl⟩ := hr (by omega)
      have HP := hid hp
      have hkB : k < B.length := by rw [hB.out]; exact hlt
      have hb := hcl.seg fv_len hkB
      have HS := hid (hs.out.step hkB)
      have HN := hid (okL_no hkB)
      obtain ⟨x, hx⟩ : ∃ x, B[k] = x := ⟨_, rfl⟩
      rw [hx] at hb HS HN
      clear hx hp hcl hkB
      go_wp2_with (first | (go_at_call 73; refine (Calls.splitB (l01Ok_fm x _ _ _ (hb.keep st.keep (by simp)))).mono ?_; rintro _ _ (⟨hB_1, rfl, hk⟩ | ⟨hB_1, rfl, hk⟩) <;> (replace st := st.call hk; clear hk)) | ((with_reducible refine gate_lst ?_); (first | ((with_reducible refine gate_addr rfl ?_); (first | (refine' ia_slcP HP.out rfl rfl rfl rfl ?_ ?_ ?_) | (refine' ia_slcP HP2.out rfl rfl rfl rfl ?_ ?_ ?_)); rotate_left 1; (focus (first | exact (rfl : (0 : Int) = ((0 : Nat) : Int)) | exact (rfl : (1 : Int) = ((1 : Nat) : Int)) | exact rfl | exact HE1.out | exact HE2.out)); (focus (first | omega | (simp; done) | (simp; omega) | (simp [*]; omega)))))))
      · go_roundw
        case rel => exact ⟨k + 1, by omega, by go_num, HS.out hB_1, st⟩
        case measure => simp [intOf]; omega
      · go_ret
        exact ⟨ret_bool (by unfold bkB; rw [HN.out hB_1]; rfl), st.keep⟩
    · obtain rfl : k = n := by omega
      have h1 := hid (hs.out.all hB.out)
      go_wp2_with (first | ((with_reducible refine gate_lst ?_); (first | ((with_reducible refine gate_addr rfl ?_); (first | (refine' ia_slcP HP.out rfl rfl rfl rfl ?_ ?_ ?_) | (refine' ia_slcP HP2.out rfl rfl rfl rfl ?_ ?_ ?_)); rotate_left 1; (focus (first | exact (rfl : (0 : Int) = ((0 : Nat) : Int)) | exact (rfl : (1 : Int) = ((1 : Nat) : Int)) | exact rfl | exact HE1.out | exact HE2.out)); (focus (first | omega | (simp; done) | (simp; omega) | (simp [*]; omega)))))))
      go_ret
      exact ⟨ret_bool (by unfold bkB; rw [h1.out, hB.out, Bool.true_and]; congr 1; simp; omega), st.keep⟩
theorem are1_fm (a : Fm) (w : World) : Calls Tryz.prog 78 #[.agg (fv a).toArray] w fun e w' => e = .returned (.bool (!okB a.1)) ∧ Keep [] w w' := are1_c a.1 a.2.len w
def IdxBPost (B : List Fm) (w : World) (e : Ending) (w' : World) : Prop := ∃ i : Int, e = .returned (.int .i64 i) ∧ (okL B = true → i = -1) ∧ (okL B = false → 0 ≤ i) ∧ Keep [] w w'
set_option maxHeartbeats 1000000 in
set_option maxRecDepth 100000 in
theorem indexFuncB_c (B : List Fm) (n : Nat) (hB : B.length = n) (hn : n ≤ 4000000) (p : Option Addr) (c : Nat) (w : World) (hr : Rd w p n (encs fv B)) :
    Calls Tryz.prog 97 #[.slice p n c, .func (.func 78) #[] #[]] w (IdxBPost B w) := by
  have st := St.start w
  replace hB := hid hB
  go_enter Tryz.func97, Tryz.ntmps97
  go_wp2_with (first | ((with_reducible refine gate_lst ?_); (first | ((with_reducible refine gate_load rfl ?_); (first | (refine ia_loadAll st rfl rfl rfl ?_ ?_; (focus (first | rfl | (simp; done) | (simp; assumption) | (simp; omega) | (simp [*]; done)))) | (refine ia_loadC (hb.keep st.keep (by simp)) rfl rfl rfl ?_ ?_; (focus (first | rfl | (simp; done) | (simp; assumption) | (simp; omega) | (simp [*]; done)))) | (refine ia_loadC (hb'.keep st.keep (by simp)) rfl rfl rfl ?_ ?_; (focus (first | rfl | (simp; done) | (simp; assumption) | (simp; omega) | (simp [*]; done)))) | (refine ia_loadC (Cl.of (hb1.keep st.keep (by simp))) rfl rfl rfl ?_ ?_; (focus (first | rfl | (simp; done) | (simp; assumption) | (simp; omega) | (simp [*]; done)))) | (refine ia_loadC (Cl.of (hb2.keep st.keep (by simp))) rfl rfl rfl ?_ ?_; (focus (first | rfl | (simp; done) | (simp; assumption) | (simp; omega) | (simp [*]; done)))))) | ((with_reducible refine gate_addr rfl ?_); (first | (refine' ia_slcP HP.out rfl rfl rfl rfl ?_ ?_ ?_) | (refine' ia_slcP HP2.out rfl rfl rfl rfl ?_ ?_ ?_)); rotate_left 1; (focus (first | exact (rfl : (0 : Int) = ((0 : Nat) : Int)) | exact (rfl : (1 : Int) = ((1 : Nat) : Int)) | exact rfl | exact HE1.out | exact HE2.out)); (focus (first | omega | (simp; done) | (simp; omega) | (simp [*]; omega)))))))
  go_loopw [8] (fun i wr => ∃ k : Nat, k ≤ n ∧ i = .int .i64 k ∧ OkTo B k ∧ St [] w wr []) (fun i _ => n - (intOf i).toNat)
  case atStart => exact ⟨0, by omega, rfl, fun _ _ h => absurd h (by omega), st⟩
  case round =>
    clear st
    obtain ⟨k, hk, rfl, hs, st⟩ := hrel
    replace hs := hid hs
    by_cases hlt : k < n
    · have hd : decide ((k : Int) < (n : Int)) = true := by simpa using hlt
      obtain ⟨b, f, hp, hcl⟩ := hr (by omega)
      have HP := hid hp
      have hkB : k < B.length := by rw [hB.out]; exact hlt
      have hb := hcl.seg fv_len hkB
      have HS := hid (hs.out.step hkB)
      have HN := hid (okL_no hkB)
      obtain ⟨x, hx⟩ : ∃ x, B[k] = x := ⟨_, rfl⟩
      rw [hx] at hb HS HN
      clear hx hp hcl hkB
      go_wp2_with (first | (go_at_call 78; refine (Calls.splitB (are1_fm x _)).mono ?_; rintro _ _ (⟨hB_1, rfl, hk⟩ | ⟨hB_1, rfl, hk⟩) <;> (replace st := st.call hk; clear hk)) | ((with_reducible refine gate_lst ?_); (first | ((with_reducible refine gate_load rfl ?_); (first | (refine ia_loadAll st rfl rfl rfl ?_ ?_; (focus (first | rfl | (simp; done) | (simp; assumption) | (simp; omega) | (simp [*]; done)))) | (refine ia_loadC (hb.keep st.keep (by simp)) rfl rfl rfl ?_ ?_; (focus (first | rfl | (simp; done) | (simp; assumption) | (simp; omega) | (simp [*]; done)))) | (refine ia_loadC (hb'.keep st.keep (by simp)) rfl rfl rfl ?_ ?_; (focus (first | rfl | (simp; done) | (simp; assumption) | (simp; omega) | (simp [*]; done)))) | (refine ia_loadC (Cl.of (hb1.keep st.keep (by simp))) rfl rfl rfl ?_ ?_; (focus (first | rfl | (simp; done) | (simp; assumption) | (simp; omega) | (simp [*]; done)))) | (refine ia_loadC (Cl.of (hb2.keep st.keep (by simp))) rfl rfl rfl ?_ ?_; (focus (first | rfl | (simp; done) | (simp; assumption) | (simp; omega) | (simp [*]; done)))))) | ((with_reducible refine gate_addr rfl ?_); (first | (refine' ia_slcP HP.out rfl rfl rfl rfl ?_ ?_ ?_) | (refine' ia_slcP HP2.out rfl rfl rfl rfl ?_ ?_ ?_)); rotate_left 1; (focus (first | exact (rfl : (0 : Int) = ((0 : Nat) : Int)) | exact (rfl : (1 : Int) = ((1 : Nat) : Int)) | exact rfl | exact HE1.out | exact HE2.out)); (focus (first | omega | (simp; done) | (simp; omega) | (simp [*]; omega)))))))
      · go_ret
        exact ⟨k, rfl, fun h => (by rw [HN.out (by simpa using hB_1)] at h; cases h), fun _ => (by omega), st.keep⟩
      · go_roundw
        case rel => exact ⟨k + 1, by omega, by go_num, HS.out (by simpa using hB_1), st⟩
        case measure => simp [intOf]; omega
    · obtain rfl : k = n := by omega
      have h1 := hid (hs.out.all hB.out)
      go_wp2_with (first | ((with_reducible refine gate_lst ?_); (first | ((with_reducible refine gate_load rfl ?_); (first | (refine ia_loadAll st rfl rfl rfl ?_ ?_; (focus (first | rfl | (simp; done) | (simp; assumption) | (simp; omega) | (simp [*]; done)))) | (refine ia_loadC (hb.keep st.keep (by simp)) rfl rfl rfl ?_ ?_; (focus (first | rfl | (simp; done) | (simp; assumption) | (simp; omega) | (simp [*]; done)))) | (refine ia_loadC (hb'.keep st.keep (by simp)) rfl rfl rfl ?_ ?_; (focus (first | rfl | (simp; done) | (simp; assumption) | (simp; omega) | (simp [*]; done)))) | (refine ia_loadC (Cl.of (hb1.keep st.keep (by simp))) rfl rfl rfl ?_ ?_; (focus (first | rfl | (simp; done) | (simp; assumption) | (simp; omega) | (simp [*]; done)))) | (refine ia_loadC (Cl.of (hb2.keep st.keep (by simp))) rfl rfl rfl ?_ ?_; (focus (first | rfl | (simp; done) | (simp; assumption) | (simp; omega) | (simp [*]; done)))))) | ((with_reducible refine gate_addr rfl ?_); (first | (refine' ia_slcP HP.out rfl rfl rfl rfl ?_ ?_ ?_) | (refine' ia_slcP HP2.out rfl rfl rfl rfl ?_ ?_ ?_)); rotate_left 1; (focus (first | exact (rfl : (0 : Int) = ((0 : Nat) : Int)) | exact (rfl : (1 : Int) = ((1 : Nat) : Int)) | exact rfl | exact HE1.out | exact HE2.out)); (focus (first | omega | (simp; done) | (simp; omega) | (simp [*]; omega)))))))
      go_ret
      exact ⟨-1, rfl, fun _ => rfl, fun h => (by rw [h1.out] at h; cases h), st.keep⟩
theorem containsB_c (B : List Fm) (n : Nat) (hB : B.length = n) (hn : n ≤ 4000000) (p : Option Addr) (c : Nat) (w : World) (hr : Rd w p n (encs fv B)) :
    Calls Tryz.prog 77 #[.slice p n c, .func (.func 78) #[] #[]] w fun e w' => e = .returned (.bool (!okL B)) ∧ Keep [] w w' := by
  have st := St.start w
  have HI := hid (fun w' hk => indexFuncB_c B n hB hn p c w' (hr.keep (w1 := w') hk))
  rcases Bool.eq_false_or_eq_true (okL B) with h | h
  · rw [h]
    go_enter Tryz.func77, Tryz.ntmps77
    go_wp2_with (go_at_call 97; refine (HI.out _ st.keep).mono ?_; rintro _ _ ⟨i, rfl, h1, h2, hk⟩; replace st := st.call hk; obtain rfl := h1 h; clear h1 h2 hk)
    go_ret
    exact ⟨rfl, st.keep⟩
  · rw [h]
    go_enter Tryz.func77, Tryz.ntmps77
    go_wp2_with (go_at_call 97; refine (HI.out _ st.keep).mono ?_; rintro _ _ ⟨i, rfl, h1, h2, hk⟩; replace st := st.call hk; have h3 := h2 h; clear h1 h2 hk)
    go_ret
    exact ⟨by simp [*], st.keep⟩
theorem areB_c (B : List Fm) (n : Nat) (hB : B.length = n) (hn : n ≤ 4000000) (p : Option Addr) (c : Nat) (w : World) (hr : Rd w p n (encs fv B)) :
    Calls Tryz.prog 48 #[.slice p n c] w fun e w' => e = .returned (.bool (okL B)) ∧ Keep [] w w' := by
  have st := St.start w
  go_enter Tryz.func48, Tryz.ntmps48
  go_wp2_with (first | (go_at_call 77; refine (containsB_c B n hB hn p c _ (hr.keep st.keep)).mono ?_; rintro _ _ ⟨rfl, hk⟩; replace st := st.call hk; clear hk))
  go_ret
  exact ⟨by simp, st.keep⟩
theorem ValidBook_c (B : List Fm) (n : Nat) (hB : B.length = n) (hn : n ≤ 4000000) (p : Option Addr) (c : Nat) (w : World) (hr : Rd w p n (encs fv B)) :
    Calls Tryz.prog 16 #[.slice p n c] w fun e w' => e = .returned (.bool (bkB B)) ∧ Keep [] w w' := by
  have st := St.start w
  have HA := hid (fun w' hk => areB_c B n hB hn p c w' (hr.keep (w1 := w') hk))
  unfold bkB
  rw [hB]
  clear hB
  by_cases h : n ≤ 40
  · have h1 : decide ((n : Int) ≤ 40) = true := by simp; omega
    go_enter Tryz.func16, Tryz.ntmps16
    go_wp2_with (first | (go_at_call 48; refine (HA.out _ st.keep).mono ?_; rintro _ _ ⟨rfl, hk⟩; replace st := st.call hk; clear hk) | ((with_reducible refine gate_lst ?_); (first | ((with_reducible refine' wpl_ung ?_ ?_ ?_); rotate_left 1; (focus exact rfl); (focus exact rfl)))))
    go_ret
    exact ⟨ret_bool (by simp [h]), st.keep⟩
  · have h1 : decide ((n : Int) ≤ 40) = false := by simp; omega
    go_enter Tryz.func16, Tryz.ntmps16
    go_wp2_with (first | ((with_reducible refine gate_lst ?_); (first | ((with_reducible refine' wpl_ung ?_ ?_ ?_); rotate_left 1; (focus exact rfl); (focus exact rfl)))))
    go_ret
    exact ⟨ret_bool (by simp [h]), st.keep⟩
end Go.Proofs.YtmfgbkmkcljciaaGreatDoor
/- Books and lists of numbers marked and looked at again; no condition. -/
namespace Go.Proofs.YtmfgbkmkcljciaaGreatDoor
open Go.RowKit
set_option linter.unusedSimpArgs false
set_option linter.unusedVariables false

/-- The mark of cell m. -/
def mkF (k0 m : Nat) : Value := .int .u16 (IntKind.u16.wrap ((k0 : Int) + (m : Int)))
theorem mkF_at (k0 m : Nat) (i : Int) (h : i = (k0 : Int) + (m : Int)) : Value.int .u16 (IntKind.u16.wrap i) = mkF k0 m := by rw [h]; rfl
end Go.Proofs.YtmfgbkmkcljciaaGreatDoor
