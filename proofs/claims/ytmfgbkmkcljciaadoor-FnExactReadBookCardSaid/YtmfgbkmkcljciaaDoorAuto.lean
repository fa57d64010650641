/- The rules again, their side goals in an order that lets one tactic after the other close them; no condition. -/
import Derived.Test.YtmfgbkmkcljciaaDoorOrdH
import Derived.Test.YtmfgbkmkcljciaaDoorEncs
namespace Go.Proofs.YtmfgbkmkcljciaaDoor
open Go.RowKit
set_option linter.unusedSimpArgs false
set_option linter.unusedVariables false

/-- T is the type of arrays of n elements E of s cells each. -/
structure ArrS (P : Program) (T E : TypeId) (n s : Nat) : Prop where
  a : P.underlying T = some (.array n E)
  e : ∃ i, P.info? E = some i ∧ i.size = s
theorem ArrS.sizeOf {P : Program} {T E : TypeId} {n s : Nat} (h : ArrS P T E n s) (w : World) : (Go.sizeOf E).run P w = .ok s w := by
  obtain ⟨i, hi, hs⟩ := h.e
  simp [Go.sizeOf, typeInfo, hi, hs]
theorem arrS_of {P : Program} {T E : TypeId} {n s : Nat} (hu : P.underlying T = some (.array n E)) (hi : (P.info? E).map (·.size) = some s) : ArrS P T E n s := by
  refine ⟨hu, ?_⟩
  cases h : P.info? E with
  | none => simp [h] at hi
  | some i => simp [h] at hi; exact ⟨i, rfl, hi⟩
theorem Calls.splitB {P : Program} {F : FuncId} {args : Array Value} {w : World} {b : Bool} {K : World → Prop} (h : Calls P F args w fun e w' => e = .returned (.bool b) ∧ K w') :
    Calls P F args w fun e w' => (b = true ∧ e = .returned (.bool true) ∧ K w') ∨ (b = false ∧ e = .returned (.bool false) ∧ K w') :=
  h.mono fun e w' ⟨he, hk⟩ => by cases b with
    | true => exact Or.inl ⟨rfl, he, hk⟩
    | false => exact Or.inr ⟨rfl, he, hk⟩

section
variable {P : Program} {ops : Array Oper} {rest : List Oper} {o : Oper} {a : Act} {w w0 : World} {Q : Exit → Act → World → Prop} {M : List Nat} {L L' : List (Nat × List Value × TypeId)}
theorem gate_lst (h : wpList P ops Q (o :: rest) a w) : wpList P ops Q (o :: rest) a w := h
theorem rgate {id : Nat} {l : Array Oper} (h : (Code.region id l true).wp P Q a w) : (Code.region id l true).wp P Q a w := h
theorem la_load1 {z v : Value} {T : TypeId} {x : Operand} {p : Addr} (hT : OneT P T z) (hv : w.cell? p = some v) (hgd : o.guard = none) (ho : o.op = .load T x) (hx : a.eval x = .pointer (some p))
    (h : wpList P ops Q rest (a.put o.dst v) w) : wpList P ops Q (o :: rest) a w := wpl_load1 hgd T x ho p hx hT v hv h
theorem la_loadC {n : Nat} {z cs : List Value} {T : TypeId} {x : Operand} {b f : Nat} (hT : AggT P T n z) (hb : Cl w b f cs) (hl : cs.length = n) (hgd : o.guard = none) (ho : o.op = .load T x) (hx : a.eval x = .pointer (some ⟨b, f, none⟩))
    (h : wpList P ops Q rest (a.put o.dst (.agg cs.toArray)) w) : wpList P ops Q (o :: rest) a w :=
  wpl_loadC hgd T x ho ⟨b, f, none⟩ hx hT cs hl (fun j v hj => by rw [Addr.add_lit]; exact hb.2 j v hj) h
theorem la_alloc {n : Nat} {z : List Value} {T : TypeId} (hT : AggT P T n z) (st : St M w0 w L) (hgd : o.guard = none) (ho : o.op = .alloc T)
    (h : ∀ B w1, St M w0 w1 ((B, z, T) :: L) → wpList P ops Q rest (a.put o.dst (.pointer (some ⟨B, 0, none⟩))) w1) : wpList P ops Q (o :: rest) a w := wpl_alloc hgd T ho hT st h
theorem la_alloc1 {z : Value} {T : TypeId} (hT : OneT P T z) (st : St M w0 w L) (hgd : o.guard = none) (ho : o.op = .alloc T)
    (h : ∀ B w1, St M w0 w1 ((B, [z], T) :: L) → wpList P ops Q rest (a.put o.dst (.pointer (some ⟨B, 0, none⟩))) w1) : wpList P ops Q (o :: rest) a w := wpl_alloc1 hgd T ho hT st h
theorem la_store1 {z : Value} {old : List Value} {U : TypeId} {T : TypeId} {p x : Operand} {b k : Nat} {v : Value} (hT : OneT P T z) (st : St M w0 w L) (hu : Upd b b old (old.set k v) U L L') (hfit : k < old.length)
    (hgd : o.guard = none) (ho : o.op = .store T p x) (hp : a.eval p = .pointer (some ⟨b, k, none⟩)) (hx : a.eval x = v) (h1 : v.oneCell' = true) (hv : v.cells = #[v])
    (h : ∀ w1, St M w0 w1 L' → wpList P ops Q rest (a.put o.dst undef) w1) : wpList P ops Q (o :: rest) a w := wpl_store1 hgd T p x ho b k hp v hx hT h1 hv st old U hu hfit h
theorem la_storeAll {n : Nat} {z old cs : List Value} {U : TypeId} {T : TypeId} {p x : Operand} {b : Nat} (hT : AggT P T n z) (st : St M w0 w L) (hu : Upd b b old cs U L L') (hl : cs.length = n) (h1 : ∀ v ∈ cs, v.oneCell' = true) (hfit : old.length = n)
    (hgd : o.guard = none) (ho : o.op = .store T p x) (hp : a.eval p = .pointer (some ⟨b, 0, none⟩)) (hx : a.eval x = .agg cs.toArray)
    (h : ∀ w1, St M w0 w1 L' → wpList P ops Q rest (a.put o.dst undef) w1) : wpList P ops Q (o :: rest) a w := wpl_storeAll hgd T p x ho b hp cs hx hT hl h1 st old U hu hfit h
/-- A part of a block is written. -/
theorem la_storeSeg {n : Nat} {z old cs : List Value} {U : TypeId} {T : TypeId} {p x : Operand} {b k : Nat} (hT : AggT P T n z) (st : St M w0 w L) (hu : Upd b b old (old.take k ++ cs ++ old.drop (k + n)) U L L') (hl : cs.length = n) (h1 : ∀ v ∈ cs, v.oneCell' = true) (hfit : k + n ≤ old.length)
    (hgd : o.guard = none) (ho : o.op = .store T p x) (hp : a.eval p = .pointer (some ⟨b, k, none⟩)) (hx : a.eval x = .agg cs.toArray)
    (h : ∀ w1, St M w0 w1 L' → wpList P ops Q rest (a.put o.dst undef) w1) : wpList P ops Q (o :: rest) a w := wpl_store hgd T p x ho b k hp cs hx hT hl h1 st old _ U hu hfit rfl h
theorem la_build {cs : List Value} {T : TypeId} {parts : List (Nat × Operand)} (hb : P.built T (parts.map fun p => (p.1, a.eval p.2)) = some cs.toArray) (hgd : o.guard = none) (ho : o.op = .build T parts.toArray)
    (h : wpList P ops Q rest (a.put o.dst (.agg cs.toArray)) w) : wpList P ops Q (o :: rest) a w := wpl_build hgd T parts ho cs hb h
theorem la_slcAddr {E : TypeId} {s y : Nat} {z : List Value} {T : TypeId} {x ix : Operand} {b f m c : Nat} {k : IntKind} {i : Int} {j : Nat} (hT : SlcT P T E s y z) (hj : i = j) (h1 : j < m) (hgd : o.guard = none) (ho : o.op = .indexAddr T x ix) (hx : a.eval x = .slice (some ⟨b, f, none⟩) m c) (hi : a.eval ix = .int k i)
    (h : wpList P ops Q rest (a.put o.dst (.pointer (some ⟨b, f + j * s, none⟩))) w) : wpList P ops Q (o :: rest) a w := wpl_slcAddr hgd T x ix ho b f m c hx k i hi hT j hj h1 h
end

section
variable {P : Program} {ops : Array Oper} {rest : List Oper} {o : Oper} {a : Act} {w w0 : World} {Q : Act → Prop} {C : World → Prop} {M : List Nat} {L L' : List (Nat × List Value × TypeId)}
theorem qgate_any (h : wpQuiet P ops C Q (o :: rest) a) : wpQuiet P ops C Q (o :: rest) a := h
theorem qgate_nil (h : wpQuiet P ops C Q [] a) : wpQuiet P ops C Q [] a := h
theorem wpq_unguard {d : Option Tmp} {op : Op} {ty : TypeId} {pos : String} {after : Array Edge} {g : Nat × Bool} (hw : Region.wanted ⟨d, op, ty, pos, after, some g⟩ (yielded ops a.tmps) = true)
    (h : wpQuiet P ops C Q (⟨d, op, ty, pos, after, none⟩ :: rest) a) : wpQuiet P ops C Q (⟨d, op, ty, pos, after, some g⟩ :: rest) a := by
  unfold wpQuiet at h ⊢
  rw [if_pos hw]
  rw [if_pos (by simp [Region.wanted])] at h
  exact h
theorem wpq_skip {d : Option Tmp} {op : Op} {ty : TypeId} {pos : String} {after : Array Edge} {g : Nat × Bool} (hw : Region.wanted ⟨d, op, ty, pos, after, some g⟩ (yielded ops a.tmps) = false)
    (h : wpQuiet P ops C Q rest (a.put d undef)) : wpQuiet P ops C Q (⟨d, op, ty, pos, after, some g⟩ :: rest) a := by
  unfold wpQuiet
  rw [if_neg (by rw [hw]; decide)]
  exact h
theorem qa_val {v : Value} (hrun : ∀ w', C w' → (execOp a.eval o).run P w' = .ok (.value v) w') (hgd : o.guard = none) (h : wpQuiet P ops C Q rest (a.put o.dst v)) : wpQuiet P ops C Q (o :: rest) a := wpq_val hgd v hrun h
theorem qa_load1 {z v : Value} {T : TypeId} {x : Operand} {p : Addr} (hT : OneT P T z) (hv : ∀ w', C w' → w'.cell? p = some v) (hgd : o.guard = none) (ho : o.op = .load T x) (hx : a.eval x = .pointer (some p))
    (h : wpQuiet P ops C Q rest (a.put o.dst v)) : wpQuiet P ops C Q (o :: rest) a := wpq_load1 hgd T x ho p hx hT v hv h
theorem qa_loadC {n : Nat} {z cs : List Value} {T : TypeId} {x : Operand} {b f : Nat} (hT : AggT P T n z) (hb : ∀ w', C w' → Cl w' b f cs) (hl : cs.length = n) (hgd : o.guard = none) (ho : o.op = .load T x) (hx : a.eval x = .pointer (some ⟨b, f, none⟩))
    (h : wpQuiet P ops C Q rest (a.put o.dst (.agg cs.toArray))) : wpQuiet P ops C Q (o :: rest) a :=
  wpq_loadSeg hgd T x ho ⟨b, f, none⟩ hx hT cs (fun w' hw' j v hj => by rw [Addr.add_lit]; exact (hb w' hw').2 j v hj) hl h
theorem qa_slcAddr {E : TypeId} {s y : Nat} {z : List Value} {T : TypeId} {x ix : Operand} {b f m c : Nat} {k : IntKind} {i : Int} {j : Nat} (hT : SlcT P T E s y z) (hj : i = j) (h1 : j < m) (hgd : o.guard = none) (ho : o.op = .indexAddr T x ix) (hx : a.eval x = .slice (some ⟨b, f, none⟩) m c) (hi : a.eval ix = .int k i)
    (h : wpQuiet P ops C Q rest (a.put o.dst (.pointer (some ⟨b, f + j * s, none⟩)))) : wpQuiet P ops C Q (o :: rest) a := wpq_slcAddr hgd T x ix ho b f m c hx k i hi hT j hj h1 h
theorem qa_arrAddr {E : TypeId} {n : Nat} {z : Value} {T : TypeId} {x ix : Operand} {b f : Nat} {k : IntKind} {i : Int} {j : Nat} (hT : ArrT P T E n z) (hj : i = j) (h1 : j < n) (hgd : o.guard = none) (ho : o.op = .indexAddr T x ix) (hx : a.eval x = .pointer (some ⟨b, f, none⟩)) (hi : a.eval ix = .int k i)
    (h : wpQuiet P ops C Q rest (a.put o.dst (.pointer (some ⟨b, f + j, none⟩)))) : wpQuiet P ops C Q (o :: rest) a := wpq_indexAddr hgd T x ix ho b f hx k i hi hT j hj h1 h
theorem qa_call {c : Go.Call} {f : Operand} {F : FuncId} {first cap args : Array Value} {fn : Func} {v : Value} (hF : P.funcs[F]? = some fn) (hn : (fn.name == "runtime.NumGoroutine") = false) (hbd : fn.body.isNone = false)
    (hgd : o.guard = none) (ho : o.op = .call c) (hc : c.callee = .value f) (hf : a.eval f = .func (.func F) first cap) (ha : first ++ c.args.map a.eval ++ cap = args)
    (hcall : ∀ w', C w' → Calls P F args w' fun e w'' => e = .returned v ∧ C w'') (h : wpQuiet P ops C Q rest (a.put o.dst v)) : wpQuiet P ops C Q (o :: rest) a :=
  wpq_call hgd c ho f hc F first cap hf fn hF hn hbd args ha v hcall h
theorem qa_callB {c : Go.Call} {f : Operand} {F : FuncId} {first cap args : Array Value} {fn : Func} {v : Bool} (hF : P.funcs[F]? = some fn) (hn : (fn.name == "runtime.NumGoroutine") = false) (hbd : fn.body.isNone = false)
    (hgd : o.guard = none) (ho : o.op = .call c) (hc : c.callee = .value f) (hf : a.eval f = .func (.func F) first cap) (ha : first ++ c.args.map a.eval ++ cap = args)
    (hcall : ∀ w', C w' → Calls P F args w' fun e w'' => e = .returned (.bool v) ∧ C w'') (h1 : v = true → wpQuiet P ops C Q rest (a.put o.dst (.bool true))) (h0 : v = false → wpQuiet P ops C Q rest (a.put o.dst (.bool false))) : wpQuiet P ops C Q (o :: rest) a := by
  refine qa_call hF hn hbd hgd ho hc hf ha hcall ?_
  cases hv : v with
  | true => exact h1 hv
  | false => exact h0 hv
/-- An array's element of s cells. -/
theorem qa_arrAddrS {E : TypeId} {n s : Nat} {T : TypeId} {x ix : Operand} {b f : Nat} {k : IntKind} {i : Int} {j : Nat} (hT : ArrS P T E n s) (hj : i = j) (h1 : j < n) (hgd : o.guard = none) (ho : o.op = .indexAddr T x ix) (hx : a.eval x = .pointer (some ⟨b, f, none⟩)) (hi : a.eval ix = .int k i)
    (h : wpQuiet P ops C Q rest (a.put o.dst (.pointer (some ⟨b, f + j * s, none⟩)))) : wpQuiet P ops C Q (o :: rest) a := by
  subst hj
  have h1' : (j : Int) < n := by omega
  have h0 : (0 : Int) ≤ j := by omega
  exact wpq_val hgd _ (fun w' _ => by
    have hsz := hT.sizeOf w'
    unfold execOp
    simp only [ho, hx, hi, Instr.indexAt, Instr.sureAddr, asIntOf, Sem.run_bind, Sem.run_pure, Result.andThen_ok, run_underlying hT.a w', h0, h1', and_self, if_true, hsz, Addr.add_lit, Int.toNat_natCast]) h
theorem qg_move {x : Operand} (_ho : o.op = .move x) (h : wpQuiet P ops C Q (o :: rest) a) : wpQuiet P ops C Q (o :: rest) a := h
theorem qg_assign {x : Operand} (_ho : o.op = .assign x) (h : wpQuiet P ops C Q (o :: rest) a) : wpQuiet P ops C Q (o :: rest) a := h
theorem qg_un {u : UnOp} {T : TypeId} {x : Operand} (_ho : o.op = .unOp u T x) (h : wpQuiet P ops C Q (o :: rest) a) : wpQuiet P ops C Q (o :: rest) a := h
theorem qg_pick {x y z : Operand} (_ho : o.op = .pick x y z) (h : wpQuiet P ops C Q (o :: rest) a) : wpQuiet P ops C Q (o :: rest) a := h
theorem qg_extract {x : Operand} {k : Nat} (_ho : o.op = .extract x k) (h : wpQuiet P ops C Q (o :: rest) a) : wpQuiet P ops C Q (o :: rest) a := h
theorem qg_nil {x : Operand} (_ho : o.op = .nilCheck x) (h : wpQuiet P ops C Q (o :: rest) a) : wpQuiet P ops C Q (o :: rest) a := h
theorem qa_field {T : TypeId} {x : Operand} {i b f k : Nat} (hf : ∀ (b f : Nat) (w' : World), (Instr.fieldAt T (.pointer (some ⟨b, f, none⟩)) i).run P w' = .ok (.pointer (some ⟨b, f + k, none⟩)) w') (hgd : o.guard = none) (ho : o.op = .fieldAddr T x i) (hx : a.eval x = .pointer (some ⟨b, f, none⟩))
    (h : wpQuiet P ops C Q rest (a.put o.dst (.pointer (some ⟨b, f + k, none⟩)))) : wpQuiet P ops C Q (o :: rest) a := wpq_field hgd T x i ho b f hx k hf h
theorem qa_conv {S D : TypeId} {x : Operand} {k k' : IntKind} {n m : Int} (hs : (P.underlying S).isSome = true) (hd : P.underlying D = some (.int k')) (hm : k'.wrap n = m) (hgd : o.guard = none) (ho : o.op = .convert S D x) (hx : a.eval x = .int k n)
    (h : wpQuiet P ops C Q rest (a.put o.dst (.int k' m))) : wpQuiet P ops C Q (o :: rest) a := wpq_conv hgd S D x ho k k' n m hx hs hd hm h
theorem qa_bin {op : BinOp} {T U : TypeId} {x y : Operand} {k k' : IntKind} {n m : Int} {v : Value} (hb : ∀ w', (binOp op T (.int k n) (.int k' m)).run P w' = .ok v w') (hgd : o.guard = none) (ho : o.op = .binOp op T x y U) (hx : a.eval x = .int k n) (hy : a.eval y = .int k' m)
    (h : wpQuiet P ops C Q rest (a.put o.dst v)) : wpQuiet P ops C Q (o :: rest) a := wpq_bin hgd op T x y U ho k k' n m hx hy v hb h
theorem qa_len {x : Operand} {T E : TypeId} {b : Option Addr} {n c : Nat} (hu : P.underlying T = some (.slice E)) (hgd : o.guard = none) (ho : o.op = .call { callee := .builtin .len, args := #[x], argTypes := #[T] }) (hx : a.eval x = .slice b n c)
    (h : wpQuiet P ops C Q rest (a.put o.dst (.int .i64 n))) : wpQuiet P ops C Q (o :: rest) a := wpq_lenSlice hgd x T ho b n c hx E hu h
theorem qcall {F : FuncId} {args : Array Value} {v : Value} {w1 : World} (hw : St M w0 w1 L) (h : Calls P F args w1 fun e w'' => e = .returned v ∧ Keep [] w1 w'') : Calls P F args w1 fun e w'' => e = .returned v ∧ St M w0 w'' L :=
  h.mono fun _ _ h => ⟨h.1, hw.call h.2⟩
end

theorem wanted_is {ops : Array Oper} {tmps : Array Value} {d : Option Tmp} {op : Op} {ty : TypeId} {pos : String} {after : Array Edge} {j dj : Nat} {b c : Bool} (hd : (ops[j]?).bind (·.dst) = some dj) (hv : tmps[dj]? = some (.bool c)) :
    Region.wanted ⟨d, op, ty, pos, after, some (j, b)⟩ (yielded ops tmps) = (c == b) := by
  unfold Region.wanted yielded
  simp only [hd, Option.bind_some, hv]
  cases c <;> cases b <;> rfl
section
variable {P : Program} {ops : Array Oper} {rest : List Oper} {a : Act} {w : World} {Q : Exit → Act → World → Prop} {d : Option Tmp} {op : Op} {ty : TypeId} {pos : String} {after : Array Edge} {j dj : Nat}
theorem wpl_ung {b : Bool} (hd : (ops[j]?).bind (·.dst) = some dj) (hv : a.tmps[dj]? = some (.bool b)) (h : wpList P ops Q (⟨d, op, ty, pos, after, none⟩ :: rest) a w) : wpList P ops Q (⟨d, op, ty, pos, after, some (j, b)⟩ :: rest) a w :=
  wpl_unguard (by rw [wanted_is hd hv]; cases b <;> rfl) h
end
section
variable {P : Program} {ops : Array Oper} {rest : List Oper} {a : Act} {Q : Act → Prop} {C : World → Prop} {d : Option Tmp} {op : Op} {ty : TypeId} {pos : String} {after : Array Edge} {j dj : Nat}
theorem wpq_ung {b : Bool} (hd : (ops[j]?).bind (·.dst) = some dj) (hv : a.tmps[dj]? = some (.bool b)) (h : wpQuiet P ops C Q (⟨d, op, ty, pos, after, none⟩ :: rest) a) : wpQuiet P ops C Q (⟨d, op, ty, pos, after, some (j, b)⟩ :: rest) a :=
  wpq_unguard (by rw [wanted_is hd hv]; cases b <;> rfl) h
theorem wpq_skp1 (hd : (ops[j]?).bind (·.dst) = some dj) (hv : a.tmps[dj]? = some (.bool true)) (h : wpQuiet P ops C Q rest (a.put d undef)) : wpQuiet P ops C Q (⟨d, op, ty, pos, after, some (j, false)⟩ :: rest) a :=
  wpq_skip (by rw [wanted_is hd hv]; rfl) h
theorem wpq_skp0 (hd : (ops[j]?).bind (·.dst) = some dj) (hv : a.tmps[dj]? = some (.bool false)) (h : wpQuiet P ops C Q rest (a.put d undef)) : wpQuiet P ops C Q (⟨d, op, ty, pos, after, some (j, true)⟩ :: rest) a :=
  wpq_skip (by rw [wanted_is hd hv]; rfl) h
end
/-! ### What is found by the search for instances -/
class OneC (P : Program) (T : TypeId) (z : outParam Value) : Prop where
  out : OneT P T z
class AggC (P : Program) (T : TypeId) (n : outParam Nat) (z : outParam (List Value)) : Prop where
  out : AggT P T n z
class SlcC (P : Program) (T : TypeId) (E : outParam TypeId) (s y : outParam Nat) (z : outParam (List Value)) : Prop where
  out : SlcT P T E s y z
class ArrC (P : Program) (T : TypeId) (E : outParam TypeId) (n s : outParam Nat) : Prop where
  out : ArrS P T E n s
class FldC (P : Program) (T : TypeId) (i : Nat) (k : outParam Nat) : Prop where
  out : ∀ (b f : Nat) (w' : World), (Instr.fieldAt T (.pointer (some ⟨b, f, none⟩)) i).run P w' = .ok (.pointer (some ⟨b, f + k, none⟩)) w'
class IntC (P : Program) (T : TypeId) (k : outParam IntKind) : Prop where
  out : P.underlying T = some (.int k)
class BldC (P : Program) (T : TypeId) (ps : List (Nat × Value)) (cs : outParam (List Value)) : Prop where
  out : P.built T ps = some cs.toArray
class AtC (b : Nat) (cs : outParam (List Value)) (T : outParam TypeId) (i : outParam Nat) (L : List (Nat × List Value × TypeId)) : Prop where
  out : At b cs T L
  at_ : L[i]? = some (b, cs, T)
instance atHere (b : Nat) (cs : List Value) (T : TypeId) (L : List (Nat × List Value × TypeId)) : AtC b cs T 0 ((b, cs, T) :: L) := ⟨.here, rfl⟩
instance atThere (b : Nat) (cs : List Value) (T : TypeId) (i : Nat) (x : Nat × List Value × TypeId) (L : List (Nat × List Value × TypeId)) [h : AtC b cs T i L] : AtC b cs T (i + 1) (x :: L) := ⟨.there h.out, by simpa using h.at_⟩
theorem upd_of {b : Nat} {old new : List Value} {T : TypeId} : ∀ {i : Nat} {L : List (Nat × List Value × TypeId)}, L[i]? = some (b, old, T) → Upd b b old new T L (L.set i (b, new, T))
  | 0, [], h => by simp at h
  | 0, x :: L, h => by
    simp at h
    subst h
    exact .here
  | i + 1, [], h => by simp at h
  | i + 1, x :: L, h => .there (upd_of (i := i) (L := L) (by simpa using h))
theorem St.atC {M : List Nat} {w0 w : World} {L : List (Nat × List Value × TypeId)} {b i : Nat} {cs : List Value} {T : TypeId} (st : St M w0 w L) [h : AtC b cs T i L] : Blk w b cs T := st.get h.out
theorem AtC.upd {b i : Nat} {old new : List Value} {T : TypeId} {L : List (Nat × List Value × TypeId)} (h : AtC b old T i L) : Upd b b old new T L (L.set i (b, new, T)) := upd_of h.at_

section
variable {P : Program} {ops : Array Oper} {rest : List Oper} {o : Oper} {a : Act} {w w0 : World} {Q : Exit → Act → World → Prop} {M : List Nat} {L : List (Nat × List Value × TypeId)} {b k i n : Nat} {T U : TypeId} {x p : Operand} {z v : Value} {zs cs : List Value}
theorem ia_box {sl : Nat} (st : St M w0 w L) (_hN : o.dst = some sl) (hgd : o.guard = none) (ho : o.op = .box T x) (hv : a.eval x = v) (hcs : v.cells = cs.toArray)
    (h : ∀ B w1, St M w0 w1 ((B, cs, T) :: L) → wpList P ops Q rest (a.put o.dst (.pointer (some ⟨B, 0, none⟩))) w1) : wpList P ops Q (o :: rest) a w := wpl_box hgd T x ho v hv cs hcs st h
theorem ia_alloc {sl : Nat} (st : St M w0 w L) (_hN : o.dst = some sl) (hgd : o.guard = none) (ho : o.op = .alloc T) [hT : AggC P T n zs]
    (h : ∀ B w1, St M w0 w1 ((B, zs, T) :: L) → wpList P ops Q rest (a.put o.dst (.pointer (some ⟨B, 0, none⟩))) w1) : wpList P ops Q (o :: rest) a w := wpl_alloc hgd T ho hT.out st h
theorem ia_alloc1 {sl : Nat} (st : St M w0 w L) (_hN : o.dst = some sl) (hgd : o.guard = none) (ho : o.op = .alloc T) [hT : OneC P T z]
    (h : ∀ B w1, St M w0 w1 ((B, [z], T) :: L) → wpList P ops Q rest (a.put o.dst (.pointer (some ⟨B, 0, none⟩))) w1) : wpList P ops Q (o :: rest) a w := wpl_alloc1 hgd T ho hT.out st h
theorem ia_load1 (st : St M w0 w L) (hgd : o.guard = none) (ho : o.op = .load T x) (hx : a.eval x = .pointer (some ⟨b, k, none⟩)) [hT : OneC P T z] [ha : AtC b cs U i L] (hv : cs[k]? = some v)
    (h : wpList P ops Q rest (a.put o.dst v) w) : wpList P ops Q (o :: rest) a w := wpl_load1 hgd T x ho _ hx hT.out v (st.atC.cellv hv) h
theorem ia_load1C {f : Nat} (hb : Cl w b f cs) (hgd : o.guard = none) (ho : o.op = .load T x) (hx : a.eval x = .pointer (some ⟨b, f + k, none⟩)) [hT : OneC P T z] (hv : cs[k]? = some v)
    (h : wpList P ops Q rest (a.put o.dst v) w) : wpList P ops Q (o :: rest) a w := wpl_load1 hgd T x ho _ hx hT.out v (hb.cellv hv) h
theorem ia_load1Z {f : Nat} (hb : Cl w b f cs) (hgd : o.guard = none) (ho : o.op = .load T x) (hx : a.eval x = .pointer (some ⟨b, f, none⟩)) [hT : OneC P T z] (hv : cs[0]? = some v)
    (h : wpList P ops Q rest (a.put o.dst v) w) : wpList P ops Q (o :: rest) a w := wpl_load1 hgd T x ho _ hx hT.out v (by have := hb.2 0 v hv; simpa using this) h
theorem ia_load1B (hb : Blk w b cs U) (hgd : o.guard = none) (ho : o.op = .load T x) (hx : a.eval x = .pointer (some ⟨b, k, none⟩)) [hT : OneC P T z] (hv : cs[k]? = some v)
    (h : wpList P ops Q rest (a.put o.dst v) w) : wpList P ops Q (o :: rest) a w := wpl_load1 hgd T x ho _ hx hT.out v (hb.cellv hv) h
theorem ia_loadAll (st : St M w0 w L) (hgd : o.guard = none) (ho : o.op = .load T x) (hx : a.eval x = .pointer (some ⟨b, 0, none⟩)) [hT : AggC P T n zs] [ha : AtC b cs U i L] (hl : cs.length = n)
    (h : wpList P ops Q rest (a.put o.dst (.agg cs.toArray)) w) : wpList P ops Q (o :: rest) a w := wpl_loadAll hgd T x ho b hx hT.out cs U st.atC hl h
theorem ia_loadC {f : Nat} (hb : Cl w b f cs) (hgd : o.guard = none) (ho : o.op = .load T x) (hx : a.eval x = .pointer (some ⟨b, f, none⟩)) [hT : AggC P T n zs] (hl : cs.length = n)
    (h : wpList P ops Q rest (a.put o.dst (.agg cs.toArray)) w) : wpList P ops Q (o :: rest) a w :=
  wpl_loadC hgd T x ho ⟨b, f, none⟩ hx hT.out cs hl (fun j v hj => by rw [Addr.add_lit]; exact hb.2 j v hj) h
theorem ia_store1 (st : St M w0 w L) (hgd : o.guard = none) (ho : o.op = .store T p x) (hp : a.eval p = .pointer (some ⟨b, k, none⟩)) (hx : a.eval x = v) (h1 : v.oneCell' = true) (hv : v.cells = #[v]) [hT : OneC P T z] [ha : AtC b cs U i L] (hl : k < cs.length)
    (h : ∀ w1, St M w0 w1 (L.set i (b, cs.set k v, U)) → wpList P ops Q rest (a.put o.dst undef) w1) : wpList P ops Q (o :: rest) a w := wpl_store1 hgd T p x ho b k hp v hx hT.out h1 hv st cs U ha.upd hl h
theorem ia_storeAll {old : List Value} (st : St M w0 w L) (hgd : o.guard = none) (ho : o.op = .store T p x) (hp : a.eval p = .pointer (some ⟨b, 0, none⟩)) (hx : a.eval x = .agg cs.toArray) [hT : AggC P T n zs] [ha : AtC b old U i L] (hl : cs.length = n) (h1 : ∀ v ∈ cs, v.oneCell' = true) (hl2 : old.length = n)
    (h : ∀ w1, St M w0 w1 (L.set i (b, cs, U)) → wpList P ops Q rest (a.put o.dst undef) w1) : wpList P ops Q (o :: rest) a w := wpl_storeAll hgd T p x ho b hp cs hx hT.out hl h1 st old U ha.upd hl2 h
theorem ia_storeSeg {old : List Value} (st : St M w0 w L) (hgd : o.guard = none) (ho : o.op = .store T p x) (hp : a.eval p = .pointer (some ⟨b, k, none⟩)) (hx : a.eval x = .agg cs.toArray) [hT : AggC P T n zs] [ha : AtC b old U i L] (hl : cs.length = n) (h1 : ∀ v ∈ cs, v.oneCell' = true) (hl2 : k + n ≤ old.length)
    (h : ∀ w1, St M w0 w1 (L.set i (b, old.take k ++ cs ++ old.drop (k + n), U)) → wpList P ops Q rest (a.put o.dst undef) w1) : wpList P ops Q (o :: rest) a w := wpl_store hgd T p x ho b k hp cs hx hT.out hl h1 st old _ U ha.upd hl2 rfl h
theorem ia_build {parts : List (Nat × Operand)} {ps : List (Nat × Value)} (hgd : o.guard = none) (ho : o.op = .build T parts.toArray) (he : parts.map (fun p => (p.1, a.eval p.2)) = ps) [hb : BldC P T ps cs]
    (h : wpList P ops Q rest (a.put o.dst (.agg cs.toArray)) w) : wpList P ops Q (o :: rest) a w := wpl_build hgd T parts ho cs (by rw [he]; exact hb.out) h
end
section
variable {P : Program} {ops : Array Oper} {rest : List Oper} {o : Oper} {a : Act} {w0 : World} {Q : Act → Prop} {M : List Nat} {L : List (Nat × List Value × TypeId)} {b k i n : Nat} {T U : TypeId} {x p : Operand} {z v : Value} {zs cs : List Value}
theorem iq_load1 (hgd : o.guard = none) (ho : o.op = .load T x) (hx : a.eval x = .pointer (some ⟨b, k, none⟩)) [hT : OneC P T z] [ha : AtC b cs U i L] (hv : cs[k]? = some v)
    (h : wpQuiet P ops (fun w' => St M w0 w' L) Q rest (a.put o.dst v)) : wpQuiet P ops (fun w' => St M w0 w' L) Q (o :: rest) a := wpq_load1 hgd T x ho _ hx hT.out v (fun _ hw => hw.atC.cellv hv) h
theorem iq_load1C {f : Nat} (hb : Cl w0 b f cs) (hgd : o.guard = none) (ho : o.op = .load T x) (hx : a.eval x = .pointer (some ⟨b, f + k, none⟩)) [hT : OneC P T z] (hv : cs[k]? = some v)
    (h : wpQuiet P ops (fun w' => St [] w0 w' L) Q rest (a.put o.dst v)) : wpQuiet P ops (fun w' => St [] w0 w' L) Q (o :: rest) a := wpq_load1 hgd T x ho _ hx hT.out v (fun _ hw => (hb.keep hw.keep (by simp)).cellv hv) h
theorem iq_load1Z {f : Nat} (hb : Cl w0 b f cs) (hgd : o.guard = none) (ho : o.op = .load T x) (hx : a.eval x = .pointer (some ⟨b, f, none⟩)) [hT : OneC P T z] (hv : cs[0]? = some v)
    (h : wpQuiet P ops (fun w' => St [] w0 w' L) Q rest (a.put o.dst v)) : wpQuiet P ops (fun w' => St [] w0 w' L) Q (o :: rest) a := wpq_load1 hgd T x ho _ hx hT.out v (fun _ hw => by have := (hb.keep hw.keep (by simp)).2 0 v hv; simpa using this) h
theorem iq_loadAll (hgd : o.guard = none) (ho : o.op = .load T x) (hx : a.eval x = .pointer (some ⟨b, 0, none⟩)) [hT : AggC P T n zs] [ha : AtC b cs U i L] (hl : cs.length = n)
    (h : wpQuiet P ops (fun w' => St M w0 w' L) Q rest (a.put o.dst (.agg cs.toArray))) : wpQuiet P ops (fun w' => St M w0 w' L) Q (o :: rest) a := wpq_loadAll hgd T x ho b hx hT.out cs U (fun _ hw => hw.atC) hl h
theorem iq_loadC {f : Nat} (hb : Cl w0 b f cs) (hgd : o.guard = none) (ho : o.op = .load T x) (hx : a.eval x = .pointer (some ⟨b, f, none⟩)) [hT : AggC P T n zs] (hl : cs.length = n)
    (h : wpQuiet P ops (fun w' => St [] w0 w' L) Q rest (a.put o.dst (.agg cs.toArray))) : wpQuiet P ops (fun w' => St [] w0 w' L) Q (o :: rest) a :=
  wpq_loadSeg hgd T x ho ⟨b, f, none⟩ hx hT.out cs (fun w' hw' j v hj => by rw [Addr.add_lit]; exact (hb.keep hw'.keep (by simp)).2 j v hj) hl h
end
section
variable {P : Program} {ops : Array Oper} {rest : List Oper} {o : Oper} {a : Act} {Q : Act → Prop} {C : World → Prop} {b f c m k i n j s y : Nat} {T E : TypeId} {x ix : Operand} {zs : List Value} {K : IntKind} {e : Int}
theorem iq_slc (hgd : o.guard = none) (ho : o.op = .indexAddr T x ix) (hx : a.eval x = .slice (some ⟨b, f, none⟩) m c) (hi : a.eval ix = .int K e) [hT : SlcC P T E s y zs] (hj : e = j) (h1 : j < m)
    (h : wpQuiet P ops C Q rest (a.put o.dst (.pointer (some ⟨b, f + j * s, none⟩)))) : wpQuiet P ops C Q (o :: rest) a := wpq_slcAddr hgd T x ix ho b f m c hx K e hi hT.out j hj h1 h
theorem iq_slcP {p : Option Addr} (hp : p = some ⟨b, f, none⟩) (hgd : o.guard = none) (ho : o.op = .indexAddr T x ix) (hx : a.eval x = .slice p m c) (hi : a.eval ix = .int K e) [hT : SlcC P T E s y zs] (hj : e = j) (h1 : j < m)
    (h : wpQuiet P ops C Q rest (a.put o.dst (.pointer (some ⟨b, f + j * s, none⟩)))) : wpQuiet P ops C Q (o :: rest) a := by
  subst hp
  exact wpq_slcAddr hgd T x ix ho b f m c hx K e hi hT.out j hj h1 h
theorem iq_arr (hgd : o.guard = none) (ho : o.op = .indexAddr T x ix) (hx : a.eval x = .pointer (some ⟨b, f, none⟩)) (hi : a.eval ix = .int K e) [hT : ArrC P T E n s] (hj : e = j) (h1 : j < n)
    (h : wpQuiet P ops C Q rest (a.put o.dst (.pointer (some ⟨b, f + j * s, none⟩)))) : wpQuiet P ops C Q (o :: rest) a := qa_arrAddrS hT.out hj h1 hgd ho hx hi h
theorem iq_field (hgd : o.guard = none) (ho : o.op = .fieldAddr T x i) (hx : a.eval x = .pointer (some ⟨b, f, none⟩)) [hf : FldC P T i k]
    (h : wpQuiet P ops C Q rest (a.put o.dst (.pointer (some ⟨b, f + k, none⟩)))) : wpQuiet P ops C Q (o :: rest) a := wpq_field hgd T x i ho b f hx k hf.out h
theorem iq_conv {S D : TypeId} {k' : IntKind} {e' : Int} (hgd : o.guard = none) (ho : o.op = .convert S D x) (hx : a.eval x = .int K e) [hs : IntC P S K] [hd : IntC P D k'] (hm : k'.wrap e = e')
    (h : wpQuiet P ops C Q rest (a.put o.dst (.int k' e'))) : wpQuiet P ops C Q (o :: rest) a := wpq_conv hgd S D x ho K k' e e' hx (by rw [hs.out]; rfl) hd.out hm h
theorem iq_len {p : Option Addr} (hgd : o.guard = none) (ho : o.op = .call { callee := .builtin .len, args := #[x], argTypes := #[T] }) (hx : a.eval x = .slice p n c) [hT : SlcC P T E s y zs]
    (h : wpQuiet P ops C Q rest (a.put o.dst (.int .i64 n))) : wpQuiet P ops C Q (o :: rest) a := wpq_lenSlice hgd x T ho p n c hx E hT.out.u h
end
section
variable {P : Program} {ops : Array Oper} {rest : List Oper} {o : Oper} {a : Act} {w : World} {Q : Exit → Act → World → Prop} {b f c m j s y : Nat} {T E : TypeId} {x ix : Operand} {zs : List Value} {K : IntKind} {e : Int}
theorem ia_slcP {p : Option Addr} (hp : p = some ⟨b, f, none⟩) (hgd : o.guard = none) (ho : o.op = .indexAddr T x ix) (hx : a.eval x = .slice p m c) (hi : a.eval ix = .int K e) [hT : SlcC P T E s y zs] (hj : e = j) (h1 : j < m)
    (h : wpList P ops Q rest (a.put o.dst (.pointer (some ⟨b, f + j * s, none⟩))) w) : wpList P ops Q (o :: rest) a w := by
  subst hp
  exact wpl_slcAddr hgd T x ix ho b f m c hx K e hi hT.out j hj h1 h
end

/-! ### This program's types -/
instance : OneC Tryd.prog 31 (.int .u16 0) := ⟨tU16⟩
instance : OneC Tryd.prog 2 (.int .i64 0) := ⟨tI64⟩
instance : OneC Tryd.prog 3 (.int .i64 0) := ⟨tInt⟩
instance : OneC Tryd.prog 4 (.bool false) := ⟨tBool⟩
instance : OneC Tryd.prog 9 (.string ⟨#[]⟩) := ⟨tStr⟩
instance : OneC Tryd.prog 5 (.int .u8 0) := ⟨oneT_of Tryd.underlying5 rfl (by kernel_rfl) rfl⟩
instance : AggC Tryd.prog 33 12 (frv zf) := ⟨tFr.toAggT⟩
instance : AggC Tryd.prog 32 12 (frv zf) := ⟨tRaw.toAggT⟩
instance : ArrC Tryd.prog 33 31 12 1 := ⟨arrS_of Tryd.underlying33 (by kernel_rfl)⟩
instance : ArrC Tryd.prog 32 31 12 1 := ⟨arrS_of Tryd.underlying32 (by kernel_rfl)⟩
instance : BldC Tryd.prog 33 [] (frv zf) := ⟨tFrB⟩
instance : IntC Tryd.prog 2 .i64 := ⟨Tryd.underlying2⟩
instance : IntC Tryd.prog 3 .i64 := ⟨Tryd.underlying3⟩
instance : IntC Tryd.prog 31 .u16 := ⟨Tryd.underlying31⟩
instance : SlcC Tryd.prog 22 33 12 24 (frv zf) := ⟨tFrS⟩
instance : SlcC Tryd.prog 80 31 1 2 [.int .u16 0] := ⟨tU16S⟩
instance : SlcC Tryd.prog 29 9 1 16 [.string ⟨#[]⟩] := ⟨tStrS⟩
end Go.Proofs.YtmfgbkmkcljciaaDoor
