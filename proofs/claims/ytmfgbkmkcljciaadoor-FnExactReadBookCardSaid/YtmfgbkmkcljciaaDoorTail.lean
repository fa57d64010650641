/- A region that draws its order: its first operations each yield one value whatever the order and keep what was there, its last ones come in one order; no condition. -/
import Derived.Test.YtmfgbkmkcljciaaDoorKit
import Derived.StillTail
import Derived.Deep.Quiet
import Derived.BigQuiet
namespace Go.Proofs.YtmfgbkmkcljciaaDoor
open Go.RowKit
set_option linter.unusedSimpArgs false

section
variable {P : Program} {ops : Array Oper} {md : Region.Mode} {C : World → Prop} {Q' : Exit → Act → World → Prop}

/-- How many of the first k have not come up. -/
def cnt (listed : Array Bool) : Nat → Nat
  | 0 => 0
  | k + 1 => cnt listed k + if listed.getD k true = true then 0 else 1
theorem cnt_zero {listed : Array Bool} : ∀ {k : Nat}, cnt listed k = 0 → ∀ i, i < k → listed.getD i true = true
  | 0, _, i, hi => by omega
  | k + 1, h, i, hi => by
    simp only [cnt] at h
    by_cases e : i = k
    · subst e
      by_cases hb : listed.getD i true = true
      · exact hb
      · rw [if_neg hb] at h; omega
    · exact cnt_zero (k := k) (by omega) i (by omega)
theorem cnt_pos {listed : Array Bool} : ∀ {k : Nat}, 0 < cnt listed k → ∃ i, i < k ∧ listed.getD i true = false ∧ ∀ j, j < i → listed.getD j true = true
  | 0, h => by simp [cnt] at h
  | k + 1, h => by
    by_cases h0 : 0 < cnt listed k
    · obtain ⟨i, h1, h2, h3⟩ := cnt_pos h0
      exact ⟨i, by omega, h2, h3⟩
    · refine ⟨k, by omega, ?_, fun j hj => cnt_zero (by omega) j hj⟩
      simp only [cnt] at h
      by_cases hb : listed.getD k true = true
      · rw [if_pos hb] at h; omega
      · simpa using hb
theorem cnt_same {listed : Array Bool} {i : Nat} : ∀ {k : Nat}, k ≤ i → cnt (listed.setIfInBounds i true) k = cnt listed k
  | 0, _ => rfl
  | k + 1, h => by simp only [cnt]; rw [cnt_same (by omega), getD_set_ne true (by omega)]
theorem getD_set_self {listed : Array Bool} {i : Nat} : (listed.setIfInBounds i true).getD i true = true := by
  rcases Nat.lt_or_ge i listed.size with h | h
  · simp [h]
  · simp [Array.getElem?_eq_none h]
theorem cnt_set {listed : Array Bool} {i : Nat} (hi : listed.getD i true = false) : ∀ {k : Nat}, i < k → cnt (listed.setIfInBounds i true) k + 1 = cnt listed k
  | 0, h => by omega
  | k + 1, h => by
    simp only [cnt]
    by_cases e : i = k
    · subst e
      rw [cnt_same (Nat.le_refl _), getD_set_self, if_pos rfl, hi]; simp
    · rw [getD_set_ne true e, ← cnt_set hi (k := k) (by omega)]; omega

/-- Each of the first n waits only for earlier ones, and has no guard. -/
def headB (ops : Array Oper) (n : Nat) : Bool :=
  (List.range n).all fun i => match ops[i]? with | some o => o.guard.isNone && o.after.all (fun e => decide (e.on < i)) | none => false
theorem headB_at {n i : Nat} (h : headB ops n = true) (hi : i < n) : ∃ o, ops[i]? = some o ∧ o.guard = none ∧ ∀ e ∈ o.after, e.on < i := by
  have h1 := List.all_eq_true.1 h i (List.mem_range.2 hi)
  cases ho : ops[i]? with
  | none => rw [ho] at h1; cases h1
  | some o =>
    rw [ho] at h1
    simp only [Bool.and_eq_true] at h1
    refine ⟨o, rfl, by simpa using h1.1, fun e he => ?_⟩
    have := Array.all_eq_true_iff_forall_mem.1 h1.2 e he
    simpa using this

/-- From the first operations alone to the whole region. -/
theorem wpAny_of_head_part {n : Nat} {H : Array Oper} {Lq : Act → Prop} (hH : ∀ i, i < n → H[i]? = ops[i]?) (hHs : H.size = n) (hn : n < ops.size)
    (hd : headB ops n = true) (hs : Region.sinkB md ops n = true) (hc : Region.chainB md ops n = true)
    (hend : ∀ a w, C w → Lq a → ∀ listed : Array Bool, listed.size = ops.size → (∀ i, i < n → listed.getD i true = true) → (∀ t, n ≤ t → t < ops.size → listed.getD t true = false) → wpAny P md ops Q' (ops.size - n) listed a w) :
    ∀ (f : Nat) (listed listed' : Array Bool) (a : Act) (w : World), C w → HeadInv md ops n listed → listed'.size = n → (∀ i d, i < n → listed'.getD i d = listed.getD i d) → cnt listed n = f →
      wpAnyQ P md H C Lq f listed' a → wpAny P md ops Q' (f + (ops.size - n)) listed a w
  | 0, listed, listed', a, w, hw, inv, hs', hag, hcnt, h => by
    rw [Nat.zero_add]
    exact hend a w hw h.2 listed inv.size (fun i hi => cnt_zero hcnt i hi) inv.tail
  | f + 1, listed, listed', a, w, hw, inv, hs', hag, hcnt, h => by
    rw [show f + 1 + (ops.size - n) = (f + (ops.size - n)) + 1 by omega]
    obtain ⟨m, hm, hm0, hm1⟩ := cnt_pos (listed := listed) (k := n) (by omega)
    have hlt : ∀ j, j ∈ Region.ready md ops listed → j < n := fun j hj => by
      rcases Nat.lt_or_ge j n with h1 | h1
      · exact h1
      · exact absurd hj (tail_waits hs hc hn inv _ m rfl hm hm0 j h1)
    refine ⟨fun h0 => ?_, fun i hi => ?_⟩
    · obtain ⟨o, ho, _, hdep⟩ := headB_at hd hm
      have : m ∈ Region.ready md ops listed := mem_ready.2 ⟨hm0, o, ho, fun e he _ => by
        have h1 := hm1 e.on (hdep e he)
        have hlt' : e.on < listed.size := by rw [inv.size]; have := hdep e he; omega
        simp [hlt'] at h1 ⊢; exact h1⟩
      rw [h0] at this; cases this
    · have hin := hlt i hi
      obtain ⟨hun, o, ho, hall⟩ := mem_ready.1 hi
      obtain ⟨o', ho', hg, hdep⟩ := headB_at hd hin
      obtain rfl : o' = o := Option.some.inj (ho'.symm.trans ho)
      have hi' : i ∈ Region.ready md H listed' := mem_ready.2 ⟨by rw [hag i _ hin]; exact hun, o', by rw [hH i hin]; exact ho, fun e he hb => by
        rw [hag e.on _ (by have := hdep e he; omega)]; exact hall e he hb⟩
      have hq := h.2 i hi'
      unfold qOp at hq
      rw [hH i hin, ho] at hq
      have hwant : ∀ ys, Region.wanted o' ys = true := fun ys => by simp [Region.wanted, hg]
      simp only [hwant, if_true] at hq
      unfold wpOp
      rw [ho]
      simp only [hwant, if_true]
      refine .inl (Oper.wp_of_quiet hw (fun a' w' hw' hK => wpAny_of_head_part hH hHs hn hd hs hc hend f _ (listed'.setIfInBounds i true) a' w' hw' (inv.set hi hin) (by simpa using hs') (fun k d hk => ?_) ?_ hK) hq)
      · by_cases e : i = k
        · subst e
          have h1 : i < listed'.size := by omega
          have h2 : i < listed.size := by rw [inv.size]; omega
          simp [h1, h2]
        · rw [getD_set_ne d e, getD_set_ne d e]; exact hag k d hk
      · have := cnt_set hun (k := n) hin; omega

def tailB (ops : Array Oper) (n : Nat) : Bool :=
  decide (n < ops.size) && Region.lexB .any (ops.extract 0 n) && headB ops n && Region.sinkB .any ops n && Region.chainB .any ops n &&
  Region.seqB .any ops (ops.size - n) n (Array.replicate n true ++ Array.replicate (ops.size - n) false)

theorem listed_eq {n : Nat} {listed : Array Bool} (hs : listed.size = ops.size) (hn : n < ops.size) (h1 : ∀ i, i < n → listed.getD i true = true) (h2 : ∀ t, n ≤ t → t < ops.size → listed.getD t true = false) :
    listed = Array.replicate n true ++ Array.replicate (ops.size - n) false := by
  apply Array.ext
  · simp; omega
  · intro i hi hi'
    by_cases hin : i < n
    · have := h1 i hin
      simp [hi] at this
      rw [Array.getElem_append_left (by simpa using hin)]
      simpa using this
    · have := h2 i (by omega) (by omega)
      simp [hi] at this
      rw [Array.getElem_append_right (by simp; omega)]
      simpa using this

theorem wp_region_keep_tail {id : Nat} {Q : Exit → Act → World → Prop} {a : Act} {w : World} {l : List Oper} (n : Nat) (hm : P.follows .mixedOrders = true) (hB : tailB l.toArray n = true) (hC : C { w with drawn := w.drawn + 1 })
    (h : wpQuiet P (l.toArray.extract 0 n) C (fun a' => ∀ w', C w' → wpList P l.toArray Q (l.drop n) a' w') (l.take n) a) : (Code.region id l.toArray true).wp P Q a w := by
  simp only [tailB, Bool.and_eq_true, decide_eq_true_eq] at hB
  obtain ⟨⟨⟨⟨⟨hn, hlex⟩, hd⟩, hs⟩, hc⟩, hseq⟩ := hB
  simp only [Region.lexB, Bool.and_eq_true] at hlex
  have hex : (l.toArray.extract 0 n).toList = l.take n := by simp
  have hHs : (l.toArray.extract 0 n).size = n := by simp at hn ⊢; omega
  refine wp_region_any hm ?_
  have hq := wpAnyQ_lex (C := C) (md := .any) hlex.1 (l.take n) 0 (Array.replicate n false) a (fun j => by rw [← hex]; simp) (by
    have := hlex.2
    rw [hHs] at this
    rw [show (l.take n).length = n by simp at hn ⊢; omega]
    exact this) h
  rw [show (l.take n).length = n by simp at hn ⊢; omega] at hq
  have := wpAny_of_head_part (P := P) (Q' := Q) (C := C) (md := .any) (n := n) (H := l.toArray.extract 0 n) (ops := l.toArray) (fun i hi => by simp [hi]) hHs hn hd hs hc
    (fun a' w' hw' hL listed hsz h1 h2 => by
      have he := listed_eq (ops := l.toArray) hsz hn h1 h2
      subst he
      have := wpAny_of_seq (md := .any) (Q' := Q) (l.drop n) n (Array.replicate n true ++ Array.replicate (l.toArray.size - n) false) a' w' (fun j => by simp [List.getElem?_drop]) (by
        rw [show (l.drop n).length = l.toArray.size - n by simp]; exact hseq) (hL w' hw')
      rwa [show (l.drop n).length = l.toArray.size - n by simp] at this)
    n (Array.replicate l.toArray.size false) (Array.replicate n false) a { w with drawn := w.drawn + 1 } hC
    ⟨by simp, fun j oj _ hl => (by rw [getD_replicate_false] at hl; cases hl), fun t _ ht => getD_in (by simpa using ht) (getD_replicate_false _ _)⟩
    (by simp) (fun i d hi => by have : i < l.length := by simp at hn; omega
                                simp [hi, this]) (by
      have : ∀ k, k ≤ l.toArray.size → cnt (Array.replicate l.toArray.size false) k = k := by
        intro k hk
        induction k with
        | zero => rfl
        | succ k ih =>
          simp only [cnt]
          rw [ih (by omega), getD_in (by simp at hk ⊢; omega) (getD_replicate_false _ _)]
          simp
      exact this n (by omega)) hq
  rw [show n + (l.toArray.size - n) = l.toArray.size by omega] at this
  exact this
end

/-! ### The rules of the first operations -/
section
variable {P : Program} {ops : Array Oper} {rest : List Oper} {o : Oper} {a : Act} {w w0 : World} {Q : Act → Prop} {C : World → Prop} {M : List Nat} {L L' : List (Nat × List Value × TypeId)}
theorem wpq_val (hgd : o.guard = none) (v : Value) (hrun : ∀ w', C w' → (execOp a.eval o).run P w' = .ok (.value v) w') (h : wpQuiet P ops C Q rest (a.put o.dst v)) : wpQuiet P ops C Q (o :: rest) a := by
  refine wpQuiet_step fun K hK => ?_
  simp only [Region.wanted, hgd, if_true]
  exact ⟨v, fun w' hw' => by unfold Oper.quietAt; rw [hrun w' hw']; exact ⟨rfl, rfl⟩, hK _ h⟩
theorem wpq_call (hgd : o.guard = none) (c : Go.Call) (ho : o.op = .call c) (f : Operand) (hc : c.callee = .value f) (F : FuncId) (first cap : Array Value) (hf : a.eval f = .func (.func F) first cap)
    (fn : Func) (hF : P.funcs[F]? = some fn) (hn : (fn.name == "runtime.NumGoroutine") = false) (hbd : fn.body.isNone = false) (args : Array Value) (ha : first ++ c.args.map a.eval ++ cap = args) (v : Value)
    (hcall : ∀ w', C w' → Calls P F args w' fun e w'' => e = .returned v ∧ C w'') (h : wpQuiet P ops C Q rest (a.put o.dst v)) : wpQuiet P ops C Q (o :: rest) a := by
  subst ha
  refine wpQuiet_step fun K hK => ?_
  simp only [Region.wanted, hgd, if_true]
  refine ⟨v, fun w' hw' => ?_, hK _ h⟩
  unfold Oper.quietAt execOp
  simp only [ho, resolve, hc, Deferred.ofValue, hf, invoke, callFunc, hF, hn, hbd, Sem.run_bind, Sem.run_pure, run_program, Result.andThen_ok, Bool.false_eq_true, if_false]
  exact ⟨rfl, hcall w' hw'⟩
theorem wpq_move (hgd : o.guard = none) (x : Operand) (ho : o.op = .move x) (v : Value) (hv : a.eval x = v) (h : wpQuiet P ops C Q rest (a.put o.dst v)) : wpQuiet P ops C Q (o :: rest) a :=
  wpq_val hgd v (fun w' _ => by unfold execOp; simp only [ho, hv]; rfl) h
theorem wpq_nil (hgd : o.guard = none) (x : Operand) (ho : o.op = .nilCheck x) (p : Addr) (hv : a.eval x = .pointer (some p)) (h : wpQuiet P ops C Q rest (a.put o.dst (.pointer (some p)))) : wpQuiet P ops C Q (o :: rest) a :=
  wpq_val hgd _ (fun w' _ => by unfold execOp; simp only [ho, hv]; rfl) h
theorem wpq_loadAll (hgd : o.guard = none) (T : TypeId) (x : Operand) (ho : o.op = .load T x) (b : Nat) (hx : a.eval x = .pointer (some ⟨b, 0, none⟩))
    {n : Nat} {z : List Value} (hT : AggT P T n z) (cs : List Value) (U : TypeId) (hb : ∀ w', C w' → Blk w' b cs U) (hl : cs.length = n)
    (h : wpQuiet P ops C Q rest (a.put o.dst (.agg cs.toArray))) : wpQuiet P ops C Q (o :: rest) a :=
  wpq_val hgd _ (fun w' hw' => by
    have hr := run_loadVar_seg hT w' ⟨b, 0, none⟩ cs hl (fun j v hj => by rw [Addr.add_lit, (hb w' hw').cell, Nat.zero_add, hj])
    unfold execOp
    simp only [ho, hx, Instr.loadAt, Instr.sureAddr, Sem.run_bind, Sem.run_pure, Result.andThen_ok, hr]) h
theorem wpq_loadSeg (hgd : o.guard = none) (T : TypeId) (x : Operand) (ho : o.op = .load T x) (p : Addr) (hx : a.eval x = .pointer (some p))
    {n : Nat} {z : List Value} (hT : AggT P T n z) (cs : List Value) (hb : ∀ w', C w' → ∀ j v, cs[j]? = some v → w'.cell? (p.add j) = some v) (hl : cs.length = n)
    (h : wpQuiet P ops C Q rest (a.put o.dst (.agg cs.toArray))) : wpQuiet P ops C Q (o :: rest) a :=
  wpq_val hgd _ (fun w' hw' => by
    have hr := run_loadVar_seg hT w' p cs hl (hb w' hw')
    unfold execOp
    simp only [ho, hx, Instr.loadAt, Instr.sureAddr, Sem.run_bind, Sem.run_pure, Result.andThen_ok, hr]) h
theorem wpq_load1 (hgd : o.guard = none) (T : TypeId) (x : Operand) (ho : o.op = .load T x) (p : Addr) (hx : a.eval x = .pointer (some p))
    {z : Value} (hT : OneT P T z) (v : Value) (hv : ∀ w', C w' → w'.cell? p = some v)
    (h : wpQuiet P ops C Q rest (a.put o.dst v)) : wpQuiet P ops C Q (o :: rest) a :=
  wpq_val hgd _ (fun w' hw' => by
    have hr := run_loadVar_one hT w' p v (hv w' hw')
    unfold execOp
    simp only [ho, hx, Instr.loadAt, Instr.sureAddr, Sem.run_bind, Sem.run_pure, Result.andThen_ok, hr]) h
theorem wpq_indexAddr (hgd : o.guard = none) (T : TypeId) (x ix : Operand) (ho : o.op = .indexAddr T x ix) (b f : Nat) (hx : a.eval x = .pointer (some ⟨b, f, none⟩)) (k : IntKind) (i : Int) (hi : a.eval ix = .int k i)
    {E : TypeId} {n : Nat} {z : Value} (hT : ArrT P T E n z) (j : Nat) (hj : i = j) (h1 : j < n)
    (h : wpQuiet P ops C Q rest (a.put o.dst (.pointer (some ⟨b, f + j, none⟩)))) : wpQuiet P ops C Q (o :: rest) a := by
  subst hj
  have h1' : (j : Int) < n := by omega
  have h0 : (0 : Int) ≤ j := by omega
  exact wpq_val hgd _ (fun w' _ => by
    have hsz := hT.e.sizeOf w'
    unfold execOp
    simp only [ho, hx, hi, Instr.indexAt, Instr.sureAddr, asIntOf, Sem.run_bind, Sem.run_pure, Result.andThen_ok, run_underlying hT.a w', h0, h1', and_self, if_true, hsz, Nat.mul_one, Addr.add_lit, Int.toNat_natCast]) h
theorem wpq_indexAddr0 (hgd : o.guard = none) (T : TypeId) (x ix : Operand) (ho : o.op = .indexAddr T x ix) (b : Nat) (hx : a.eval x = .pointer (some ⟨b, 0, none⟩)) (k : IntKind) (i : Int) (hi : a.eval ix = .int k i)
    {E : TypeId} {n : Nat} {z : Value} (hT : ArrT P T E n z) (j : Nat) (hj : i = j) (h1 : j < n)
    (h : wpQuiet P ops C Q rest (a.put o.dst (.pointer (some ⟨b, j, none⟩)))) : wpQuiet P ops C Q (o :: rest) a :=
  wpq_indexAddr hgd T x ix ho b 0 hx k i hi hT j hj h1 (by rw [Nat.zero_add]; exact h)
theorem wpq_slcAddr (hgd : o.guard = none) (T : TypeId) (x ix : Operand) (ho : o.op = .indexAddr T x ix) (b f m c : Nat) (hx : a.eval x = .slice (some ⟨b, f, none⟩) m c) (k : IntKind) (i : Int) (hi : a.eval ix = .int k i)
    {E : TypeId} {s y : Nat} {z : List Value} (hT : SlcT P T E s y z) (j : Nat) (hj : i = j) (h1 : j < m)
    (h : wpQuiet P ops C Q rest (a.put o.dst (.pointer (some ⟨b, f + j * s, none⟩)))) : wpQuiet P ops C Q (o :: rest) a := by
  subst hj
  have h1' : (j : Int) < m := by omega
  have h0 : (0 : Int) ≤ j := by omega
  exact wpq_val hgd _ (fun w' _ => by
    have hsz := hT.sizeOf w'
    unfold execOp
    simp only [ho, hx, hi, Instr.indexAt, asIntOf, Sem.run_bind, Sem.run_pure, Result.andThen_ok, run_underlying hT.u w', h0, h1', and_self, if_true, hsz, Addr.add_lit, Int.toNat_natCast]) h
/-- A field of a struct, told by where it lies (k). -/
theorem wpq_field (hgd : o.guard = none) (T : TypeId) (x : Operand) (i : Nat) (ho : o.op = .fieldAddr T x i) (b f : Nat) (hx : a.eval x = .pointer (some ⟨b, f, none⟩)) (k : Nat)
    (hf : ∀ (b f : Nat) (w' : World), (Instr.fieldAt T (.pointer (some ⟨b, f, none⟩)) i).run P w' = .ok (.pointer (some ⟨b, f + k, none⟩)) w')
    (h : wpQuiet P ops C Q rest (a.put o.dst (.pointer (some ⟨b, f + k, none⟩)))) : wpQuiet P ops C Q (o :: rest) a :=
  wpq_val hgd _ (fun w' _ => by
    unfold execOp
    simp only [ho, hx, Sem.run_bind, Sem.run_pure, Result.andThen_ok, hf]) h
theorem wpq_conv (hgd : o.guard = none) (S D : TypeId) (x : Operand) (ho : o.op = .convert S D x) (k k' : IntKind) (n m : Int) (hx : a.eval x = .int k n) (hs : (P.underlying S).isSome = true) (hd : P.underlying D = some (.int k')) (hm : k'.wrap n = m)
    (h : wpQuiet P ops C Q rest (a.put o.dst (.int k' m))) : wpQuiet P ops C Q (o :: rest) a := by
  have hk : P.intKind D = k' := by unfold Program.intKind; rw [hd]
  exact wpq_val hgd _ (fun w' _ => by
    have := run_convert_int (P := P) w' S D k n hs (by rw [hk]; exact hd)
    rw [hk, hm] at this
    unfold execOp
    simp only [ho, hx, Sem.run_bind, Sem.run_pure, Result.andThen_ok, this]) h
theorem wpq_bin (hgd : o.guard = none) (op : BinOp) (T : TypeId) (x y : Operand) (U : TypeId) (ho : o.op = .binOp op T x y U) (k k' : IntKind) (n m : Int) (hx : a.eval x = .int k n) (hy : a.eval y = .int k' m) (v : Value)
    (hb : ∀ w', (binOp op T (.int k n) (.int k' m)).run P w' = .ok v w') (h : wpQuiet P ops C Q rest (a.put o.dst v)) : wpQuiet P ops C Q (o :: rest) a :=
  wpq_val hgd _ (fun w' _ => by
    unfold execOp
    simp only [ho, hx, hy, eqGuard_at_int, Sem.run_bind, Sem.run_pure, Result.andThen_ok, hb]) h
theorem wpq_lenSlice (hgd : o.guard = none) (x : Operand) (T : TypeId) (ho : o.op = .call { callee := .builtin .len, args := #[x], argTypes := #[T] }) (b : Option Addr) (n c : Nat) (hx : a.eval x = .slice b n c) (E : TypeId) (hu : P.underlying T = some (.slice E))
    (h : wpQuiet P ops C Q rest (a.put o.dst (.int .i64 n))) : wpQuiet P ops C Q (o :: rest) a := by
  have he : P.elem T = E := by unfold Program.elem; rw [hu]
  exact wpq_val hgd _ (fun w' _ => by
    have := run_len_slice (P := P) w' T o.type b n c (by rw [he]; exact hu)
    unfold execOp
    simp only [ho, resolve, invoke, builtin, Sem.run_bind, Sem.run_pure, Result.andThen_ok, List.map_toArray, List.map_cons, List.map_nil, hx, this]
    rfl) h
theorem qgate_load {T : TypeId} {x : Operand} (_ho : o.op = .load T x) (h : wpQuiet P ops C Q (o :: rest) a) : wpQuiet P ops C Q (o :: rest) a := h
theorem qgate_addr {T : TypeId} {x i : Operand} (_ho : o.op = .indexAddr T x i) (h : wpQuiet P ops C Q (o :: rest) a) : wpQuiet P ops C Q (o :: rest) a := h
theorem qgate_field {T : TypeId} {x : Operand} {i : Nat} (_ho : o.op = .fieldAddr T x i) (h : wpQuiet P ops C Q (o :: rest) a) : wpQuiet P ops C Q (o :: rest) a := h
theorem qgate_conv {S D : TypeId} {x : Operand} (_ho : o.op = .convert S D x) (h : wpQuiet P ops C Q (o :: rest) a) : wpQuiet P ops C Q (o :: rest) a := h
theorem qgate_bin {b : BinOp} {T U : TypeId} {x y : Operand} (_ho : o.op = .binOp b T x y U) (h : wpQuiet P ops C Q (o :: rest) a) : wpQuiet P ops C Q (o :: rest) a := h
theorem qgate_call {c : Go.Call} (_ho : o.op = .call c) (h : wpQuiet P ops C Q (o :: rest) a) : wpQuiet P ops C Q (o :: rest) a := h
theorem qgate_dst {N : Tmp} (_hN : o.dst = some N) (h : wpQuiet P ops C Q (o :: rest) a) : wpQuiet P ops C Q (o :: rest) a := h
end
theorem wp_region_tail_st {P : Program} {id : Nat} {Q : Exit → Act → World → Prop} {a : Act} {w w0 : World} {l : List Oper} {M : List Nat} {L : List (Nat × List Value × TypeId)} (st : St M w0 w L) (n : Nat) (hm : P.follows .mixedOrders = true) (hB : tailB l.toArray n = true)
    (h : wpQuiet P (l.toArray.extract 0 n) (fun w' => St M w0 w' L) (fun a' => ∀ w', St M w0 w' L → wpList P l.toArray Q (l.drop n) a' w') (l.take n) a) : (Code.region id l.toArray true).wp P Q a w :=
  wp_region_keep_tail (C := fun w' => St M w0 w' L) n hm hB (st.call (Keep.drew w)) h
theorem wp_region_quiet_st {P : Program} {id : Nat} {Q : Exit → Act → World → Prop} {a : Act} {w w0 : World} {l : List Oper} {M : List Nat} {L : List (Nat × List Value × TypeId)} (st : St M w0 w L) (hm : P.follows .mixedOrders = true) (hB : Region.lexB .any l.toArray = true)
    (h : wpQuiet P l.toArray (fun w' => St M w0 w' L) (fun a' => ∀ w', St M w0 w' L → Q .normal a' w') l a) : (Code.region id l.toArray true).wp P Q a w :=
  wp_region_quiet (C := fun w' => St M w0 w' L) hm hB (st.call (Keep.drew w)) (by simpa using h)
end Go.Proofs.YtmfgbkmkcljciaaDoor
