/- Rules for walks over arrays and structs in memory: each world is a variable, and what the call's own blocks hold stands in one list; no condition. -/
import Derived.WalkKit
import Derived.WalkSmall
import Derived.KernelRfl
import Derived.Deep.Draws
namespace Go.Proofs.YtmfgbkmkcljciaaDoor
open Go.RowKit

theorem hid {p : Prop} (h : p) : Hid p := h

/-- Block b holds the row cs. -/
def Blk (w : World) (b : Nat) (cs : List Value) (T : TypeId) : Prop := w.heap[b]? = some (.cells cs.toArray T (0, 0))

/-- Of what w0 holds only the blocks of M may have turned in w. -/
structure Keep (M : List Nat) (w0 w : World) : Prop where
  os : w.os = w0.os
  tape : w.tape = w0.tape
  output : w.output = w0.output
  size : w0.heap.size ≤ w.heap.size
  block : ∀ k, k < w0.heap.size → k ∉ M → w.heap[k]? = w0.heap[k]?

theorem Keep.refl (M : List Nat) (w : World) : Keep M w w := ⟨rfl, rfl, rfl, Nat.le_refl _, fun _ _ _ => rfl⟩
theorem Keep.trans {M N : List Nat} {a b c : World} (h : Keep M a b) (k : Keep N b c) (hN : ∀ x ∈ N, x < a.heap.size → x ∈ M) : Keep M a c :=
  ⟨k.os.trans h.os, k.tape.trans h.tape, k.output.trans h.output, Nat.le_trans h.size k.size, fun i hi hm =>
    (k.block i (Nat.lt_of_lt_of_le hi h.size) (fun hx => hm (hN i hx hi))).trans (h.block i hi hm)⟩
theorem Keep.below {w w' : World} (h : Keep [] w w') : Below w.heap.size w w' := ⟨h.os, h.tape, h.output, h.size, fun k hk => h.block k hk (by simp)⟩
theorem Keep.of_below {w w' : World} (h : Below w.heap.size w w') : Keep [] w w' := ⟨h.os, h.tape, h.output, h.size, fun k hk _ => h.block k hk⟩
theorem Keep.drewN (w : World) (n : Nat) : Keep [] w (w.drewN n) := ⟨rfl, rfl, rfl, Nat.le_refl _, fun _ _ _ => rfl⟩
theorem Keep.drew (w : World) : Keep [] w w.drew := ⟨rfl, rfl, rfl, Nat.le_refl _, fun _ _ _ => rfl⟩
theorem Keep.alloc (w : World) (o : Obj) : Keep [] w (w.alloc o) := ⟨rfl, rfl, rfl, by simp, fun k hk _ => Below.heap_alloc _ _ _ hk⟩

section
variable {w w1 : World} {b k : Nat} {cs : List Value} {T : TypeId} {M : List Nat}
theorem Blk.lt (h : Blk w b cs T) : b < w.heap.size := (Array.getElem?_eq_some_iff.1 h).1
theorem Blk.cell (h : Blk w b cs T) (k : Nat) : w.cell? ⟨b, k, none⟩ = cs[k]? := by
  rw [cell_of_row w b k cs.toArray T (0, 0) h]; simp
theorem Blk.cellv (h : Blk w b cs T) {v : Value} (hv : cs[k]? = some v) : w.cell? ⟨b, k, none⟩ = some v := by rw [h.cell, hv]
theorem Blk.frozen (h : Blk w b cs T) (k : Nat) : w.frozen? ⟨b, k, none⟩ = false := frozen_of_row w b k cs.toArray T h
theorem Blk.keep (h : Blk w b cs T) (hk : Keep M w w1) (hM : b ∉ M) : Blk w1 b cs T := by
  unfold Blk; rw [hk.block b h.lt hM]; exact h
theorem Blk.keep0 (h : Blk w b cs T) (hk : Keep [] w w1) : Blk w1 b cs T := h.keep hk (by simp)
theorem Blk.alloc (w : World) (cs : List Value) (T : TypeId) : Blk (w.alloc (.cells cs.toArray T)) w.heap.size cs T := heap_alloc_new w _
theorem Blk.setRow {old : List Value} (h : Blk w b old T) (cs : List Value) : Blk (w.setRow b cs.toArray) b cs T := setRow_heap w b _ _ T _ h
end

/-- The cells from offset o of block b on are cs. -/
def Cl (w : World) (b o : Nat) (cs : List Value) : Prop := b < w.heap.size ∧ ∀ j v, cs[j]? = some v → w.cell? ⟨b, o + j, none⟩ = some v
section
variable {w w1 : World} {b o k : Nat} {cs : List Value} {T : TypeId} {M : List Nat}
theorem Cl.of (h : Blk w b cs T) : Cl w b 0 cs := ⟨h.lt, fun j v hj => by rw [Nat.zero_add]; exact h.cellv hj⟩
theorem Cl.keep (h : Cl w b o cs) (hk : Keep M w w1) (hM : b ∉ M) : Cl w1 b o cs :=
  ⟨Nat.lt_of_lt_of_le h.1 hk.size, fun j v hj => (World.cell?_of_block (w := w) (hk.block b h.1 hM)).trans (h.2 j v hj)⟩
theorem Cl.cellv0 (h : Cl w b 0 cs) {v : Value} (hv : cs[k]? = some v) : w.cell? ⟨b, k, none⟩ = some v := by
  have := h.2 k v hv; rwa [Nat.zero_add] at this
theorem Cl.cellv (h : Cl w b o cs) {v : Value} (hv : cs[k]? = some v) : w.cell? ⟨b, o + k, none⟩ = some v := h.2 k v hv
end

/-- What the call has made (or may write): L. Of what was there when it began (w0) only M may have turned. -/
structure St (M : List Nat) (w0 w : World) (L : List (Nat × List Value × TypeId)) : Prop where
  keep : Keep M w0 w
  has : ∀ p ∈ L, Blk w p.1 p.2.1 p.2.2
  ge : ∀ p ∈ L, w0.heap.size ≤ p.1 ∨ p.1 ∈ M
  nd : (L.map (·.1)).Nodup

/-- Where a block stands in a list, and the list with its row turned. -/
inductive Upd (b b' : Nat) (old new : List Value) (T : TypeId) : List (Nat × List Value × TypeId) → List (Nat × List Value × TypeId) → Prop where
  | here {L} : Upd b b' old new T ((b, old, T) :: L) ((b', new, T) :: L)
  | there {x L L'} : Upd b b' old new T L L' → Upd b b' old new T (x :: L) (x :: L')
/-- A block stands in a list. -/
inductive At (b : Nat) (cs : List Value) (T : TypeId) : List (Nat × List Value × TypeId) → Prop where
  | here {L} : At b cs T ((b, cs, T) :: L)
  | there {x L} : At b cs T L → At b cs T (x :: L)

theorem At.mem {b : Nat} {cs : List Value} {T : TypeId} {L : List (Nat × List Value × TypeId)} (h : At b cs T L) : (b, cs, T) ∈ L := by
  induction h with
  | here => simp
  | there _ ih => exact List.mem_cons_of_mem _ ih
theorem Upd.at {b b' : Nat} {old new : List Value} {T : TypeId} {L L' : List (Nat × List Value × TypeId)} (h : Upd b b' old new T L L') : At b old T L := by
  induction h with
  | here => exact .here
  | there _ ih => exact .there ih
theorem Upd.mem {b b' : Nat} {old new : List Value} {T : TypeId} {L L' : List (Nat × List Value × TypeId)} (h : Upd b b' old new T L L') (hnd : (L.map (·.1)).Nodup) :
    ∀ p ∈ L', p = (b', new, T) ∨ (p ∈ L ∧ p.1 ≠ b) := by
  induction h with
  | here =>
    intro p hp
    simp only [List.map_cons, List.nodup_cons] at hnd
    rcases List.mem_cons.1 hp with rfl | hp
    · exact Or.inl rfl
    · exact Or.inr ⟨List.mem_cons_of_mem _ hp, fun e => hnd.1 (e ▸ List.mem_map_of_mem (f := (·.1)) hp)⟩
  | there h ih =>
    intro p hp
    simp only [List.map_cons, List.nodup_cons] at hnd
    rcases List.mem_cons.1 hp with rfl | hp
    · exact Or.inr ⟨by simp, fun e => hnd.1 (by rw [e]; exact List.mem_map_of_mem (f := (·.1)) h.at.mem)⟩
    · rcases ih hnd.2 p hp with h | ⟨h1, h2⟩
      · exact Or.inl h
      · exact Or.inr ⟨List.mem_cons_of_mem _ h1, h2⟩
theorem Upd.nodup {b b' : Nat} {old new : List Value} {T : TypeId} {L L' : List (Nat × List Value × TypeId)} (h : Upd b b' old new T L L') (hnd : (L.map (·.1)).Nodup)
    (hb : b' = b ∨ ∀ p ∈ L, p.1 ≠ b') : (L'.map (·.1)).Nodup := by
  induction h with
  | here =>
    simp only [List.map_cons, List.nodup_cons] at hnd ⊢
    refine ⟨fun hm => ?_, hnd.2⟩
    rcases hb with rfl | hb
    · exact hnd.1 hm
    · obtain ⟨p, hp, e⟩ := List.mem_map.1 hm
      exact hb p (List.mem_cons_of_mem _ hp) e
  | @there x L L' h ih =>
    simp only [List.map_cons, List.nodup_cons] at hnd ⊢
    refine ⟨fun hm => ?_, ih hnd.2 (hb.imp id fun hb p hp => hb p (List.mem_cons_of_mem _ hp))⟩
    obtain ⟨p, hp, e⟩ := List.mem_map.1 hm
    rcases h.mem hnd.2 p hp with rfl | ⟨hp', _⟩
    · simp only at e
      subst e
      rcases hb with rfl | hb
      · exact hnd.1 (List.mem_map_of_mem (f := (·.1)) h.at.mem)
      · exact hb x (by simp) rfl
    · exact hnd.1 (e ▸ List.mem_map_of_mem (f := (·.1)) hp')

section
variable {M : List Nat} {w0 w w1 : World} {L L' : List (Nat × List Value × TypeId)} {b : Nat} {cs old : List Value} {T : TypeId}
theorem St.start (w : World) : St [] w w [] := ⟨Keep.refl _ _, by simp, by simp, by simp⟩
theorem St.start1 (h : Blk w b cs T) : St [b] w w [(b, cs, T)] :=
  ⟨Keep.refl _ _, fun p hp => by obtain rfl := List.mem_singleton.1 hp; exact h, fun p hp => by obtain rfl := List.mem_singleton.1 hp; right; simp, by simp⟩
theorem St.get (h : St M w0 w L) (ha : At b cs T L) : Blk w b cs T := h.has _ ha.mem
theorem St.arg (h : St M w0 w L) (hb : Blk w0 b cs T) (hM : b ∉ M) : Blk w b cs T := hb.keep h.keep hM
theorem St.alloc (h : St M w0 w L) (cs : List Value) (T : TypeId) : St M w0 (w.alloc (.cells cs.toArray T)) ((w.heap.size, cs, T) :: L) := by
  refine ⟨h.keep.trans (Keep.alloc w _) (by simp), fun p hp => ?_, fun p hp => ?_, ?_⟩
  · rcases List.mem_cons.1 hp with rfl | hp
    · exact Blk.alloc w cs T
    · exact (h.has p hp).keep0 (Keep.alloc w _)
  · rcases List.mem_cons.1 hp with rfl | hp
    · exact Or.inl h.keep.size
    · exact h.ge p hp
  · simp only [List.map_cons, List.nodup_cons]
    refine ⟨fun hm => ?_, h.nd⟩
    obtain ⟨p, hp, e⟩ := List.mem_map.1 hm
    have := (h.has p hp).lt
    omega
/-- Behind a call that leaves all that was there. -/
theorem St.call (h : St M w0 w L) (hk : Keep [] w w1) : St M w0 w1 L :=
  ⟨h.keep.trans hk (by simp), fun p hp => (h.has p hp).keep0 hk, h.ge, h.nd⟩
theorem St.drewN (h : St M w0 w L) (n : Nat) : St M w0 (w.drewN n) L := h.call (Keep.drewN w n)
/-- Behind a call that writes block b alone. -/
theorem St.wrote (h : St M w0 w L) (hu : Upd b b old cs T L L') (hk : Keep [b] w w1) (hb : Blk w1 b cs T) : St M w0 w1 L' := by
  have hge := h.ge _ hu.at.mem
  refine ⟨h.keep.trans hk (fun x hx hlt => ?_), fun p hp => ?_, fun p hp => ?_, hu.nodup h.nd (Or.inl rfl)⟩
  · obtain rfl := List.mem_singleton.1 hx
    rcases hge with hge | hge
    · simp only at hge; omega
    · exact hge
  · rcases hu.mem h.nd p hp with rfl | ⟨hp', hne⟩
    · exact hb
    · exact (h.has p hp').keep hk (by simpa using hne)
  · rcases hu.mem h.nd p hp with rfl | ⟨hp', _⟩
    · exact hge
    · exact h.ge p hp'
theorem Keep.setRow (w : World) (b : Nat) (cs : Array Value) : Keep [b] w (w.setRow b cs) :=
  ⟨rfl, rfl, rfl, by simp, fun k _ hM => setRow_other w b k cs (by simpa using hM)⟩
theorem St.setRow (h : St M w0 w L) (hu : Upd b b old cs T L L') : St M w0 (w.setRow b cs.toArray) L' :=
  h.wrote hu (Keep.setRow w b _) ((h.get hu.at).setRow cs)
/-- A block is let go. -/
theorem St.drop {x : Nat × List Value × TypeId} (h : St M w0 w (x :: L)) : St M w0 w L :=
  ⟨h.keep, fun p hp => h.has p (List.mem_cons_of_mem _ hp), fun p hp => h.ge p (List.mem_cons_of_mem _ hp), by have := h.nd; simp only [List.map_cons, List.nodup_cons] at this; exact this.2⟩
theorem St.keep0 (h : St [] w0 w L) : Keep [] w0 w := h.keep
theorem St.keep1 (h : St [b] w0 w ((b, cs, T) :: L)) : Keep [b] w0 w ∧ Blk w b cs T := ⟨h.keep, h.get .here⟩
end

/-! ### What the rules ask of a type -/
def aggB : TypeDesc → Bool
  | .struct _ | .array _ _ => true
  | _ => false
/-- T is a struct's or an array's type of n cells, zero at z. -/
structure AggT (P : Program) (T : TypeId) (n : Nat) (z : List Value) : Prop where
  u : ∃ d, P.underlying T = some d ∧ aggB d = true
  i : ∃ i, P.info? T = some i ∧ i.size = n ∧ i.zero = some (.agg z.toArray)
/-- T is a type of one cell, zero at z. -/
structure OneT (P : Program) (T : TypeId) (z : Value) : Prop where
  u : ∃ d, P.underlying T = some d ∧ aggB d = false
  i : ∃ i, P.info? T = some i ∧ i.size = 1 ∧ i.zero = some z
  c : z.cells = #[z]
/-- T is the type of arrays of n cells of one-cell elements E. -/
structure ArrT (P : Program) (T E : TypeId) (n : Nat) (z : Value) : Prop extends AggT P T n (List.replicate n z) where
  a : P.underlying T = some (.array n E)
  e : OneT P E z
/-- T is a slice's type, E its element's, of s cells and y bytes, zero at z. -/
structure SlcT (P : Program) (T E : TypeId) (s y : Nat) (z : List Value) : Prop where
  u : P.underlying T = some (.slice E)
  i : ∃ i v, P.info? E = some i ∧ i.size = s ∧ i.bytes = y ∧ i.zero = some v ∧ v.cells = z.toArray
  p : 0 < s
  l : z.length = s

section
variable {P : Program}
theorem AggT.isAgg {T : TypeId} {n : Nat} {z : List Value} (h : AggT P T n z) (w : World) : (isAgg T).run P w = .ok true w := by
  obtain ⟨d, hu, hd⟩ := h.u
  unfold Go.isAgg
  rw [Sem.run_bind, run_underlying hu w]
  cases d <;> simp_all [aggB]
theorem AggT.sizeOf {T : TypeId} {n : Nat} {z : List Value} (h : AggT P T n z) (w : World) : (sizeOf T).run P w = .ok n w := by
  obtain ⟨i, hi, hs, _⟩ := h.i
  simp [Go.sizeOf, typeInfo, hi, hs]
theorem OneT.isAgg {T : TypeId} {z : Value} (h : OneT P T z) (w : World) : (isAgg T).run P w = .ok false w := by
  obtain ⟨d, hu, hd⟩ := h.u
  unfold Go.isAgg
  rw [Sem.run_bind, run_underlying hu w]
  cases d <;> simp_all [aggB]
theorem OneT.sizeOf {T : TypeId} {z : Value} (h : OneT P T z) (w : World) : (sizeOf T).run P w = .ok 1 w := by
  obtain ⟨i, hi, hs, _⟩ := h.i
  simp [Go.sizeOf, typeInfo, hi, hs]
theorem SlcT.sizeOf {T E : TypeId} {s y : Nat} {z : List Value} (h : SlcT P T E s y z) (w : World) : (sizeOf E).run P w = .ok s w := by
  obtain ⟨i, v, hi, hs, _⟩ := h.i
  simp [Go.sizeOf, typeInfo, hi, hs]

theorem aggT_of {T : TypeId} {n : Nat} {z : List Value} {d : TypeDesc} (hu : P.underlying T = some d) (hd : aggB d = true)
    (hi : (P.info? T).map (fun i => (i.zero, i.size)) = some (some (.agg z.toArray), n)) : AggT P T n z := by
  refine ⟨⟨d, hu, hd⟩, ?_⟩
  cases h : P.info? T with
  | none => simp [h] at hi
  | some i => simp [h] at hi; exact ⟨i, rfl, hi.2, hi.1⟩
theorem oneT_of {T : TypeId} {z : Value} {d : TypeDesc} (hu : P.underlying T = some d) (hd : aggB d = false)
    (hi : (P.info? T).map (fun i => (i.zero, i.size)) = some (some z, 1)) (hz : z.cells = #[z]) : OneT P T z := by
  refine ⟨⟨d, hu, hd⟩, ?_, hz⟩
  cases h : P.info? T with
  | none => simp [h] at hi
  | some i => simp [h] at hi; exact ⟨i, rfl, hi.2, hi.1⟩
theorem arrT_of {T E : TypeId} {n : Nat} {z : Value} (hu : P.underlying T = some (.array n E)) (hi : (P.info? T).map (fun i => (i.zero, i.size)) = some (some (.agg (List.replicate n z).toArray), n))
    (hE : OneT P E z) : ArrT P T E n z := ⟨aggT_of hu rfl hi, hu, hE⟩
theorem slcT_of {T E : TypeId} {s y : Nat} {z : List Value} (hu : P.underlying T = some (.slice E)) (v : Value) (hi : (P.info? E).map (fun i => (i.zero, i.size, i.bytes)) = some (some v, s, y))
    (hv : v.cells = z.toArray) (hp : 0 < s) (hl : z.length = s) : SlcT P T E s y z := by
  refine ⟨hu, ?_, hp, hl⟩
  cases h : P.info? E with
  | none => simp [h] at hi
  | some i => simp [h] at hi; exact ⟨i, v, rfl, hi.2.1, hi.2.2, hi.1, hv⟩

theorem run_loadVar_seg {T : TypeId} {n : Nat} {z : List Value} (h : AggT P T n z) (w : World) (a : Addr) (cs : List Value) (hl : cs.length = n)
    (hc : ∀ j v, cs[j]? = some v → w.cell? (a.add j) = some v) : (loadVar T a).run P w = .ok (.agg cs.toArray) w := by
  have hr := run_loadCells_list (P := P) w a cs hc
  rw [hl] at hr
  simp [loadVar, h.isAgg w, h.sizeOf w, hr]
theorem run_loadVar_one {T : TypeId} {z : Value} (h : OneT P T z) (w : World) (a : Addr) (v : Value) (hc : w.cell? a = some v) : (loadVar T a).run P w = .ok v w := by
  simp [loadVar, h.isAgg w, run_load, hc]
theorem run_storeVar_seg {T : TypeId} {n : Nat} {z : List Value} (h : AggT P T n z) (w : World) (b o : Nat) (U : TypeId) (old cs : List Value) (hl : cs.length = n)
    (hb : Blk w b old U) (hfit : o + n ≤ old.length) (h1 : ∀ v ∈ cs, v.oneCell' = true) :
    (storeVar T ⟨b, o, none⟩ (.agg cs.toArray)).run P w = .ok () (w.setRow b (old.take o ++ cs ++ old.drop (o + n)).toArray) := by
  have hst := run_storeCells_at P b o U cs 0 old.toArray w hb (by simpa [hl] using hfit) h1
  simp only [Nat.add_zero] at hst
  rw [hl] at hst
  simp [storeVar, Value.cells, h.sizeOf w, hl, hst]
theorem run_storeVar_one {T : TypeId} {z : Value} (h : OneT P T z) (w : World) (b o : Nat) (U : TypeId) (old : List Value) (v : Value)
    (hb : Blk w b old U) (hfit : o < old.length) (h1 : v.oneCell' = true) (hv : v.cells = #[v]) :
    (storeVar T ⟨b, o, none⟩ v).run P w = .ok () (w.setRow b (old.set o v).toArray) := by
  have hst := run_storeCells_at P b o U [v] 0 old.toArray w hb (by simp; omega) (by simpa using h1)
  simp only [Nat.add_zero, List.length_singleton] at hst
  have e : old.take o ++ [v] ++ old.drop (o + 1) = old.set o v := by
    rw [List.set_eq_take_append_cons_drop, if_pos hfit]; simp
  rw [e] at hst
  simp [storeVar, hv, h.sizeOf w, hst]
end

/-! ### The rules -/
section
variable {P : Program} {ops : Array Oper} {rest : List Oper} {o : Oper} {a : Act} {w w0 : World} {Q : Exit → Act → World → Prop} {M : List Nat} {L L' : List (Nat × List Value × TypeId)}

theorem gate_box {T : TypeId} {x : Operand} (_ho : o.op = .box T x) (h : wpList P ops Q (o :: rest) a w) : wpList P ops Q (o :: rest) a w := h
theorem gate_alloc {T : TypeId} (_ho : o.op = .alloc T) (h : wpList P ops Q (o :: rest) a w) : wpList P ops Q (o :: rest) a w := h
theorem gate_load {T : TypeId} {x : Operand} (_ho : o.op = .load T x) (h : wpList P ops Q (o :: rest) a w) : wpList P ops Q (o :: rest) a w := h
theorem gate_store {T : TypeId} {p x : Operand} (_ho : o.op = .store T p x) (h : wpList P ops Q (o :: rest) a w) : wpList P ops Q (o :: rest) a w := h
theorem gate_index {T : TypeId} {x i : Operand} (_ho : o.op = .index T x i) (h : wpList P ops Q (o :: rest) a w) : wpList P ops Q (o :: rest) a w := h
theorem gate_addr {T : TypeId} {x i : Operand} (_ho : o.op = .indexAddr T x i) (h : wpList P ops Q (o :: rest) a w) : wpList P ops Q (o :: rest) a w := h
theorem gate_build {T : TypeId} {ps : Array (Nat × Operand)} (_ho : o.op = .build T ps) (h : wpList P ops Q (o :: rest) a w) : wpList P ops Q (o :: rest) a w := h
theorem gate_bsl {T : TypeId} {n : Nat} {ps : Array (Nat × Operand)} (_ho : o.op = .buildSlice T n ps) (h : wpList P ops Q (o :: rest) a w) : wpList P ops Q (o :: rest) a w := h
theorem gate_call {c : Go.Call} (_ho : o.op = .call c) (h : wpList P ops Q (o :: rest) a w) : wpList P ops Q (o :: rest) a w := h
/-- The operation that writes slot N (to tell one of several of a kind). -/
theorem gate_dst {N : Tmp} (_hN : o.dst = some N) (h : wpList P ops Q (o :: rest) a w) : wpList P ops Q (o :: rest) a w := h

/-- A guarded operation that is wanted. -/
theorem wpl_unguard {d : Option Tmp} {op : Op} {ty : TypeId} {pos : String} {after : Array Edge} {g : Nat × Bool} (hw : Region.wanted ⟨d, op, ty, pos, after, some g⟩ (yielded ops a.tmps) = true)
    (h : wpList P ops Q (⟨d, op, ty, pos, after, none⟩ :: rest) a w) : wpList P ops Q (⟨d, op, ty, pos, after, some g⟩ :: rest) a w := by
  unfold wpList at h ⊢
  rw [if_pos hw]
  rw [if_pos (by simp [Region.wanted])] at h
  exact h

theorem wpl_box (hgd : o.guard = none) (T : TypeId) (x : Operand) (ho : o.op = .box T x) (v : Value) (hv : a.eval x = v) (cs : List Value) (hcs : v.cells = cs.toArray) (st : St M w0 w L)
    (h : ∀ B w1, St M w0 w1 ((B, cs, T) :: L) → wpList P ops Q rest (a.put o.dst (.pointer (some ⟨B, 0, none⟩))) w1) : wpList P ops Q (o :: rest) a w := by
  refine wpList_plain hgd fun K hK => ?_
  unfold Oper.wp execOp
  simp only [ho, hv, Instr.box, newVar, newRow, hcs, Sem.run_bind, Sem.run_pure, run_newObj, Result.andThen_ok, World.alloc_eq]
  exact hK _ _ (h _ _ (st.alloc cs T))

theorem wpl_alloc (hgd : o.guard = none) (T : TypeId) (ho : o.op = .alloc T) {n : Nat} {cs : List Value} (hT : AggT P T n cs) (st : St M w0 w L)
    (h : ∀ B w1, St M w0 w1 ((B, cs, T) :: L) → wpList P ops Q rest (a.put o.dst (.pointer (some ⟨B, 0, none⟩))) w1) : wpList P ops Q (o :: rest) a w := by
  obtain ⟨i, hi, hs, hz⟩ := hT.i
  refine wpList_plain hgd fun K hK => ?_
  unfold Oper.wp execOp
  simp only [ho, Instr.alloc, zeroValue, typeInfo, hi, hz, newVar, newRow, Value.cells, Sem.run_bind, Sem.run_pure, run_program, run_newObj, Result.andThen_ok, World.alloc_eq]
  exact hK _ _ (h _ _ (st.alloc cs T))

theorem wpl_alloc1 (hgd : o.guard = none) (T : TypeId) (ho : o.op = .alloc T) {z : Value} (hT : OneT P T z) (st : St M w0 w L)
    (h : ∀ B w1, St M w0 w1 ((B, [z], T) :: L) → wpList P ops Q rest (a.put o.dst (.pointer (some ⟨B, 0, none⟩))) w1) : wpList P ops Q (o :: rest) a w := by
  obtain ⟨i, hi, hs, hz⟩ := hT.i
  refine wpList_plain hgd fun K hK => ?_
  unfold Oper.wp execOp
  simp only [ho, Instr.alloc, zeroValue, typeInfo, hi, hz, newVar, newRow, hT.c, Sem.run_bind, Sem.run_pure, run_program, run_newObj, Result.andThen_ok, World.alloc_eq]
  exact hK _ _ (h _ _ (st.alloc [z] T))

theorem wpl_load (hgd : o.guard = none) (T : TypeId) (x : Operand) (ho : o.op = .load T x) (b k : Nat) (hx : a.eval x = .pointer (some ⟨b, k, none⟩))
    {n : Nat} {z : List Value} (hT : AggT P T n z) (cs : List Value) (U : TypeId) (hb : Blk w b cs U) (seg : List Value) (hl : seg.length = n) (hseg : ∀ j, j < n → cs[k + j]? = seg[j]?)
    (h : wpList P ops Q rest (a.put o.dst (.agg seg.toArray)) w) : wpList P ops Q (o :: rest) a w := by
  refine wpList_plain hgd fun K hK => ?_
  have hr := run_loadVar_seg hT w ⟨b, k, none⟩ seg hl (fun j v hj => by
    have hjl : j < seg.length := (List.getElem?_eq_some_iff.1 hj).1
    rw [Addr.add_lit, hb.cell, hseg j (by omega), hj])
  unfold Oper.wp execOp
  simp only [ho, hx, Instr.loadAt, Instr.sureAddr, Sem.run_bind, Sem.run_pure, Result.andThen_ok, hr]
  exact hK _ _ h
/-- The whole block. -/
theorem wpl_loadAll (hgd : o.guard = none) (T : TypeId) (x : Operand) (ho : o.op = .load T x) (b : Nat) (hx : a.eval x = .pointer (some ⟨b, 0, none⟩))
    {n : Nat} {z : List Value} (hT : AggT P T n z) (cs : List Value) (U : TypeId) (hb : Blk w b cs U) (hl : cs.length = n)
    (h : wpList P ops Q rest (a.put o.dst (.agg cs.toArray)) w) : wpList P ops Q (o :: rest) a w :=
  wpl_load hgd T x ho b 0 hx hT cs U hb cs hl (fun j _ => by rw [Nat.zero_add]) h

theorem wpl_load1 (hgd : o.guard = none) (T : TypeId) (x : Operand) (ho : o.op = .load T x) (p : Addr) (hx : a.eval x = .pointer (some p))
    {z : Value} (hT : OneT P T z) (v : Value) (hv : w.cell? p = some v)
    (h : wpList P ops Q rest (a.put o.dst v) w) : wpList P ops Q (o :: rest) a w := by
  refine wpList_plain hgd fun K hK => ?_
  have hr := run_loadVar_one hT w p v hv
  unfold Oper.wp execOp
  simp only [ho, hx, Instr.loadAt, Instr.sureAddr, Sem.run_bind, Sem.run_pure, Result.andThen_ok, hr]
  exact hK _ _ h

theorem wpl_store (hgd : o.guard = none) (T : TypeId) (p x : Operand) (ho : o.op = .store T p x) (b k : Nat) (hp : a.eval p = .pointer (some ⟨b, k, none⟩)) (cs : List Value) (hx : a.eval x = .agg cs.toArray)
    {n : Nat} {z : List Value} (hT : AggT P T n z) (hl : cs.length = n) (h1 : ∀ v ∈ cs, v.oneCell' = true) (st : St M w0 w L) (old new : List Value) (U : TypeId)
    (hu : Upd b b old new U L L') (hfit : k + n ≤ old.length) (hnew : new = old.take k ++ cs ++ old.drop (k + n))
    (h : ∀ w1, St M w0 w1 L' → wpList P ops Q rest (a.put o.dst undef) w1) : wpList P ops Q (o :: rest) a w := by
  refine wpList_plain hgd fun K hK => ?_
  have hr := run_storeVar_seg hT w b k U old cs hl (st.get hu.at) hfit h1
  rw [← hnew] at hr
  unfold Oper.wp execOp
  simp only [ho, hp, hx, Instr.storeAt, Instr.sureAddr, Sem.run_bind, Sem.run_pure, Result.andThen_ok, hr]
  exact hK _ _ (h _ (st.setRow hu))
theorem wpl_storeAll (hgd : o.guard = none) (T : TypeId) (p x : Operand) (ho : o.op = .store T p x) (b : Nat) (hp : a.eval p = .pointer (some ⟨b, 0, none⟩)) (cs : List Value) (hx : a.eval x = .agg cs.toArray)
    {n : Nat} {z : List Value} (hT : AggT P T n z) (hl : cs.length = n) (h1 : ∀ v ∈ cs, v.oneCell' = true) (st : St M w0 w L) (old : List Value) (U : TypeId)
    (hu : Upd b b old cs U L L') (hfit : old.length = n)
    (h : ∀ w1, St M w0 w1 L' → wpList P ops Q rest (a.put o.dst undef) w1) : wpList P ops Q (o :: rest) a w :=
  wpl_store hgd T p x ho b 0 hp cs hx hT hl h1 st old cs U hu (by omega) (by rw [List.drop_of_length_le (by omega)]; simp) h
theorem wpl_store1 (hgd : o.guard = none) (T : TypeId) (p x : Operand) (ho : o.op = .store T p x) (b k : Nat) (hp : a.eval p = .pointer (some ⟨b, k, none⟩)) (v : Value) (hx : a.eval x = v)
    {z : Value} (hT : OneT P T z) (h1 : v.oneCell' = true) (hv : v.cells = #[v]) (st : St M w0 w L) (old : List Value) (U : TypeId)
    (hu : Upd b b old (old.set k v) U L L') (hfit : k < old.length)
    (h : ∀ w1, St M w0 w1 L' → wpList P ops Q rest (a.put o.dst undef) w1) : wpList P ops Q (o :: rest) a w := by
  refine wpList_plain hgd fun K hK => ?_
  have hr := run_storeVar_one hT w b k U old v (st.get hu.at) hfit h1 hv
  unfold Oper.wp execOp
  simp only [ho, hp, hx, Instr.storeAt, Instr.sureAddr, Sem.run_bind, Sem.run_pure, Result.andThen_ok, hr]
  exact hK _ _ (h _ (st.setRow hu))

theorem wpl_index (hgd : o.guard = none) (T : TypeId) (x ix : Operand) (ho : o.op = .index T x ix) (cs : List Value) (hx : a.eval x = .agg cs.toArray) (k : IntKind) (i : Int) (hi : a.eval ix = .int k i)
    {E : TypeId} {n : Nat} {z : Value} (hT : ArrT P T E n z) (j : Nat) (hj : i = j) (hn : j < n) (v : Value) (hv : cs[j]? = some v)
    (h : wpList P ops Q rest (a.put o.dst v) w) : wpList P ops Q (o :: rest) a w := by
  subst hj
  have h1 : (j : Int) < n := by omega
  have h0 : (0 : Int) ≤ j := by omega
  refine wpList_plain hgd fun K hK => ?_
  have hag := hT.e.isAgg w
  have hsz := hT.e.sizeOf w
  unfold Oper.wp execOp
  simp only [ho, hx, hi, Instr.index, asIntOf, Sem.run_bind, Sem.run_pure, Result.andThen_ok, run_underlying hT.a w, h0, h1, and_self, if_true, hsz, part, hag, Nat.mul_one, Int.toNat_natCast, List.getElem?_toArray, hv, Bool.false_eq_true, if_false]
  exact hK _ _ h

theorem wpl_indexAddr (hgd : o.guard = none) (T : TypeId) (x ix : Operand) (ho : o.op = .indexAddr T x ix) (b f : Nat) (hx : a.eval x = .pointer (some ⟨b, f, none⟩)) (k : IntKind) (i : Int) (hi : a.eval ix = .int k i)
    {E : TypeId} {n : Nat} {z : Value} (hT : ArrT P T E n z) (j : Nat) (hj : i = j) (h1 : j < n)
    (h : wpList P ops Q rest (a.put o.dst (.pointer (some ⟨b, f + j, none⟩))) w) : wpList P ops Q (o :: rest) a w := by
  subst hj
  refine wpList_plain hgd fun K hK => ?_
  have hsz := hT.e.sizeOf w
  have h1' : (j : Int) < n := by omega
  have h0 : (0 : Int) ≤ j := by omega
  unfold Oper.wp execOp
  simp only [ho, hx, hi, Instr.indexAt, Instr.sureAddr, asIntOf, Sem.run_bind, Sem.run_pure, Result.andThen_ok, run_underlying hT.a w, h0, h1', and_self, if_true, hsz, Nat.mul_one, Addr.add_lit, Int.toNat_natCast]
  exact hK _ _ h
theorem wpl_indexAddr0 (hgd : o.guard = none) (T : TypeId) (x ix : Operand) (ho : o.op = .indexAddr T x ix) (b : Nat) (hx : a.eval x = .pointer (some ⟨b, 0, none⟩)) (k : IntKind) (i : Int) (hi : a.eval ix = .int k i)
    {E : TypeId} {n : Nat} {z : Value} (hT : ArrT P T E n z) (j : Nat) (hj : i = j) (h1 : j < n)
    (h : wpList P ops Q rest (a.put o.dst (.pointer (some ⟨b, j, none⟩))) w) : wpList P ops Q (o :: rest) a w :=
  wpl_indexAddr hgd T x ix ho b 0 hx k i hi hT j hj h1 (by rw [Nat.zero_add]; exact h)

theorem gate_slc {T : TypeId} {x i : Operand} (_ho : o.op = .indexAddr T x i) (h : wpList P ops Q (o :: rest) a w) : wpList P ops Q (o :: rest) a w := h
theorem wpl_slcAddr (hgd : o.guard = none) (T : TypeId) (x ix : Operand) (ho : o.op = .indexAddr T x ix) (b f m c : Nat) (hx : a.eval x = .slice (some ⟨b, f, none⟩) m c) (k : IntKind) (i : Int) (hi : a.eval ix = .int k i)
    {E : TypeId} {s y : Nat} {z : List Value} (hT : SlcT P T E s y z) (j : Nat) (hj : i = j) (h1 : j < m)
    (h : wpList P ops Q rest (a.put o.dst (.pointer (some ⟨b, f + j * s, none⟩))) w) : wpList P ops Q (o :: rest) a w := by
  subst hj
  refine wpList_plain hgd fun K hK => ?_
  have hsz := hT.sizeOf w
  have h1' : (j : Int) < m := by omega
  have h0 : (0 : Int) ≤ j := by omega
  unfold Oper.wp execOp
  simp only [ho, hx, hi, Instr.indexAt, asIntOf, Sem.run_bind, Sem.run_pure, Result.andThen_ok, run_underlying hT.u w, h0, h1', and_self, if_true, hsz, Addr.add_lit, Int.toNat_natCast]
  exact hK _ _ h

/-- Of a slice of one-cell elements that starts at a block's head. -/
theorem wpl_slcAddr0 (hgd : o.guard = none) (T : TypeId) (x ix : Operand) (ho : o.op = .indexAddr T x ix) (b m c : Nat) (hx : a.eval x = .slice (some ⟨b, 0, none⟩) m c) (k : IntKind) (i : Int) (hi : a.eval ix = .int k i)
    {E : TypeId} {y : Nat} {z : List Value} (hT : SlcT P T E 1 y z) (j : Nat) (hj : i = j) (h1 : j < m)
    (h : wpList P ops Q rest (a.put o.dst (.pointer (some ⟨b, 0 + j, none⟩))) w) : wpList P ops Q (o :: rest) a w :=
  wpl_slcAddr hgd T x ix ho b 0 m c hx k i hi hT j hj h1 (by rw [Nat.mul_one]; exact h)

/-- A struct or an array that is built. -/
theorem wpl_build (hgd : o.guard = none) (T : TypeId) (parts : List (Nat × Operand)) (ho : o.op = .build T parts.toArray) (cs : List Value)
    (hb : P.built T (parts.map fun p => (p.1, a.eval p.2)) = some cs.toArray)
    (h : wpList P ops Q rest (a.put o.dst (.agg cs.toArray)) w) : wpList P ops Q (o :: rest) a w := by
  refine wpList_plain hgd fun K hK => ?_
  have hb' : P.built T (parts.toArray.map fun (i, x) => (i, a.eval x)).toList = some cs.toArray := by rw [← hb]; simp
  unfold Oper.wp execOp
  simp only [ho, Sem.run_bind, run_build w T _ cs.toArray hb', Result.andThen_ok]
  exact hK _ _ h
theorem wpl_zero (hgd : o.guard = none) (T : TypeId) (ho : o.op = .build T #[]) (cs : List Value) (hb : P.built T [] = some cs.toArray)
    (h : wpList P ops Q rest (a.put o.dst (.agg cs.toArray)) w) : wpList P ops Q (o :: rest) a w :=
  wpl_build hgd T [] ho cs hb h

/-- A closure is made. -/
theorem wpl_makeFunc (hgd : o.guard = none) (fn : Fn) (first cap : Array Operand) (ho : o.op = .makeFunc fn first cap) (v : Value) (hv : v = .func fn (first.map a.eval) (cap.map a.eval))
    (h : wpList P ops Q rest (a.put o.dst v) w) : wpList P ops Q (o :: rest) a w := by
  subst hv
  refine wpList_plain hgd fun K hK => ?_
  unfold Oper.wp execOp
  simp only [ho, Instr.makeFunc, Sem.run_bind, Sem.run_pure, Result.andThen_ok]
  exact hK _ _ h

/-- An empty slice of the call's own. -/
theorem wpl_buildSlice0 (hgd : o.guard = none) (T : TypeId) (ho : o.op = .buildSlice T 0 #[]) {E : TypeId} {s y : Nat} {z : List Value} (hT : SlcT P T E s y z) (st : St M w0 w L)
    (h : ∀ B w1, St M w0 w1 ((B, [], E) :: L) → wpList P ops Q rest (a.put o.dst (.slice (some ⟨B, 0, none⟩) 0 0)) w1) : wpList P ops Q (o :: rest) a w := by
  refine wpList_plain hgd fun K hK => ?_
  have hsz := hT.sizeOf w
  unfold Oper.wp execOp
  simp only [ho, Instr.buildSlice, Sem.run_bind, Sem.run_pure, Result.andThen_ok, run_underlying hT.u w, hsz, Nat.zero_mul, Instr.fill, newRow, List.map_toArray, List.map_nil, Array.range_zero']
  exact hK _ _ (h _ _ (st.alloc [] E))

/-- A Go function is called: by its number, as a function value, as a closure. -/
theorem wpl_call (hgd : o.guard = none) (c : Go.Call) (ho : o.op = .call c) (f : Operand) (hc : c.callee = .value f) (F : FuncId) (first cap : Array Value) (hf : a.eval f = .func (.func F) first cap)
    (fn : Func) (hF : P.funcs[F]? = some fn) (hn : (fn.name == "runtime.NumGoroutine") = false) (hbd : fn.body.isNone = false) (args : Array Value) (ha : first ++ c.args.map a.eval ++ cap = args)
    (h : Calls P F args w fun e w' => ∃ v, e = .returned v ∧ wpList P ops Q rest (a.put o.dst v) w') : wpList P ops Q (o :: rest) a w := by
  subst ha
  refine wpList_plain hgd fun K hK => ?_
  unfold Oper.wp execOp
  simp only [ho, resolve, hc, Deferred.ofValue, hf, invoke, callFunc, hF, hn, hbd, Sem.run_bind, Sem.run_pure, run_program, Result.andThen_ok, Bool.false_eq_true, if_false, Oper.upon_enter]
  refine h.mono fun e w' ⟨v, he, hv⟩ => ?_
  subst he
  exact hK _ _ hv
end

/-! ### The end of a walk -/
theorem bodyPost_cell {P : Program} {fn : Func} {R : Ending → World → Prop} {a : Act} {w : World} {p : Tmp} {T : TypeId} {n : Nat} {z : List Value} (hres : fn.results = #[.cell p T]) (hT : AggT P T n z)
    (hd : a.defers = []) (b : Nat) (hp : a.tmps.getD p undef = .pointer (some ⟨b, 0, none⟩)) (cs : List Value) (U : TypeId) (hb : Blk w b cs U) (hl : cs.length = n) (hR : R (.returned (.agg cs.toArray)) w) : bodyPost P fn R .ret a w := by
  refine bodyPost_ret (v := .agg cs.toArray) ?_ hd hR
  have hr := run_loadVar_seg hT w ⟨b, 0, none⟩ cs hl (fun j v hj => by rw [Addr.add_lit, hb.cell, Nat.zero_add, hj])
  have hp' : a.tmps[p]?.getD undef = .pointer (some ⟨b, 0, none⟩) := by simpa using hp
  simp [results, hres, hp', asAddr, hr]
theorem bodyPost_cell_tmp {P : Program} {fn : Func} {R : Ending → World → Prop} {a : Act} {w : World} {p u : Tmp} {T : TypeId} {n : Nat} {z : List Value} (hres : fn.results = #[.cell p T, .tmp u]) (hT : AggT P T n z)
    (hd : a.defers = []) (b : Nat) (hp : a.tmps.getD p undef = .pointer (some ⟨b, 0, none⟩)) (cs : List Value) (U : TypeId) (hb : Blk w b cs U) (hl : cs.length = n) (v : Value) (hv : a.tmps.getD u undef = v)
    (hR : R (.returned (.tuple #[.agg cs.toArray, v])) w) : bodyPost P fn R .ret a w := by
  refine bodyPost_ret (v := .tuple #[.agg cs.toArray, v]) ?_ hd hR
  have hr := run_loadVar_seg hT w ⟨b, 0, none⟩ cs hl (fun j v hj => by rw [Addr.add_lit, hb.cell, Nat.zero_add, hj])
  rw [results_cell_tmp hres, hp, hv]
  simp [asAddr, hr]
end Go.Proofs.YtmfgbkmkcljciaaDoor
