/- Texts of this seat, one behind the other: Kit, Slice, Tail, Rules, Ord, Ord0, OrdH, Fr, Ty, Encs, Auto, Sx; no condition. -/
import Derived.WalkKit
import Derived.WalkSmall
import Derived.KernelRfl
import Derived.Deep.Draws
import Derived.StillTail
import Derived.Deep.Quiet
import Derived.BigQuiet
import Derived.RegionTactic
import Derived.OrdersHeld
import Derived.Laws.BitsLemmas
import Derived.Test.YtlljflmbnbjccaaGreatDoorProg
import Derived.Laws.Strings2
import Derived.Laws.Strings3
import Derived.Laws.Strings
/- Rules for walks over arrays and structs in memory: each world is a variable, and what the call's own blocks hold stands in one list; no condition. -/
namespace Go.Proofs.YtlljflmbnbjccaaGreatDoor
open Go.RowKit

theorem hid {p : Prop} (h : p) : Hid p := h

/-- Block b holds the row cs. -/
def Blk (w : World) (b : Nat) (cs : List Value) (T : TypeId) : Prop := w.heap[b]? = some (.cells cs.toArray T (0, 0))

/-- Of what w0 holds only the blocks of M may have turned in w. -/
structure Keep (M : List Nat) (w0 w : World) : Prop where
  os : w.os = w0.os
  tape : w.tape = w0.tape
  output : w.output = w0.output
  size : w0.heap.size ≤ w.heap.size
  block : ∀ k, k < w0.heap.size → k ∉ M → w.heap[k]? = w0.heap[k]?

theorem Keep.refl (M : List Nat) (w : World) : Keep M w w := ⟨rfl, rfl, rfl, Nat.le_refl _, fun _ _ _ => rfl⟩
theorem Keep.trans {M N : List Nat} {a b c : World} (h : Keep M a b) (k : Keep N b c) (hN : ∀ x ∈ N, x < a.heap.size → x ∈ M) : Keep M a c :=
  ⟨k.os.trans h.os, k.tape.trans h.tape, k.output.trans h.output, Nat.le_trans h.size k.size, fun i hi hm =>
    (k.block i (Nat.lt_of_lt_of_le hi h.size) (fun hx => hm (hN i hx hi))).trans (h.block i hi hm)⟩
theorem Keep.below {w w' : World} (h : Keep [] w w') : Below w.heap.size w w' := ⟨h.os, h.tape, h.output, h.size, fun k hk => h.block k hk (by simp)⟩
theorem Keep.of_below {w w' : World} (h : Below w.heap.size w w') : Keep [] w w' := ⟨h.os, h.tape, h.output, h.size, fun k hk _ => h.block k hk⟩
theorem Keep.drewN (w : World) (n : Nat) : Keep [] w (w.drewN n) := ⟨rfl, rfl, rfl, Nat.le_refl _, fun _ _ _ => rfl⟩
theorem Keep.drew (w : World) : Keep [] w w.drew := ⟨rfl, rfl, rfl, Nat.le_refl _, fun _ _ _ => rfl⟩
theorem Keep.alloc (w : World) (o : Obj) : Keep [] w (w.alloc o) := ⟨rfl, rfl, rfl, by simp, fun k hk _ => Below.heap_alloc _ _ _ hk⟩

section
variable {w w1 : World} {b k : Nat} {cs : List Value} {T : TypeId} {M : List Nat}
theorem Blk.lt (h : Blk w b cs T) : b < w.heap.size := (Array.getElem?_eq_some_iff.1 h).1
theorem Blk.cell (h : Blk w b cs T) (k : Nat) : w.cell? ⟨b, k, none⟩ = cs[k]? := by
  rw [cell_of_row w b k cs.toArray T (0, 0) h]; simp
theorem Blk.cellv (h : Blk w b cs T) {v : Value} (hv : cs[k]? = some v) : w.cell? ⟨b, k, none⟩ = some v := by rw [h.cell, hv]
theorem Blk.frozen (h : Blk w b cs T) (k : Nat) : w.frozen? ⟨b, k, none⟩ = false := frozen_of_row w b k cs.toArray T h
theorem Blk.keep (h : Blk w b cs T) (hk : Keep M w w1) (hM : b ∉ M) : Blk w1 b cs T := by
  unfold Blk; rw [hk.block b h.lt hM]; exact h
theorem Blk.keep0 (h : Blk w b cs T) (hk : Keep [] w w1) : Blk w1 b cs T := h.keep hk (by simp)
theorem Blk.alloc (w : World) (cs : List Value) (T : TypeId) : Blk (w.alloc (.cells cs.toArray T)) w.heap.size cs T := heap_alloc_new w _
theorem Blk.setRow {old : List Value} (h : Blk w b old T) (cs : List Value) : Blk (w.setRow b cs.toArray) b cs T := setRow_heap w b _ _ T _ h
end

/-- The cells from offset o of block b on are cs. -/
def Cl (w : World) (b o : Nat) (cs : List Value) : Prop := b < w.heap.size ∧ ∀ j v, cs[j]? = some v → w.cell? ⟨b, o + j, none⟩ = some v
section
variable {w w1 : World} {b o k : Nat} {cs : List Value} {T : TypeId} {M : List Nat}
theorem Cl.of (h : Blk w b cs T) : Cl w b 0 cs := ⟨h.lt, fun j v hj => by rw [Nat.zero_add]; exact h.cellv hj⟩
theorem Cl.keep (h : Cl w b o cs) (hk : Keep M w w1) (hM : b ∉ M) : Cl w1 b o cs :=
  ⟨Nat.lt_of_lt_of_le h.1 hk.size, fun j v hj => (World.cell?_of_block (w := w) (hk.block b h.1 hM)).trans (h.2 j v hj)⟩
theorem Cl.cellv0 (h : Cl w b 0 cs) {v : Value} (hv : cs[k]? = some v) : w.cell? ⟨b, k, none⟩ = some v := by
  have := h.2 k v hv; rwa [Nat.zero_add] at this
theorem Cl.cellv (h : Cl w b o cs) {v : Value} (hv : cs[k]? = some v) : w.cell? ⟨b, o + k, none⟩ = some v := h.2 k v hv
end

/-- What the call has made (or may write): L. Of what was there when it began (w0) only M may have turned. -/
structure St (M : List Nat) (w0 w : World) (L : List (Nat × List Value × TypeId)) : Prop where
  keep : Keep M w0 w
  has : ∀ p ∈ L, Blk w p.1 p.2.1 p.2.2
  ge : ∀ p ∈ L, w0.heap.size ≤ p.1 ∨ p.1 ∈ M
  nd : (L.map (·.1)).Nodup

/-- Where a block stands in a list, and the list with its row turned. -/
inductive Upd (b b' : Nat) (old new : List Value) (T : TypeId) : List (Nat × List Value × TypeId) → List (Nat × List Value × TypeId) → Prop where
  | here {L} : Upd b b' old new T ((b, old, T) :: L) ((b', new, T) :: L)
  | there {x L L'} : Upd b b' old new T L L' → Upd b b' old new T (x :: L) (x :: L')
/-- A block stands in a list. -/
inductive At (b : Nat) (cs : List Value) (T : TypeId) : List (Nat × List Value × TypeId) → Prop where
  | here {L} : At b cs T ((b, cs, T) :: L)
  | there {x L} : At b cs T L → At b cs T (x :: L)

theorem At.mem {b : Nat} {cs : List Value} {T : TypeId} {L : List (Nat × List Value × TypeId)} (h : At b cs T L) : (b, cs, T) ∈ L := by
  induction h with
  | here => simp
  | there _ ih => exact List.mem_cons_of_mem _ ih
theorem Upd.at {b b' : Nat} {old new : List Value} {T : TypeId} {L L' : List (Nat × List Value × TypeId)} (h : Upd b b' old new T L L') : At b old T L := by
  induction h with
  | here => exact .here
  | there _ ih => exact .there ih
theorem Upd.mem {b b' : Nat} {old new : List Value} {T : TypeId} {L L' : List (Nat × List Value × TypeId)} (h : Upd b b' old new T L L') (hnd : (L.map (·.1)).Nodup) :
    ∀ p ∈ L', p = (b', new, T) ∨ (p ∈ L ∧ p.1 ≠ b) := by
  induction h with
  | here =>
    intro p hp
    simp only [List.map_cons, List.nodup_cons] at hnd
    rcases List.mem_cons.1 hp with rfl | hp
    · exact Or.inl rfl
    · exact Or.inr ⟨List.mem_cons_of_mem _ hp, fun e => hnd.1 (e ▸ List.mem_map_of_mem (f := (·.1)) hp)⟩
  | there h ih =>
    intro p hp
    simp only [List.map_cons, List.nodup_cons] at hnd
    rcases List.mem_cons.1 hp with rfl | hp
    · exact Or.inr ⟨by simp, fun e => hnd.1 (by rw [e]; exact List.mem_map_of_mem (f := (·.1)) h.at.mem)⟩
    · rcases ih hnd.2 p hp with h | ⟨h1, h2⟩
      · exact Or.inl h
      · exact Or.inr ⟨List.mem_cons_of_mem _ h1, h2⟩
theorem Upd.nodup {b b' : Nat} {old new : List Value} {T : TypeId} {L L' : List (Nat × List Value × TypeId)} (h : Upd b b' old new T L L') (hnd : (L.map (·.1)).Nodup)
    (hb : b' = b ∨ ∀ p ∈ L, p.1 ≠ b') : (L'.map (·.1)).Nodup := by
  induction h with
  | here =>
    simp only [List.map_cons, List.nodup_cons] at hnd ⊢
    refine ⟨fun hm => ?_, hnd.2⟩
    rcases hb with rfl | hb
    · exact hnd.1 hm
    · obtain ⟨p, hp, e⟩ := List.mem_map.1 hm
      exact hb p (List.mem_cons_of_mem _ hp) e
  | @there x L L' h ih =>
    simp only [List.map_cons, List.nodup_cons] at hnd ⊢
    refine ⟨fun hm => ?_, ih hnd.2 (hb.imp id fun hb p hp => hb p (List.mem_cons_of_mem _ hp))⟩
    obtain ⟨p, hp, e⟩ := List.mem_map.1 hm
    rcases h.mem hnd.2 p hp with rfl | ⟨hp', _⟩
    · simp only at e
      subst e
      rcases hb with rfl | hb
      · exact hnd.1 (List.mem_map_of_mem (f := (·.1)) h.at.mem)
      · exact hb x (by simp) rfl
    · exact hnd.1 (e ▸ List.mem_map_of_mem (f := (·.1)) hp')

section
variable {M : List Nat} {w0 w w1 : World} {L L' : List (Nat × List Value × TypeId)} {b : Nat} {cs old : List Value} {T : TypeId}
theorem St.start (w : World) : St [] w w [] := ⟨Keep.refl _ _, by simp, by simp, by simp⟩
theorem St.start1 (h : Blk w b cs T) : St [b] w w [(b, cs, T)] :=
  ⟨Keep.refl _ _, fun p hp => by obtain rfl := List.mem_singleton.1 hp; exact h, fun p hp => by obtain rfl := List.mem_singleton.1 hp; right; simp, by simp⟩
theorem St.get (h : St M w0 w L) (ha : At b cs T L) : Blk w b cs T := h.has _ ha.mem
theorem St.arg (h : St M w0 w L) (hb : Blk w0 b cs T) (hM : b ∉ M) : Blk w b cs T := hb.keep h.keep hM
theorem St.alloc (h : St M w0 w L) (cs : List Value) (T : TypeId) : St M w0 (w.alloc (.cells cs.toArray T)) ((w.heap.size, cs, T) :: L) := by
  refine ⟨h.keep.trans (Keep.alloc w _) (by simp), fun p hp => ?_, fun p hp => ?_, ?_⟩
  · rcases List.mem_cons.1 hp with rfl | hp
    · exact Blk.alloc w cs T
    · exact (h.has p hp).keep0 (Keep.alloc w _)
  · rcases List.mem_cons.1 hp with rfl | hp
    · exact Or.inl h.keep.size
    · exact h.ge p hp
  · simp only [List.map_cons, List.nodup_cons]
    refine ⟨fun hm => ?_, h.nd⟩
    obtain ⟨p, hp, e⟩ := List.mem_map.1 hm
    have := (h.has p hp).lt
    omega
/-- Behind a call that leaves all that was there. -/
theorem St.call (h : St M w0 w L) (hk : Keep [] w w1) : St M w0 w1 L :=
  ⟨h.keep.trans hk (by simp), fun p hp => (h.has p hp).keep0 hk, h.ge, h.nd⟩
theorem St.drewN (h : St M w0 w L) (n : Nat) : St M w0 (w.drewN n) L := h.call (Keep.drewN w n)
/-- Behind a call that writes block b alone. -/
theorem St.wrote (h : St M w0 w L) (hu : Upd b b old cs T L L') (hk : Keep [b] w w1) (hb : Blk w1 b cs T) : St M w0 w1 L' := by
  have hge := h.ge _ hu.at.mem
  refine ⟨h.keep.trans hk (fun x hx hlt => ?_), fun p hp => ?_, fun p hp => ?_, hu.nodup h.nd (Or.inl rfl)⟩
  · obtain rfl := List.mem_singleton.1 hx
    rcases hge with hge | hge
    · simp only at hge; omega
    · exact hge
  · rcases hu.mem h.nd p hp with rfl | ⟨hp', hne⟩
    · exact hb
    · exact (h.has p hp').keep hk (by simpa using hne)
  · rcases hu.mem h.nd p hp with rfl | ⟨hp', _⟩
    · exact hge
    · exact h.ge p hp'
theorem Keep.setRow (w : World) (b : Nat) (cs : Array Value) : Keep [b] w (w.setRow b cs) :=
  ⟨rfl, rfl, rfl, by simp, fun k _ hM => setRow_other w b k cs (by simpa using hM)⟩
theorem St.setRow (h : St M w0 w L) (hu : Upd b b old cs T L L') : St M w0 (w.setRow b cs.toArray) L' :=
  h.wrote hu (Keep.setRow w b _) ((h.get hu.at).setRow cs)
/-- A block is let go. -/
theorem St.drop {x : Nat × List Value × TypeId} (h : St M w0 w (x :: L)) : St M w0 w L :=
  ⟨h.keep, fun p hp => h.has p (List.mem_cons_of_mem _ hp), fun p hp => h.ge p (List.mem_cons_of_mem _ hp), by have := h.nd; simp only [List.map_cons, List.nodup_cons] at this; exact this.2⟩
theorem St.keep0 (h : St [] w0 w L) : Keep [] w0 w := h.keep
theorem St.keep1 (h : St [b] w0 w ((b, cs, T) :: L)) : Keep [b] w0 w ∧ Blk w b cs T := ⟨h.keep, h.get .here⟩
end

/-! ### What the rules ask of a type -/
def aggB : TypeDesc → Bool
  | .struct _ | .array _ _ => true
  | _ => false
/-- T is a struct's or an array's type of n cells, zero at z. -/
structure AggT (P : Program) (T : TypeId) (n : Nat) (z : List Value) : Prop where
  u : ∃ d, P.underlying T = some d ∧ aggB d = true
  i : ∃ i, P.info? T = some i ∧ i.size = n ∧ i.zero = some (.agg z.toArray)
/-- T is a type of one cell, zero at z. -/
structure OneT (P : Program) (T : TypeId) (z : Value) : Prop where
  u : ∃ d, P.underlying T = some d ∧ aggB d = false
  i : ∃ i, P.info? T = some i ∧ i.size = 1 ∧ i.zero = some z
  c : z.cells = #[z]
/-- T is the type of arrays of n cells of one-cell elements E. -/
structure ArrT (P : Program) (T E : TypeId) (n : Nat) (z : Value) : Prop extends AggT P T n (List.replicate n z) where
  a : P.underlying T = some (.array n E)
  e : OneT P E z
/-- T is a slice's type, E its element's, of s cells and y bytes, zero at z. -/
structure SlcT (P : Program) (T E : TypeId) (s y : Nat) (z : List Value) : Prop where
  u : P.underlying T = some (.slice E)
  i : ∃ i v, P.info? E = some i ∧ i.size = s ∧ i.bytes = y ∧ i.zero = some v ∧ v.cells = z.toArray
  p : 0 < s
  l : z.length = s

section
variable {P : Program}
theorem AggT.isAgg {T : TypeId} {n : Nat} {z : List Value} (h : AggT P T n z) (w : World) : (isAgg T).run P w = .ok true w := by
  obtain ⟨d, hu, hd⟩ := h.u
  unfold Go.isAgg
  rw [Sem.run_bind, run_underlying hu w]
  cases d <;> simp_all [aggB]
theorem AggT.sizeOf {T : TypeId} {n : Nat} {z : List Value} (h : AggT P T n z) (w : World) : (sizeOf T).run P w = .ok n w := by
  obtain ⟨i, hi, hs, _⟩ := h.i
  simp [Go.sizeOf, typeInfo, hi, hs]
theorem OneT.isAgg {T : TypeId} {z : Value} (h : OneT P T z) (w : World) : (isAgg T).run P w = .ok false w := by
  obtain ⟨d, hu, hd⟩ := h.u
  unfold Go.isAgg
  rw [Sem.run_bind, run_underlying hu w]
  cases d <;> simp_all [aggB]
theorem OneT.sizeOf {T : TypeId} {z : Value} (h : OneT P T z) (w : World) : (sizeOf T).run P w = .ok 1 w := by
  obtain ⟨i, hi, hs, _⟩ := h.i
  simp [Go.sizeOf, typeInfo, hi, hs]
theorem SlcT.sizeOf {T E : TypeId} {s y : Nat} {z : List Value} (h : SlcT P T E s y z) (w : World) : (sizeOf E).run P w = .ok s w := by
  obtain ⟨i, v, hi, hs, _⟩ := h.i
  simp [Go.sizeOf, typeInfo, hi, hs]

theorem aggT_of {T : TypeId} {n : Nat} {z : List Value} {d : TypeDesc} (hu : P.underlying T = some d) (hd : aggB d = true)
    (hi : (P.info? T).map (fun i => (i.zero, i.size)) = some (some (.agg z.toArray), n)) : AggT P T n z := by
  refine ⟨⟨d, hu, hd⟩, ?_⟩
  cases h : P.info? T with
  | none => simp [h] at hi
  | some i => simp [h] at hi; exact ⟨i, rfl, hi.2, hi.1⟩
theorem oneT_of {T : TypeId} {z : Value} {d : TypeDesc} (hu : P.underlying T = some d) (hd : aggB d = false)
    (hi : (P.info? T).map (fun i => (i.zero, i.size)) = some (some z, 1)) (hz : z.cells = #[z]) : OneT P T z := by
  refine ⟨⟨d, hu, hd⟩, ?_, hz⟩
  cases h : P.info? T with
  | none => simp [h] at hi
  | some i => simp [h] at hi; exact ⟨i, rfl, hi.2, hi.1⟩
theorem arrT_of {T E : TypeId} {n : Nat} {z : Value} (hu : P.underlying T = some (.array n E)) (hi : (P.info? T).map (fun i => (i.zero, i.size)) = some (some (.agg (List.replicate n z).toArray), n))
    (hE : OneT P E z) : ArrT P T E n z := ⟨aggT_of hu rfl hi, hu, hE⟩
theorem slcT_of {T E : TypeId} {s y : Nat} {z : List Value} (hu : P.underlying T = some (.slice E)) (v : Value) (hi : (P.info? E).map (fun i => (i.zero, i.size, i.bytes)) = some (some v, s, y))
    (hv : v.cells = z.toArray) (hp : 0 < s) (hl : z.length = s) : SlcT P T E s y z := by
  refine ⟨hu, ?_, hp, hl⟩
  cases h : P.info? E with
  | none => simp [h] at hi
  | some i => simp [h] at hi; exact ⟨i, v, rfl, hi.2.1, hi.2.2, hi.1, hv⟩

theorem run_loadVar_seg {T : TypeId} {n : Nat} {z : List Value} (h : AggT P T n z) (w : World) (a : Addr) (cs : List Value) (hl : cs.length = n)
    (hc : ∀ j v, cs[j]? = some v → w.cell? (a.add j) = some v) : (loadVar T a).run P w = .ok (.agg cs.toArray) w := by
  have hr := run_loadCells_list (P := P) w a cs hc
  rw [hl] at hr
  simp [loadVar, h.isAgg w, h.sizeOf w, hr]
theorem run_loadVar_one {T : TypeId} {z : Value} (h : OneT P T z) (w : World) (a : Addr) (v : Value) (hc : w.cell? a = some v) : (loadVar T a).run P w = .ok v w := by
  simp [loadVar, h.isAgg w, run_load, hc]
theorem run_storeVar_seg {T : TypeId} {n : Nat} {z : List Value} (h : AggT P T n z) (w : World) (b o : Nat) (U : TypeId) (old cs : List Value) (hl : cs.length = n)
    (hb : Blk w b old U) (hfit : o + n ≤ old.length) (h1 : ∀ v ∈ cs, v.oneCell' = true) :
    (storeVar T ⟨b, o, none⟩ (.agg cs.toArray)).run P w = .ok () (w.setRow b (old.take o ++ cs ++ old.drop (o + n)).toArray) := by
  have hst := run_storeCells_at P b o U cs 0 old.toArray w hb (by simpa [hl] using hfit) h1
  simp only [Nat.add_zero] at hst
  rw [hl] at hst
  simp [storeVar, Value.cells, h.sizeOf w, hl, hst]
theorem run_storeVar_one {T : TypeId} {z : Value} (h : OneT P T z) (w : World) (b o : Nat) (U : TypeId) (old : List Value) (v : Value)
    (hb : Blk w b old U) (hfit : o < old.length) (h1 : v.oneCell' = true) (hv : v.cells = #[v]) :
    (storeVar T ⟨b, o, none⟩ v).run P w = .ok () (w.setRow b (old.set o v).toArray) := by
  have hst := run_storeCells_at P b o U [v] 0 old.toArray w hb (by simp; omega) (by simpa using h1)
  simp only [Nat.add_zero, List.length_singleton] at hst
  have e : old.take o ++ [v] ++ old.drop (o + 1) = old.set o v := by
    rw [List.set_eq_take_append_cons_drop, if_pos hfit]; simp
  rw [e] at hst
  simp [storeVar, hv, h.sizeOf w, hst]
end

/-! ### The rules -/
section
variable {P : Program} {ops : Array Oper} {rest : List Oper} {o : Oper} {a : Act} {w w0 : World} {Q : Exit → Act → World → Prop} {M : List Nat} {L L' : List (Nat × List Value × TypeId)}

theorem gate_box {T : TypeId} {x : Operand} (_ho : o.op = .box T x) (h : wpList P ops Q (o :: rest) a w) : wpList P ops Q (o :: rest) a w := h
theorem gate_alloc {T : TypeId} (_ho : o.op = .alloc T) (h : wpList P ops Q (o :: rest) a w) : wpList P ops Q (o :: rest) a w := h
theorem gate_load {T : TypeId} {x : Operand} (_ho : o.op = .load T x) (h : wpList P ops Q (o :: rest) a w) : wpList P ops Q (o :: rest) a w := h
theorem gate_store {T : TypeId} {p x : Operand} (_ho : o.op = .store T p x) (h : wpList P ops Q (o :: rest) a w) : wpList P ops Q (o :: rest) a w := h
theorem gate_index {T : TypeId} {x i : Operand} (_ho : o.op = .index T x i) (h : wpList P ops Q (o :: rest) a w) : wpList P ops Q (o :: rest) a w := h
theorem gate_addr {T : TypeId} {x i : Operand} (_ho : o.op = .indexAddr T x i) (h : wpList P ops Q (o :: rest) a w) : wpList P ops Q (o :: rest) a w := h
theorem gate_build {T : TypeId} {ps : Array (Nat × Operand)} (_ho : o.op = .build T ps) (h : wpList P ops Q (o :: rest) a w) : wpList P ops Q (o :: rest) a w := h
theorem gate_bsl {T : TypeId} {n : Nat} {ps : Array (Nat × Operand)} (_ho : o.op = .buildSlice T n ps) (h : wpList P ops Q (o :: rest) a w) : wpList P ops Q (o :: rest) a w := h
theorem gate_call {c : Go.Call} (_ho : o.op = .call c) (h : wpList P ops Q (o :: rest) a w) : wpList P ops Q (o :: rest) a w := h
/-- The operation that writes slot N (to tell one of several of a kind). -/
theorem gate_dst {N : Tmp} (_hN : o.dst = some N) (h : wpList P ops Q (o :: rest) a w) : wpList P ops Q (o :: rest) a w := h

/-- A guarded operation that is wanted. -/
theorem wpl_unguard {d : Option Tmp} {op : Op} {ty : TypeId} {pos : String} {after : Array Edge} {g : Nat × Bool} (hw : Region.wanted ⟨d, op, ty, pos, after, some g⟩ (yielded ops a.tmps) = true)
    (h : wpList P ops Q (⟨d, op, ty, pos, after, none⟩ :: rest) a w) : wpList P ops Q (⟨d, op, ty, pos, after, some g⟩ :: rest) a w := by
  unfold wpList at h ⊢
  rw [if_pos hw]
  rw [if_pos (by simp [Region.wanted])] at h
  exact h

theorem wpl_box (hgd : o.guard = none) (T : TypeId) (x : Operand) (ho : o.op = .box T x) (v : Value) (hv : a.eval x = v) (cs : List Value) (hcs : v.cells = cs.toArray) (st : St M w0 w L)
    (h : ∀ B w1, St M w0 w1 ((B, cs, T) :: L) → wpList P ops Q rest (a.put o.dst (.pointer (some ⟨B, 0, none⟩))) w1) : wpList P ops Q (o :: rest) a w := by
  refine wpList_plain hgd fun K hK => ?_
  unfold Oper.wp execOp
  simp only [ho, hv, Instr.box, newVar, newRow, hcs, Sem.run_bind, Sem.run_pure, run_newObj, Result.andThen_ok, World.alloc_eq]
  exact hK _ _ (h _ _ (st.alloc cs T))

theorem wpl_alloc (hgd : o.guard = none) (T : TypeId) (ho : o.op = .alloc T) {n : Nat} {cs : List Value} (hT : AggT P T n cs) (st : St M w0 w L)
    (h : ∀ B w1, St M w0 w1 ((B, cs, T) :: L) → wpList P ops Q rest (a.put o.dst (.pointer (some ⟨B, 0, none⟩))) w1) : wpList P ops Q (o :: rest) a w := by
  obtain ⟨i, hi, hs, hz⟩ := hT.i
  refine wpList_plain hgd fun K hK => ?_
  unfold Oper.wp execOp
  simp only [ho, Instr.alloc, zeroValue, typeInfo, hi, hz, newVar, newRow, Value.cells, Sem.run_bind, Sem.run_pure, run_program, run_newObj, Result.andThen_ok, World.alloc_eq]
  exact hK _ _ (h _ _ (st.alloc cs T))

theorem wpl_alloc1 (hgd : o.guard = none) (T : TypeId) (ho : o.op = .alloc T) {z : Value} (hT : OneT P T z) (st : St M w0 w L)
    (h : ∀ B w1, St M w0 w1 ((B, [z], T) :: L) → wpList P ops Q rest (a.put o.dst (.pointer (some ⟨B, 0, none⟩))) w1) : wpList P ops Q (o :: rest) a w := by
  obtain ⟨i, hi, hs, hz⟩ := hT.i
  refine wpList_plain hgd fun K hK => ?_
  unfold Oper.wp execOp
  simp only [ho, Instr.alloc, zeroValue, typeInfo, hi, hz, newVar, newRow, hT.c, Sem.run_bind, Sem.run_pure, run_program, run_newObj, Result.andThen_ok, World.alloc_eq]
  exact hK _ _ (h _ _ (st.alloc [z] T))

theorem wpl_load (hgd : o.guard = none) (T : TypeId) (x : Operand) (ho : o.op = .load T x) (b k : Nat) (hx : a.eval x = .pointer (some ⟨b, k, none⟩))
    {n : Nat} {z : List Value} (hT : AggT P T n z) (cs : List Value) (U : TypeId) (hb : Blk w b cs U) (seg : List Value) (hl : seg.length = n) (hseg : ∀ j, j < n → cs[k + j]? = seg[j]?)
    (h : wpList P ops Q rest (a.put o.dst (.agg seg.toArray)) w) : wpList P ops Q (o :: rest) a w := by
  refine wpList_plain hgd fun K hK => ?_
  have hr := run_loadVar_seg hT w ⟨b, k, none⟩ seg hl (fun j v hj => by
    have hjl : j < seg.length := (List.getElem?_eq_some_iff.1 hj).1
    rw [Addr.add_lit, hb.cell, hseg j (by omega), hj])
  unfold Oper.wp execOp
  simp only [ho, hx, Instr.loadAt, Instr.sureAddr, Sem.run_bind, Sem.run_pure, Result.andThen_ok, hr]
  exact hK _ _ h
/-- The whole block. -/
theorem wpl_loadAll (hgd : o.guard = none) (T : TypeId) (x : Operand) (ho : o.op = .load T x) (b : Nat) (hx : a.eval x = .pointer (some ⟨b, 0, none⟩))
    {n : Nat} {z : List Value} (hT : AggT P T n z) (cs : List Value) (U : TypeId) (hb : Blk w b cs U) (hl : cs.length = n)
    (h : wpList P ops Q rest (a.put o.dst (.agg cs.toArray)) w) : wpList P ops Q (o :: rest) a w :=
  wpl_load hgd T x ho b 0 hx hT cs U hb cs hl (fun j _ => by rw [Nat.zero_add]) h

theorem wpl_load1 (hgd : o.guard = none) (T : TypeId) (x : Operand) (ho : o.op = .load T x) (p : Addr) (hx : a.eval x = .pointer (some p))
    {z : Value} (hT : OneT P T z) (v : Value) (hv : w.cell? p = some v)
    (h : wpList P ops Q rest (a.put o.dst v) w) : wpList P ops Q (o :: rest) a w := by
  refine wpList_plain hgd fun K hK => ?_
  have hr := run_loadVar_one hT w p v hv
  unfold Oper.wp execOp
  simp only [ho, hx, Instr.loadAt, Instr.sureAddr, Sem.run_bind, Sem.run_pure, Result.andThen_ok, hr]
  exact hK _ _ h

theorem wpl_store (hgd : o.guard = none) (T : TypeId) (p x : Operand) (ho : o.op = .store T p x) (b k : Nat) (hp : a.eval p = .pointer (some ⟨b, k, none⟩)) (cs : List Value) (hx : a.eval x = .agg cs.toArray)
    {n : Nat} {z : List Value} (hT : AggT P T n z) (hl : cs.length = n) (h1 : ∀ v ∈ cs, v.oneCell' = true) (st : St M w0 w L) (old new : List Value) (U : TypeId)
    (hu : Upd b b old new U L L') (hfit : k + n ≤ old.length) (hnew : new = old.take k ++ cs ++ old.drop (k + n))
    (h : ∀ w1, St M w0 w1 L' → wpList P ops Q rest (a.put o.dst undef) w1) : wpList P ops Q (o :: rest) a w := by
  refine wpList_plain hgd fun K hK => ?_
  have hr := run_storeVar_seg hT w b k U old cs hl (st.get hu.at) hfit h1
  rw [← hnew] at hr
  unfold Oper.wp execOp
  simp only [ho, hp, hx, Instr.storeAt, Instr.sureAddr, Sem.run_bind, Sem.run_pure, Result.andThen_ok, hr]
  exact hK _ _ (h _ (st.setRow hu))
theorem wpl_storeAll (hgd : o.guard = none) (T : TypeId) (p x : Operand) (ho : o.op = .store T p x) (b : Nat) (hp : a.eval p = .pointer (some ⟨b, 0, none⟩)) (cs : List Value) (hx : a.eval x = .agg cs.toArray)
    {n : Nat} {z : List Value} (hT : AggT P T n z) (hl : cs.length = n) (h1 : ∀ v ∈ cs, v.oneCell' = true) (st : St M w0 w L) (old : List Value) (U : TypeId)
    (hu : Upd b b old cs U L L') (hfit : old.length = n)
    (h : ∀ w1, St M w0 w1 L' → wpList P ops Q rest (a.put o.dst undef) w1) : wpList P ops Q (o :: rest) a w :=
  wpl_store hgd T p x ho b 0 hp cs hx hT hl h1 st old cs U hu (by omega) (by rw [List.drop_of_length_le (by omega)]; simp) h
theorem wpl_store1 (hgd : o.guard = none) (T : TypeId) (p x : Operand) (ho : o.op = .store T p x) (b k : Nat) (hp : a.eval p = .pointer (some ⟨b, k, none⟩)) (v : Value) (hx : a.eval x = v)
    {z : Value} (hT : OneT P T z) (h1 : v.oneCell' = true) (hv : v.cells = #[v]) (st : St M w0 w L) (old : List Value) (U : TypeId)
    (hu : Upd b b old (old.set k v) U L L') (hfit : k < old.length)
    (h : ∀ w1, St M w0 w1 L' → wpList P ops Q rest (a.put o.dst undef) w1) : wpList P ops Q (o :: rest) a w := by
  refine wpList_plain hgd fun K hK => ?_
  have hr := run_storeVar_one hT w b k U old v (st.get hu.at) hfit h1 hv
  unfold Oper.wp execOp
  simp only [ho, hp, hx, Instr.storeAt, Instr.sureAddr, Sem.run_bind, Sem.run_pure, Result.andThen_ok, hr]
  exact hK _ _ (h _ (st.setRow hu))

theorem wpl_index (hgd : o.guard = none) (T : TypeId) (x ix : Operand) (ho : o.op = .index T x ix) (cs : List Value) (hx : a.eval x = .agg cs.toArray) (k : IntKind) (i : Int) (hi : a.eval ix = .int k i)
    {E : TypeId} {n : Nat} {z : Value} (hT : ArrT P T E n z) (j : Nat) (hj : i = j) (hn : j < n) (v : Value) (hv : cs[j]? = some v)
    (h : wpList P ops Q rest (a.put o.dst v) w) : wpList P ops Q (o :: rest) a w := by
  subst hj
  have h1 : (j : Int) < n := by omega
  have h0 : (0 : Int) ≤ j := by omega
  refine wpList_plain hgd fun K hK => ?_
  have hag := hT.e.isAgg w
  have hsz := hT.e.sizeOf w
  unfold Oper.wp execOp
  simp only [ho, hx, hi, Instr.index, asIntOf, Sem.run_bind, Sem.run_pure, Result.andThen_ok, run_underlying hT.a w, h0, h1, and_self, if_true, hsz, part, hag, Nat.mul_one, Int.toNat_natCast, List.getElem?_toArray, hv, Bool.false_eq_true, if_false]
  exact hK _ _ h

theorem wpl_indexAddr (hgd : o.guard = none) (T : TypeId) (x ix : Operand) (ho : o.op = .indexAddr T x ix) (b f : Nat) (hx : a.eval x = .pointer (some ⟨b, f, none⟩)) (k : IntKind) (i : Int) (hi : a.eval ix = .int k i)
    {E : TypeId} {n : Nat} {z : Value} (hT : ArrT P T E n z) (j : Nat) (hj : i = j) (h1 : j < n)
    (h : wpList P ops Q rest (a.put o.dst (.pointer (some ⟨b, f + j, none⟩))) w) : wpList P ops Q (o :: rest) a w := by
  subst hj
  refine wpList_plain hgd fun K hK => ?_
  have hsz := hT.e.sizeOf w
  have h1' : (j : Int) < n := by omega
  have h0 : (0 : Int) ≤ j := by omega
  unfold Oper.wp execOp
  simp only [ho, hx, hi, Instr.indexAt, Instr.sureAddr, asIntOf, Sem.run_bind, Sem.run_pure, Result.andThen_ok, run_underlying hT.a w, h0, h1', and_self, if_true, hsz, Nat.mul_one, Addr.add_lit, Int.toNat_natCast]
  exact hK _ _ h
theorem wpl_indexAddr0 (hgd : o.guard = none) (T : TypeId) (x ix : Operand) (ho : o.op = .indexAddr T x ix) (b : Nat) (hx : a.eval x = .pointer (some ⟨b, 0, none⟩)) (k : IntKind) (i : Int) (hi : a.eval ix = .int k i)
    {E : TypeId} {n : Nat} {z : Value} (hT : ArrT P T E n z) (j : Nat) (hj : i = j) (h1 : j < n)
    (h : wpList P ops Q rest (a.put o.dst (.pointer (some ⟨b, j, none⟩))) w) : wpList P ops Q (o :: rest) a w :=
  wpl_indexAddr hgd T x ix ho b 0 hx k i hi hT j hj h1 (by rw [Nat.zero_add]; exact h)

theorem gate_slc {T : TypeId} {x i : Operand} (_ho : o.op = .indexAddr T x i) (h : wpList P ops Q (o :: rest) a w) : wpList P ops Q (o :: rest) a w := h
theorem wpl_slcAddr (hgd : o.guard = none) (T : TypeId) (x ix : Operand) (ho : o.op = .indexAddr T x ix) (b f m c : Nat) (hx : a.eval x = .slice (some ⟨b, f, none⟩) m c) (k : IntKind) (i : Int) (hi : a.eval ix = .int k i)
    {E : TypeId} {s y : Nat} {z : List Value} (hT : SlcT P T E s y z) (j : Nat) (hj : i = j) (h1 : j < m)
    (h : wpList P ops Q rest (a.put o.dst (.pointer (some ⟨b, f + j * s, none⟩))) w) : wpList P ops Q (o :: rest) a w := by
  subst hj
  refine wpList_plain hgd fun K hK => ?_
  have hsz := hT.sizeOf w
  have h1' : (j : Int) < m := by omega
  have h0 : (0 : Int) ≤ j := by omega
  unfold Oper.wp execOp
  simp only [ho, hx, hi, Instr.indexAt, asIntOf, Sem.run_bind, Sem.run_pure, Result.andThen_ok, run_underlying hT.u w, h0, h1', and_self, if_true, hsz, Addr.add_lit, Int.toNat_natCast]
  exact hK _ _ h

/-- Of a slice of one-cell elements that starts at a block's head. -/
theorem wpl_slcAddr0 (hgd : o.guard = none) (T : TypeId) (x ix : Operand) (ho : o.op = .indexAddr T x ix) (b m c : Nat) (hx : a.eval x = .slice (some ⟨b, 0, none⟩) m c) (k : IntKind) (i : Int) (hi : a.eval ix = .int k i)
    {E : TypeId} {y : Nat} {z : List Value} (hT : SlcT P T E 1 y z) (j : Nat) (hj : i = j) (h1 : j < m)
    (h : wpList P ops Q rest (a.put o.dst (.pointer (some ⟨b, 0 + j, none⟩))) w) : wpList P ops Q (o :: rest) a w :=
  wpl_slcAddr hgd T x ix ho b 0 m c hx k i hi hT j hj h1 (by rw [Nat.mul_one]; exact h)

/-- A struct or an array that is built. -/
theorem wpl_build (hgd : o.guard = none) (T : TypeId) (parts : List (Nat × Operand)) (ho : o.op = .build T parts.toArray) (cs : List Value)
    (hb : P.built T (parts.map fun p => (p.1, a.eval p.2)) = some cs.toArray)
    (h : wpList P ops Q rest (a.put o.dst (.agg cs.toArray)) w) : wpList P ops Q (o :: rest) a w := by
  refine wpList_plain hgd fun K hK => ?_
  have hb' : P.built T (parts.toArray.map fun (i, x) => (i, a.eval x)).toList = some cs.toArray := by rw [← hb]; simp
  unfold Oper.wp execOp
  simp only [ho, Sem.run_bind, run_build w T _ cs.toArray hb', Result.andThen_ok]
  exact hK _ _ h
theorem wpl_zero (hgd : o.guard = none) (T : TypeId) (ho : o.op = .build T #[]) (cs : List Value) (hb : P.built T [] = some cs.toArray)
    (h : wpList P ops Q rest (a.put o.dst (.agg cs.toArray)) w) : wpList P ops Q (o :: rest) a w :=
  wpl_build hgd T [] ho cs hb h

/-- A closure is made. -/
theorem wpl_makeFunc (hgd : o.guard = none) (fn : Fn) (first cap : Array Operand) (ho : o.op = .makeFunc fn first cap) (v : Value) (hv : v = .func fn (first.map a.eval) (cap.map a.eval))
    (h : wpList P ops Q rest (a.put o.dst v) w) : wpList P ops Q (o :: rest) a w := by
  subst hv
  refine wpList_plain hgd fun K hK => ?_
  unfold Oper.wp execOp
  simp only [ho, Instr.makeFunc, Sem.run_bind, Sem.run_pure, Result.andThen_ok]
  exact hK _ _ h

/-- An empty slice of the call's own. -/
theorem wpl_buildSlice0 (hgd : o.guard = none) (T : TypeId) (ho : o.op = .buildSlice T 0 #[]) {E : TypeId} {s y : Nat} {z : List Value} (hT : SlcT P T E s y z) (st : St M w0 w L)
    (h : ∀ B w1, St M w0 w1 ((B, [], E) :: L) → wpList P ops Q rest (a.put o.dst (.slice (some ⟨B, 0, none⟩) 0 0)) w1) : wpList P ops Q (o :: rest) a w := by
  refine wpList_plain hgd fun K hK => ?_
  have hsz := hT.sizeOf w
  unfold Oper.wp execOp
  simp only [ho, Instr.buildSlice, Sem.run_bind, Sem.run_pure, Result.andThen_ok, run_underlying hT.u w, hsz, Nat.zero_mul, Instr.fill, newRow, List.map_toArray, List.map_nil, Array.range_zero']
  exact hK _ _ (h _ _ (st.alloc [] E))

/-- A Go function is called: by its number, as a function value, as a closure. -/
theorem wpl_call (hgd : o.guard = none) (c : Go.Call) (ho : o.op = .call c) (f : Operand) (hc : c.callee = .value f) (F : FuncId) (first cap : Array Value) (hf : a.eval f = .func (.func F) first cap)
    (fn : Func) (hF : P.funcs[F]? = some fn) (hn : (fn.name == "runtime.NumGoroutine") = false) (hbd : fn.body.isNone = false) (args : Array Value) (ha : first ++ c.args.map a.eval ++ cap = args)
    (h : Calls P F args w fun e w' => ∃ v, e = .returned v ∧ wpList P ops Q rest (a.put o.dst v) w') : wpList P ops Q (o :: rest) a w := by
  subst ha
  refine wpList_plain hgd fun K hK => ?_
  unfold Oper.wp execOp
  simp only [ho, resolve, hc, Deferred.ofValue, hf, invoke, callFunc, hF, hn, hbd, Sem.run_bind, Sem.run_pure, run_program, Result.andThen_ok, Bool.false_eq_true, if_false, Oper.upon_enter]
  refine h.mono fun e w' ⟨v, he, hv⟩ => ?_
  subst he
  exact hK _ _ hv
end

/-! ### The end of a walk -/
theorem bodyPost_cell {P : Program} {fn : Func} {R : Ending → World → Prop} {a : Act} {w : World} {p : Tmp} {T : TypeId} {n : Nat} {z : List Value} (hres : fn.results = #[.cell p T]) (hT : AggT P T n z)
    (hd : a.defers = []) (b : Nat) (hp : a.tmps.getD p undef = .pointer (some ⟨b, 0, none⟩)) (cs : List Value) (U : TypeId) (hb : Blk w b cs U) (hl : cs.length = n) (hR : R (.returned (.agg cs.toArray)) w) : bodyPost P fn R .ret a w := by
  refine bodyPost_ret (v := .agg cs.toArray) ?_ hd hR
  have hr := run_loadVar_seg hT w ⟨b, 0, none⟩ cs hl (fun j v hj => by rw [Addr.add_lit, hb.cell, Nat.zero_add, hj])
  have hp' : a.tmps[p]?.getD undef = .pointer (some ⟨b, 0, none⟩) := by simpa using hp
  simp [results, hres, hp', asAddr, hr]
theorem bodyPost_cell_tmp {P : Program} {fn : Func} {R : Ending → World → Prop} {a : Act} {w : World} {p u : Tmp} {T : TypeId} {n : Nat} {z : List Value} (hres : fn.results = #[.cell p T, .tmp u]) (hT : AggT P T n z)
    (hd : a.defers = []) (b : Nat) (hp : a.tmps.getD p undef = .pointer (some ⟨b, 0, none⟩)) (cs : List Value) (U : TypeId) (hb : Blk w b cs U) (hl : cs.length = n) (v : Value) (hv : a.tmps.getD u undef = v)
    (hR : R (.returned (.tuple #[.agg cs.toArray, v])) w) : bodyPost P fn R .ret a w := by
  refine bodyPost_ret (v := .tuple #[.agg cs.toArray, v]) ?_ hd hR
  have hr := run_loadVar_seg hT w ⟨b, 0, none⟩ cs hl (fun j v hj => by rw [Addr.add_lit, hb.cell, Nat.zero_add, hj])
  rw [results_cell_tmp hres, hp, hv]
  simp [asAddr, hr]
end Go.Proofs.YtlljflmbnbjccaaGreatDoor
/- Slices that the call makes itself: built, appended to, made; no condition. -/
namespace Go.Proofs.YtlljflmbnbjccaaGreatDoor
open Go.RowKit
set_option linter.unusedSimpArgs false

theorem foldl_set (off : Nat) : ∀ (l : List Value) (k : Nat) (A : List Value), off + k + l.length ≤ A.length →
    ((l.zipIdx k).foldl (fun (cs : Array Value) (x : Value × Nat) => cs.setIfInBounds (off + x.2) x.1) A.toArray) = (A.take (off + k) ++ l ++ A.drop (off + k + l.length)).toArray
  | [], k, A, _ => by simp
  | v :: l, k, A, h => by
    simp only [List.length_cons] at h
    rw [List.zipIdx_cons, List.foldl_cons, List.setIfInBounds_toArray]
    rw [foldl_set off l (k + 1) (A.set (off + k) v) (by rw [List.length_set]; omega)]
    congr 1
    have e := list_seg_step A (off + k) v l (by omega)
    simpa [Nat.add_assoc, Nat.add_comm 1, Nat.add_left_comm] using e
theorem fill_part (place : Nat → Option (Nat × Nat)) (A : List Value) (i off s : Nat) (v : Value) (cs : List Value) (rest : List (Nat × Value)) (hp : place i = some (off, s)) (hv : v.cells = cs.toArray) (hl : cs.length = s) (hA : off + s ≤ A.length) :
    Instr.fill place A.toArray ((i, v) :: rest) = Instr.fill place (A.take off ++ cs ++ A.drop (off + s)).toArray rest := by
  rw [Instr.fill]
  simp only [hp, hv]
  rw [if_neg (by simp [hl]; omega)]
  congr 1
  have h := foldl_set off cs 0 A (by omega)
  rw [Nat.add_zero, hl] at h
  rw [← h]
  simp [← Array.foldl_toList]

theorem At.upd {b : Nat} {old : List Value} {T : TypeId} {L : List (Nat × List Value × TypeId)} (h : At b old T L) (b' : Nat) (new : List Value) : ∃ L', Upd b b' old new T L L' := by
  induction h with
  | here => exact ⟨_, .here⟩
  | there _ ih => obtain ⟨L', h⟩ := ih; exact ⟨_, .there h⟩

section
variable {P : Program} {ops : Array Oper} {rest : List Oper} {o : Oper} {a : Act} {w w0 : World} {Q : Exit → Act → World → Prop} {M : List Nat} {L L' : List (Nat × List Value × TypeId)}

/-- One element. -/
theorem wpl_buildSlice1 (hgd : o.guard = none) (T : TypeId) (x : Operand) (ho : o.op = .buildSlice T 1 #[(0, x)]) (v : Value) (hx : a.eval x = v) (cs : List Value) (hcs : v.cells = cs.toArray)
    {E : TypeId} {s y : Nat} {z : List Value} (hT : SlcT P T E s y z) (hl : cs.length = s) (h24 : s ≤ 16777216) (st : St M w0 w L)
    (h : ∀ B w1, St M w0 w1 ((B, cs, E) :: L) → wpList P ops Q rest (a.put o.dst (.slice (some ⟨B, 0, none⟩) 1 1)) w1) : wpList P ops Q (o :: rest) a w := by
  obtain ⟨i, u, hi, hs, hy, hz, hc⟩ := hT.i
  have hsz := hT.sizeOf w
  have hp := hT.p
  refine wpList_plain hgd fun K hK => ?_
  have hfill : Instr.fill (fun k => some (k * s, s)) ((Array.range (1 * s)).map (fun k => z.toArray[k % z.toArray.size]!)) [(0, v)] = some cs.toArray := by
    obtain ⟨A, hA⟩ : ∃ A : List Value, ((Array.range (1 * s)).map (fun k => z.toArray[k % z.toArray.size]!)) = A.toArray := ⟨_, (Array.toArray_toList).symm⟩
    have hAl : A.length = s := by have := congrArg Array.size hA; simpa using this.symm
    rw [hA, fill_part _ A 0 0 s v cs [] (by simp) hcs hl (by omega)]
    simp [Instr.fill, List.drop_of_length_le (by omega : A.length ≤ s)]
  unfold Oper.wp execOp
  simp only [ho, hx, Instr.buildSlice, zeroValue, typeInfo, hi, hz, hc, Sem.run_bind, Sem.run_pure, run_program, Result.andThen_ok, run_underlying hT.u w, hsz, newRow, List.map_toArray, List.map_cons, List.map_nil, Sem.run_ite]
  rw [if_neg (by omega), if_neg (by omega)]
  simp only [Sem.run_bind, Sem.run_pure, run_program, hi, hz, hc, Result.andThen_ok, hfill, run_newObj, World.alloc_eq]
  exact hK _ _ (h _ _ (st.alloc cs E))
/-- Two elements. -/
theorem wpl_buildSlice2 (hgd : o.guard = none) (T : TypeId) (x x' : Operand) (ho : o.op = .buildSlice T 2 #[(0, x), (1, x')]) (v v' : Value) (hx : a.eval x = v) (hx' : a.eval x' = v') (cs cs' : List Value) (hcs : v.cells = cs.toArray) (hcs' : v'.cells = cs'.toArray)
    {E : TypeId} {s y : Nat} {z : List Value} (hT : SlcT P T E s y z) (hl : cs.length = s) (hl' : cs'.length = s) (h24 : 2 * s ≤ 16777216) (st : St M w0 w L)
    (h : ∀ B w1, St M w0 w1 ((B, cs ++ cs', E) :: L) → wpList P ops Q rest (a.put o.dst (.slice (some ⟨B, 0, none⟩) 2 2)) w1) : wpList P ops Q (o :: rest) a w := by
  obtain ⟨i, u, hi, hs, hy, hz, hc⟩ := hT.i
  have hsz := hT.sizeOf w
  have hp := hT.p
  refine wpList_plain hgd fun K hK => ?_
  have hfill : Instr.fill (fun k => some (k * s, s)) ((Array.range (2 * s)).map (fun k => z.toArray[k % z.toArray.size]!)) [(0, v), (1, v')] = some (cs ++ cs').toArray := by
    obtain ⟨A, hA⟩ : ∃ A : List Value, ((Array.range (2 * s)).map (fun k => z.toArray[k % z.toArray.size]!)) = A.toArray := ⟨_, (Array.toArray_toList).symm⟩
    have hAl : A.length = 2 * s := by have := congrArg Array.size hA; simpa using this.symm
    rw [hA, fill_part _ A 0 0 s v cs _ (by simp) hcs hl (by omega), fill_part _ _ 1 s s v' cs' [] (by simp) hcs' hl' (by simp; omega)]
    simp [Instr.fill, hl]
    omega
  unfold Oper.wp execOp
  simp only [ho, hx, hx', Instr.buildSlice, zeroValue, typeInfo, hi, hz, hc, Sem.run_bind, Sem.run_pure, run_program, Result.andThen_ok, run_underlying hT.u w, hsz, newRow, List.map_toArray, List.map_cons, List.map_nil, Sem.run_ite]
  rw [if_neg (by omega), if_neg (by omega)]
  simp only [Sem.run_bind, Sem.run_pure, run_program, hi, hz, hc, Result.andThen_ok, hfill, run_newObj, World.alloc_eq]
  exact hK _ _ (h _ _ (st.alloc (cs ++ cs') E))

/-- A slice of the call's own grows by what lies in a block. Behind it the slice lies in a block g' of the call's own; its spare cells are told by 'spare'. -/
theorem wpl_append (hgd : o.guard = none) (s x : Operand) (T : TypeId) (ho : o.op = .call { callee := .builtin .append, args := #[s, x], argTypes := #[T, T] })
    {E : TypeId} {sz y : Nat} {z : List Value} (hT : SlcT P T E sz y z) (g n cap : Nat) (hs : a.eval s = .slice (some ⟨g, 0, none⟩) n cap)
    (ad : Addr) (m c : Nat) (hx : a.eval x = .slice (some ad) m c) (news : List Value) (hnl : news.length = m * sz) (hnews : ∀ j u, news[j]? = some u → w.cell? (ad.add j) = some u) (h1 : ∀ u ∈ news, u.oneCell' = true)
    (st : St M w0 w L) (xs spare : List Value) (Lf : Nat → List Value → List (Nat × List Value × TypeId)) (hup : ∀ g' new, Upd g g' (xs ++ spare) new E L (Lf g' new)) (hxl : xs.length = n * sz) (hcap : (xs ++ spare).length = cap * sz) (hcm : cap ≤ maxLen)
    (h63 : n + m ≤ maxLen) (hby : (n + m) * y ≤ 140737488355328)
    (h : ∀ g' cap' spare' w1, St M w0 w1 (Lf g' ((xs ++ news) ++ spare')) → ((xs ++ news) ++ spare').length = cap' * sz → cap' ≤ maxLen →
      wpList P ops Q rest (a.put o.dst (.slice (some ⟨g', 0, none⟩) (n + m) cap')) w1) : wpList P ops Q (o :: rest) a w := by
  obtain ⟨i, u, hi, hs', hy', hz, hc⟩ := hT.i
  subst hs'
  subst hy'
  have hb := st.get (hup g []).at
  have hlt := hb.lt
  have hsmall : n + m ≤ 9223372036854775807 := by simp only [maxLen] at h63; omega
  refine wpList_plain hgd fun K hK => ?_
  by_cases hroom : n + m ≤ cap
  · have hfit : n * i.size + news.length ≤ (xs ++ spare).length := by rw [hnl, hcap, ← Nat.add_mul]; exact Nat.mul_le_mul_right _ hroom
    have hr := run_append_room (P := P) w T o.type E i hT.u hi g n cap (xs ++ spare).toArray hb ad m c news hnl hnews h1 hroom (by simpa using hfit)
    have hup1 := hup g ((xs ++ news) ++ spare.drop news.length)
    have hnew : ((xs ++ spare).toArray.toList.take (n * i.size) ++ news ++ (xs ++ spare).toArray.toList.drop (n * i.size + news.length)) = (xs ++ news) ++ spare.drop news.length := by
      simp only [List.toList_toArray]
      rw [← hxl, List.take_left, ← List.drop_drop, List.drop_left]
    rw [hnew] at hr
    unfold Oper.wp execOp
    simp only [ho, resolve, invoke, builtin, Sem.run_bind, Sem.run_pure, Result.andThen_ok, List.map_toArray, List.map_cons, List.map_nil, hs, hx, hr]
    refine hK _ _ (h g cap (spare.drop news.length) _ (st.setRow hup1) ?_ hcm)
    simp only [List.length_append, List.length_drop] at hfit hcap ⊢
    omega
  · have holds : ∀ j v, xs[j]? = some v → w.cell? ((⟨g, 0, none⟩ : Addr).add j) = some v := fun j v hj => by
      have hjl : j < xs.length := (List.getElem?_eq_some_iff.1 hj).1
      rw [Addr.add_lit, Nat.zero_add]
      exact hb.cellv (by rw [List.getElem?_append_left hjl]; exact hj)
    have hr := run_append_grow (P := P) w T o.type E i u hT.u hi hz ⟨g, 0, none⟩ n cap xs hxl holds ad m c news hnl hnews (by omega) (by omega) (growslice_fits (by omega) hby)
    have hge := grownCap_ge w (n + m) cap E
    have hcm' := grownCap_le_maxLen w (n + m) cap E h63
    obtain ⟨zs, hzs⟩ : ∃ zs : List Value, Builtin.zeroCells u.cells (grownCap w (n + m) cap E - (n + m)) = zs.toArray := ⟨_, (Array.toArray_toList).symm⟩
    have hzl : zs.length = (grownCap w (n + m) cap E - (n + m)) * i.size := by
      have h1 := congrArg Array.size hzs
      rw [size_zeroCells, hc] at h1
      have h2 := hT.l
      simp only [List.size_toArray] at h1
      rw [← h1, h2]
    rw [hzs, show xs.toArray ++ news.toArray ++ zs.toArray = ((xs ++ news) ++ zs).toArray by simp] at hr
    have hup1 := hup w.heap.size ((xs ++ news) ++ zs)
    have st1 := (st.call (Keep.drew w)).alloc ((xs ++ news) ++ zs) E
    have hsz : w.drew.heap.size = w.heap.size := rfl
    rw [hsz] at st1
    have stn : St M w0 (w.drew.alloc (.cells ((xs ++ news) ++ zs).toArray E)) (Lf w.heap.size ((xs ++ news) ++ zs)) := by
      refine ⟨st1.keep, fun p hp => ?_, fun p hp => ?_, hup1.nodup st.nd (Or.inr fun p hp e => ?_)⟩
      · rcases hup1.mem st.nd p hp with rfl | ⟨hp', _⟩
        · exact st1.get .here
        · exact st1.has p (List.mem_cons_of_mem _ hp')
      · rcases hup1.mem st.nd p hp with rfl | ⟨hp', _⟩
        · exact st1.ge _ List.mem_cons_self
        · exact st.ge p hp'
      · have := (st.has p hp).lt
        omega
    unfold Oper.wp execOp
    simp only [ho, resolve, invoke, builtin, Sem.run_bind, Sem.run_pure, Result.andThen_ok, List.map_toArray, List.map_cons, List.map_nil, hs, hx, hr]
    refine hK _ _ (h w.heap.size (grownCap w (n + m) cap E) zs _ stn ?_ hcm')
    rw [List.length_append, List.length_append, hxl, hnl, hzl, ← Nat.add_mul, ← Nat.add_mul]
    congr 1
    omega
end

/-- A block that a callee has made is the caller's own from here on. -/
theorem St.adopt {M : List Nat} {w0 w w1 : World} {L : List (Nat × List Value × TypeId)} {g : Nat} {cs : List Value} {E : TypeId} (st : St M w0 w L) (hk : Keep [] w w1) (hg : w.heap.size ≤ g) (hb : Blk w1 g cs E) : St M w0 w1 ((g, cs, E) :: L) := by
  have st1 := st.call hk
  refine ⟨st1.keep, fun p hp => ?_, fun p hp => ?_, ?_⟩
  · rcases List.mem_cons.1 hp with rfl | hp
    · exact hb
    · exact st1.has p hp
  · rcases List.mem_cons.1 hp with rfl | hp
    · exact Or.inl (Nat.le_trans st.keep.size hg)
    · exact st1.ge p hp
  · simp only [List.map_cons, List.nodup_cons]
    refine ⟨fun hm => ?_, st.nd⟩
    obtain ⟨p, hp, e⟩ := List.mem_map.1 hm
    have := (st.has p hp).lt
    omega
/-- What a function leaves that hands back a slice of its own: n elements, their cells xs. -/
def Gives (E : TypeId) (sz n : Nat) (xs : List Value) (w : World) (v : Value) (w' : World) : Prop :=
  ∃ g cap spare, v = .slice (some ⟨g, 0, none⟩) n cap ∧ w.heap.size ≤ g ∧ Blk w' g (xs ++ spare) E ∧ (xs ++ spare).length = cap * sz ∧ cap ≤ maxLen
end Go.Proofs.YtlljflmbnbjccaaGreatDoor
/- A region that draws its order: its first operations each yield one value whatever the order and keep what was there, its last ones come in one order; no condition. -/
namespace Go.Proofs.YtlljflmbnbjccaaGreatDoor
open Go.RowKit
set_option linter.unusedSimpArgs false

section
variable {P : Program} {ops : Array Oper} {md : Region.Mode} {C : World → Prop} {Q' : Exit → Act → World → Prop}

/-- How many of the first k have not come up. -/
def cnt (listed : Array Bool) : Nat → Nat
  | 0 => 0
  | k + 1 => cnt listed k + if listed.getD k true = true then 0 else 1
theorem cnt_zero {listed : Array Bool} : ∀ {k : Nat}, cnt listed k = 0 → ∀ i, i < k → listed.getD i true = true
  | 0, _, i, hi => by omega
  | k + 1, h, i, hi => by
    simp only [cnt] at h
    by_cases e : i = k
    · subst e
      by_cases hb : listed.getD i true = true
      · exact hb
      · rw [if_neg hb] at h; omega
    · exact cnt_zero (k := k) (by omega) i (by omega)
theorem cnt_pos {listed : Array Bool} : ∀ {k : Nat}, 0 < cnt listed k → ∃ i, i < k ∧ listed.getD i true = false ∧ ∀ j, j < i → listed.getD j true = true
  | 0, h => by simp [cnt] at h
  | k + 1, h => by
    by_cases h0 : 0 < cnt listed k
    · obtain ⟨i, h1, h2, h3⟩ := cnt_pos h0
      exact ⟨i, by omega, h2, h3⟩
    · refine ⟨k, by omega, ?_, fun j hj => cnt_zero (by omega) j hj⟩
      simp only [cnt] at h
      by_cases hb : listed.getD k true = true
      · rw [if_pos hb] at h; omega
      · simpa using hb
theorem cnt_same {listed : Array Bool} {i : Nat} : ∀ {k : Nat}, k ≤ i → cnt (listed.setIfInBounds i true) k = cnt listed k
  | 0, _ => rfl
  | k + 1, h => by simp only [cnt]; rw [cnt_same (by omega), getD_set_ne true (by omega)]
theorem getD_set_self {listed : Array Bool} {i : Nat} : (listed.setIfInBounds i true).getD i true = true := by
  rcases Nat.lt_or_ge i listed.size with h | h
  · simp [h]
  · simp [Array.getElem?_eq_none h]
theorem cnt_set {listed : Array Bool} {i : Nat} (hi : listed.getD i true = false) : ∀ {k : Nat}, i < k → cnt (listed.setIfInBounds i true) k + 1 = cnt listed k
  | 0, h => by omega
  | k + 1, h => by
    simp only [cnt]
    by_cases e : i = k
    · subst e
      rw [cnt_same (Nat.le_refl _), getD_set_self, if_pos rfl, hi]; simp
    · rw [getD_set_ne true e, ← cnt_set hi (k := k) (by omega)]; omega

/-- Each of the first n waits only for earlier ones, and has no guard. -/
def headB (ops : Array Oper) (n : Nat) : Bool :=
  (List.range n).all fun i => match ops[i]? with | some o => o.guard.isNone && o.after.all (fun e => decide (e.on < i)) | none => false
theorem headB_at {n i : Nat} (h : headB ops n = true) (hi : i < n) : ∃ o, ops[i]? = some o ∧ o.guard = none ∧ ∀ e ∈ o.after, e.on < i := by
  have h1 := List.all_eq_true.1 h i (List.mem_range.2 hi)
  cases ho : ops[i]? with
  | none => rw [ho] at h1; cases h1
  | some o =>
    rw [ho] at h1
    simp only [Bool.and_eq_true] at h1
    refine ⟨o, rfl, by simpa using h1.1, fun e he => ?_⟩
    have := Array.all_eq_true_iff_forall_mem.1 h1.2 e he
    simpa using this

/-- From the first operations alone to the whole region. -/
theorem wpAny_of_head_part {n : Nat} {H : Array Oper} {Lq : Act → Prop} (hH : ∀ i, i < n → H[i]? = ops[i]?) (hHs : H.size = n) (hn : n < ops.size)
    (hd : headB ops n = true) (hs : Region.sinkB md ops n = true) (hc : Region.chainB md ops n = true)
    (hend : ∀ a w, C w → Lq a → ∀ listed : Array Bool, listed.size = ops.size → (∀ i, i < n → listed.getD i true = true) → (∀ t, n ≤ t → t < ops.size → listed.getD t true = false) → wpAny P md ops Q' (ops.size - n) listed a w) :
    ∀ (f : Nat) (listed listed' : Array Bool) (a : Act) (w : World), C w → HeadInv md ops n listed → listed'.size = n → (∀ i d, i < n → listed'.getD i d = listed.getD i d) → cnt listed n = f →
      wpAnyQ P md H C Lq f listed' a → wpAny P md ops Q' (f + (ops.size - n)) listed a w
  | 0, listed, listed', a, w, hw, inv, hs', hag, hcnt, h => by
    rw [Nat.zero_add]
    exact hend a w hw h.2 listed inv.size (fun i hi => cnt_zero hcnt i hi) inv.tail
  | f + 1, listed, listed', a, w, hw, inv, hs', hag, hcnt, h => by
    rw [show f + 1 + (ops.size - n) = (f + (ops.size - n)) + 1 by omega]
    obtain ⟨m, hm, hm0, hm1⟩ := cnt_pos (listed := listed) (k := n) (by omega)
    have hlt : ∀ j, j ∈ Region.ready md ops listed → j < n := fun j hj => by
      rcases Nat.lt_or_ge j n with h1 | h1
      · exact h1
      · exact absurd hj (tail_waits hs hc hn inv _ m rfl hm hm0 j h1)
    refine ⟨fun h0 => ?_, fun i hi => ?_⟩
    · obtain ⟨o, ho, _, hdep⟩ := headB_at hd hm
      have : m ∈ Region.ready md ops listed := mem_ready.2 ⟨hm0, o, ho, fun e he _ => by
        have h1 := hm1 e.on (hdep e he)
        have hlt' : e.on < listed.size := by rw [inv.size]; have := hdep e he; omega
        simp [hlt'] at h1 ⊢; exact h1⟩
      rw [h0] at this; cases this
    · have hin := hlt i hi
      obtain ⟨hun, o, ho, hall⟩ := mem_ready.1 hi
      obtain ⟨o', ho', hg, hdep⟩ := headB_at hd hin
      obtain rfl : o' = o := Option.some.inj (ho'.symm.trans ho)
      have hi' : i ∈ Region.ready md H listed' := mem_ready.2 ⟨by rw [hag i _ hin]; exact hun, o', by rw [hH i hin]; exact ho, fun e he hb => by
        rw [hag e.on _ (by have := hdep e he; omega)]; exact hall e he hb⟩
      have hq := h.2 i hi'
      unfold qOp at hq
      rw [hH i hin, ho] at hq
      have hwant : ∀ ys, Region.wanted o' ys = true := fun ys => by simp [Region.wanted, hg]
      simp only [hwant, if_true] at hq
      unfold wpOp
      rw [ho]
      simp only [hwant, if_true]
      refine .inl (Oper.wp_of_quiet hw (fun a' w' hw' hK => wpAny_of_head_part hH hHs hn hd hs hc hend f _ (listed'.setIfInBounds i true) a' w' hw' (inv.set hi hin) (by simpa using hs') (fun k d hk => ?_) ?_ hK) hq)
      · by_cases e : i = k
        · subst e
          have h1 : i < listed'.size := by omega
          have h2 : i < listed.size := by rw [inv.size]; omega
          simp [h1, h2]
        · rw [getD_set_ne d e, getD_set_ne d e]; exact hag k d hk
      · have := cnt_set hun (k := n) hin; omega

def tailB (ops : Array Oper) (n : Nat) : Bool :=
  decide (n < ops.size) && Region.lexB .any (ops.extract 0 n) && headB ops n && Region.sinkB .any ops n && Region.chainB .any ops n &&
  Region.seqB .any ops (ops.size - n) n (Array.replicate n true ++ Array.replicate (ops.size - n) false)

theorem listed_eq {n : Nat} {listed : Array Bool} (hs : listed.size = ops.size) (hn : n < ops.size) (h1 : ∀ i, i < n → listed.getD i true = true) (h2 : ∀ t, n ≤ t → t < ops.size → listed.getD t true = false) :
    listed = Array.replicate n true ++ Array.replicate (ops.size - n) false := by
  apply Array.ext
  · simp; omega
  · intro i hi hi'
    by_cases hin : i < n
    · have := h1 i hin
      simp [hi] at this
      rw [Array.getElem_append_left (by simpa using hin)]
      simpa using this
    · have := h2 i (by omega) (by omega)
      simp [hi] at this
      rw [Array.getElem_append_right (by simp; omega)]
      simpa using this

theorem wp_region_keep_tail {id : Nat} {Q : Exit → Act → World → Prop} {a : Act} {w : World} {l : List Oper} (n : Nat) (hm : P.follows .mixedOrders = true) (hB : tailB l.toArray n = true) (hC : C { w with drawn := w.drawn + 1 })
    (h : wpQuiet P (l.toArray.extract 0 n) C (fun a' => ∀ w', C w' → wpList P l.toArray Q (l.drop n) a' w') (l.take n) a) : (Code.region id l.toArray true).wp P Q a w := by
  simp only [tailB, Bool.and_eq_true, decide_eq_true_eq] at hB
  obtain ⟨⟨⟨⟨⟨hn, hlex⟩, hd⟩, hs⟩, hc⟩, hseq⟩ := hB
  simp only [Region.lexB, Bool.and_eq_true] at hlex
  have hex : (l.toArray.extract 0 n).toList = l.take n := by simp
  have hHs : (l.toArray.extract 0 n).size = n := by simp at hn ⊢; omega
  refine wp_region_any hm ?_
  have hq := wpAnyQ_lex (C := C) (md := .any) hlex.1 (l.take n) 0 (Array.replicate n false) a (fun j => by rw [← hex]; simp) (by
    have := hlex.2
    rw [hHs] at this
    rw [show (l.take n).length = n by simp at hn ⊢; omega]
    exact this) h
  rw [show (l.take n).length = n by simp at hn ⊢; omega] at hq
  have := wpAny_of_head_part (P := P) (Q' := Q) (C := C) (md := .any) (n := n) (H := l.toArray.extract 0 n) (ops := l.toArray) (fun i hi => by simp [hi]) hHs hn hd hs hc
    (fun a' w' hw' hL listed hsz h1 h2 => by
      have he := listed_eq (ops := l.toArray) hsz hn h1 h2
      subst he
      have := wpAny_of_seq (md := .any) (Q' := Q) (l.drop n) n (Array.replicate n true ++ Array.replicate (l.toArray.size - n) false) a' w' (fun j => by simp [List.getElem?_drop]) (by
        rw [show (l.drop n).length = l.toArray.size - n by simp]; exact hseq) (hL w' hw')
      rwa [show (l.drop n).length = l.toArray.size - n by simp] at this)
    n (Array.replicate l.toArray.size false) (Array.replicate n false) a { w with drawn := w.drawn + 1 } hC
    ⟨by simp, fun j oj _ hl => (by rw [getD_replicate_false] at hl; cases hl), fun t _ ht => getD_in (by simpa using ht) (getD_replicate_false _ _)⟩
    (by simp) (fun i d hi => by have : i < l.length := by simp at hn; omega
                                simp [hi, this]) (by
      have : ∀ k, k ≤ l.toArray.size → cnt (Array.replicate l.toArray.size false) k = k := by
        intro k hk
        induction k with
        | zero => rfl
        | succ k ih =>
          simp only [cnt]
          rw [ih (by omega), getD_in (by simp at hk ⊢; omega) (getD_replicate_false _ _)]
          simp
      exact this n (by omega)) hq
  rw [show n + (l.toArray.size - n) = l.toArray.size by omega] at this
  exact this
end

/-! ### The rules of the first operations -/
section
variable {P : Program} {ops : Array Oper} {rest : List Oper} {o : Oper} {a : Act} {w w0 : World} {Q : Act → Prop} {C : World → Prop} {M : List Nat} {L L' : List (Nat × List Value × TypeId)}
theorem wpq_val (hgd : o.guard = none) (v : Value) (hrun : ∀ w', C w' → (execOp a.eval o).run P w' = .ok (.value v) w') (h : wpQuiet P ops C Q rest (a.put o.dst v)) : wpQuiet P ops C Q (o :: rest) a := by
  refine wpQuiet_step fun K hK => ?_
  simp only [Region.wanted, hgd, if_true]
  exact ⟨v, fun w' hw' => by unfold Oper.quietAt; rw [hrun w' hw']; exact ⟨rfl, rfl⟩, hK _ h⟩
theorem wpq_call (hgd : o.guard = none) (c : Go.Call) (ho : o.op = .call c) (f : Operand) (hc : c.callee = .value f) (F : FuncId) (first cap : Array Value) (hf : a.eval f = .func (.func F) first cap)
    (fn : Func) (hF : P.funcs[F]? = some fn) (hn : (fn.name == "runtime.NumGoroutine") = false) (hbd : fn.body.isNone = false) (args : Array Value) (ha : first ++ c.args.map a.eval ++ cap = args) (v : Value)
    (hcall : ∀ w', C w' → Calls P F args w' fun e w'' => e = .returned v ∧ C w'') (h : wpQuiet P ops C Q rest (a.put o.dst v)) : wpQuiet P ops C Q (o :: rest) a := by
  subst ha
  refine wpQuiet_step fun K hK => ?_
  simp only [Region.wanted, hgd, if_true]
  refine ⟨v, fun w' hw' => ?_, hK _ h⟩
  unfold Oper.quietAt execOp
  simp only [ho, resolve, hc, Deferred.ofValue, hf, invoke, callFunc, hF, hn, hbd, Sem.run_bind, Sem.run_pure, run_program, Result.andThen_ok, Bool.false_eq_true, if_false]
  exact ⟨rfl, hcall w' hw'⟩
theorem wpq_move (hgd : o.guard = none) (x : Operand) (ho : o.op = .move x) (v : Value) (hv : a.eval x = v) (h : wpQuiet P ops C Q rest (a.put o.dst v)) : wpQuiet P ops C Q (o :: rest) a :=
  wpq_val hgd v (fun w' _ => by unfold execOp; simp only [ho, hv]; rfl) h
theorem wpq_nil (hgd : o.guard = none) (x : Operand) (ho : o.op = .nilCheck x) (p : Addr) (hv : a.eval x = .pointer (some p)) (h : wpQuiet P ops C Q rest (a.put o.dst (.pointer (some p)))) : wpQuiet P ops C Q (o :: rest) a :=
  wpq_val hgd _ (fun w' _ => by unfold execOp; simp only [ho, hv]; rfl) h
theorem wpq_loadAll (hgd : o.guard = none) (T : TypeId) (x : Operand) (ho : o.op = .load T x) (b : Nat) (hx : a.eval x = .pointer (some ⟨b, 0, none⟩))
    {n : Nat} {z : List Value} (hT : AggT P T n z) (cs : List Value) (U : TypeId) (hb : ∀ w', C w' → Blk w' b cs U) (hl : cs.length = n)
    (h : wpQuiet P ops C Q rest (a.put o.dst (.agg cs.toArray))) : wpQuiet P ops C Q (o :: rest) a :=
  wpq_val hgd _ (fun w' hw' => by
    have hr := run_loadVar_seg hT w' ⟨b, 0, none⟩ cs hl (fun j v hj => by rw [Addr.add_lit, (hb w' hw').cell, Nat.zero_add, hj])
    unfold execOp
    simp only [ho, hx, Instr.loadAt, Instr.sureAddr, Sem.run_bind, Sem.run_pure, Result.andThen_ok, hr]) h
theorem wpq_loadSeg (hgd : o.guard = none) (T : TypeId) (x : Operand) (ho : o.op = .load T x) (p : Addr) (hx : a.eval x = .pointer (some p))
    {n : Nat} {z : List Value} (hT : AggT P T n z) (cs : List Value) (hb : ∀ w', C w' → ∀ j v, cs[j]? = some v → w'.cell? (p.add j) = some v) (hl : cs.length = n)
    (h : wpQuiet P ops C Q rest (a.put o.dst (.agg cs.toArray))) : wpQuiet P ops C Q (o :: rest) a :=
  wpq_val hgd _ (fun w' hw' => by
    have hr := run_loadVar_seg hT w' p cs hl (hb w' hw')
    unfold execOp
    simp only [ho, hx, Instr.loadAt, Instr.sureAddr, Sem.run_bind, Sem.run_pure, Result.andThen_ok, hr]) h
theorem wpq_load1 (hgd : o.guard = none) (T : TypeId) (x : Operand) (ho : o.op = .load T x) (p : Addr) (hx : a.eval x = .pointer (some p))
    {z : Value} (hT : OneT P T z) (v : Value) (hv : ∀ w', C w' → w'.cell? p = some v)
    (h : wpQuiet P ops C Q rest (a.put o.dst v)) : wpQuiet P ops C Q (o :: rest) a :=
  wpq_val hgd _ (fun w' hw' => by
    have hr := run_loadVar_one hT w' p v (hv w' hw')
    unfold execOp
    simp only [ho, hx, Instr.loadAt, Instr.sureAddr, Sem.run_bind, Sem.run_pure, Result.andThen_ok, hr]) h
theorem wpq_indexAddr (hgd : o.guard = none) (T : TypeId) (x ix : Operand) (ho : o.op = .indexAddr T x ix) (b f : Nat) (hx : a.eval x = .pointer (some ⟨b, f, none⟩)) (k : IntKind) (i : Int) (hi : a.eval ix = .int k i)
    {E : TypeId} {n : Nat} {z : Value} (hT : ArrT P T E n z) (j : Nat) (hj : i = j) (h1 : j < n)
    (h : wpQuiet P ops C Q rest (a.put o.dst (.pointer (some ⟨b, f + j, none⟩)))) : wpQuiet P ops C Q (o :: rest) a := by
  subst hj
  have h1' : (j : Int) < n := by omega
  have h0 : (0 : Int) ≤ j := by omega
  exact wpq_val hgd _ (fun w' _ => by
    have hsz := hT.e.sizeOf w'
    unfold execOp
    simp only [ho, hx, hi, Instr.indexAt, Instr.sureAddr, asIntOf, Sem.run_bind, Sem.run_pure, Result.andThen_ok, run_underlying hT.a w', h0, h1', and_self, if_true, hsz, Nat.mul_one, Addr.add_lit, Int.toNat_natCast]) h
theorem wpq_indexAddr0 (hgd : o.guard = none) (T : TypeId) (x ix : Operand) (ho : o.op = .indexAddr T x ix) (b : Nat) (hx : a.eval x = .pointer (some ⟨b, 0, none⟩)) (k : IntKind) (i : Int) (hi : a.eval ix = .int k i)
    {E : TypeId} {n : Nat} {z : Value} (hT : ArrT P T E n z) (j : Nat) (hj : i = j) (h1 : j < n)
    (h : wpQuiet P ops C Q rest (a.put o.dst (.pointer (some ⟨b, j, none⟩)))) : wpQuiet P ops C Q (o :: rest) a :=
  wpq_indexAddr hgd T x ix ho b 0 hx k i hi hT j hj h1 (by rw [Nat.zero_add]; exact h)
theorem wpq_slcAddr (hgd : o.guard = none) (T : TypeId) (x ix : Operand) (ho : o.op = .indexAddr T x ix) (b f m c : Nat) (hx : a.eval x = .slice (some ⟨b, f, none⟩) m c) (k : IntKind) (i : Int) (hi : a.eval ix = .int k i)
    {E : TypeId} {s y : Nat} {z : List Value} (hT : SlcT P T E s y z) (j : Nat) (hj : i = j) (h1 : j < m)
    (h : wpQuiet P ops C Q rest (a.put o.dst (.pointer (some ⟨b, f + j * s, none⟩)))) : wpQuiet P ops C Q (o :: rest) a := by
  subst hj
  have h1' : (j : Int) < m := by omega
  have h0 : (0 : Int) ≤ j := by omega
  exact wpq_val hgd _ (fun w' _ => by
    have hsz := hT.sizeOf w'
    unfold execOp
    simp only [ho, hx, hi, Instr.indexAt, asIntOf, Sem.run_bind, Sem.run_pure, Result.andThen_ok, run_underlying hT.u w', h0, h1', and_self, if_true, hsz, Addr.add_lit, Int.toNat_natCast]) h
/-- A field of a struct, told by where it lies (k). -/
theorem wpq_field (hgd : o.guard = none) (T : TypeId) (x : Operand) (i : Nat) (ho : o.op = .fieldAddr T x i) (b f : Nat) (hx : a.eval x = .pointer (some ⟨b, f, none⟩)) (k : Nat)
    (hf : ∀ (b f : Nat) (w' : World), (Instr.fieldAt T (.pointer (some ⟨b, f, none⟩)) i).run P w' = .ok (.pointer (some ⟨b, f + k, none⟩)) w')
    (h : wpQuiet P ops C Q rest (a.put o.dst (.pointer (some ⟨b, f + k, none⟩)))) : wpQuiet P ops C Q (o :: rest) a :=
  wpq_val hgd _ (fun w' _ => by
    unfold execOp
    simp only [ho, hx, Sem.run_bind, Sem.run_pure, Result.andThen_ok, hf]) h
theorem wpq_conv (hgd : o.guard = none) (S D : TypeId) (x : Operand) (ho : o.op = .convert S D x) (k k' : IntKind) (n m : Int) (hx : a.eval x = .int k n) (hs : (P.underlying S).isSome = true) (hd : P.underlying D = some (.int k')) (hm : k'.wrap n = m)
    (h : wpQuiet P ops C Q rest (a.put o.dst (.int k' m))) : wpQuiet P ops C Q (o :: rest) a := by
  have hk : P.intKind D = k' := by unfold Program.intKind; rw [hd]
  exact wpq_val hgd _ (fun w' _ => by
    have := run_convert_int (P := P) w' S D k n hs (by rw [hk]; exact hd)
    rw [hk, hm] at this
    unfold execOp
    simp only [ho, hx, Sem.run_bind, Sem.run_pure, Result.andThen_ok, this]) h
theorem wpq_bin (hgd : o.guard = none) (op : BinOp) (T : TypeId) (x y : Operand) (U : TypeId) (ho : o.op = .binOp op T x y U) (k k' : IntKind) (n m : Int) (hx : a.eval x = .int k n) (hy : a.eval y = .int k' m) (v : Value)
    (hb : ∀ w', (binOp op T (.int k n) (.int k' m)).run P w' = .ok v w') (h : wpQuiet P ops C Q rest (a.put o.dst v)) : wpQuiet P ops C Q (o :: rest) a :=
  wpq_val hgd _ (fun w' _ => by
    unfold execOp
    simp only [ho, hx, hy, eqGuard_at_int, Sem.run_bind, Sem.run_pure, Result.andThen_ok, hb]) h
theorem wpq_lenSlice (hgd : o.guard = none) (x : Operand) (T : TypeId) (ho : o.op = .call { callee := .builtin .len, args := #[x], argTypes := #[T] }) (b : Option Addr) (n c : Nat) (hx : a.eval x = .slice b n c) (E : TypeId) (hu : P.underlying T = some (.slice E))
    (h : wpQuiet P ops C Q rest (a.put o.dst (.int .i64 n))) : wpQuiet P ops C Q (o :: rest) a := by
  have he : P.elem T = E := by unfold Program.elem; rw [hu]
  exact wpq_val hgd _ (fun w' _ => by
    have := run_len_slice (P := P) w' T o.type b n c (by rw [he]; exact hu)
    unfold execOp
    simp only [ho, resolve, invoke, builtin, Sem.run_bind, Sem.run_pure, Result.andThen_ok, List.map_toArray, List.map_cons, List.map_nil, hx, this]
    rfl) h
theorem qgate_load {T : TypeId} {x : Operand} (_ho : o.op = .load T x) (h : wpQuiet P ops C Q (o :: rest) a) : wpQuiet P ops C Q (o :: rest) a := h
theorem qgate_addr {T : TypeId} {x i : Operand} (_ho : o.op = .indexAddr T x i) (h : wpQuiet P ops C Q (o :: rest) a) : wpQuiet P ops C Q (o :: rest) a := h
theorem qgate_field {T : TypeId} {x : Operand} {i : Nat} (_ho : o.op = .fieldAddr T x i) (h : wpQuiet P ops C Q (o :: rest) a) : wpQuiet P ops C Q (o :: rest) a := h
theorem qgate_conv {S D : TypeId} {x : Operand} (_ho : o.op = .convert S D x) (h : wpQuiet P ops C Q (o :: rest) a) : wpQuiet P ops C Q (o :: rest) a := h
theorem qgate_bin {b : BinOp} {T U : TypeId} {x y : Operand} (_ho : o.op = .binOp b T x y U) (h : wpQuiet P ops C Q (o :: rest) a) : wpQuiet P ops C Q (o :: rest) a := h
theorem qgate_call {c : Go.Call} (_ho : o.op = .call c) (h : wpQuiet P ops C Q (o :: rest) a) : wpQuiet P ops C Q (o :: rest) a := h
theorem qgate_dst {N : Tmp} (_hN : o.dst = some N) (h : wpQuiet P ops C Q (o :: rest) a) : wpQuiet P ops C Q (o :: rest) a := h
end
theorem wp_region_tail_st {P : Program} {id : Nat} {Q : Exit → Act → World → Prop} {a : Act} {w w0 : World} {l : List Oper} {M : List Nat} {L : List (Nat × List Value × TypeId)} (st : St M w0 w L) (n : Nat) (hm : P.follows .mixedOrders = true) (hB : tailB l.toArray n = true)
    (h : wpQuiet P (l.toArray.extract 0 n) (fun w' => St M w0 w' L) (fun a' => ∀ w', St M w0 w' L → wpList P l.toArray Q (l.drop n) a' w') (l.take n) a) : (Code.region id l.toArray true).wp P Q a w :=
  wp_region_keep_tail (C := fun w' => St M w0 w' L) n hm hB (st.call (Keep.drew w)) h
theorem wp_region_quiet_st {P : Program} {id : Nat} {Q : Exit → Act → World → Prop} {a : Act} {w w0 : World} {l : List Oper} {M : List Nat} {L : List (Nat × List Value × TypeId)} (st : St M w0 w L) (hm : P.follows .mixedOrders = true) (hB : Region.lexB .any l.toArray = true)
    (h : wpQuiet P l.toArray (fun w' => St M w0 w' L) (fun a' => ∀ w', St M w0 w' L → Q .normal a' w') l a) : (Code.region id l.toArray true).wp P Q a w :=
  wp_region_quiet (C := fun w' => St M w0 w' L) hm hB (st.call (Keep.drew w)) (by simpa using h)
end Go.Proofs.YtlljflmbnbjccaaGreatDoor
/- More rules for operations in one order: numbers, conversions, fields, parts of a block; no condition. -/
namespace Go.Proofs.YtlljflmbnbjccaaGreatDoor
open Go.RowKit
set_option linter.unusedSimpArgs false
section
variable {P : Program} {ops : Array Oper} {rest : List Oper} {o : Oper} {a : Act} {w w0 : World} {Q : Exit → Act → World → Prop} {M : List Nat} {L L' : List (Nat × List Value × TypeId)}
theorem wpl_val (hgd : o.guard = none) (v : Value) (hrun : (execOp a.eval o).run P w = .ok (.value v) w) (h : wpList P ops Q rest (a.put o.dst v) w) : wpList P ops Q (o :: rest) a w := by
  refine wpList_plain hgd fun K hK => ?_
  unfold Oper.wp
  rw [hrun]
  exact hK _ _ h
theorem wpl_bin (hgd : o.guard = none) (op : BinOp) (T : TypeId) (x y : Operand) (U : TypeId) (ho : o.op = .binOp op T x y U) (k k' : IntKind) (n m : Int) (hx : a.eval x = .int k n) (hy : a.eval y = .int k' m) (v : Value)
    (hb : ∀ w', (binOp op T (.int k n) (.int k' m)).run P w' = .ok v w') (h : wpList P ops Q rest (a.put o.dst v) w) : wpList P ops Q (o :: rest) a w :=
  wpl_val hgd v (by unfold execOp; simp only [ho, hx, hy, eqGuard_at_int, Sem.run_bind, Sem.run_pure, Result.andThen_ok, hb]) h
theorem wpl_conv (hgd : o.guard = none) (S D : TypeId) (x : Operand) (ho : o.op = .convert S D x) (k k' : IntKind) (n m : Int) (hx : a.eval x = .int k n) (hs : (P.underlying S).isSome = true) (hd : P.underlying D = some (.int k')) (hm : k'.wrap n = m)
    (h : wpList P ops Q rest (a.put o.dst (.int k' m)) w) : wpList P ops Q (o :: rest) a w := by
  have hk : P.intKind D = k' := by unfold Program.intKind; rw [hd]
  refine wpl_val hgd _ ?_ h
  have := run_convert_int (P := P) w S D k n hs (by rw [hk]; exact hd)
  rw [hk, hm] at this
  unfold execOp
  simp only [ho, hx, Sem.run_bind, Sem.run_pure, Result.andThen_ok, this]
theorem wpl_field (hgd : o.guard = none) (T : TypeId) (x : Operand) (i : Nat) (ho : o.op = .fieldAddr T x i) (b f : Nat) (hx : a.eval x = .pointer (some ⟨b, f, none⟩)) (k : Nat)
    (hf : ∀ (b f : Nat) (w' : World), (Instr.fieldAt T (.pointer (some ⟨b, f, none⟩)) i).run P w' = .ok (.pointer (some ⟨b, f + k, none⟩)) w')
    (h : wpList P ops Q rest (a.put o.dst (.pointer (some ⟨b, f + k, none⟩))) w) : wpList P ops Q (o :: rest) a w :=
  wpl_val hgd _ (by
    unfold execOp
    simp only [ho, hx, Sem.run_bind, Sem.run_pure, Result.andThen_ok, hf]) h
/-- What lies from a place on, of whosever block. -/
theorem wpl_loadC (hgd : o.guard = none) (T : TypeId) (x : Operand) (ho : o.op = .load T x) (p : Addr) (hx : a.eval x = .pointer (some p))
    {n : Nat} {z : List Value} (hT : AggT P T n z) (cs : List Value) (hl : cs.length = n) (hb : ∀ j v, cs[j]? = some v → w.cell? (p.add j) = some v)
    (h : wpList P ops Q rest (a.put o.dst (.agg cs.toArray)) w) : wpList P ops Q (o :: rest) a w :=
  wpl_val hgd _ (by
    have hr := run_loadVar_seg hT w p cs hl hb
    unfold execOp
    simp only [ho, hx, Instr.loadAt, Instr.sureAddr, Sem.run_bind, Sem.run_pure, Result.andThen_ok, hr]) h
theorem gate_ptr {F : FuncId} {b o : Nat} {R : Ending → World → Prop} (h : Calls P F #[.pointer (some ⟨b, o, none⟩)] w R) : Calls P F #[.pointer (some ⟨b, o, none⟩)] w R := h
theorem gate_bin {b : BinOp} {T U : TypeId} {x y : Operand} (_ho : o.op = .binOp b T x y U) (h : wpList P ops Q (o :: rest) a w) : wpList P ops Q (o :: rest) a w := h
theorem gate_conv {S D : TypeId} {x : Operand} (_ho : o.op = .convert S D x) (h : wpList P ops Q (o :: rest) a w) : wpList P ops Q (o :: rest) a w := h
theorem gate_field {T : TypeId} {x : Operand} {i : Nat} (_ho : o.op = .fieldAddr T x i) (h : wpList P ops Q (o :: rest) a w) : wpList P ops Q (o :: rest) a w := h
end
end Go.Proofs.YtlljflmbnbjccaaGreatDoor
/- A region that draws its order, each order walked with worlds that are variables: one operation at a time by the rules of one order; no condition. -/
namespace Go.Proofs.YtlljflmbnbjccaaGreatDoor
open Go.RowKit
set_option linter.unusedSimpArgs false

/-- Behind one operation. -/
def AftQ (P : Program) (md : Region.Mode) (ops : Array Oper) (Q : Exit → Act → World → Prop) (fuel : Nat) (listed : Array Bool) : Exit → Act → World → Prop
  | .normal, a, w => wpAny P md ops Q fuel listed a w
  | e, a, w => Q e a w
section
variable {P : Program} {ops : Array Oper} {md : Region.Mode} {Q : Exit → Act → World → Prop} {o : Oper} {a : Act} {w : World} {fuel i : Nat} {listed : Array Bool} {rs : List Nat}
theorem upon_aft {next : Act → World → Prop} {r : Result Next} (h : o.upon P a next (AftQ P md ops Q fuel listed) r) : o.upon P a next Q r := by
  cases r with
  | ok v w' =>
    cases v with
    | enter f args => exact Calls.mono (h := h) (fun e w'' he => by cases e <;> exact he)
    | _ => exact h
  | halt e w' =>
    cases e <;> exact h
theorem wpOp_one (ho : ops[i]? = some o) (hg : o.guard = none) (h : wpList P ops (AftQ P md ops Q fuel (listed.setIfInBounds i true)) [o] a w) : wpOp P ops Q i (wpAny P md ops Q fuel (listed.setIfInBounds i true)) a w := by
  unfold wpOp
  rw [ho]
  have hw : ∀ ys, Region.wanted o ys = true := fun ys => by simp [Region.wanted, hg]
  simp only [wpList, hw, if_true] at h ⊢
  rcases h with h | ⟨h1, h2⟩
  · exact Or.inl (upon_aft h)
  · exact Or.inr ⟨h1, h2⟩
theorem AllReady.one (ho : ops[i]? = some o) (hg : o.guard = none) (h : wpList P ops (AftQ P md ops Q fuel (listed.setIfInBounds i true)) [o] a w)
    (hs : AllReady P md ops Q fuel listed a w rs) : AllReady P md ops Q fuel listed a w (i :: rs) := fun j hj => by
  rcases List.mem_cons.1 hj with rfl | hj
  · exact wpOp_one ho hg h
  · exact hs j hj
theorem drop_get {l rest : List Oper} (ho : l.drop i = o :: rest) : l.toArray[i]? = some o := by
  have h := List.getElem?_drop (xs := l) (i := i) (j := 0)
  rw [ho] at h
  simpa using h.symm
theorem AllReady.one' {l rest : List Oper} (ho : l.drop i = o :: rest) (hg : o.guard = none) (h : wpList P l.toArray (AftQ P md l.toArray Q fuel (listed.setIfInBounds i true)) [o] a w)
    (hs : AllReady P md l.toArray Q fuel listed a w rs) : AllReady P md l.toArray Q fuel listed a w (i :: rs) := AllReady.one (drop_get ho) hg h hs
theorem wpList_aft (h : wpAny P md ops Q fuel listed a w) : wpList P ops (AftQ P md ops Q fuel listed) [] a w := h
theorem LetsOut.mono {Q Q' : Exit → Act → World → Prop} (hQ : ∀ e a w, Q e a w → Q' e a w) (h : LetsOut Q) : LetsOut Q' := by
  obtain ⟨a, w, h⟩ := h
  exact ⟨a, w, hQ _ _ _ h⟩
theorem upon_mono2 {Q Q' : Exit → Act → World → Prop} (hQ : ∀ e a w, Q e a w → Q' e a w) {K K' : Act → World → Prop} (hK : ∀ a w, K a w → K' a w) {r : Result Next} (h : o.upon P a K Q r) : o.upon P a K' Q' r := by
  cases r with
  | ok v w' =>
    cases v with
    | enter f args =>
      refine Calls.mono (h := h) (fun e w'' he => ?_)
      cases e with
      | returned v => exact hK _ _ he
      | panicked c => exact hQ _ _ _ he
      | outgrown => exact LetsOut.mono hQ he
    | row r args => exact Rows.mono (h := h) (fun v w'' he => hK _ _ he)
    | value v => exact hK _ _ h
    | skip => exact hK _ _ h
    | defer d => exact hK _ _ h
    | _ => exact h
  | halt e w' =>
    cases e with
    | panic v => exact hQ _ _ _ h
    | _ => exact h
theorem wpAny_mono {Q Q' : Exit → Act → World → Prop} (hQ : ∀ e a w, Q e a w → Q' e a w) : ∀ (fuel : Nat) (listed : Array Bool) (a : Act) (w : World), wpAny P md ops Q fuel listed a w → wpAny P md ops Q' fuel listed a w
  | 0, _, _, _, h => ⟨h.1, hQ _ _ _ h.2⟩
  | fuel + 1, listed, a, w, h => by
    refine ⟨fun h0 => hQ _ _ _ (h.1 h0), fun i hi => ?_⟩
    have h1 := h.2 i hi
    unfold wpOp at h1 ⊢
    cases ho : ops[i]? with
    | none => rw [ho] at h1; exact wpAny_mono hQ fuel _ a w h1
    | some o =>
      rw [ho] at h1
      simp only at h1 ⊢
      by_cases hw : Region.wanted o (yielded ops a.tmps) = true
      · rw [if_pos hw] at h1 ⊢
        rcases h1 with h1 | ⟨h2, h3⟩
        · exact Or.inl (upon_mono2 hQ (fun a w h => wpAny_mono hQ fuel _ a w h) h1)
        · exact Or.inr ⟨h2, LetsOut.mono hQ h3⟩
      · rw [if_neg hw] at h1 ⊢
        exact wpAny_mono hQ fuel _ _ w h1
theorem take_pure {v : Value} {oi : Oper} (hi : ops[i]? = some oi) (hs : Region.noSelect ops = true) (hf : Region.free md ops listed i = true) (hr : (Region.ready md ops listed).contains i = true)
    (hQ : ∀ c a w, Q (.panic c) (a.put oi.dst v) w → Q (.panic c) a w) (hg : oi.guard = none) (hy : ∀ w, (execOp a.eval oi).run P w = .ok (.value v) w)
    (h : wpAny P md ops Q fuel (listed.setIfInBounds i true) (a.put oi.dst v) w) : wpAny P md ops Q (fuel + 1) listed a w :=
  wpAny_take hi hs hf hr hQ (Or.inl ⟨by simp [Region.wanted, hg], hy⟩) h
theorem take_pure' {l rest : List Oper} {v : Value} {oi : Oper} (hi : l.drop i = oi :: rest) (hs : Region.noSelect l.toArray = true) (hf : Region.free md l.toArray listed i = true) (hr : (Region.ready md l.toArray listed).contains i = true)
    (hQ : ∀ c a w, Q (.panic c) (a.put oi.dst v) w → Q (.panic c) a w) (hg : oi.guard = none) (hy : ∀ w, (execOp a.eval oi).run P w = .ok (.value v) w)
    (h : wpAny P md l.toArray Q fuel (listed.setIfInBounds i true) (a.put oi.dst v) w) : wpAny P md l.toArray Q (fuel + 1) listed a w := take_pure (drop_get hi) hs hf hr hQ hg hy h
theorem gate_nil (h : AllReady P md ops Q fuel listed a w []) : AllReady P md ops Q fuel listed a w [] := h
theorem gate_cons (h : AllReady P md ops Q fuel listed a w (i :: rs)) : AllReady P md ops Q fuel listed a w (i :: rs) := h
theorem gate_any (h : wpAny P md ops Q fuel listed a w) : wpAny P md ops Q fuel listed a w := h
theorem gate_move {x : Operand} {rest : List Oper} (_ho : o.op = .move x) (h : wpList P ops Q (o :: rest) a w) : wpList P ops Q (o :: rest) a w := h
theorem gate_assign {x : Operand} {rest : List Oper} (_ho : o.op = .assign x) (h : wpList P ops Q (o :: rest) a w) : wpList P ops Q (o :: rest) a w := h
theorem gate_extract {x : Operand} {k : Nat} {rest : List Oper} (_ho : o.op = .extract x k) (h : wpList P ops Q (o :: rest) a w) : wpList P ops Q (o :: rest) a w := h
theorem gate_rdy {fuel : Nat} (i : Nat) (_hr : (Region.ready md ops listed).contains i = true) (h : wpAny P md ops Q fuel listed a w) : wpAny P md ops Q fuel listed a w := h
/-- Where all orders meet. -/
def Meet (f : Nat → Act) (Lf : Nat → List (Nat × List Value × TypeId)) (M : List Nat) (w0 : World) : Exit → Act → World → Prop
  | .normal, a', w' => ∃ B, a' = f B ∧ St M w0 w' (Lf B)
  | _, _, _ => False
theorem wp_region_meet {id : Nat} {w0 : World} {M : List Nat} {L : List (Nat × List Value × TypeId)} {l : List Oper} (st : St M w0 w L) (n : Nat) (hn : l.length = n) (hm : P.follows .mixedOrders = true) (f : Nat → Act) (Lf : Nat → List (Nat × List Value × TypeId))
    (h : ∀ w', St M w0 w' L → wpAny P .any l.toArray (Meet f Lf M w0) n (Array.replicate n false) a w')
    (hQ : ∀ B w', St M w0 w' (Lf B) → Q .normal (f B) w') : (Code.region id l.toArray true).wp P Q a w := by
  subst hn
  refine wp_region_any hm ?_
  refine wpAny_mono ?_ _ _ _ _ (by have := h _ (st.call (Keep.drew w)); simpa using this)
  intro e a' w' hp
  cases e <;> first | (obtain ⟨B, rfl, st'⟩ := hp; exact hQ B w' st') | exact hp.elim
end
end Go.Proofs.YtlljflmbnbjccaaGreatDoor
/- A region that draws its order, where all orders meet in one frame of slots; no condition. -/
namespace Go.Proofs.YtlljflmbnbjccaaGreatDoor
open Go.RowKit
set_option linter.unusedSimpArgs false
def Meet0 (f : Act) (L' : List (Nat × List Value × TypeId)) (M : List Nat) (w0 : World) : Exit → Act → World → Prop
  | .normal, a', w' => a' = f ∧ St M w0 w' L'
  | _, _, _ => False
section
variable {P : Program} {Q : Exit → Act → World → Prop} {a : Act} {w : World}
theorem wp_region_meet0 {id : Nat} {w0 : World} {M : List Nat} {L : List (Nat × List Value × TypeId)} {l : List Oper} (st : St M w0 w L) (n : Nat) (hn : l.length = n) (hm : P.follows .mixedOrders = true) (f : Act) (L' : List (Nat × List Value × TypeId))
    (h : ∀ w', St M w0 w' L → wpAny P .any l.toArray (Meet0 f L' M w0) n (Array.replicate n false) a w')
    (hQ : ∀ w', St M w0 w' L' → Q .normal f w') : (Code.region id l.toArray true).wp P Q a w := by
  subst hn
  refine wp_region_any hm ?_
  refine wpAny_mono ?_ _ _ _ _ (by have := h _ (st.call (Keep.drew w)); simpa using this)
  intro e a' w' hp
  cases e <;> first | (obtain ⟨rfl, st'⟩ := hp; exact hQ w' st') | exact hp.elim
theorem slcAddr0_run {o : Oper} (T : TypeId) (x ix : Operand) (ho : o.op = .indexAddr T x ix) (b m c : Nat) (hx : a.eval x = .slice (some ⟨b, 0, none⟩) m c) (k : IntKind) (i : Int) (hi : a.eval ix = .int k i)
    {E : TypeId} {y : Nat} {z : List Value} (hT : SlcT P T E 1 y z) (j : Nat) (hj : i = j) (h1 : j < m) : ∀ w : World, (execOp a.eval o).run P w = .ok (.value (.pointer (some ⟨b, 0 + j, none⟩))) w := by
  subst hj
  intro w
  have hsz := hT.sizeOf w
  have h1' : (j : Int) < m := by omega
  have h0 : (0 : Int) ≤ j := by omega
  unfold execOp
  simp only [ho, hx, hi, Instr.indexAt, asIntOf, Sem.run_bind, Sem.run_pure, Result.andThen_ok, run_underlying hT.u w, h0, h1', and_self, if_true, hsz, Addr.add_lit, Int.toNat_natCast, Nat.mul_one]
end
end Go.Proofs.YtlljflmbnbjccaaGreatDoor
/- A region that draws its order: what only reads is taken first, the rest walked in every order; worlds are variables; no condition. -/
namespace Go.Proofs.YtlljflmbnbjccaaGreatDoor
open Go.RowKit
set_option linter.unusedSimpArgs false
def AftH (P : Program) (md : Region.Mode) (ops : Array Oper) (Q : Exit → Act → World → Prop) (S : World → Prop) (fuel : Nat) (listed : Array Bool) : Exit → Act → World → Prop
  | .normal, a, w => S w ∧ wpAnyH P md ops Q S fuel listed a w
  | e, a, w => Q e a w
section
variable {P : Program} {ops : Array Oper} {md : Region.Mode} {Q : Exit → Act → World → Prop} {S : World → Prop} {o : Oper} {a : Act} {w : World} {fuel i : Nat} {listed : Array Bool} {rs : List Nat} {l : List Oper}
theorem upon_aftH {next : Act → World → Prop} {r : Result Next} (h : o.upon P a next (AftH P md ops Q S fuel listed) r) : o.upon P a next Q r := by
  cases r with
  | ok v w' =>
    cases v with
    | enter f args => exact Calls.mono (h := h) (fun e w'' he => by cases e <;> exact he)
    | _ => exact h
  | halt e w' =>
    cases e <;> exact h
/-- All that may come up. -/
def AllH (P : Program) (md : Region.Mode) (ops : Array Oper) (Q : Exit → Act → World → Prop) (S : World → Prop) (fuel : Nat) (listed : Array Bool) (a : Act) (w : World) (rs : List Nat) : Prop :=
  ∀ i ∈ rs, wpOp P ops Q i (fun a' w' => S w' ∧ wpAnyH P md ops Q S fuel (listed.setIfInBounds i true) a' w') a w
theorem AllH.nil : AllH P md ops Q S fuel listed a w [] := fun _ h => by cases h
theorem AllH.one {rest : List Oper} (ho : l.drop i = o :: rest) (hg : o.guard = none) (h : wpList P l.toArray (AftH P md l.toArray Q S fuel (listed.setIfInBounds i true)) [o] a w)
    (hs : AllH P md l.toArray Q S fuel listed a w rs) : AllH P md l.toArray Q S fuel listed a w (i :: rs) := fun j hj => by
  rcases List.mem_cons.1 hj with rfl | hj
  · unfold wpOp
    rw [drop_get ho]
    have hw : ∀ ys, Region.wanted o ys = true := fun ys => by simp [Region.wanted, hg]
    simp only [wpList, hw, if_true] at h ⊢
    rcases h with h | ⟨h1, h2⟩
    · exact Or.inl (upon_aftH h)
    · exact Or.inr ⟨h1, h2⟩
  · exact hs j hj
theorem anyH_ready (hr : Region.ready md ops listed = rs) (hne : rs ≠ []) (h : AllH P md ops Q S fuel listed a w rs) : wpAnyH P md ops Q S (fuel + 1) listed a w := wpAnyH_all hr hne h
theorem wpList_aftH (hS : S w) (h : wpAnyH P md ops Q S fuel listed a w) : wpList P ops (AftH P md ops Q S fuel listed) [] a w := ⟨hS, h⟩
theorem takeH {rest : List Oper} {v : Value} {oi : Oper} (hi : l.drop i = oi :: rest) (hs : Region.noSelect l.toArray = true) (hf : Region.free md l.toArray listed i = true) (hr : (Region.ready md l.toArray listed).contains i = true)
    (hQ : ∀ c a w, Q (.panic c) (a.put oi.dst v) w → Q (.panic c) a w) (hg : oi.guard = none) (hy : ∀ w, S w → (execOp a.eval oi).run P w = .ok (.value v) w) (hS : S w)
    (h : wpAnyH P md l.toArray Q S fuel (listed.setIfInBounds i true) (a.put oi.dst v) w) : wpAnyH P md l.toArray Q S (fuel + 1) listed a w :=
  wpAnyH_take (drop_get hi) hs hf hr hQ (Or.inl ⟨by simp [Region.wanted, hg], hy⟩) hS h
/-- Where all orders meet: two new blocks. -/
def Meet2 (f : Nat → Nat → Act) (Lf : Nat → Nat → List (Nat × List Value × TypeId)) (M : List Nat) (w0 : World) : Exit → Act → World → Prop
  | .normal, a', w' => ∃ B B', a' = f B B' ∧ St M w0 w' (Lf B B')
  | _, _, _ => False
variable {id : Nat} {w0 : World} {M : List Nat} {L : List (Nat × List Value × TypeId)}
theorem wp_region_meetH (st : St M w0 w L) (n : Nat) (hn : l.length = n) (hm : P.follows .mixedOrders = true) (f : Nat → Act) (Lf : Nat → List (Nat × List Value × TypeId))
    (h : ∀ w', St M w0 w' L → wpAnyH P .any l.toArray (Meet f Lf M w0) (fun w' => St M w0 w' L) n (Array.replicate n false) a w')
    (hQ : ∀ B w', St M w0 w' (Lf B) → Q .normal (f B) w') : (Code.region id l.toArray true).wp P Q a w :=
  wp_region_meet st n hn hm f Lf (fun w' st' => wpAny_of_held _ _ _ _ (h w' st')) hQ
theorem wp_region_meetH2 (st : St M w0 w L) (n : Nat) (hn : l.length = n) (hm : P.follows .mixedOrders = true) (f : Nat → Nat → Act) (Lf : Nat → Nat → List (Nat × List Value × TypeId))
    (h : ∀ w', St M w0 w' L → wpAnyH P .any l.toArray (Meet2 f Lf M w0) (fun w' => St M w0 w' L) n (Array.replicate n false) a w')
    (hQ : ∀ B B' w', St M w0 w' (Lf B B') → Q .normal (f B B') w') : (Code.region id l.toArray true).wp P Q a w := by
  subst hn
  refine wp_region_any hm ?_
  refine wpAny_mono ?_ _ _ _ _ (by have := wpAny_of_held _ _ _ _ (h _ (st.call (Keep.drew w))); simpa using this)
  intro e a' w' hp
  cases e <;> first | (obtain ⟨B, B', rfl, st'⟩ := hp; exact hQ B B' w' st') | exact hp.elim
theorem St.swap {x y : Nat × List Value × TypeId} (st : St M w0 w (x :: y :: L)) : St M w0 w (y :: x :: L) :=
  ⟨st.keep, fun p hp => st.has p (by simp only [List.mem_cons] at hp ⊢; rcases hp with h | h | h <;> simp [h]), fun p hp => st.ge p (by simp only [List.mem_cons] at hp ⊢; rcases hp with h | h | h <;> simp [h]), by
    have := st.nd
    simp only [List.map_cons, List.nodup_cons, List.mem_cons, not_or] at this ⊢
    exact ⟨⟨fun e => this.1.1 e.symm, this.2.1⟩, this.1.2, this.2.2⟩⟩
theorem load1_run {T : TypeId} {x : Operand} (ho : o.op = .load T x) (p : Addr) (hx : a.eval x = .pointer (some p)) {z : Value} (hT : OneT P T z) (v : Value) (hv : w.cell? p = some v) : (execOp a.eval o).run P w = .ok (.value v) w := by
  have hr := run_loadVar_one hT w p v hv
  unfold execOp
  simp only [ho, hx, Instr.loadAt, Instr.sureAddr, Sem.run_bind, Sem.run_pure, Result.andThen_ok, hr]
theorem loadAll_run {T : TypeId} {x : Operand} (ho : o.op = .load T x) (b : Nat) (hx : a.eval x = .pointer (some ⟨b, 0, none⟩)) {n : Nat} {z : List Value} (hT : AggT P T n z) (cs : List Value) (U : TypeId) (hb : Blk w b cs U) (hl : cs.length = n) : (execOp a.eval o).run P w = .ok (.value (.agg cs.toArray)) w := by
  have hr := run_loadVar_seg hT w ⟨b, 0, none⟩ cs hl (fun j v hj => by rw [Addr.add_lit, hb.cell, Nat.zero_add, hj])
  unfold execOp
  simp only [ho, hx, Instr.loadAt, Instr.sureAddr, Sem.run_bind, Sem.run_pure, Result.andThen_ok, hr]
theorem field_run {T : TypeId} {x : Operand} {i : Nat} (ho : o.op = .fieldAddr T x i) (b f : Nat) (hx : a.eval x = .pointer (some ⟨b, f, none⟩)) (k : Nat)
    (hf : ∀ (b f : Nat) (w' : World), (Instr.fieldAt T (.pointer (some ⟨b, f, none⟩)) i).run P w' = .ok (.pointer (some ⟨b, f + k, none⟩)) w') : (execOp a.eval o).run P w = .ok (.value (.pointer (some ⟨b, f + k, none⟩))) w := by
  unfold execOp
  simp only [ho, hx, Sem.run_bind, Sem.run_pure, Result.andThen_ok, hf]
theorem conv_run {Sr D : TypeId} {x : Operand} (ho : o.op = .convert Sr D x) (k k' : IntKind) (n m : Int) (hx : a.eval x = .int k n) (hs : (P.underlying Sr).isSome = true) (hd : P.underlying D = some (.int k')) (hm : k'.wrap n = m) : (execOp a.eval o).run P w = .ok (.value (.int k' m)) w := by
  have hk : P.intKind D = k' := by unfold Program.intKind; rw [hd]
  have := run_convert_int (P := P) w Sr D k n hs (by rw [hk]; exact hd)
  rw [hk, hm] at this
  unfold execOp
  simp only [ho, hx, Sem.run_bind, Sem.run_pure, Result.andThen_ok, this]
theorem bin_run {op : BinOp} {T U : TypeId} {x y : Operand} (ho : o.op = .binOp op T x y U) (k k' : IntKind) (n m : Int) (hx : a.eval x = .int k n) (hy : a.eval y = .int k' m) (v : Value) (hb : (binOp op T (.int k n) (.int k' m)).run P w = .ok v w) : (execOp a.eval o).run P w = .ok (.value v) w := by
  unfold execOp
  simp only [ho, hx, hy, eqGuard_at_int, Sem.run_bind, Sem.run_pure, Result.andThen_ok, hb]
end
end Go.Proofs.YtlljflmbnbjccaaGreatDoor
/- Frames of dots as lists of twelve numbers, by plain mathematics; no condition. -/
namespace Go.Proofs.YtlljflmbnbjccaaGreatDoor
open Go.RowKit

/-- Row y. -/
def ro (f : List Nat) (y : Nat) : Nat := f.getD y 0
theorem ro_get (f : List Nat) (k : Nat) (h : k < f.length) : ro f k = f[k] := by simp [ro, h]
theorem ro_some (f : List Nat) (k : Nat) (h : k < f.length) : f[k]? = some (ro f k) := by rw [ro_get f k h, List.getElem?_eq_getElem h]
/-- The empty frame. -/
def zf : List Nat := List.replicate 12 0
theorem zf_length : zf.length = 12 := rfl
/-- A list of twelve numbers of 16 bits. -/
structure FrOk (f : List Nat) : Prop where
  len : f.length = 12
  lt : ∀ x ∈ f, x < 65536
theorem FrOk.ro_lt {f : List Nat} (h : FrOk f) (y : Nat) : ro f y < 65536 := by
  unfold ro
  rw [List.getD_eq_getElem?_getD]
  by_cases hy : y < f.length
  · rw [List.getElem?_eq_getElem hy]; exact h.lt _ (List.getElem_mem hy)
  · rw [List.getElem?_eq_none (by omega)]; decide
/-- The frame is valid. -/
def okB (f : List Nat) : Bool := f.all fun r => decide (r ≤ 4095)
theorem okB_ro {f : List Nat} (h : okB f = true) (y : Nat) : ro f y < 4096 := by
  unfold ro
  rw [List.getD_eq_getElem?_getD]
  by_cases hy : y < f.length
  · rw [List.getElem?_eq_getElem hy]
    have := List.all_eq_true.1 h _ (List.getElem_mem hy)
    simp at this ⊢; omega
  · rw [List.getElem?_eq_none (by omega)]; decide
theorem okB_of {f : List Nat} (h : ∀ y, y < f.length → ro f y ≤ 4095) : okB f = true := by
  unfold okB
  rw [List.all_eq_true]
  intro x hx
  obtain ⟨i, hi, rfl⟩ := List.mem_iff_getElem.1 hx
  have := h i hi
  rw [ro_get f i hi] at this
  simpa using this
theorem okB_not {f : List Nat} {y : Nat} (h : 4095 < ro f y) : okB f = false := by
  rw [Bool.eq_false_iff]
  intro hb
  have := okB_ro hb y
  omega

theorem fr_ext {f g : List Nat} (hf : f.length = 12) (hg : g.length = 12) (h : ∀ y, y < 12 → ro f y = ro g y) : f = g := by
  apply List.ext_getElem (by omega)
  intro i h1 h2
  have := h i (by omega)
  rwa [ro_get f i h1, ro_get g i h2] at this
theorem ro_set (f : List Nat) (k n y : Nat) (hk : k < f.length) : ro (f.set k n) y = if y = k then n else ro f y := by
  unfold ro
  simp only [List.getD_eq_getElem?_getD, List.getElem?_set]
  by_cases e : y = k
  · subst e; simp [hk]
  · rw [if_neg (fun h => e h.symm), if_neg e]

/-- The row of a test: its bits below n. -/
def rowOf (q : Nat → Bool) : Nat → Nat
  | 0 => 0
  | n + 1 => rowOf q n ||| (if q n then 2 ^ n else 0)
theorem testBit_rowOf (q : Nat → Bool) (n x : Nat) : (rowOf q n).testBit x = (decide (x < n) && q x) := by
  induction n with
  | zero => simp [rowOf]
  | succ n ih =>
    rw [rowOf, Nat.testBit_or, ih]
    by_cases hx : x = n
    · subst hx
      by_cases hq : q x <;> simp [hq]
    · by_cases hq : q n
      · rw [if_pos hq, Nat.testBit_two_pow]
        by_cases h1 : x < n
        · simp [h1, show x < n + 1 by omega, show ¬ n = x by omega]
        · simp [h1, show ¬ x < n + 1 by omega]; omega
      · simp only [hq, Bool.false_eq_true, if_false, Nat.zero_testBit, Bool.or_false]
        by_cases h1 : x < n
        · simp [h1, show x < n + 1 by omega]
        · simp [h1, show ¬ x < n + 1 by omega]
theorem rowOf_lt (q : Nat → Bool) (n : Nat) : rowOf q n < 2 ^ n := by
  apply Nat.lt_pow_two_of_testBit
  intro i hi
  rw [testBit_rowOf]
  simp; omega
/-- The frame that has a dot wherever p is true. -/
def mk (p : Nat → Nat → Bool) : List Nat := (List.range 12).map fun y => rowOf (fun x => p x y) 12
theorem mk_length (p : Nat → Nat → Bool) : (mk p).length = 12 := by simp [mk]
theorem ro_mk (p : Nat → Nat → Bool) (y : Nat) (hy : y < 12) : ro (mk p) y = rowOf (fun x => p x y) 12 := by
  rw [ro_get _ _ (by rw [mk_length]; exact hy)]; simp [mk]
theorem mk_ok (p : Nat → Nat → Bool) : okB (mk p) = true := by
  apply okB_of
  intro y hy
  rw [mk_length] at hy
  rw [ro_mk p y hy]
  have := rowOf_lt (fun x => p x y) 12
  omega
theorem mk_frOk (p : Nat → Nat → Bool) : FrOk (mk p) := ⟨mk_length p, fun x hx => by
  obtain ⟨y, _, rfl⟩ := List.mem_map.1 hx
  have := rowOf_lt (fun x => p x y) 12
  omega⟩
theorem row_ext {a b : Nat} (ha : a < 4096) (hb : b < 4096) (h : ∀ x, x < 12 → a.testBit x = b.testBit x) : a = b := by
  apply Nat.eq_of_testBit_eq
  intro i
  by_cases hi : i < 12
  · exact h i hi
  · have e : 2 ^ 12 ≤ 2 ^ i := Nat.pow_le_pow_right (by omega) (by omega)
    rw [Nat.testBit_lt_two_pow (by omega), Nat.testBit_lt_two_pow (by omega)]
theorem mk_congr {p q : Nat → Nat → Bool} (h : ∀ x y, x < 12 → y < 12 → p x y = q x y) : mk p = mk q := by
  refine fr_ext (mk_length p) (mk_length q) fun y hy => ?_
  rw [ro_mk p y hy, ro_mk q y hy]
  refine row_ext (rowOf_lt _ 12) (rowOf_lt _ 12) fun x hx => ?_
  rw [testBit_rowOf, testBit_rowOf, h x y hx hy]

/-- There is a dot at x, y. -/
def hasD (f : List Nat) (x y : Nat) : Bool := decide (x < 12) && decide (y < 12) && (ro f y).testBit x
def hasI (f : List Nat) (x y : Int) : Bool := decide (0 ≤ x ∧ x < 12 ∧ 0 ≤ y ∧ y < 12) && (ro f y.toNat).testBit x.toNat
theorem hasI_nat (f : List Nat) (x y : Nat) : hasI f x y = hasD f x y := by
  unfold hasI hasD
  simp only [Int.toNat_natCast]
  congr 1
  by_cases h1 : x < 12 <;> by_cases h2 : y < 12 <;> simp [h1, h2] <;> omega
theorem hasD_in (f : List Nat) {x y : Nat} (hx : x < 12) (hy : y < 12) : hasD f x y = (ro f y).testBit x := by simp [hasD, hx, hy]
theorem hasD_mk (p : Nat → Nat → Bool) {x y : Nat} (hx : x < 12) (hy : y < 12) : hasD (mk p) x y = p x y := by
  rw [hasD_in _ hx hy, ro_mk p y hy, testBit_rowOf]; simp [hx]
theorem mk_hasD {f : List Nat} (hl : f.length = 12) (hf : okB f = true) : mk (hasD f) = f := by
  refine fr_ext (mk_length _) hl fun y hy => ?_
  rw [ro_mk _ y hy]
  refine row_ext (rowOf_lt _ 12) (okB_ro hf y) fun x hx => ?_
  rw [testBit_rowOf]; simp [hasD, hx, hy]
theorem fr_eq_mk {f : List Nat} {p : Nat → Nat → Bool} (hl : f.length = 12) (hf : okB f = true) (h : ∀ x y, x < 12 → y < 12 → hasD f x y = p x y) : f = mk p := by
  rw [← mk_hasD hl hf]; exact mk_congr h

/-- A dot is put. -/
def withD (f : List Nat) (x y : Nat) : List Nat := f.set y (ro f y ||| 2 ^ x)
theorem withD_length (f : List Nat) (x y : Nat) : (withD f x y).length = f.length := by simp [withD]
theorem hasD_withD (f : List Nat) (hl : f.length = 12) {x y x' y' : Nat} (hy : y < 12) (hx' : x' < 12) (hy' : y' < 12) :
    hasD (withD f x y) x' y' = (hasD f x' y' || (decide (x' = x) && decide (y' = y))) := by
  rw [hasD_in _ hx' hy', hasD_in _ hx' hy', withD, ro_set _ _ _ _ (by omega)]
  by_cases e : y' = y
  · subst e
    rw [if_pos rfl, Nat.testBit_or, Nat.testBit_two_pow]
    by_cases e2 : x' = x
    · simp [e2]
    · simp [e2]; omega
  · simp [e]
theorem withD_ok {f : List Nat} (hl : f.length = 12) (hf : okB f = true) {x y : Nat} (hx : x < 12) (hy : y < 12) : okB (withD f x y) = true := by
  apply okB_of
  intro k hk
  rw [withD, ro_set _ _ _ _ (by omega)]
  have h1 := okB_ro hf y
  have h2 := okB_ro hf k
  have h3 : ro f y ||| 2 ^ x < 2 ^ 12 := Nat.or_lt_two_pow (by omega) (Nat.pow_lt_pow_right (by omega) hx)
  split <;> omega
theorem withD_mk (p : Nat → Nat → Bool) {x y : Nat} (hx : x < 12) (hy : y < 12) : withD (mk p) x y = mk fun x' y' => p x' y' || (decide (x' = x) && decide (y' = y)) := by
  refine fr_eq_mk (by rw [withD_length, mk_length]) (withD_ok (mk_length p) (mk_ok p) hx hy) fun x' y' hx' hy' => ?_
  rw [hasD_withD _ (mk_length p) hy hx' hy', hasD_mk p hx' hy']

/-- The dots of p among the first n places (row by row). -/
def upTo (p : Nat → Nat → Bool) (n : Nat) : Nat → Nat → Bool := fun x y => decide (12 * y + x < n) && p x y
theorem upTo_zero (p : Nat → Nat → Bool) : mk (upTo p 0) = zf := by
  rw [show zf = mk fun _ _ => false by decide]
  exact mk_congr fun x y _ _ => by simp [upTo]
theorem upTo_all (p : Nat → Nat → Bool) : mk (upTo p 144) = mk p := mk_congr fun x y hx hy => by simp [upTo]; intro _; omega
theorem upTo_hit (p : Nat → Nat → Bool) {x y : Nat} (hx : x < 12) (hy : y < 12) (h : p x y = true) : withD (mk (upTo p (12 * y + x))) x y = mk (upTo p (12 * y + (x + 1))) := by
  rw [withD_mk _ hx hy]
  refine mk_congr fun x' y' hx' hy' => ?_
  unfold upTo
  by_cases e : x' = x ∧ y' = y
  · obtain ⟨rfl, rfl⟩ := e
    simp [h]
  · have e' : (decide (x' = x) && decide (y' = y)) = false := by
      simp only [Bool.and_eq_false_iff, decide_eq_false_iff_not]
      by_cases e1 : x' = x
      · exact Or.inr fun e2 => e ⟨e1, e2⟩
      · exact Or.inl e1
    rw [e', Bool.or_false]
    congr 1
    by_cases e1 : 12 * y' + x' < 12 * y + x
    · simp [e1, show 12 * y' + x' < 12 * y + (x + 1) by omega]
    · have : ¬ 12 * y' + x' < 12 * y + (x + 1) := by
        intro h2; apply e; omega
      simp [e1, this]
theorem upTo_miss (p : Nat → Nat → Bool) {x y : Nat} (hx : x < 12) (hy : y < 12) (h : p x y = false) : mk (upTo p (12 * y + x)) = mk (upTo p (12 * y + (x + 1))) := by
  refine mk_congr fun x' y' hx' hy' => ?_
  unfold upTo
  by_cases e : x' = x ∧ y' = y
  · obtain ⟨rfl, rfl⟩ := e
    simp [h]
  · congr 1
    by_cases e1 : 12 * y' + x' < 12 * y + x
    · simp [e1, show 12 * y' + x' < 12 * y + (x + 1) by omega]
    · have : ¬ 12 * y' + x' < 12 * y + (x + 1) := by
        intro h2; apply e; omega
      simp [e1, this]

/-- The dots among the first n places. -/
def dotsTo (f : List Nat) (n : Nat) : List (Nat × Nat) := ((List.range n).filter fun i => hasD f (i % 12) (i / 12)).map fun i => (i % 12, i / 12)
def dots (f : List Nat) : List (Nat × Nat) := dotsTo f 144
theorem dotsTo_hit (f : List Nat) {x y : Nat} (hx : x < 12) (h : hasD f x y = true) : dotsTo f (12 * y + (x + 1)) = dotsTo f (12 * y + x) ++ [(x, y)] := by
  have e1 : (12 * y + x) % 12 = x := by omega
  have e2 : (12 * y + x) / 12 = y := by omega
  unfold dotsTo
  rw [show 12 * y + (x + 1) = (12 * y + x) + 1 by omega, List.range_succ, List.filter_append, List.map_append]
  simp [e1, e2, h]
theorem dotsTo_miss (f : List Nat) {x y : Nat} (hx : x < 12) (h : hasD f x y = false) : dotsTo f (12 * y + (x + 1)) = dotsTo f (12 * y + x) := by
  have e1 : (12 * y + x) % 12 = x := by omega
  have e2 : (12 * y + x) / 12 = y := by omega
  unfold dotsTo
  rw [show 12 * y + (x + 1) = (12 * y + x) + 1 by omega, List.range_succ, List.filter_append, List.map_append]
  simp [e1, e2, h]
theorem dotsTo_length (f : List Nat) (n : Nat) : (dotsTo f n).length ≤ n := by
  unfold dotsTo
  rw [List.length_map]
  exact Nat.le_trans (List.length_filter_le _ _) (by simp)
theorem mem_dots {f : List Nat} {d : Nat × Nat} : d ∈ dots f ↔ d.1 < 12 ∧ d.2 < 12 ∧ hasD f d.1 d.2 = true := by
  unfold dots dotsTo
  simp only [List.mem_map, List.mem_filter, List.mem_range]
  constructor
  · rintro ⟨i, ⟨h1, h2⟩, rfl⟩
    exact ⟨by simp only; omega, by simp only; omega, h2⟩
  · rintro ⟨h1, h2, h3⟩
    refine ⟨12 * d.2 + d.1, ⟨by omega, ?_⟩, ?_⟩
    · rw [show (12 * d.2 + d.1) % 12 = d.1 by omega, show (12 * d.2 + d.1) / 12 = d.2 by omega]; exact h3
    · rw [show (12 * d.2 + d.1) % 12 = d.1 by omega, show (12 * d.2 + d.1) / 12 = d.2 by omega]
theorem any_dots (f : List Nat) (P : Nat × Nat → Bool) : (dots f).any P = true ↔ ∃ x y, x < 12 ∧ y < 12 ∧ hasD f x y = true ∧ P (x, y) = true := by
  rw [List.any_eq_true]
  constructor
  · rintro ⟨d, hd, hP⟩
    obtain ⟨h1, h2, h3⟩ := mem_dots.1 hd
    exact ⟨d.1, d.2, h1, h2, h3, hP⟩
  · rintro ⟨x, y, h1, h2, h3, hP⟩
    exact ⟨(x, y), mem_dots.2 ⟨h1, h2, h3⟩, hP⟩
/-- The frame of some places: those that lie in it. -/
def putAll (l : List (Int × Int)) : List Nat := mk fun x y => l.any fun d => decide (d.1 = x ∧ d.2 = y)
theorem putAll_nil : putAll [] = zf := by
  rw [show zf = mk fun _ _ => false by decide]; rfl
theorem putAll_in (l : List (Int × Int)) {x y : Nat} (hx : x < 12) (hy : y < 12) : withD (putAll l) x y = putAll (l ++ [((x : Int), (y : Int))]) := by
  unfold putAll
  rw [withD_mk _ hx hy]
  refine mk_congr fun x' y' _ _ => ?_
  rw [List.any_append]
  congr 1
  simp only [List.any_cons, List.any_nil, Bool.or_false]
  by_cases e1 : x' = x <;> by_cases e2 : y' = y <;> simp [e1, e2] <;> omega
theorem putAll_out (l : List (Int × Int)) {x y : Int} (h : ¬ (0 ≤ x ∧ x < 12 ∧ 0 ≤ y ∧ y < 12)) : putAll l = putAll (l ++ [(x, y)]) := by
  unfold putAll
  refine mk_congr fun x' y' _ _ => ?_
  rw [List.any_append]
  rw [List.any_cons, show decide (x = (x' : Int) ∧ y = (y' : Int)) = false by rw [decide_eq_false_iff_not]; intro e; apply h; omega]
  simp

/-- The rows that h tells, the first y of them written over base. -/
def part (h : Nat → Nat) (base : List Nat) (y : Nat) : List Nat := (List.range 12).map fun k => if k < y then h k else ro base k
def rowsOf (h : Nat → Nat) : List Nat := (List.range 12).map h
theorem part_length (h : Nat → Nat) (base : List Nat) (y : Nat) : (part h base y).length = 12 := by simp [part]
theorem rowsOf_length (h : Nat → Nat) : (rowsOf h).length = 12 := by simp [rowsOf]
theorem ro_part (h : Nat → Nat) (base : List Nat) (y k : Nat) (hk : k < 12) : ro (part h base y) k = if k < y then h k else ro base k := by
  rw [ro_get _ _ (by rw [part_length]; exact hk)]; simp [part]
theorem ro_rowsOf (h : Nat → Nat) (k : Nat) (hk : k < 12) : ro (rowsOf h) k = h k := by
  rw [ro_get _ _ (by rw [rowsOf_length]; exact hk)]; simp [rowsOf]
theorem part_zero (h : Nat → Nat) (base : List Nat) (hl : base.length = 12) : part h base 0 = base :=
  fr_ext (part_length _ _ _) hl fun y hy => by rw [ro_part _ _ _ _ hy]; simp
theorem part_set (h : Nat → Nat) (base : List Nat) (y : Nat) (hy : y < 12) : (part h base y).set y (h y) = part h base (y + 1) := by
  refine fr_ext (by rw [List.length_set, part_length]) (part_length _ _ _) fun k hk => ?_
  rw [ro_set _ _ _ _ (by rw [part_length]; exact hy), ro_part _ _ _ _ hk, ro_part _ _ _ _ hk]
  by_cases e : k = y
  · subst e; simp
  · rw [if_neg e]
    by_cases h1 : k < y
    · rw [if_pos h1, if_pos (by omega)]
    · rw [if_neg h1, if_neg (by omega)]
theorem part_all (h : Nat → Nat) (base : List Nat) : part h base 12 = rowsOf h :=
  fr_ext (part_length _ _ _) (rowsOf_length _) fun k hk => by rw [ro_part _ _ _ _ hk, ro_rowsOf _ _ hk, if_pos hk]
theorem rowsOf_congr {h g : Nat → Nat} (e : ∀ y, y < 12 → h y = g y) : rowsOf h = rowsOf g :=
  fr_ext (rowsOf_length _) (rowsOf_length _) fun k hk => by rw [ro_rowsOf _ _ hk, ro_rowsOf _ _ hk, e k hk]
theorem rowsOf_ok {h : Nat → Nat} (e : ∀ y, y < 12 → h y < 65536) : FrOk (rowsOf h) := ⟨rowsOf_length _, fun x hx => by
  obtain ⟨y, hy, rfl⟩ := List.mem_map.1 hx
  exact e y (List.mem_range.1 hy)⟩
theorem part_ok {h : Nat → Nat} {base : List Nat} (e : ∀ y, y < 12 → h y < 65536) (hb : FrOk base) (y : Nat) : FrOk (part h base y) := ⟨part_length _ _ _, fun x hx => by
  obtain ⟨k, hk, rfl⟩ := List.mem_map.1 hx
  split
  · exact e k (List.mem_range.1 hk)
  · exact hb.ro_lt k⟩
theorem zf_ok : FrOk zf := ⟨rfl, by decide⟩
theorem inv_row {a : Nat} (ha : a ≤ 4095) : 4095 &&& (65535 - a) = 4095 - a := by
  apply Nat.eq_of_testBit_eq
  intro i
  rw [Nat.testBit_and]
  have h1 := Nat.testBit_two_pow_sub_succ (x := a) (n := 16) (by omega) i
  have h2 := Nat.testBit_two_pow_sub_succ (x := a) (n := 12) (by omega) i
  rw [show (2 : Nat) ^ 16 - (a + 1) = 65535 - a by omega] at h1
  rw [show (2 : Nat) ^ 12 - (a + 1) = 4095 - a by omega] at h2
  have h3 : Nat.testBit 4095 i = decide (i < 12) := by
    have := Nat.testBit_two_pow_sub_one 12 i
    simpa using this
  rw [h1, h2, h3]
  by_cases hi : i < 12
  · simp [hi, show i < 16 by omega]
  · simp [hi]
end Go.Proofs.YtlljflmbnbjccaaGreatDoor
/- What the rules ask of this program's types, as closed facts; no condition. -/
namespace Go.Proofs.YtlljflmbnbjccaaGreatDoor
open Go.RowKit

/-- A frame's cells. -/
def frv (f : List Nat) : List Value := f.map fun (n : Nat) => Value.int .u16 (n : Int)
theorem frv_length (f : List Nat) : (frv f).length = f.length := by simp [frv]
theorem frv_get (f : List Nat) (k : Nat) (h : k < f.length) : (frv f)[k]? = some (.int .u16 (ro f k : Nat)) := by
  rw [ro_get f k h]; simp [frv, List.getElem?_eq_getElem h]
theorem frv_set (f : List Nat) (k n : Nat) : (frv f).set k (.int .u16 (n : Int)) = frv (f.set k n) := by simp [frv, List.map_set]
theorem frv_one (f : List Nat) : ∀ v ∈ frv f, v.oneCell' = true := by
  intro v hv; simp only [frv, List.mem_map] at hv; obtain ⟨n, _, rfl⟩ := hv; rfl
theorem frv_zero : List.replicate 12 (Value.int .u16 0) = frv zf := rfl
theorem frv_append (f g : List Nat) : frv (f ++ g) = frv f ++ frv g := by simp [frv]
/-- A frame as a value. -/
def frV (f : List Nat) : Value := .agg (frv f).toArray

theorem tU16 : OneT Tryz.prog 70 (.int .u16 0) := oneT_of Tryz.underlying70 rfl (by kernel_rfl) rfl
theorem tI64 : OneT Tryz.prog 2 (.int .i64 0) := oneT_of Tryz.underlying2 rfl (by kernel_rfl) rfl
theorem tInt : OneT Tryz.prog 3 (.int .i64 0) := oneT_of Tryz.underlying3 rfl (by kernel_rfl) rfl
theorem tI8 : OneT Tryz.prog 53 (.int .i8 0) := oneT_of Tryz.underlying53 rfl (by kernel_rfl) rfl
theorem tBool : OneT Tryz.prog 4 (.bool false) := oneT_of Tryz.underlying4 rfl (by kernel_rfl) rfl
theorem tStr : OneT Tryz.prog 9 (.string ⟨#[]⟩) := oneT_of Tryz.underlying9 rfl (by kernel_rfl) rfl
theorem tFr : ArrT Tryz.prog 72 70 12 (.int .u16 0) := arrT_of Tryz.underlying72 (by kernel_rfl) tU16
theorem tRaw : ArrT Tryz.prog 71 70 12 (.int .u16 0) := arrT_of Tryz.underlying71 (by kernel_rfl) tU16
theorem tFrB : Tryz.prog.built 72 [] = some (frv zf).toArray := by kernel_rfl
theorem tDot : AggT Tryz.prog 109 2 [.int .i8 0, .int .i8 0] := aggT_of Tryz.underlying109 rfl (by kernel_rfl)
theorem tDotS : SlcT Tryz.prog 106 109 2 2 [.int .i8 0, .int .i8 0] := slcT_of Tryz.underlying106 (.agg #[.int .i8 0, .int .i8 0]) (by kernel_rfl) rfl (by decide) rfl
theorem tFrS : SlcT Tryz.prog 24 72 12 24 (frv zf) := slcT_of Tryz.underlying24 (.agg (frv zf).toArray) (by kernel_rfl) rfl (by decide) rfl
theorem tU16S : SlcT Tryz.prog 147 70 1 2 [.int .u16 0] := slcT_of Tryz.underlying147 (.int .u16 0) (by kernel_rfl) rfl (by decide) rfl
theorem tStrS : SlcT Tryz.prog 57 9 1 16 [.string ⟨#[]⟩] := slcT_of Tryz.underlying57 (.string ⟨#[]⟩) (by kernel_rfl) rfl (by decide) rfl
end Go.Proofs.YtlljflmbnbjccaaGreatDoor
/- Lists of elements of several cells, laid one behind the other: plain mathematics; no condition. -/
namespace Go.Proofs.YtlljflmbnbjccaaGreatDoor
open Go.RowKit
set_option linter.unusedSimpArgs false

/-- Elements laid one behind the other. -/
def encs {α : Type} (e : α → List Value) (l : List α) : List Value := l.flatMap e
section
variable {α : Type} {e : α → List Value} {s : Nat}
theorem encs_length (hs : ∀ a, (e a).length = s) (l : List α) : (encs e l).length = l.length * s := by
  induction l with
  | nil => simp [encs]
  | cons a l ih => simp only [encs, List.flatMap_cons, List.length_append, hs, List.length_cons] at ih ⊢; rw [ih, Nat.add_mul]; omega
theorem encs_append (l m : List α) : encs e (l ++ m) = encs e l ++ encs e m := by simp [encs]
theorem encs_nil : encs e [] = [] := rfl
theorem encs_one (h1 : ∀ a, ∀ v ∈ e a, v.oneCell' = true) (l : List α) : ∀ v ∈ encs e l, v.oneCell' = true := by
  intro v hv
  obtain ⟨a, _, h⟩ := List.mem_flatMap.1 hv
  exact h1 a v h
theorem encs_get (hs : ∀ a, (e a).length = s) : ∀ (l : List α) (k : Nat) (hk : k < l.length) (j : Nat), j < s → (encs e l)[k * s + j]? = (e l[k])[j]?
  | a :: l, 0, _, j, hj => by
    show (e a ++ encs e l)[0 * s + j]? = _
    rw [Nat.zero_mul, Nat.zero_add, List.getElem?_append_left (by rw [hs]; exact hj)]; rfl
  | a :: l, k + 1, hk, j, hj => by
    show (e a ++ encs e l)[(k + 1) * s + j]? = _
    have h1 : (k + 1) * s = k * s + s := Nat.succ_mul k s
    rw [List.getElem?_append_right (by rw [hs]; omega), hs, show (k + 1) * s + j - s = k * s + j by omega]
    exact encs_get hs l k (by simpa using hk) j hj
theorem encs_getA (hs : ∀ a, (e a).length = s) (l : List α) (sp : List Value) (k : Nat) (hk : k < l.length) (j : Nat) (hj : j < s) : (encs e l ++ sp)[k * s + j]? = (e l[k])[j]? := by
  have h1 : k * s + s ≤ l.length * s := by rw [← Nat.succ_mul]; exact Nat.mul_le_mul_right _ hk
  rw [List.getElem?_append_left (by rw [encs_length hs]; omega)]
  exact encs_get hs l k hk j hj
theorem encs_take (hs : ∀ a, (e a).length = s) : ∀ (l : List α) (k : Nat), (encs e l).take (k * s) = encs e (l.take k)
  | [], k => by simp [encs]
  | a :: l, 0 => by simp [encs]
  | a :: l, k + 1 => by
    show (e a ++ encs e l).take ((k + 1) * s) = e a ++ encs e (l.take k)
    rw [Nat.succ_mul, Nat.add_comm, List.take_append, hs, List.take_of_length_le (by rw [hs]; omega), show s + k * s - s = k * s by omega, encs_take hs l k]
theorem encs_drop (hs : ∀ a, (e a).length = s) : ∀ (l : List α) (k : Nat), (encs e l).drop (k * s) = encs e (l.drop k)
  | [], k => by simp [encs]
  | a :: l, 0 => by simp [encs]
  | a :: l, k + 1 => by
    show (e a ++ encs e l).drop ((k + 1) * s) = encs e (l.drop k)
    rw [Nat.succ_mul, Nat.add_comm, List.drop_append, hs, List.drop_of_length_le (by rw [hs]; omega), show s + k * s - s = k * s by omega, encs_drop hs l k, List.nil_append]
theorem encs_set (hs : ∀ a, (e a).length = s) (l : List α) (k : Nat) (hk : k < l.length) (x : α) : (encs e l).take (k * s) ++ e x ++ (encs e l).drop (k * s + s) = encs e (l.set k x) := by
  rw [show k * s + s = (k + 1) * s by rw [Nat.succ_mul], encs_take hs, encs_drop hs, List.set_eq_take_append_cons_drop, if_pos hk, encs_append]
  simp [encs]
theorem encs_replicate (n : Nat) (x : α) : encs e (List.replicate n x) = (List.replicate n (e x)).flatten := by
  induction n with
  | zero => rfl
  | succ n ih => simp only [encs, List.replicate_succ, List.flatMap_cons, List.flatten_cons] at ih ⊢; rw [ih]
end


/-- A frame. -/
abbrev Fm : Type := { f : List Nat // FrOk f }
def fv (a : Fm) : List Value := frv a.1
@[simp] theorem fv_len (a : Fm) : (fv a).length = 12 := by rw [fv, frv_length, a.2.len]
theorem fv_one (a : Fm) : ∀ v ∈ fv a, v.oneCell' = true := frv_one _
def fz : Fm := ⟨zf, zf_ok⟩
/-- A number. -/
def i1 (n : Int) : List Value := [.int .i64 n]
@[simp] theorem i1_len (n : Int) : (i1 n).length = 1 := rfl
theorem i1_one (n : Int) : ∀ v ∈ i1 n, v.oneCell' = true := by simp [i1, Value.oneCell']
/-- Two numbers of 8 bits. -/
def p8 (d : Int × Int) : List Value := [.int .i8 d.1, .int .i8 d.2]
@[simp] theorem p8_len (d : Int × Int) : (p8 d).length = 2 := rfl
theorem p8_one (d : Int × Int) : ∀ v ∈ p8 d, v.oneCell' = true := by simp [p8, Value.oneCell']
/-- A number of 16 and two of 8 bits. -/
def k3 (d : Int × Int × Int) : List Value := [.int .i16 d.1, .int .i8 d.2.1, .int .i8 d.2.2]
@[simp] theorem k3_len (d : Int × Int × Int) : (k3 d).length = 3 := rfl
theorem k3_one (d : Int × Int × Int) : ∀ v ∈ k3 d, v.oneCell' = true := by simp [k3, Value.oneCell']
@[simp] theorem encs_fv_length (l : List Fm) : (encs fv l).length = l.length * 12 := encs_length fv_len l
@[simp] theorem encs_i1_length (l : List Int) : (encs i1 l).length = l.length := by rw [encs_length i1_len, Nat.mul_one]
@[simp] theorem encs_p8_length (l : List (Int × Int)) : (encs p8 l).length = l.length * 2 := encs_length p8_len l
@[simp] theorem encs_k3_length (l : List (Int × Int × Int)) : (encs k3 l).length = l.length * 3 := encs_length k3_len l
/-- The first m cells marked by V. -/
def marks (V : Nat → Value) (m : Nat) (cs : List Value) : List Value := (List.range m).map V ++ cs.drop m
theorem marks_zero (V : Nat → Value) (cs : List Value) : marks V 0 cs = cs := by simp [marks]
theorem marks_get (V : Nat → Value) (m : Nat) (cs : List Value) (j : Nat) : (marks V m cs)[j]? = if j < m then some (V j) else cs[j]? := by
  unfold marks
  by_cases h : j < m
  · rw [if_pos h, List.getElem?_append_left (by simpa using h), List.getElem?_map, List.getElem?_range h]; rfl
  · rw [if_neg h, List.getElem?_append_right (by simp; omega), List.getElem?_drop]
    congr 1
    simp
    omega
theorem marks_length {V : Nat → Value} {m : Nat} {cs : List Value} (h : m ≤ cs.length) : (marks V m cs).length = cs.length := by simp [marks]; omega
theorem marks_step {V : Nat → Value} {m : Nat} {cs : List Value} (h : m < cs.length) : (marks V m cs).set m (V m) = marks V (m + 1) cs := by
  apply List.ext_getElem?
  intro j
  rw [List.getElem?_set, marks_get, marks_get, marks_length (by omega)]
  by_cases e : m = j
  · subst e; rw [if_pos rfl, if_pos h, if_pos (by omega)]
  · rw [if_neg e]
    by_cases h1 : j < m
    · rw [if_pos h1, if_pos (by omega)]
    · rw [if_neg h1, if_neg (by omega)]
/-- The room that a law's copy leaves behind n elements. -/
def roomN (n : Nat) : Nat := if n % 6 = 5 then 0 else if n % 3 = 0 then 1 else n
theorem roomN_le (n : Nat) : roomN n ≤ n + 1 := by unfold roomN; split <;> (try split) <;> omega
def szN (left : Int) (n : Nat) : Int := if left - n < 0 then -1 else left - n
theorem take_rep {α : Type} (l : List α) (k N : Nat) (z : α) (hk : k < l.length) (hN : l.length ≤ N) : (l.take k ++ List.replicate (N - k) z).set k l[k] = l.take (k + 1) ++ List.replicate (N - (k + 1)) z := by
  have hl : (l.take k).length = k := by rw [List.length_take]; omega
  rw [List.set_append_right _ _ (by omega), hl, Nat.sub_self, show N - k = (N - (k + 1)) + 1 by omega, List.replicate_succ, List.set_cons_zero, List.take_succ_eq_append_getElem hk, List.append_assoc]
  rfl
theorem fill_rep {α : Type} (l : List α) (k N : Nat) (x z : α) (hk : l.length ≤ k) (hN : k < N) : (l ++ List.replicate (k - l.length) x ++ List.replicate (N - k) z).set k x = l ++ List.replicate (k + 1 - l.length) x ++ List.replicate (N - (k + 1)) z := by
  have hl : (l ++ List.replicate (k - l.length) x).length = k := by simp; omega
  rw [List.set_append_right _ _ (by omega), hl, Nat.sub_self, show N - k = (N - (k + 1)) + 1 by omega, List.replicate_succ, List.set_cons_zero, show k + 1 - l.length = (k - l.length) + 1 by omega, List.replicate_succ']
  simp
attribute [simp] frv_length zf_length mk_length withD_length part_length rowsOf_length
end Go.Proofs.YtlljflmbnbjccaaGreatDoor
/- The rules again, their side goals in an order that lets one tactic after the other close them; no condition. -/
namespace Go.Proofs.YtlljflmbnbjccaaGreatDoor
open Go.RowKit
set_option linter.unusedSimpArgs false
set_option linter.unusedVariables false

/-- T is the type of arrays of n elements E of s cells each. -/
structure ArrS (P : Program) (T E : TypeId) (n s : Nat) : Prop where
  a : P.underlying T = some (.array n E)
  e : ∃ i, P.info? E = some i ∧ i.size = s
theorem ArrS.sizeOf {P : Program} {T E : TypeId} {n s : Nat} (h : ArrS P T E n s) (w : World) : (Go.sizeOf E).run P w = .ok s w := by
  obtain ⟨i, hi, hs⟩ := h.e
  simp [Go.sizeOf, typeInfo, hi, hs]
theorem arrS_of {P : Program} {T E : TypeId} {n s : Nat} (hu : P.underlying T = some (.array n E)) (hi : (P.info? E).map (·.size) = some s) : ArrS P T E n s := by
  refine ⟨hu, ?_⟩
  cases h : P.info? E with
  | none => simp [h] at hi
  | some i => simp [h] at hi; exact ⟨i, rfl, hi⟩
theorem Calls.splitB {P : Program} {F : FuncId} {args : Array Value} {w : World} {b : Bool} {K : World → Prop} (h : Calls P F args w fun e w' => e = .returned (.bool b) ∧ K w') :
    Calls P F args w fun e w' => (b = true ∧ e = .returned (.bool true) ∧ K w') ∨ (b = false ∧ e = .returned (.bool false) ∧ K w') :=
  h.mono fun e w' ⟨he, hk⟩ => by cases b with
    | true => exact Or.inl ⟨rfl, he, hk⟩
    | false => exact Or.inr ⟨rfl, he, hk⟩

section
variable {P : Program} {ops : Array Oper} {rest : List Oper} {o : Oper} {a : Act} {w w0 : World} {Q : Exit → Act → World → Prop} {M : List Nat} {L L' : List (Nat × List Value × TypeId)}
theorem gate_lst (h : wpList P ops Q (o :: rest) a w) : wpList P ops Q (o :: rest) a w := h
theorem rgate {id : Nat} {l : Array Oper} (h : (Code.region id l true).wp P Q a w) : (Code.region id l true).wp P Q a w := h
theorem la_load1 {z v : Value} {T : TypeId} {x : Operand} {p : Addr} (hT : OneT P T z) (hv : w.cell? p = some v) (hgd : o.guard = none) (ho : o.op = .load T x) (hx : a.eval x = .pointer (some p))
    (h : wpList P ops Q rest (a.put o.dst v) w) : wpList P ops Q (o :: rest) a w := wpl_load1 hgd T x ho p hx hT v hv h
theorem la_loadC {n : Nat} {z cs : List Value} {T : TypeId} {x : Operand} {b f : Nat} (hT : AggT P T n z) (hb : Cl w b f cs) (hl : cs.length = n) (hgd : o.guard = none) (ho : o.op = .load T x) (hx : a.eval x = .pointer (some ⟨b, f, none⟩))
    (h : wpList P ops Q rest (a.put o.dst (.agg cs.toArray)) w) : wpList P ops Q (o :: rest) a w :=
  wpl_loadC hgd T x ho ⟨b, f, none⟩ hx hT cs hl (fun j v hj => by rw [Addr.add_lit]; exact hb.2 j v hj) h
theorem la_alloc {n : Nat} {z : List Value} {T : TypeId} (hT : AggT P T n z) (st : St M w0 w L) (hgd : o.guard = none) (ho : o.op = .alloc T)
    (h : ∀ B w1, St M w0 w1 ((B, z, T) :: L) → wpList P ops Q rest (a.put o.dst (.pointer (some ⟨B, 0, none⟩))) w1) : wpList P ops Q (o :: rest) a w := wpl_alloc hgd T ho hT st h
theorem la_alloc1 {z : Value} {T : TypeId} (hT : OneT P T z) (st : St M w0 w L) (hgd : o.guard = none) (ho : o.op = .alloc T)
    (h : ∀ B w1, St M w0 w1 ((B, [z], T) :: L) → wpList P ops Q rest (a.put o.dst (.pointer (some ⟨B, 0, none⟩))) w1) : wpList P ops Q (o :: rest) a w := wpl_alloc1 hgd T ho hT st h
theorem la_store1 {z : Value} {old : List Value} {U : TypeId} {T : TypeId} {p x : Operand} {b k : Nat} {v : Value} (hT : OneT P T z) (st : St M w0 w L) (hu : Upd b b old (old.set k v) U L L') (hfit : k < old.length)
    (hgd : o.guard = none) (ho : o.op = .store T p x) (hp : a.eval p = .pointer (some ⟨b, k, none⟩)) (hx : a.eval x = v) (h1 : v.oneCell' = true) (hv : v.cells = #[v])
    (h : ∀ w1, St M w0 w1 L' → wpList P ops Q rest (a.put o.dst undef) w1) : wpList P ops Q (o :: rest) a w := wpl_store1 hgd T p x ho b k hp v hx hT h1 hv st old U hu hfit h
theorem la_storeAll {n : Nat} {z old cs : List Value} {U : TypeId} {T : TypeId} {p x : Operand} {b : Nat} (hT : AggT P T n z) (st : St M w0 w L) (hu : Upd b b old cs U L L') (hl : cs.length = n) (h1 : ∀ v ∈ cs, v.oneCell' = true) (hfit : old.length = n)
    (hgd : o.guard = none) (ho : o.op = .store T p x) (hp : a.eval p = .pointer (some ⟨b, 0, none⟩)) (hx : a.eval x = .agg cs.toArray)
    (h : ∀ w1, St M w0 w1 L' → wpList P ops Q rest (a.put o.dst undef) w1) : wpList P ops Q (o :: rest) a w := wpl_storeAll hgd T p x ho b hp cs hx hT hl h1 st old U hu hfit h
/-- A part of a block is written. -/
theorem la_storeSeg {n : Nat} {z old cs : List Value} {U : TypeId} {T : TypeId} {p x : Operand} {b k : Nat} (hT : AggT P T n z) (st : St M w0 w L) (hu : Upd b b old (old.take k ++ cs ++ old.drop (k + n)) U L L') (hl : cs.length = n) (h1 : ∀ v ∈ cs, v.oneCell' = true) (hfit : k + n ≤ old.length)
    (hgd : o.guard = none) (ho : o.op = .store T p x) (hp : a.eval p = .pointer (some ⟨b, k, none⟩)) (hx : a.eval x = .agg cs.toArray)
    (h : ∀ w1, St M w0 w1 L' → wpList P ops Q rest (a.put o.dst undef) w1) : wpList P ops Q (o :: rest) a w := wpl_store hgd T p x ho b k hp cs hx hT hl h1 st old _ U hu hfit rfl h
theorem la_build {cs : List Value} {T : TypeId} {parts : List (Nat × Operand)} (hb : P.built T (parts.map fun p => (p.1, a.eval p.2)) = some cs.toArray) (hgd : o.guard = none) (ho : o.op = .build T parts.toArray)
    (h : wpList P ops Q rest (a.put o.dst (.agg cs.toArray)) w) : wpList P ops Q (o :: rest) a w := wpl_build hgd T parts ho cs hb h
theorem la_slcAddr {E : TypeId} {s y : Nat} {z : List Value} {T : TypeId} {x ix : Operand} {b f m c : Nat} {k : IntKind} {i : Int} {j : Nat} (hT : SlcT P T E s y z) (hj : i = j) (h1 : j < m) (hgd : o.guard = none) (ho : o.op = .indexAddr T x ix) (hx : a.eval x = .slice (some ⟨b, f, none⟩) m c) (hi : a.eval ix = .int k i)
    (h : wpList P ops Q rest (a.put o.dst (.pointer (some ⟨b, f + j * s, none⟩))) w) : wpList P ops Q (o :: rest) a w := wpl_slcAddr hgd T x ix ho b f m c hx k i hi hT j hj h1 h
end

section
variable {P : Program} {ops : Array Oper} {rest : List Oper} {o : Oper} {a : Act} {w w0 : World} {Q : Act → Prop} {C : World → Prop} {M : List Nat} {L L' : List (Nat × List Value × TypeId)}
theorem qgate_any (h : wpQuiet P ops C Q (o :: rest) a) : wpQuiet P ops C Q (o :: rest) a := h
theorem qgate_nil (h : wpQuiet P ops C Q [] a) : wpQuiet P ops C Q [] a := h
theorem wpq_unguard {d : Option Tmp} {op : Op} {ty : TypeId} {pos : String} {after : Array Edge} {g : Nat × Bool} (hw : Region.wanted ⟨d, op, ty, pos, after, some g⟩ (yielded ops a.tmps) = true)
    (h : wpQuiet P ops C Q (⟨d, op, ty, pos, after, none⟩ :: rest) a) : wpQuiet P ops C Q (⟨d, op, ty, pos, after, some g⟩ :: rest) a := by
  unfold wpQuiet at h ⊢
  rw [if_pos hw]
  rw [if_pos (by simp [Region.wanted])] at h
  exact h
theorem wpq_skip {d : Option Tmp} {op : Op} {ty : TypeId} {pos : String} {after : Array Edge} {g : Nat × Bool} (hw : Region.wanted ⟨d, op, ty, pos, after, some g⟩ (yielded ops a.tmps) = false)
    (h : wpQuiet P ops C Q rest (a.put d undef)) : wpQuiet P ops C Q (⟨d, op, ty, pos, after, some g⟩ :: rest) a := by
  unfold wpQuiet
  rw [if_neg (by rw [hw]; decide)]
  exact h
theorem qa_val {v : Value} (hrun : ∀ w', C w' → (execOp a.eval o).run P w' = .ok (.value v) w') (hgd : o.guard = none) (h : wpQuiet P ops C Q rest (a.put o.dst v)) : wpQuiet P ops C Q (o :: rest) a := wpq_val hgd v hrun h
theorem qa_load1 {z v : Value} {T : TypeId} {x : Operand} {p : Addr} (hT : OneT P T z) (hv : ∀ w', C w' → w'.cell? p = some v) (hgd : o.guard = none) (ho : o.op = .load T x) (hx : a.eval x = .pointer (some p))
    (h : wpQuiet P ops C Q rest (a.put o.dst v)) : wpQuiet P ops C Q (o :: rest) a := wpq_load1 hgd T x ho p hx hT v hv h
theorem qa_loadC {n : Nat} {z cs : List Value} {T : TypeId} {x : Operand} {b f : Nat} (hT : AggT P T n z) (hb : ∀ w', C w' → Cl w' b f cs) (hl : cs.length = n) (hgd : o.guard = none) (ho : o.op = .load T x) (hx : a.eval x = .pointer (some ⟨b, f, none⟩))
    (h : wpQuiet P ops C Q rest (a.put o.dst (.agg cs.toArray))) : wpQuiet P ops C Q (o :: rest) a :=
  wpq_loadSeg hgd T x ho ⟨b, f, none⟩ hx hT cs (fun w' hw' j v hj => by rw [Addr.add_lit]; exact (hb w' hw').2 j v hj) hl h
theorem qa_slcAddr {E : TypeId} {s y : Nat} {z : List Value} {T : TypeId} {x ix : Operand} {b f m c : Nat} {k : IntKind} {i : Int} {j : Nat} (hT : SlcT P T E s y z) (hj : i = j) (h1 : j < m) (hgd : o.guard = none) (ho : o.op = .indexAddr T x ix) (hx : a.eval x = .slice (some ⟨b, f, none⟩) m c) (hi : a.eval ix = .int k i)
    (h : wpQuiet P ops C Q rest (a.put o.dst (.pointer (some ⟨b, f + j * s, none⟩)))) : wpQuiet P ops C Q (o :: rest) a := wpq_slcAddr hgd T x ix ho b f m c hx k i hi hT j hj h1 h
theorem qa_arrAddr {E : TypeId} {n : Nat} {z : Value} {T : TypeId} {x ix : Operand} {b f : Nat} {k : IntKind} {i : Int} {j : Nat} (hT : ArrT P T E n z) (hj : i = j) (h1 : j < n) (hgd : o.guard = none) (ho : o.op = .indexAddr T x ix) (hx : a.eval x = .pointer (some ⟨b, f, none⟩)) (hi : a.eval ix = .int k i)
    (h : wpQuiet P ops C Q rest (a.put o.dst (.pointer (some ⟨b, f + j, none⟩)))) : wpQuiet P ops C Q (o :: rest) a := wpq_indexAddr hgd T x ix ho b f hx k i hi hT j hj h1 h
theorem qa_call {c : Go.Call} {f : Operand} {F : FuncId} {first cap args : Array Value} {fn : Func} {v : Value} (hF : P.funcs[F]? = some fn) (hn : (fn.name == "runtime.NumGoroutine") = false) (hbd : fn.body.isNone = false)
    (hgd : o.guard = none) (ho : o.op = .call c) (hc : c.callee = .value f) (hf : a.eval f = .func (.func F) first cap) (ha : first ++ c.args.map a.eval ++ cap = args)
    (hcall : ∀ w', C w' → Calls P F args w' fun e w'' => e = .returned v ∧ C w'') (h : wpQuiet P ops C Q rest (a.put o.dst v)) : wpQuiet P ops C Q (o :: rest) a :=
  wpq_call hgd c ho f hc F first cap hf fn hF hn hbd args ha v hcall h
theorem qa_callB {c : Go.Call} {f : Operand} {F : FuncId} {first cap args : Array Value} {fn : Func} {v : Bool} (hF : P.funcs[F]? = some fn) (hn : (fn.name == "runtime.NumGoroutine") = false) (hbd : fn.body.isNone = false)
    (hgd : o.guard = none) (ho : o.op = .call c) (hc : c.callee = .value f) (hf : a.eval f = .func (.func F) first cap) (ha : first ++ c.args.map a.eval ++ cap = args)
    (hcall : ∀ w', C w' → Calls P F args w' fun e w'' => e = .returned (.bool v) ∧ C w'') (h1 : v = true → wpQuiet P ops C Q rest (a.put o.dst (.bool true))) (h0 : v = false → wpQuiet P ops C Q rest (a.put o.dst (.bool false))) : wpQuiet P ops C Q (o :: rest) a := by
  refine qa_call hF hn hbd hgd ho hc hf ha hcall ?_
  cases hv : v with
  | true => exact h1 hv
  | false => exact h0 hv
/-- An array's element of s cells. -/
theorem qa_arrAddrS {E : TypeId} {n s : Nat} {T : TypeId} {x ix : Operand} {b f : Nat} {k : IntKind} {i : Int} {j : Nat} (hT : ArrS P T E n s) (hj : i = j) (h1 : j < n) (hgd : o.guard = none) (ho : o.op = .indexAddr T x ix) (hx : a.eval x = .pointer (some ⟨b, f, none⟩)) (hi : a.eval ix = .int k i)
    (h : wpQuiet P ops C Q rest (a.put o.dst (.pointer (some ⟨b, f + j * s, none⟩)))) : wpQuiet P ops C Q (o :: rest) a := by
  subst hj
  have h1' : (j : Int) < n := by omega
  have h0 : (0 : Int) ≤ j := by omega
  exact wpq_val hgd _ (fun w' _ => by
    have hsz := hT.sizeOf w'
    unfold execOp
    simp only [ho, hx, hi, Instr.indexAt, Instr.sureAddr, asIntOf, Sem.run_bind, Sem.run_pure, Result.andThen_ok, run_underlying hT.a w', h0, h1', and_self, if_true, hsz, Addr.add_lit, Int.toNat_natCast]) h
theorem qg_move {x : Operand} (_ho : o.op = .move x) (h : wpQuiet P ops C Q (o :: rest) a) : wpQuiet P ops C Q (o :: rest) a := h
theorem qg_assign {x : Operand} (_ho : o.op = .assign x) (h : wpQuiet P ops C Q (o :: rest) a) : wpQuiet P ops C Q (o :: rest) a := h
theorem qg_un {u : UnOp} {T : TypeId} {x : Operand} (_ho : o.op = .unOp u T x) (h : wpQuiet P ops C Q (o :: rest) a) : wpQuiet P ops C Q (o :: rest) a := h
theorem qg_pick {x y z : Operand} (_ho : o.op = .pick x y z) (h : wpQuiet P ops C Q (o :: rest) a) : wpQuiet P ops C Q (o :: rest) a := h
theorem qg_extract {x : Operand} {k : Nat} (_ho : o.op = .extract x k) (h : wpQuiet P ops C Q (o :: rest) a) : wpQuiet P ops C Q (o :: rest) a := h
theorem qg_nil {x : Operand} (_ho : o.op = .nilCheck x) (h : wpQuiet P ops C Q (o :: rest) a) : wpQuiet P ops C Q (o :: rest) a := h
theorem qa_field {T : TypeId} {x : Operand} {i b f k : Nat} (hf : ∀ (b f : Nat) (w' : World), (Instr.fieldAt T (.pointer (some ⟨b, f, none⟩)) i).run P w' = .ok (.pointer (some ⟨b, f + k, none⟩)) w') (hgd : o.guard = none) (ho : o.op = .fieldAddr T x i) (hx : a.eval x = .pointer (some ⟨b, f, none⟩))
    (h : wpQuiet P ops C Q rest (a.put o.dst (.pointer (some ⟨b, f + k, none⟩)))) : wpQuiet P ops C Q (o :: rest) a := wpq_field hgd T x i ho b f hx k hf h
theorem qa_conv {S D : TypeId} {x : Operand} {k k' : IntKind} {n m : Int} (hs : (P.underlying S).isSome = true) (hd : P.underlying D = some (.int k')) (hm : k'.wrap n = m) (hgd : o.guard = none) (ho : o.op = .convert S D x) (hx : a.eval x = .int k n)
    (h : wpQuiet P ops C Q rest (a.put o.dst (.int k' m))) : wpQuiet P ops C Q (o :: rest) a := wpq_conv hgd S D x ho k k' n m hx hs hd hm h
theorem qa_bin {op : BinOp} {T U : TypeId} {x y : Operand} {k k' : IntKind} {n m : Int} {v : Value} (hb : ∀ w', (binOp op T (.int k n) (.int k' m)).run P w' = .ok v w') (hgd : o.guard = none) (ho : o.op = .binOp op T x y U) (hx : a.eval x = .int k n) (hy : a.eval y = .int k' m)
    (h : wpQuiet P ops C Q rest (a.put o.dst v)) : wpQuiet P ops C Q (o :: rest) a := wpq_bin hgd op T x y U ho k k' n m hx hy v hb h
theorem qa_len {x : Operand} {T E : TypeId} {b : Option Addr} {n c : Nat} (hu : P.underlying T = some (.slice E)) (hgd : o.guard = none) (ho : o.op = .call { callee := .builtin .len, args := #[x], argTypes := #[T] }) (hx : a.eval x = .slice b n c)
    (h : wpQuiet P ops C Q rest (a.put o.dst (.int .i64 n))) : wpQuiet P ops C Q (o :: rest) a := wpq_lenSlice hgd x T ho b n c hx E hu h
theorem qcall {F : FuncId} {args : Array Value} {v : Value} {w1 : World} (hw : St M w0 w1 L) (h : Calls P F args w1 fun e w'' => e = .returned v ∧ Keep [] w1 w'') : Calls P F args w1 fun e w'' => e = .returned v ∧ St M w0 w'' L :=
  h.mono fun _ _ h => ⟨h.1, hw.call h.2⟩
end

theorem wanted_is {ops : Array Oper} {tmps : Array Value} {d : Option Tmp} {op : Op} {ty : TypeId} {pos : String} {after : Array Edge} {j dj : Nat} {b c : Bool} (hd : (ops[j]?).bind (·.dst) = some dj) (hv : tmps[dj]? = some (.bool c)) :
    Region.wanted ⟨d, op, ty, pos, after, some (j, b)⟩ (yielded ops tmps) = (c == b) := by
  unfold Region.wanted yielded
  simp only [hd, Option.bind_some, hv]
  cases c <;> cases b <;> rfl
section
variable {P : Program} {ops : Array Oper} {rest : List Oper} {a : Act} {w : World} {Q : Exit → Act → World → Prop} {d : Option Tmp} {op : Op} {ty : TypeId} {pos : String} {after : Array Edge} {j dj : Nat}
theorem wpl_ung {b : Bool} (hd : (ops[j]?).bind (·.dst) = some dj) (hv : a.tmps[dj]? = some (.bool b)) (h : wpList P ops Q (⟨d, op, ty, pos, after, none⟩ :: rest) a w) : wpList P ops Q (⟨d, op, ty, pos, after, some (j, b)⟩ :: rest) a w :=
  wpl_unguard (by rw [wanted_is hd hv]; cases b <;> rfl) h
end
section
variable {P : Program} {ops : Array Oper} {rest : List Oper} {a : Act} {Q : Act → Prop} {C : World → Prop} {d : Option Tmp} {op : Op} {ty : TypeId} {pos : String} {after : Array Edge} {j dj : Nat}
theorem wpq_ung {b : Bool} (hd : (ops[j]?).bind (·.dst) = some dj) (hv : a.tmps[dj]? = some (.bool b)) (h : wpQuiet P ops C Q (⟨d, op, ty, pos, after, none⟩ :: rest) a) : wpQuiet P ops C Q (⟨d, op, ty, pos, after, some (j, b)⟩ :: rest) a :=
  wpq_unguard (by rw [wanted_is hd hv]; cases b <;> rfl) h
theorem wpq_skp1 (hd : (ops[j]?).bind (·.dst) = some dj) (hv : a.tmps[dj]? = some (.bool true)) (h : wpQuiet P ops C Q rest (a.put d undef)) : wpQuiet P ops C Q (⟨d, op, ty, pos, after, some (j, false)⟩ :: rest) a :=
  wpq_skip (by rw [wanted_is hd hv]; rfl) h
theorem wpq_skp0 (hd : (ops[j]?).bind (·.dst) = some dj) (hv : a.tmps[dj]? = some (.bool false)) (h : wpQuiet P ops C Q rest (a.put d undef)) : wpQuiet P ops C Q (⟨d, op, ty, pos, after, some (j, true)⟩ :: rest) a :=
  wpq_skip (by rw [wanted_is hd hv]; rfl) h
end
/-! ### What is found by the search for instances -/
class OneC (P : Program) (T : TypeId) (z : outParam Value) : Prop where
  out : OneT P T z
class AggC (P : Program) (T : TypeId) (n : outParam Nat) (z : outParam (List Value)) : Prop where
  out : AggT P T n z
class SlcC (P : Program) (T : TypeId) (E : outParam TypeId) (s y : outParam Nat) (z : outParam (List Value)) : Prop where
  out : SlcT P T E s y z
class ArrC (P : Program) (T : TypeId) (E : outParam TypeId) (n s : outParam Nat) : Prop where
  out : ArrS P T E n s
class FldC (P : Program) (T : TypeId) (i : Nat) (k : outParam Nat) : Prop where
  out : ∀ (b f : Nat) (w' : World), (Instr.fieldAt T (.pointer (some ⟨b, f, none⟩)) i).run P w' = .ok (.pointer (some ⟨b, f + k, none⟩)) w'
class IntC (P : Program) (T : TypeId) (k : outParam IntKind) : Prop where
  out : P.underlying T = some (.int k)
class BldC (P : Program) (T : TypeId) (ps : List (Nat × Value)) (cs : outParam (List Value)) : Prop where
  out : P.built T ps = some cs.toArray
class AtC (b : Nat) (cs : outParam (List Value)) (T : outParam TypeId) (i : outParam Nat) (L : List (Nat × List Value × TypeId)) : Prop where
  out : At b cs T L
  at_ : L[i]? = some (b, cs, T)
instance atHere (b : Nat) (cs : List Value) (T : TypeId) (L : List (Nat × List Value × TypeId)) : AtC b cs T 0 ((b, cs, T) :: L) := ⟨.here, rfl⟩
instance atThere (b : Nat) (cs : List Value) (T : TypeId) (i : Nat) (x : Nat × List Value × TypeId) (L : List (Nat × List Value × TypeId)) [h : AtC b cs T i L] : AtC b cs T (i + 1) (x :: L) := ⟨.there h.out, by simpa using h.at_⟩
theorem upd_of {b : Nat} {old new : List Value} {T : TypeId} : ∀ {i : Nat} {L : List (Nat × List Value × TypeId)}, L[i]? = some (b, old, T) → Upd b b old new T L (L.set i (b, new, T))
  | 0, [], h => by simp at h
  | 0, x :: L, h => by
    simp at h
    subst h
    exact .here
  | i + 1, [], h => by simp at h
  | i + 1, x :: L, h => .there (upd_of (i := i) (L := L) (by simpa using h))
theorem St.atC {M : List Nat} {w0 w : World} {L : List (Nat × List Value × TypeId)} {b i : Nat} {cs : List Value} {T : TypeId} (st : St M w0 w L) [h : AtC b cs T i L] : Blk w b cs T := st.get h.out
theorem AtC.upd {b i : Nat} {old new : List Value} {T : TypeId} {L : List (Nat × List Value × TypeId)} (h : AtC b old T i L) : Upd b b old new T L (L.set i (b, new, T)) := upd_of h.at_

section
variable {P : Program} {ops : Array Oper} {rest : List Oper} {o : Oper} {a : Act} {w w0 : World} {Q : Exit → Act → World → Prop} {M : List Nat} {L : List (Nat × List Value × TypeId)} {b k i n : Nat} {T U : TypeId} {x p : Operand} {z v : Value} {zs cs : List Value}
theorem ia_box {sl : Nat} (st : St M w0 w L) (_hN : o.dst = some sl) (hgd : o.guard = none) (ho : o.op = .box T x) (hv : a.eval x = v) (hcs : v.cells = cs.toArray)
    (h : ∀ B w1, St M w0 w1 ((B, cs, T) :: L) → wpList P ops Q rest (a.put o.dst (.pointer (some ⟨B, 0, none⟩))) w1) : wpList P ops Q (o :: rest) a w := wpl_box hgd T x ho v hv cs hcs st h
theorem ia_alloc {sl : Nat} (st : St M w0 w L) (_hN : o.dst = some sl) (hgd : o.guard = none) (ho : o.op = .alloc T) [hT : AggC P T n zs]
    (h : ∀ B w1, St M w0 w1 ((B, zs, T) :: L) → wpList P ops Q rest (a.put o.dst (.pointer (some ⟨B, 0, none⟩))) w1) : wpList P ops Q (o :: rest) a w := wpl_alloc hgd T ho hT.out st h
theorem ia_alloc1 {sl : Nat} (st : St M w0 w L) (_hN : o.dst = some sl) (hgd : o.guard = none) (ho : o.op = .alloc T) [hT : OneC P T z]
    (h : ∀ B w1, St M w0 w1 ((B, [z], T) :: L) → wpList P ops Q rest (a.put o.dst (.pointer (some ⟨B, 0, none⟩))) w1) : wpList P ops Q (o :: rest) a w := wpl_alloc1 hgd T ho hT.out st h
theorem ia_load1 (st : St M w0 w L) (hgd : o.guard = none) (ho : o.op = .load T x) (hx : a.eval x = .pointer (some ⟨b, k, none⟩)) [hT : OneC P T z] [ha : AtC b cs U i L] (hv : cs[k]? = some v)
    (h : wpList P ops Q rest (a.put o.dst v) w) : wpList P ops Q (o :: rest) a w := wpl_load1 hgd T x ho _ hx hT.out v (st.atC.cellv hv) h
theorem ia_load1C {f : Nat} (hb : Cl w b f cs) (hgd : o.guard = none) (ho : o.op = .load T x) (hx : a.eval x = .pointer (some ⟨b, f + k, none⟩)) [hT : OneC P T z] (hv : cs[k]? = some v)
    (h : wpList P ops Q rest (a.put o.dst v) w) : wpList P ops Q (o :: rest) a w := wpl_load1 hgd T x ho _ hx hT.out v (hb.cellv hv) h
theorem ia_load1Z {f : Nat} (hb : Cl w b f cs) (hgd : o.guard = none) (ho : o.op = .load T x) (hx : a.eval x = .pointer (some ⟨b, f, none⟩)) [hT : OneC P T z] (hv : cs[0]? = some v)
    (h : wpList P ops Q rest (a.put o.dst v) w) : wpList P ops Q (o :: rest) a w := wpl_load1 hgd T x ho _ hx hT.out v (by have := hb.2 0 v hv; simpa using this) h
theorem ia_load1B (hb : Blk w b cs U) (hgd : o.guard = none) (ho : o.op = .load T x) (hx : a.eval x = .pointer (some ⟨b, k, none⟩)) [hT : OneC P T z] (hv : cs[k]? = some v)
    (h : wpList P ops Q rest (a.put o.dst v) w) : wpList P ops Q (o :: rest) a w := wpl_load1 hgd T x ho _ hx hT.out v (hb.cellv hv) h
theorem ia_loadAll (st : St M w0 w L) (hgd : o.guard = none) (ho : o.op = .load T x) (hx : a.eval x = .pointer (some ⟨b, 0, none⟩)) [hT : AggC P T n zs] [ha : AtC b cs U i L] (hl : cs.length = n)
    (h : wpList P ops Q rest (a.put o.dst (.agg cs.toArray)) w) : wpList P ops Q (o :: rest) a w := wpl_loadAll hgd T x ho b hx hT.out cs U st.atC hl h
theorem ia_loadC {f : Nat} (hb : Cl w b f cs) (hgd : o.guard = none) (ho : o.op = .load T x) (hx : a.eval x = .pointer (some ⟨b, f, none⟩)) [hT : AggC P T n zs] (hl : cs.length = n)
    (h : wpList P ops Q rest (a.put o.dst (.agg cs.toArray)) w) : wpList P ops Q (o :: rest) a w :=
  wpl_loadC hgd T x ho ⟨b, f, none⟩ hx hT.out cs hl (fun j v hj => by rw [Addr.add_lit]; exact hb.2 j v hj) h
theorem ia_store1 (st : St M w0 w L) (hgd : o.guard = none) (ho : o.op = .store T p x) (hp : a.eval p = .pointer (some ⟨b, k, none⟩)) (hx : a.eval x = v) (h1 : v.oneCell' = true) (hv : v.cells = #[v]) [hT : OneC P T z] [ha : AtC b cs U i L] (hl : k < cs.length)
    (h : ∀ w1, St M w0 w1 (L.set i (b, cs.set k v, U)) → wpList P ops Q rest (a.put o.dst undef) w1) : wpList P ops Q (o :: rest) a w := wpl_store1 hgd T p x ho b k hp v hx hT.out h1 hv st cs U ha.upd hl h
theorem ia_storeAll {old : List Value} (st : St M w0 w L) (hgd : o.guard = none) (ho : o.op = .store T p x) (hp : a.eval p = .pointer (some ⟨b, 0, none⟩)) (hx : a.eval x = .agg cs.toArray) [hT : AggC P T n zs] [ha : AtC b old U i L] (hl : cs.length = n) (h1 : ∀ v ∈ cs, v.oneCell' = true) (hl2 : old.length = n)
    (h : ∀ w1, St M w0 w1 (L.set i (b, cs, U)) → wpList P ops Q rest (a.put o.dst undef) w1) : wpList P ops Q (o :: rest) a w := wpl_storeAll hgd T p x ho b hp cs hx hT.out hl h1 st old U ha.upd hl2 h
theorem ia_storeSeg {old : List Value} (st : St M w0 w L) (hgd : o.guard = none) (ho : o.op = .store T p x) (hp : a.eval p = .pointer (some ⟨b, k, none⟩)) (hx : a.eval x = .agg cs.toArray) [hT : AggC P T n zs] [ha : AtC b old U i L] (hl : cs.length = n) (h1 : ∀ v ∈ cs, v.oneCell' = true) (hl2 : k + n ≤ old.length)
    (h : ∀ w1, St M w0 w1 (L.set i (b, old.take k ++ cs ++ old.drop (k + n), U)) → wpList P ops Q rest (a.put o.dst undef) w1) : wpList P ops Q (o :: rest) a w := wpl_store hgd T p x ho b k hp cs hx hT.out hl h1 st old _ U ha.upd hl2 rfl h
theorem ia_build {parts : List (Nat × Operand)} {ps : List (Nat × Value)} (hgd : o.guard = none) (ho : o.op = .build T parts.toArray) (he : parts.map (fun p => (p.1, a.eval p.2)) = ps) [hb : BldC P T ps cs]
    (h : wpList P ops Q rest (a.put o.dst (.agg cs.toArray)) w) : wpList P ops Q (o :: rest) a w := wpl_build hgd T parts ho cs (by rw [he]; exact hb.out) h
end
section
variable {P : Program} {ops : Array Oper} {rest : List Oper} {o : Oper} {a : Act} {w0 : World} {Q : Act → Prop} {M : List Nat} {L : List (Nat × List Value × TypeId)} {b k i n : Nat} {T U : TypeId} {x p : Operand} {z v : Value} {zs cs : List Value}
theorem iq_load1 (hgd : o.guard = none) (ho : o.op = .load T x) (hx : a.eval x = .pointer (some ⟨b, k, none⟩)) [hT : OneC P T z] [ha : AtC b cs U i L] (hv : cs[k]? = some v)
    (h : wpQuiet P ops (fun w' => St M w0 w' L) Q rest (a.put o.dst v)) : wpQuiet P ops (fun w' => St M w0 w' L) Q (o :: rest) a := wpq_load1 hgd T x ho _ hx hT.out v (fun _ hw => hw.atC.cellv hv) h
theorem iq_load1C {f : Nat} (hb : Cl w0 b f cs) (hgd : o.guard = none) (ho : o.op = .load T x) (hx : a.eval x = .pointer (some ⟨b, f + k, none⟩)) [hT : OneC P T z] (hv : cs[k]? = some v)
    (h : wpQuiet P ops (fun w' => St [] w0 w' L) Q rest (a.put o.dst v)) : wpQuiet P ops (fun w' => St [] w0 w' L) Q (o :: rest) a := wpq_load1 hgd T x ho _ hx hT.out v (fun _ hw => (hb.keep hw.keep (by simp)).cellv hv) h
theorem iq_load1Z {f : Nat} (hb : Cl w0 b f cs) (hgd : o.guard = none) (ho : o.op = .load T x) (hx : a.eval x = .pointer (some ⟨b, f, none⟩)) [hT : OneC P T z] (hv : cs[0]? = some v)
    (h : wpQuiet P ops (fun w' => St [] w0 w' L) Q rest (a.put o.dst v)) : wpQuiet P ops (fun w' => St [] w0 w' L) Q (o :: rest) a := wpq_load1 hgd T x ho _ hx hT.out v (fun _ hw => by have := (hb.keep hw.keep (by simp)).2 0 v hv; simpa using this) h
theorem iq_loadAll (hgd : o.guard = none) (ho : o.op = .load T x) (hx : a.eval x = .pointer (some ⟨b, 0, none⟩)) [hT : AggC P T n zs] [ha : AtC b cs U i L] (hl : cs.length = n)
    (h : wpQuiet P ops (fun w' => St M w0 w' L) Q rest (a.put o.dst (.agg cs.toArray))) : wpQuiet P ops (fun w' => St M w0 w' L) Q (o :: rest) a := wpq_loadAll hgd T x ho b hx hT.out cs U (fun _ hw => hw.atC) hl h
theorem iq_loadC {f : Nat} (hb : Cl w0 b f cs) (hgd : o.guard = none) (ho : o.op = .load T x) (hx : a.eval x = .pointer (some ⟨b, f, none⟩)) [hT : AggC P T n zs] (hl : cs.length = n)
    (h : wpQuiet P ops (fun w' => St [] w0 w' L) Q rest (a.put o.dst (.agg cs.toArray))) : wpQuiet P ops (fun w' => St [] w0 w' L) Q (o :: rest) a :=
  wpq_loadSeg hgd T x ho ⟨b, f, none⟩ hx hT.out cs (fun w' hw' j v hj => by rw [Addr.add_lit]; exact (hb.keep hw'.keep (by simp)).2 j v hj) hl h
end
section
variable {P : Program} {ops : Array Oper} {rest : List Oper} {o : Oper} {a : Act} {Q : Act → Prop} {C : World → Prop} {b f c m k i n j s y : Nat} {T E : TypeId} {x ix : Operand} {zs : List Value} {K : IntKind} {e : Int}
theorem iq_slc (hgd : o.guard = none) (ho : o.op = .indexAddr T x ix) (hx : a.eval x = .slice (some ⟨b, f, none⟩) m c) (hi : a.eval ix = .int K e) [hT : SlcC P T E s y zs] (hj : e = j) (h1 : j < m)
    (h : wpQuiet P ops C Q rest (a.put o.dst (.pointer (some ⟨b, f + j * s, none⟩)))) : wpQuiet P ops C Q (o :: rest) a := wpq_slcAddr hgd T x ix ho b f m c hx K e hi hT.out j hj h1 h
theorem iq_slcP {p : Option Addr} (hp : p = some ⟨b, f, none⟩) (hgd : o.guard = none) (ho : o.op = .indexAddr T x ix) (hx : a.eval x = .slice p m c) (hi : a.eval ix = .int K e) [hT : SlcC P T E s y zs] (hj : e = j) (h1 : j < m)
    (h : wpQuiet P ops C Q rest (a.put o.dst (.pointer (some ⟨b, f + j * s, none⟩)))) : wpQuiet P ops C Q (o :: rest) a := by
  subst hp
  exact wpq_slcAddr hgd T x ix ho b f m c hx K e hi hT.out j hj h1 h
theorem iq_arr (hgd : o.guard = none) (ho : o.op = .indexAddr T x ix) (hx : a.eval x = .pointer (some ⟨b, f, none⟩)) (hi : a.eval ix = .int K e) [hT : ArrC P T E n s] (hj : e = j) (h1 : j < n)
    (h : wpQuiet P ops C Q rest (a.put o.dst (.pointer (some ⟨b, f + j * s, none⟩)))) : wpQuiet P ops C Q (o :: rest) a := qa_arrAddrS hT.out hj h1 hgd ho hx hi h
theorem iq_field (hgd : o.guard = none) (ho : o.op = .fieldAddr T x i) (hx : a.eval x = .pointer (some ⟨b, f, none⟩)) [hf : FldC P T i k]
    (h : wpQuiet P ops C Q rest (a.put o.dst (.pointer (some ⟨b, f + k, none⟩)))) : wpQuiet P ops C Q (o :: rest) a := wpq_field hgd T x i ho b f hx k hf.out h
theorem iq_conv {S D : TypeId} {k' : IntKind} {e' : Int} (hgd : o.guard = none) (ho : o.op = .convert S D x) (hx : a.eval x = .int K e) [hs : IntC P S K] [hd : IntC P D k'] (hm : k'.wrap e = e')
    (h : wpQuiet P ops C Q rest (a.put o.dst (.int k' e'))) : wpQuiet P ops C Q (o :: rest) a := wpq_conv hgd S D x ho K k' e e' hx (by rw [hs.out]; rfl) hd.out hm h
theorem iq_len {p : Option Addr} (hgd : o.guard = none) (ho : o.op = .call { callee := .builtin .len, args := #[x], argTypes := #[T] }) (hx : a.eval x = .slice p n c) [hT : SlcC P T E s y zs]
    (h : wpQuiet P ops C Q rest (a.put o.dst (.int .i64 n))) : wpQuiet P ops C Q (o :: rest) a := wpq_lenSlice hgd x T ho p n c hx E hT.out.u h
end
section
variable {P : Program} {ops : Array Oper} {rest : List Oper} {o : Oper} {a : Act} {w : World} {Q : Exit → Act → World → Prop} {b f c m j s y : Nat} {T E : TypeId} {x ix : Operand} {zs : List Value} {K : IntKind} {e : Int}
theorem ia_slcP {p : Option Addr} (hp : p = some ⟨b, f, none⟩) (hgd : o.guard = none) (ho : o.op = .indexAddr T x ix) (hx : a.eval x = .slice p m c) (hi : a.eval ix = .int K e) [hT : SlcC P T E s y zs] (hj : e = j) (h1 : j < m)
    (h : wpList P ops Q rest (a.put o.dst (.pointer (some ⟨b, f + j * s, none⟩))) w) : wpList P ops Q (o :: rest) a w := by
  subst hp
  exact wpl_slcAddr hgd T x ix ho b f m c hx K e hi hT.out j hj h1 h
end

/-! ### This program's types -/
instance : OneC Tryz.prog 70 (.int .u16 0) := ⟨tU16⟩
instance : OneC Tryz.prog 2 (.int .i64 0) := ⟨tI64⟩
instance : OneC Tryz.prog 3 (.int .i64 0) := ⟨tInt⟩
instance : OneC Tryz.prog 53 (.int .i8 0) := ⟨tI8⟩
instance : OneC Tryz.prog 4 (.bool false) := ⟨tBool⟩
instance : OneC Tryz.prog 9 (.string ⟨#[]⟩) := ⟨tStr⟩
instance : OneC Tryz.prog 5 (.int .u8 0) := ⟨oneT_of Tryz.underlying5 rfl (by kernel_rfl) rfl⟩
instance : AggC Tryz.prog 72 12 (frv zf) := ⟨tFr.toAggT⟩
instance : AggC Tryz.prog 71 12 (frv zf) := ⟨tRaw.toAggT⟩
instance : ArrC Tryz.prog 72 70 12 1 := ⟨arrS_of Tryz.underlying72 (by kernel_rfl)⟩
instance : ArrC Tryz.prog 71 70 12 1 := ⟨arrS_of Tryz.underlying71 (by kernel_rfl)⟩
instance : BldC Tryz.prog 72 [] (frv zf) := ⟨tFrB⟩
instance : IntC Tryz.prog 2 .i64 := ⟨Tryz.underlying2⟩
instance : IntC Tryz.prog 3 .i64 := ⟨Tryz.underlying3⟩
instance : IntC Tryz.prog 53 .i8 := ⟨Tryz.underlying53⟩
instance : IntC Tryz.prog 70 .u16 := ⟨Tryz.underlying70⟩
instance : AggC Tryz.prog 109 2 [.int .i8 0, .int .i8 0] := ⟨tDot⟩
instance : SlcC Tryz.prog 106 109 2 2 [.int .i8 0, .int .i8 0] := ⟨tDotS⟩
instance : SlcC Tryz.prog 24 72 12 24 (frv zf) := ⟨tFrS⟩
instance : SlcC Tryz.prog 147 70 1 2 [.int .u16 0] := ⟨tU16S⟩
instance : SlcC Tryz.prog 57 9 1 16 [.string ⟨#[]⟩] := ⟨tStrS⟩
end Go.Proofs.YtlljflmbnbjccaaGreatDoor
/- Strings letter by letter and in parts: rules of the walk; no condition. -/
namespace Go.Proofs.YtlljflmbnbjccaaGreatDoor
open Go.RowKit
set_option linter.unusedSimpArgs false
set_option linter.unusedVariables false
theorem bytes_ext {a b : ByteArray} (h : a.data = b.data) : a = b := by cases a; cases b; simp at h; rw [h]
theorem ext_l (l : List UInt8) (a b : Nat) : (⟨l.toArray⟩ : ByteArray).extract a b = ⟨((l.drop a).take (b - a)).toArray⟩ := by
  apply bytes_ext
  rw [ByteArray.data_extract]
  simp [List.extract_eq_take_drop]
theorem size_l (l : List UInt8) : (⟨l.toArray⟩ : ByteArray).size = l.length := rfl
section
variable {P : Program} {ops : Array Oper} {rest : List Oper} {o : Oper} {a : Act} {w : World} {Q : Exit → Act → World → Prop} {T : TypeId} {x ix il ih : Operand} {l : List UInt8} {K K' : IntKind} {k i j : Nat}
theorem gate_ind {i : Operand} (_ho : o.op = .index T x i) (h : wpList P ops Q (o :: rest) a w) : wpList P ops Q (o :: rest) a w := h
theorem gate_scut {l h m : Option Operand} (_ho : o.op = .slice T x l h m) (hh : wpList P ops Q (o :: rest) a w) : wpList P ops Q (o :: rest) a w := hh
theorem index_l (hu : P.underlying T = some .string) (hk : k < l.length) (w : World) : (Instr.index T (.string ⟨l.toArray⟩) (.int K k)).run P w = .ok (.int .u8 ((l.getD k 0).toNat : Nat)) w := by
  have hk' : ((k : Nat) : Int) < ((⟨l.toArray⟩ : ByteArray).size : Nat) := by rw [size_l]; omega
  rw [run_index_string w T ⟨l.toArray⟩ K k hu, dif_pos ⟨by omega, hk'⟩]
  have e : (⟨l.toArray⟩ : ByteArray)[((k : Nat) : Int).toNat]'(by rw [Int.toNat_natCast]; exact hk) = l.getD k 0 := by
    rw [List.getD_eq_getElem?_getD, List.getElem?_eq_getElem hk]
    rfl
  rw [e]
theorem ia_sidx (hgd : o.guard = none) (ho : o.op = .index T x ix) (hx : a.eval x = .string ⟨l.toArray⟩) (hi : a.eval ix = .int K k) (hu : P.underlying T = some .string) (hk : k < l.length)
    (h : wpList P ops Q rest (a.put o.dst (.int .u8 ((l.getD k 0).toNat : Nat))) w) : wpList P ops Q (o :: rest) a w :=
  wpl_val hgd _ (by
    unfold execOp
    simp only [ho, hx, hi, Sem.run_bind, Sem.run_pure, Result.andThen_ok, index_l hu hk]) h
theorem ia_scut (hgd : o.guard = none) (ho : o.op = .slice T x (some il) (some ih) none) (hx : a.eval x = .string ⟨l.toArray⟩) (hil : a.eval il = .int K i) (hih : a.eval ih = .int K' j) (hu : P.underlying T = some .string) (h1 : i ≤ j) (h2 : j ≤ l.length)
    (h : wpList P ops Q rest (a.put o.dst (.string ⟨((l.drop i).take (j - i)).toArray⟩)) w) : wpList P ops Q (o :: rest) a w := by
  have hr := run_slice_string (P := P) (w := w) T ⟨l.toArray⟩ K K' (i : Nat) (j : Nat) hu (by omega) (by omega) (by rw [size_l]; omega)
  rw [Int.toNat_natCast, Int.toNat_natCast, ext_l] at hr
  exact wpl_val hgd _ (by
    unfold execOp
    simp only [ho, hx, hil, hih, Instr.sliceAt, Sem.run_bind, Sem.run_pure, Result.andThen_ok, Option.map_some, Option.map_none, run_underlying hu, hr]) h
theorem ia_scutF (hgd : o.guard = none) (ho : o.op = .slice T x (some il) none none) (hx : a.eval x = .string ⟨l.toArray⟩) (hil : a.eval il = .int K i) (hu : P.underlying T = some .string) (h1 : i ≤ l.length)
    (h : wpList P ops Q rest (a.put o.dst (.string ⟨(l.drop i).toArray⟩)) w) : wpList P ops Q (o :: rest) a w := by
  have hr := run_slice_string_from_if (P := P) (w := w) T ⟨l.toArray⟩ K (i : Nat) hu
  rw [if_pos ⟨by omega, by rw [size_l]; omega⟩, Int.toNat_natCast, ext_l, size_l, List.take_of_length_le (by rw [List.length_drop]; omega)] at hr
  exact wpl_val hgd _ (by
    unfold execOp
    simp only [ho, hx, hil, Instr.sliceAt, Sem.run_bind, Sem.run_pure, Result.andThen_ok, Option.map_some, Option.map_none, run_underlying hu, hr]) h
end
end Go.Proofs.YtlljflmbnbjccaaGreatDoor
