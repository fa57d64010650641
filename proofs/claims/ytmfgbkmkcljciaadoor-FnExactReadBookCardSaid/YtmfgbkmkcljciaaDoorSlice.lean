/- Slices that the call makes itself: built, appended to, made; no condition. -/
import Derived.Test.YtmfgbkmkcljciaaDoorKit
namespace Go.Proofs.YtmfgbkmkcljciaaDoor
open Go.RowKit
set_option linter.unusedSimpArgs false

theorem foldl_set (off : Nat) : ∀ (l : List Value) (k : Nat) (A : List Value), off + k + l.length ≤ A.length →
    ((l.zipIdx k).foldl (fun (cs : Array Value) (x : Value × Nat) => cs.setIfInBounds (off + x.2) x.1) A.toArray) = (A.take (off + k) ++ l ++ A.drop (off + k + l.length)).toArray
  | [], k, A, _ => by simp
  | v :: l, k, A, h => by
    simp only [List.length_cons] at h
    rw [List.zipIdx_cons, List.foldl_cons, List.setIfInBounds_toArray]
    rw [foldl_set off l (k + 1) (A.set (off + k) v) (by rw [List.length_set]; omega)]
    congr 1
    have e := list_seg_step A (off + k) v l (by omega)
    simpa [Nat.add_assoc, Nat.add_comm 1, Nat.add_left_comm] using e
theorem fill_part (place : Nat → Option (Nat × Nat)) (A : List Value) (i off s : Nat) (v : Value) (cs : List Value) (rest : List (Nat × Value)) (hp : place i = some (off, s)) (hv : v.cells = cs.toArray) (hl : cs.length = s) (hA : off + s ≤ A.length) :
    Instr.fill place A.toArray ((i, v) :: rest) = Instr.fill place (A.take off ++ cs ++ A.drop (off + s)).toArray rest := by
  rw [Instr.fill]
  simp only [hp, hv]
  rw [if_neg (by simp [hl]; omega)]
  congr 1
  have h := foldl_set off cs 0 A (by omega)
  rw [Nat.add_zero, hl] at h
  rw [← h]
  simp [← Array.foldl_toList]

theorem At.upd {b : Nat} {old : List Value} {T : TypeId} {L : List (Nat × List Value × TypeId)} (h : At b old T L) (b' : Nat) (new : List Value) : ∃ L', Upd b b' old new T L L' := by
  induction h with
  | here => exact ⟨_, .here⟩
  | there _ ih => obtain ⟨L', h⟩ := ih; exact ⟨_, .there h⟩

section
variable {P : Program} {ops : Array Oper} {rest : List Oper} {o : Oper} {a : Act} {w w0 : World} {Q : Exit → Act → World → Prop} {M : List Nat} {L L' : List (Nat × List Value × TypeId)}

/-- One element. -/
theorem wpl_buildSlice1 (hgd : o.guard = none) (T : TypeId) (x : Operand) (ho : o.op = .buildSlice T 1 #[(0, x)]) (v : Value) (hx : a.eval x = v) (cs : List Value) (hcs : v.cells = cs.toArray)
    {E : TypeId} {s y : Nat} {z : List Value} (hT : SlcT P T E s y z) (hl : cs.length = s) (h24 : s ≤ 16777216) (st : St M w0 w L)
    (h : ∀ B w1, St M w0 w1 ((B, cs, E) :: L) → wpList P ops Q rest (a.put o.dst (.slice (some ⟨B, 0, none⟩) 1 1)) w1) : wpList P ops Q (o :: rest) a w := by
  obtain ⟨i, u, hi, hs, hy, hz, hc⟩ := hT.i
  have hsz := hT.sizeOf w
  have hp := hT.p
  refine wpList_plain hgd fun K hK => ?_
  have hfill : Instr.fill (fun k => some (k * s, s)) ((Array.range (1 * s)).map (fun k => z.toArray[k % z.toArray.size]!)) [(0, v)] = some cs.toArray := by
    obtain ⟨A, hA⟩ : ∃ A : List Value, ((Array.range (1 * s)).map (fun k => z.toArray[k % z.toArray.size]!)) = A.toArray := ⟨_, (Array.toArray_toList).symm⟩
    have hAl : A.length = s := by have := congrArg Array.size hA; simpa using this.symm
    rw [hA, fill_part _ A 0 0 s v cs [] (by simp) hcs hl (by omega)]
    simp [Instr.fill, List.drop_of_length_le (by omega : A.length ≤ s)]
  unfold Oper.wp execOp
  simp only [ho, hx, Instr.buildSlice, zeroValue, typeInfo, hi, hz, hc, Sem.run_bind, Sem.run_pure, run_program, Result.andThen_ok, run_underlying hT.u w, hsz, newRow, List.map_toArray, List.map_cons, List.map_nil, Sem.run_ite]
  rw [if_neg (by omega), if_neg (by omega)]
  simp only [Sem.run_bind, Sem.run_pure, run_program, hi, hz, hc, Result.andThen_ok, hfill, run_newObj, World.alloc_eq]
  exact hK _ _ (h _ _ (st.alloc cs E))
/-- Two elements. -/
theorem wpl_buildSlice2 (hgd : o.guard = none) (T : TypeId) (x x' : Operand) (ho : o.op = .buildSlice T 2 #[(0, x), (1, x')]) (v v' : Value) (hx : a.eval x = v) (hx' : a.eval x' = v') (cs cs' : List Value) (hcs : v.cells = cs.toArray) (hcs' : v'.cells = cs'.toArray)
    {E : TypeId} {s y : Nat} {z : List Value} (hT : SlcT P T E s y z) (hl : cs.length = s) (hl' : cs'.length = s) (h24 : 2 * s ≤ 16777216) (st : St M w0 w L)
    (h : ∀ B w1, St M w0 w1 ((B, cs ++ cs', E) :: L) → wpList P ops Q rest (a.put o.dst (.slice (some ⟨B, 0, none⟩) 2 2)) w1) : wpList P ops Q (o :: rest) a w := by
  obtain ⟨i, u, hi, hs, hy, hz, hc⟩ := hT.i
  have hsz := hT.sizeOf w
  have hp := hT.p
  refine wpList_plain hgd fun K hK => ?_
  have hfill : Instr.fill (fun k => some (k * s, s)) ((Array.range (2 * s)).map (fun k => z.toArray[k % z.toArray.size]!)) [(0, v), (1, v')] = some (cs ++ cs').toArray := by
    obtain ⟨A, hA⟩ : ∃ A : List Value, ((Array.range (2 * s)).map (fun k => z.toArray[k % z.toArray.size]!)) = A.toArray := ⟨_, (Array.toArray_toList).symm⟩
    have hAl : A.length = 2 * s := by have := congrArg Array.size hA; simpa using this.symm
    rw [hA, fill_part _ A 0 0 s v cs _ (by simp) hcs hl (by omega), fill_part _ _ 1 s s v' cs' [] (by simp) hcs' hl' (by simp; omega)]
    simp [Instr.fill, hl]
    omega
  unfold Oper.wp execOp
  simp only [ho, hx, hx', Instr.buildSlice, zeroValue, typeInfo, hi, hz, hc, Sem.run_bind, Sem.run_pure, run_program, Result.andThen_ok, run_underlying hT.u w, hsz, newRow, List.map_toArray, List.map_cons, List.map_nil, Sem.run_ite]
  rw [if_neg (by omega), if_neg (by omega)]
  simp only [Sem.run_bind, Sem.run_pure, run_program, hi, hz, hc, Result.andThen_ok, hfill, run_newObj, World.alloc_eq]
  exact hK _ _ (h _ _ (st.alloc (cs ++ cs') E))

/-- A slice of the call's own grows by what lies in a block. Behind it the slice lies in a block g' of the call's own; its spare cells are told by 'spare'. -/
theorem wpl_append (hgd : o.guard = none) (s x : Operand) (T : TypeId) (ho : o.op = .call { callee := .builtin .append, args := #[s, x], argTypes := #[T, T] })
    {E : TypeId} {sz y : Nat} {z : List Value} (hT : SlcT P T E sz y z) (g n cap : Nat) (hs : a.eval s = .slice (some ⟨g, 0, none⟩) n cap)
    (ad : Addr) (m c : Nat) (hx : a.eval x = .slice (some ad) m c) (news : List Value) (hnl : news.length = m * sz) (hnews : ∀ j u, news[j]? = some u → w.cell? (ad.add j) = some u) (h1 : ∀ u ∈ news, u.oneCell' = true)
    (st : St M w0 w L) (xs spare : List Value) (Lf : Nat → List Value → List (Nat × List Value × TypeId)) (hup : ∀ g' new, Upd g g' (xs ++ spare) new E L (Lf g' new)) (hxl : xs.length = n * sz) (hcap : (xs ++ spare).length = cap * sz) (hcm : cap ≤ maxLen)
    (h63 : n + m ≤ maxLen) (hby : (n + m) * y ≤ 140737488355328)
    (h : ∀ g' cap' spare' w1, St M w0 w1 (Lf g' ((xs ++ news) ++ spare')) → ((xs ++ news) ++ spare').length = cap' * sz → cap' ≤ maxLen →
      wpList P ops Q rest (a.put o.dst (.slice (some ⟨g', 0, none⟩) (n + m) cap')) w1) : wpList P ops Q (o :: rest) a w := by
  obtain ⟨i, u, hi, hs', hy', hz, hc⟩ := hT.i
  subst hs'
  subst hy'
  have hb := st.get (hup g []).at
  have hlt := hb.lt
  have hsmall : n + m ≤ 9223372036854775807 := by simp only [maxLen] at h63; omega
  refine wpList_plain hgd fun K hK => ?_
  by_cases hroom : n + m ≤ cap
  · have hfit : n * i.size + news.length ≤ (xs ++ spare).length := by rw [hnl, hcap, ← Nat.add_mul]; exact Nat.mul_le_mul_right _ hroom
    have hr := run_append_room (P := P) w T o.type E i hT.u hi g n cap (xs ++ spare).toArray hb ad m c news hnl hnews h1 hroom (by simpa using hfit)
    have hup1 := hup g ((xs ++ news) ++ spare.drop news.length)
    have hnew : ((xs ++ spare).toArray.toList.take (n * i.size) ++ news ++ (xs ++ spare).toArray.toList.drop (n * i.size + news.length)) = (xs ++ news) ++ spare.drop news.length := by
      simp only [List.toList_toArray]
      rw [← hxl, List.take_left, ← List.drop_drop, List.drop_left]
    rw [hnew] at hr
    unfold Oper.wp execOp
    simp only [ho, resolve, invoke, builtin, Sem.run_bind, Sem.run_pure, Result.andThen_ok, List.map_toArray, List.map_cons, List.map_nil, hs, hx, hr]
    refine hK _ _ (h g cap (spare.drop news.length) _ (st.setRow hup1) ?_ hcm)
    simp only [List.length_append, List.length_drop] at hfit hcap ⊢
    omega
  · have holds : ∀ j v, xs[j]? = some v → w.cell? ((⟨g, 0, none⟩ : Addr).add j) = some v := fun j v hj => by
      have hjl : j < xs.length := (List.getElem?_eq_some_iff.1 hj).1
      rw [Addr.add_lit, Nat.zero_add]
      exact hb.cellv (by rw [List.getElem?_append_left hjl]; exact hj)
    have hr := run_append_grow (P := P) w T o.type E i u hT.u hi hz ⟨g, 0, none⟩ n cap xs hxl holds ad m c news hnl hnews (by omega) (by omega) (growslice_fits (by omega) hby)
    have hge := grownCap_ge w (n + m) cap E
    have hcm' := grownCap_le_maxLen w (n + m) cap E h63
    obtain ⟨zs, hzs⟩ : ∃ zs : List Value, Builtin.zeroCells u.cells (grownCap w (n + m) cap E - (n + m)) = zs.toArray := ⟨_, (Array.toArray_toList).symm⟩
    have hzl : zs.length = (grownCap w (n + m) cap E - (n + m)) * i.size := by
      have h1 := congrArg Array.size hzs
      rw [size_zeroCells, hc] at h1
      have h2 := hT.l
      simp only [List.size_toArray] at h1
      rw [← h1, h2]
    rw [hzs, show xs.toArray ++ news.toArray ++ zs.toArray = ((xs ++ news) ++ zs).toArray by simp] at hr
    have hup1 := hup w.heap.size ((xs ++ news) ++ zs)
    have st1 := (st.call (Keep.drew w)).alloc ((xs ++ news) ++ zs) E
    have hsz : w.drew.heap.size = w.heap.size := rfl
    rw [hsz] at st1
    have stn : St M w0 (w.drew.alloc (.cells ((xs ++ news) ++ zs).toArray E)) (Lf w.heap.size ((xs ++ news) ++ zs)) := by
      refine ⟨st1.keep, fun p hp => ?_, fun p hp => ?_, hup1.nodup st.nd (Or.inr fun p hp e => ?_)⟩
      · rcases hup1.mem st.nd p hp with rfl | ⟨hp', _⟩
        · exact st1.get .here
        · exact st1.has p (List.mem_cons_of_mem _ hp')
      · rcases hup1.mem st.nd p hp with rfl | ⟨hp', _⟩
        · exact st1.ge _ List.mem_cons_self
        · exact st.ge p hp'
      · have := (st.has p hp).lt
        omega
    unfold Oper.wp execOp
    simp only [ho, resolve, invoke, builtin, Sem.run_bind, Sem.run_pure, Result.andThen_ok, List.map_toArray, List.map_cons, List.map_nil, hs, hx, hr]
    refine hK _ _ (h w.heap.size (grownCap w (n + m) cap E) zs _ stn ?_ hcm')
    rw [List.length_append, List.length_append, hxl, hnl, hzl, ← Nat.add_mul, ← Nat.add_mul]
    congr 1
    omega
end

/-- A block that a callee has made is the caller's own from here on. -/
theorem St.adopt {M : List Nat} {w0 w w1 : World} {L : List (Nat × List Value × TypeId)} {g : Nat} {cs : List Value} {E : TypeId} (st : St M w0 w L) (hk : Keep [] w w1) (hg : w.heap.size ≤ g) (hb : Blk w1 g cs E) : St M w0 w1 ((g, cs, E) :: L) := by
  have st1 := st.call hk
  refine ⟨st1.keep, fun p hp => ?_, fun p hp => ?_, ?_⟩
  · rcases List.mem_cons.1 hp with rfl | hp
    · exact hb
    · exact st1.has p hp
  · rcases List.mem_cons.1 hp with rfl | hp
    · exact Or.inl (Nat.le_trans st.keep.size hg)
    · exact st1.ge p hp
  · simp only [List.map_cons, List.nodup_cons]
    refine ⟨fun hm => ?_, st.nd⟩
    obtain ⟨p, hp, e⟩ := List.mem_map.1 hm
    have := (st.has p hp).lt
    omega
/-- What a function leaves that hands back a slice of its own: n elements, their cells xs. -/
def Gives (E : TypeId) (sz n : Nat) (xs : List Value) (w : World) (v : Value) (w' : World) : Prop :=
  ∃ g cap spare, v = .slice (some ⟨g, 0, none⟩) n cap ∧ w.heap.size ≤ g ∧ Blk w' g (xs ++ spare) E ∧ (xs ++ spare).length = cap * sz ∧ cap ≤ maxLen
end Go.Proofs.YtmfgbkmkcljciaaDoor
