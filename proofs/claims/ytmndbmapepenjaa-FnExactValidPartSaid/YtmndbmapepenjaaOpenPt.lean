/- How a part (a frame, a kind of move, a track) among a law's arguments is read; no condition. -/
import Derived.Test.YtmndbmapepenjaaOpenP
import Derived.Test.YtmndbmapepenjaaPart
namespace Go.Proofs.Ytmndbmapepenjaa
open Go.RowKit Go.ChangeShapes Go.WideShapes
section
variable {H : Type} {enc : TypeId × Value → H} {P : Program} {w : World} {base : Nat} {spare : Nat → Bool} {held : Bool} {t tf t8 ts tk e e2 : TypeId}
theorem okWide_structP {r : Reach} {b0 : Nat} {fs : Array Field} {v : Value} (ht : P.underlying t = some (.struct fs)) (h : Value.okWide P w r b0 t v) : ∃ cs, v = .agg cs ∧ cs.size = P.cellsOf t := by
  simp only [Value.okWide, ht] at h
  obtain ⟨cs, h1, h2, _⟩ := h
  exact ⟨cs, h1, h2⟩
theorem open_part {g0 g1 g2 f0 f1 f2 : Field} (hp : P.underlying t = some (.struct #[g0, g1, g2])) (hgo : g0.offset = 0 ∧ g1.offset = 12 ∧ g2.offset = 13) (hg : g0.type = tf ∧ g1.type = e ∧ g2.type = ts)
    (hfr : P.underlying tf = some (.array 12 t8)) (hfe : P.underlying t8 = some (.int .u16)) (hcf : P.cellsOf t8 = 1) (hcF : P.cellsOf tf = 12) (hcS : P.cellsOf ts = 1)
    (ht : P.underlying ts = some (.slice tk)) (hs : P.underlying tk = some (.struct #[f0, f1, f2])) (ho : f0.offset = 0 ∧ f1.offset = 1 ∧ f2.offset = 2) (h0 : f0.type = e2) (hty : f1.type = e ∧ f2.type = e) (he2 : P.underlying e2 = some (.int .i16)) (he : P.underlying e = some (.int .i8)) (hce2 : P.cellsOf e2 = 1) (hce : P.cellsOf e = 1) (hct : P.cellsOf tk = 3) (hcP : P.cellsOf t = 14)
    {r : Reach} {b0 : Nat} {v : Value} {d : DataW H} {ps : List MemPlace} (hval : Value.okWide P w r b0 t v) (hd : DataW.Trod enc P w base spare held t v d ps) :
    ∃ (f : List Nat) (x : Int) (B : List (Int × Int × Int)) (p : Option Addr) (n c : Nat), FrOk f ∧ (-128 ≤ x ∧ x ≤ 127) ∧ B.length = n ∧ v = .agg (ptv f x (.slice p n c)).toArray ∧ n ≤ 9223372036854775807 ∧ Rd w p n (encs k3 B) ∧ ∀ s ∈ B, In168 s := by
  obtain ⟨cs, rfl, hcs⟩ := okWide_structP hp hval
  obtain ⟨fuel, hf⟩ := hd
  obtain ⟨xs, m, _, hx, hl, hlen, hx2⟩ := DataW.trod_struct hp hf
  obtain ⟨o0, o1, o2⟩ := hgo
  obtain ⟨t0, t1, t2⟩ := hg
  match xs, hlen with
  | [y0, y1, y2], _ =>
    have q0 := hx2 0 g0 rfl
    have q1 := hx2 1 g1 rfl
    have q2 := hx2 2 g2 rfl
    rw [t0, o0, hcF] at q0
    rw [t1, o1, hce] at q1
    rw [t2, o2, hcS] at q2
    simp only [Value.cells] at hl q0 q1 q2
    obtain ⟨f, hok, e0, _⟩ := frame_cells hfr hfe hcf hcF q0
    obtain ⟨x, e1, _, wf⟩ := DataW.trod_int he q1
    obtain ⟨B, p, n, c, hB, e2, hn, hr⟩ := open_vecC (α := {a : Int × Int × Int // In168 a}) (s := 3) (fun a => k3 a.1) (by decide) (fun a => rfl) ht hct (fun fuel cs x h => by
      obtain ⟨a, ha, e1⟩ := key_cells hs ho h0 hty he2 he hce2 hce hct h
      exact ⟨⟨a, ha⟩, e1⟩) q2
    refine ⟨f, x, B.map Subtype.val, p, n, c, hok, i8_wf wf, by simpa using hB, ?_, hn, by rw [← encs_sub]; exact hr, fun s hs => ?_⟩
    · have hk : cs.toList = ptv f x (.slice p n c) := by
        rw [hcP] at hl
        have a1 : cs.toList = cs.toList.take 12 ++ cs.toList.drop 12 := (List.take_append_drop 12 _).symm
        have a2 : cs.toList.drop 12 = (cs.toList.drop 12).take 1 ++ (cs.toList.drop 12).drop 1 := (List.take_append_drop 1 _).symm
        have a3 : (cs.toList.drop 12).drop 1 = (cs.toList.drop 13).take 1 := by
          rw [List.drop_drop, List.take_of_length_le (by rw [List.length_drop]; omega)]
        rw [List.drop_zero] at e0
        rw [a1, a2, a3, e0, e1, e2]
        rfl
      rw [← hk, Array.toArray_toList]
    · obtain ⟨a, _, rfl⟩ := List.mem_map.1 hs
      exact a.2
end
end Go.Proofs.Ytmndbmapepenjaa
