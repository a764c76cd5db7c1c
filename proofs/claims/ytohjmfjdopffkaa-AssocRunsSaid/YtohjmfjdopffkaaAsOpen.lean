/- The arguments of the statements about assoc, opened: headers, operations, quads. -/
import Derived.Test.YtohjmfjdopffkaaOpen
import Derived.Test.YtohjmfjdopffkaaAsObj
import Derived.Lib.SmallJoins
import Derived.OpenShut
namespace Go.Proofs.Ytohjmfjdopffkaa.As
open Go Go.RowKit Go.ChangeShapes Go.WideShapes Go.Deep Go.Proofs.Ytohjmfjdopffkaa Go.Proofs.YtohjmfjdopffkaaW.PrintWords
set_option linter.unusedVariables false
section
variable {H : Type} {enc : TypeId × Value → H} {w : World} {base : Nat} {spare : Nat → Bool} {held : Bool}
theorem pick {cs : List Value} {n : Nat} (f : Nat → Value) (hl : cs.length = n) (h : ∀ i, i < n → cs[i]? = some (f i)) : cs = (List.range n).map f := by
  apply List.ext_getElem?
  intro i
  by_cases hi : i < n
  · rw [h i hi]; simp [hi]
  · rw [List.getElem?_eq_none (by omega), List.getElem?_eq_none (by simp; omega)]
/-- Every number of a header is of its kind. -/
def Np.wf (p : Np) : Prop := (Lit.int .i64 p.p0).wf = true ∧ (Lit.int .i64 p.p1).wf = true ∧ (Lit.int .i64 p.p2).wf = true ∧ (Lit.int .i64 p.p3).wf = true ∧ (Lit.int .i64 p.p4).wf = true ∧ (Lit.int .i64 p.p5).wf = true ∧ (Lit.int .u32 p.p6).wf = true ∧ (Lit.int .u32 p.p7).wf = true ∧ (Lit.int .u32 p.p8).wf = true ∧ (Lit.int .u64 p.p9).wf = true ∧ (Lit.int .u64 p.p10).wf = true ∧ (Lit.int .u64 p.p11).wf = true ∧ (Lit.int .u64 p.p12).wf = true
def Np.l (p : Np) : List Value := [.int .i64 p.p0, .int .i64 p.p1, .int .i64 p.p2, .int .i64 p.p3, .int .i64 p.p4, .int .i64 p.p5, .int .u32 p.p6, .int .u32 p.p7, .int .u32 p.p8, .int .u64 p.p9, .int .u64 p.p10, .int .u64 p.p11, .int .u64 p.p12]
theorem wf32 {a : Int} (h : (Lit.int .u32 a).wf = true) : 0 ≤ a ∧ a ≤ 4294967295 := by
  simpa [Lit.wf, IntKind.min, IntKind.max, IntKind.signed, IntKind.bits] using h
theorem Np.wf_ok {p : Np} (h : p.wf) : p.ok := by
  obtain ⟨h0, h1, h2, h3, h4, h5, h6, h7, h8, h9, h10, h11, h12⟩ := h
  exact ⟨wf32 h8, Math.wfu64 h11, Math.wfu64 h12⟩
set_option maxRecDepth 100000 in
theorem open31 (n : Nat) (cs : List Value) (x : DataW H × List MemPlace) (h : DataW.trod enc Try.prog w base spare held n 31 cs = some x) : ∃ p : Np, cs = p.l ∧ p.wf := by
  obtain ⟨hl, hf⟩ := Open.field Try.underlying31 h
  obtain ⟨n0, y0, h0⟩ := hf 0 _ rfl
  obtain ⟨a0, c0, w0⟩ := Open.field_int Try.underlying3 (by kernel_rfl) h0
  obtain ⟨n1, y1, h1⟩ := hf 1 _ rfl
  obtain ⟨a1, c1, w1⟩ := Open.field_int Try.underlying3 (by kernel_rfl) h1
  obtain ⟨n2, y2, h2⟩ := hf 2 _ rfl
  obtain ⟨a2, c2, w2⟩ := Open.field_int Try.underlying3 (by kernel_rfl) h2
  obtain ⟨n3, y3, h3⟩ := hf 3 _ rfl
  obtain ⟨a3, c3, w3⟩ := Open.field_int Try.underlying3 (by kernel_rfl) h3
  obtain ⟨n4, y4, h4⟩ := hf 4 _ rfl
  obtain ⟨a4, c4, w4⟩ := Open.field_int Try.underlying3 (by kernel_rfl) h4
  obtain ⟨n5, y5, h5⟩ := hf 5 _ rfl
  obtain ⟨a5, c5, w5⟩ := Open.field_int Try.underlying3 (by kernel_rfl) h5
  obtain ⟨n6, y6, h6⟩ := hf 6 _ rfl
  obtain ⟨a6, c6, w6⟩ := Open.field_int Try.underlying29 (by kernel_rfl) h6
  obtain ⟨n7, y7, h7⟩ := hf 7 _ rfl
  obtain ⟨a7, c7, w7⟩ := Open.field_int Try.underlying29 (by kernel_rfl) h7
  obtain ⟨n8, y8, h8⟩ := hf 8 _ rfl
  obtain ⟨a8, c8, w8⟩ := Open.field_int Try.underlying29 (by kernel_rfl) h8
  obtain ⟨n9, y9, h9⟩ := hf 9 _ rfl
  obtain ⟨a9, c9, w9⟩ := Open.field_int Try.underlying28 (by kernel_rfl) h9
  obtain ⟨n10, y10, h10⟩ := hf 10 _ rfl
  obtain ⟨a10, c10, w10⟩ := Open.field_int Try.underlying28 (by kernel_rfl) h10
  obtain ⟨n11, y11, h11⟩ := hf 11 _ rfl
  obtain ⟨a11, c11, w11⟩ := Open.field_int Try.underlying28 (by kernel_rfl) h11
  obtain ⟨n12, y12, h12⟩ := hf 12 _ rfl
  obtain ⟨a12, c12, w12⟩ := Open.field_int Try.underlying28 (by kernel_rfl) h12
  have hl2 : cs.length = 13 := hl.trans (by kernel_rfl)
  refine ⟨⟨a0, a1, a2, a3, a4, a5, a6, a7, a8, a9, a10, a11, a12⟩, ?_, w0, w1, w2, w3, w4, w5, w6, w7, w8, w9, w10, w11, w12⟩
  apply List.ext_getElem?
  intro i
  match i with
  | 0 => exact c0
  | 1 => exact c1
  | 2 => exact c2
  | 3 => exact c3
  | 4 => exact c4
  | 5 => exact c5
  | 6 => exact c6
  | 7 => exact c7
  | 8 => exact c8
  | 9 => exact c9
  | 10 => exact c10
  | 11 => exact c11
  | 12 => exact c12
  | j + 13 => rw [List.getElem?_eq_none (by omega), List.getElem?_eq_none (by simp [Np.l])]
set_option maxRecDepth 100000 in
theorem open33 (n : Nat) (cs : List Value) (x : DataW H × List MemPlace) (h : DataW.trod enc Try.prog w base spare held n 33 cs = some x) :
    ∃ (kd now nonce : Int) (p : Np), cs = .int .i64 kd :: .int .i64 now :: .int .u64 nonce :: p.l ∧ (Lit.int .i64 kd).wf = true ∧ (Lit.int .i64 now).wf = true ∧ (Lit.int .u64 nonce).wf = true ∧ p.wf := by
  obtain ⟨hl, hf⟩ := Open.field Try.underlying33 h
  obtain ⟨n0, y0, h0⟩ := hf 0 _ rfl
  obtain ⟨a0, c0, w0⟩ := Open.field_int Try.underlying3 (by kernel_rfl) h0
  obtain ⟨n1, y1, h1⟩ := hf 1 _ rfl
  obtain ⟨a1, c1, w1⟩ := Open.field_int Try.underlying3 (by kernel_rfl) h1
  obtain ⟨n2, y2, h2⟩ := hf 2 _ rfl
  obtain ⟨a2, c2, w2⟩ := Open.field_int Try.underlying28 (by kernel_rfl) h2
  obtain ⟨n3, y3, h3⟩ := hf 3 _ rfl
  obtain ⟨p, e, wp⟩ := open31 n3 ((cs.drop 3).take (Try.prog.cellsOf 31)) y3 h3
  have hl2 : cs.length = 16 := hl.trans (by kernel_rfl)
  refine ⟨a0, a1, a2, p, ?_, w0, w1, w2, wp⟩
  have h13 : Try.prog.cellsOf 31 = 13 := by kernel_rfl
  rw [h13] at e
  have e2 : cs.drop 3 = p.l := by rw [← e, List.take_of_length_le (by rw [List.length_drop]; omega)]
  match cs, hl2, c0, c1, c2, e2 with
  | x0 :: x1 :: x2 :: r, _, c0, c1, c2, e2 =>
    have f0 : x0 = .int .i64 a0 := Option.some.inj c0
    have f1 : x1 = .int .i64 a1 := Option.some.inj c1
    have f2 : x2 = .int .u64 a2 := Option.some.inj c2
    have f3 : r = p.l := e2
    rw [f0, f1, f2, f3]
theorem open38 (n : Nat) (cs : List Value) (x : DataW H × List MemPlace) (h : DataW.trod enc Try.prog w base spare held n 38 cs = some x) :
    ∃ q1 q2 q3 q4 : Int, cs = [.int .i64 q1, .int .i64 q2, .int .i64 q3, .int .i64 q4] ∧ (Lit.int .i64 q1).wf = true ∧ (Lit.int .i64 q2).wf = true ∧ (Lit.int .i64 q3).wf = true ∧ (Lit.int .i64 q4).wf = true := by
  obtain ⟨hl, hf⟩ := Open.field Try.underlying38 h
  obtain ⟨n0, y0, h0⟩ := hf 0 _ rfl
  obtain ⟨a0, c0, w0⟩ := Open.field_int Try.underlying3 (by kernel_rfl) h0
  obtain ⟨n1, y1, h1⟩ := hf 1 _ rfl
  obtain ⟨a1, c1, w1⟩ := Open.field_int Try.underlying3 (by kernel_rfl) h1
  obtain ⟨n2, y2, h2⟩ := hf 2 _ rfl
  obtain ⟨a2, c2, w2⟩ := Open.field_int Try.underlying3 (by kernel_rfl) h2
  obtain ⟨n3, y3, h3⟩ := hf 3 _ rfl
  obtain ⟨a3, c3, w3⟩ := Open.field_int Try.underlying3 (by kernel_rfl) h3
  have hl2 : cs.length = 4 := hl.trans (by kernel_rfl)
  refine ⟨a0, a1, a2, a3, ?_, w0, w1, w2, w3⟩
  apply List.ext_getElem?
  intro i
  match i with
  | 0 => exact c0
  | 1 => exact c1
  | 2 => exact c2
  | 3 => exact c3
  | j + 4 => rw [List.getElem?_eq_none (by omega), List.getElem?_eq_none (by simp)]
/-- A struct that came in by value. -/
theorem arg_agg {r : Reach} {b0 : Nat} {t : TypeId} {fs : Array Field} {v : Value} {d : DataW H} {p : List MemPlace} (hs : Try.prog.underlying t = some (.struct fs)) (hv : Value.okWide Try.prog w r b0 t v) (h : DataW.Trod enc Try.prog w base spare held t v d p) :
    ∃ (cs : List Value) (n : Nat), v = .agg cs.toArray ∧ DataW.trod enc Try.prog w base spare held n t cs = some (d, p) := by
  obtain ⟨cs, rfl, hsz⟩ := okWide_struct hs hv
  obtain ⟨fuel, hf⟩ := h
  exact ⟨cs.toList, fuel, by simp, hf⟩
end
end Go.Proofs.Ytohjmfjdopffkaa.As
