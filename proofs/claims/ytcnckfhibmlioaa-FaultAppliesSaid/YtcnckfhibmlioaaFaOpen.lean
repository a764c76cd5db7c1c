/- An argument that is a slice, opened: what its elements read as is a list (of whatever kind the elements are). -/
import Derived.Test.YtcnckfhibmlioaaPFax0
import Derived.Deep.Slices
import Derived.Deep.Fields
import Derived.ChangeSame
import Derived.Lib.SmallJoins
import Derived.OpenShut
namespace Go.Proofs.Ytcnckfhibmlioaa.Open
open Go Go.RowKit Go.ChangeShapes Go.WideShapes Go.Deep Go.Proofs.YtcnckfhibmlioaaW.PrintWords
section
variable {H : Type} {enc : TypeId × Value → H} {P : Program} {w : World} {base : Nat} {spare : Nat → Bool} {held : Bool}
/-- A slice's elements, by what one element reads as (z: any value, for what is beyond the length). -/
theorem open_rows {α : Type} (d : Kd α) (z : α) (Q : α → Prop) {t e : TypeId} {fuel : Nat} {cs : List Value} {x : DataW H × List MemPlace} (ht : P.underlying t = some (.slice e)) (hsz : P.cellsOf e = d.sz)
    (hK : ∀ n cs' x', DataW.trod enc P w base spare held n e cs' = some x' → ∃ a, d.K w a cs' ∧ Q a) (h : DataW.trod enc P w base spare held fuel t cs = some x) :
    ∃ (A : Option Addr) (cap : Nat) (l : List α), cs = [.slice A l.length cap] ∧ l.length ≤ cap ∧ cap ≤ maxLen ∧ d.C w A l.length l ∧ ∀ a ∈ l, Q a := by
  rcases open_slice ht h with ⟨rfl, _⟩ | ⟨a, len, cap, m, n, D, Pl, rfl, _, hl, hm, hmm, _, hi⟩
  · exact ⟨none, 0, [], rfl, Nat.le_refl _, Nat.zero_le _, Kd.C_nil d w, fun a ha => by simp at ha⟩
  · have hlm : len ≤ m := by rw [hmm]; split <;> omega
    have each : ∀ i : Nat, ∃ y : α, i < len → Q y ∧ ∃ c, c.length = d.sz ∧ d.K w y c ∧ ∀ j u, c[j]? = some u → w.cell? (a.add (i * d.sz + j)) = some u := by
      intro i
      by_cases hil : i < len
      · obtain ⟨cs', hc, ht'⟩ := hi i (by omega)
        obtain ⟨y, hy, hq⟩ := hK _ _ _ ht'
        rw [hsz] at hc
        obtain ⟨_, hcl, hat⟩ := World.cells?_some hc
        refine ⟨y, fun _ => ⟨hq, cs', hcl, hy, fun j u hu => ?_⟩⟩
        have hj : j < d.sz := by rw [← hcl]; exact (List.getElem?_eq_some_iff.1 hu).1
        rw [← Go.Deep.add_add, hat j hj, hu]
      · exact ⟨z, fun hh => absurd hh hil⟩
    let f : Nat → α := fun i => Classical.choose (each i)
    have hf : ∀ i, i < len → Q (f i) ∧ ∃ c, c.length = d.sz ∧ d.K w (f i) c ∧ ∀ j u, c[j]? = some u → w.cell? (a.add (i * d.sz + j)) = some u := fun i => Classical.choose_spec (each i)
    have hlen : ((List.range len).map f).length = len := by simp
    refine ⟨some a, cap, (List.range len).map f, by rw [hlen], by rw [hlen]; exact hl, hm, ⟨rfl, by rw [hlen]; have := hm; simp [maxLen] at this; omega, fun _ => ⟨a, rfl, fun j p hj => ?_⟩⟩, fun y hy => ?_⟩
    · rw [List.getElem?_map] at hj
      obtain ⟨i, hi', rfl⟩ := Option.map_eq_some_iff.1 hj
      obtain ⟨hil, e⟩ := List.getElem?_eq_some_iff.1 hi'
      simp at hil e
      subst e
      exact (hf j hil).2
    · obtain ⟨i, hi', rfl⟩ := List.mem_map.1 hy
      exact (hf i (by simpa using hi')).1
/-- A struct's field, by its place. -/
theorem field {t : TypeId} {fs : Array Field} {fuel : Nat} {cs : List Value} {x : DataW H × List MemPlace} (ht : P.underlying t = some (.struct fs)) (h : DataW.trod enc P w base spare held fuel t cs = some x) :
    cs.length = P.cellsOf t ∧ ∀ (i : Nat) (f : Field), fs[i]? = some f → ∃ n y, DataW.trod enc P w base spare held n f.type ((cs.drop f.offset).take (P.cellsOf f.type)) = some y := by
  obtain ⟨ys, m, _, _, hlen, hyl, hf⟩ := DataW.trod_struct ht h
  refine ⟨hlen, fun i f hi => ?_⟩
  have hil : i < ys.length := by rw [hyl]; exact (Array.getElem?_eq_some_iff.1 hi).1
  exact ⟨m, _, (hf i f hi).trans (List.getElem?_eq_getElem hil)⟩
/-- A field that is a whole number. -/
theorem field_int {t : TypeId} {k : IntKind} {n off : Nat} {cs : List Value} {y : DataW H × List MemPlace} (ht : P.underlying t = some (.int k)) (hc : P.cellsOf t = 1) (h : DataW.trod enc P w base spare held n t ((cs.drop off).take (P.cellsOf t)) = some y) :
    ∃ a, cs[off]? = some (.int k a) ∧ (Lit.int k a).wf = true := by
  obtain ⟨a, e, _, hw⟩ := DataW.trod_int ht h
  refine ⟨a, ?_, hw⟩
  rw [hc] at e
  have : ((cs.drop off).take 1)[0]? = some (.int k a) := by rw [e]; rfl
  simpa using this
end
end Go.Proofs.Ytcnckfhibmlioaa.Open

namespace Go.Proofs.Ytcnckfhibmlioaa.Fa
open Go Go.RowKit Go.ChangeShapes Go.WideShapes Go.Deep Go.Proofs.Ytcnckfhibmlioaa Go.Proofs.Ytcnckfhibmlioaa.PFa Go.Proofs.YtcnckfhibmlioaaW.PrintWords
set_option linter.unusedVariables false
section
variable {H : Type} {enc : TypeId × Value → H} {w : World} {base : Nat} {spare : Nat → Bool} {held : Bool}
set_option maxRecDepth 100000 in
theorem open46 (n : Nat) (cs : List Value) (x : DataW H × List MemPlace) (h : DataW.trod enc Try.prog w base spare held n 46 cs = some x) :
    ∃ (b0 b1 b2 b3 b4 : Int), cs = [.int .i64 b0, .int .i64 b1, .int .i64 b2, .int .i64 b3, .int .i64 b4] ∧ (Lit.int .i64 b0).wf = true ∧ (Lit.int .i64 b1).wf = true ∧ (Lit.int .i64 b2).wf = true ∧ (Lit.int .i64 b3).wf = true ∧ (Lit.int .i64 b4).wf = true := by
  obtain ⟨hl, hf⟩ := Open.field Try.underlying46 h
  obtain ⟨n0, y0, h0⟩ := hf 0 _ rfl
  obtain ⟨a0, c0, w0⟩ := Open.field_int Try.underlying3 (by kernel_rfl) h0
  obtain ⟨n1, y1, h1⟩ := hf 1 _ rfl
  obtain ⟨a1, c1, w1⟩ := Open.field_int Try.underlying3 (by kernel_rfl) h1
  obtain ⟨n2, y2, h2⟩ := hf 2 _ rfl
  obtain ⟨a2, c2, w2⟩ := Open.field_int Try.underlying3 (by kernel_rfl) h2
  obtain ⟨n3, y3, h3⟩ := hf 3 _ rfl
  obtain ⟨a3, c3, w3⟩ := Open.field_int Try.underlying3 (by kernel_rfl) h3
  obtain ⟨n4, y4, h4⟩ := hf 4 _ rfl
  obtain ⟨a4, c4, w4⟩ := Open.field_int Try.underlying3 (by kernel_rfl) h4
  have hl2 : cs.length = 5 := hl.trans (by kernel_rfl)
  refine ⟨a0, a1, a2, a3, a4, ?_, w0, w1, w2, w3, w4⟩
  apply List.ext_getElem?
  intro i
  match i with
  | 0 => exact c0
  | 1 => exact c1
  | 2 => exact c2
  | 3 => exact c3
  | 4 => exact c4
  | j + 5 => rw [List.getElem?_eq_none (by omega), List.getElem?_eq_none (by simp)]
set_option maxRecDepth 100000 in
theorem open35 (n : Nat) (cs : List Value) (x : DataW H × List MemPlace) (h : DataW.trod enc Try.prog w base spare held n 35 cs = some x) :
    ∃ (b0 b1 : Int), cs = [.int .i64 b0, .int .i64 b1] ∧ (Lit.int .i64 b0).wf = true ∧ (Lit.int .i64 b1).wf = true := by
  obtain ⟨hl, hf⟩ := Open.field Try.underlying35 h
  obtain ⟨n0, y0, h0⟩ := hf 0 _ rfl
  obtain ⟨a0, c0, w0⟩ := Open.field_int Try.underlying3 (by kernel_rfl) h0
  obtain ⟨n1, y1, h1⟩ := hf 1 _ rfl
  obtain ⟨a1, c1, w1⟩ := Open.field_int Try.underlying3 (by kernel_rfl) h1
  have hl2 : cs.length = 2 := hl.trans (by kernel_rfl)
  refine ⟨a0, a1, ?_, w0, w1⟩
  apply List.ext_getElem?
  intro i
  match i with
  | 0 => exact c0
  | 1 => exact c1
  | j + 2 => rw [List.getElem?_eq_none (by omega), List.getElem?_eq_none (by simp)]
set_option maxRecDepth 100000 in
theorem open33 (n : Nat) (cs : List Value) (x : DataW H × List MemPlace) (h : DataW.trod enc Try.prog w base spare held n 33 cs = some x) :
    ∃ (b0 b1 b2 b3 b4 b5 b6 b7 b8 b9 b10 b11 b12 : Int), cs = [.int .i64 b0, .int .i64 b1, .int .i64 b2, .int .i64 b3, .int .i64 b4, .int .i64 b5, .int .u32 b6, .int .u32 b7, .int .u32 b8, .int .u64 b9, .int .u64 b10, .int .u64 b11, .int .u64 b12] ∧ (Lit.int .i64 b0).wf = true ∧ (Lit.int .i64 b1).wf = true ∧ (Lit.int .i64 b2).wf = true ∧ (Lit.int .i64 b3).wf = true ∧ (Lit.int .i64 b4).wf = true ∧ (Lit.int .i64 b5).wf = true ∧ (Lit.int .u32 b6).wf = true ∧ (Lit.int .u32 b7).wf = true ∧ (Lit.int .u32 b8).wf = true ∧ (Lit.int .u64 b9).wf = true ∧ (Lit.int .u64 b10).wf = true ∧ (Lit.int .u64 b11).wf = true ∧ (Lit.int .u64 b12).wf = true := by
  obtain ⟨hl, hf⟩ := Open.field Try.underlying33 h
  obtain ⟨n0, y0, h0⟩ := hf 0 _ rfl
  obtain ⟨a0, c0, w0⟩ := Open.field_int Try.underlying3 (by kernel_rfl) h0
  obtain ⟨n1, y1, h1⟩ := hf 1 _ rfl
  obtain ⟨a1, c1, w1⟩ := Open.field_int Try.underlying3 (by kernel_rfl) h1
  obtain ⟨n2, y2, h2⟩ := hf 2 _ rfl
  obtain ⟨a2, c2, w2⟩ := Open.field_int Try.underlying3 (by kernel_rfl) h2
  obtain ⟨n3, y3, h3⟩ := hf 3 _ rfl
  obtain ⟨a3, c3, w3⟩ := Open.field_int Try.underlying3 (by kernel_rfl) h3
  obtain ⟨n4, y4, h4⟩ := hf 4 _ rfl
  obtain ⟨a4, c4, w4⟩ := Open.field_int Try.underlying3 (by kernel_rfl) h4
  obtain ⟨n5, y5, h5⟩ := hf 5 _ rfl
  obtain ⟨a5, c5, w5⟩ := Open.field_int Try.underlying3 (by kernel_rfl) h5
  obtain ⟨n6, y6, h6⟩ := hf 6 _ rfl
  obtain ⟨a6, c6, w6⟩ := Open.field_int Try.underlying30 (by kernel_rfl) h6
  obtain ⟨n7, y7, h7⟩ := hf 7 _ rfl
  obtain ⟨a7, c7, w7⟩ := Open.field_int Try.underlying30 (by kernel_rfl) h7
  obtain ⟨n8, y8, h8⟩ := hf 8 _ rfl
  obtain ⟨a8, c8, w8⟩ := Open.field_int Try.underlying30 (by kernel_rfl) h8
  obtain ⟨n9, y9, h9⟩ := hf 9 _ rfl
  obtain ⟨a9, c9, w9⟩ := Open.field_int Try.underlying31 (by kernel_rfl) h9
  obtain ⟨n10, y10, h10⟩ := hf 10 _ rfl
  obtain ⟨a10, c10, w10⟩ := Open.field_int Try.underlying31 (by kernel_rfl) h10
  obtain ⟨n11, y11, h11⟩ := hf 11 _ rfl
  obtain ⟨a11, c11, w11⟩ := Open.field_int Try.underlying31 (by kernel_rfl) h11
  obtain ⟨n12, y12, h12⟩ := hf 12 _ rfl
  obtain ⟨a12, c12, w12⟩ := Open.field_int Try.underlying31 (by kernel_rfl) h12
  have hl2 : cs.length = 13 := hl.trans (by kernel_rfl)
  refine ⟨a0, a1, a2, a3, a4, a5, a6, a7, a8, a9, a10, a11, a12, ?_, w0, w1, w2, w3, w4, w5, w6, w7, w8, w9, w10, w11, w12⟩
  apply List.ext_getElem?
  intro i
  match i with
  | 0 => exact c0
  | 1 => exact c1
  | 2 => exact c2
  | 3 => exact c3
  | 4 => exact c4
  | 5 => exact c5
  | 6 => exact c6
  | 7 => exact c7
  | 8 => exact c8
  | 9 => exact c9
  | 10 => exact c10
  | 11 => exact c11
  | 12 => exact c12
  | j + 13 => rw [List.getElem?_eq_none (by omega), List.getElem?_eq_none (by simp)]
def S46.wf (a : S46) : Prop := (Lit.int .i64 a.f0).wf = true ∧ (Lit.int .i64 a.f1).wf = true ∧ (Lit.int .i64 a.f2).wf = true ∧ (Lit.int .i64 a.f3).wf = true ∧ (Lit.int .i64 a.f4).wf = true
set_option maxRecDepth 100000 in
theorem open22 {n : Nat} {cs : List Value} {x : DataW H × List MemPlace} (h : DataW.trod enc Try.prog w base spare held n 22 cs = some x) :
    ∃ (A : Option Addr) (cap : Nat) (l : List S46), cs = [.slice A l.length cap] ∧ l.length ≤ cap ∧ cap ≤ maxLen ∧ Kd.C k46 w A l.length l ∧ ∀ a ∈ l, S46.wf a := by
  refine Open.open_rows k46 z46 S46.wf Try.underlying22 (by kernel_rfl) (fun m cs' x' h' => ?_) h
  obtain ⟨b0, b1, b2, b3, b4, rfl, w0, w1, w2, w3, w4⟩ := open46 m cs' x' h'
  exact ⟨⟨b0, b1, b2, b3, b4⟩, k46_mk w ⟨b0, b1, b2, b3, b4⟩, w0, w1, w2, w3, w4⟩
set_option maxRecDepth 100000 in
theorem open28 {n : Nat} {cs : List Value} {x : DataW H × List MemPlace} (h : DataW.trod enc Try.prog w base spare held n 28 cs = some x) :
    ∃ (A : Option Addr) (cap : Nat) (l : List Int), cs = [.slice A l.length cap] ∧ l.length ≤ cap ∧ cap ≤ maxLen ∧ Kd.C (Kd.int .i64) w A l.length l ∧ ∀ a ∈ l, (Lit.int .i64 a).wf = true := by
  refine Open.open_rows (Kd.int .i64) (0 : Int) (fun a => (Lit.int .i64 a).wf = true) Try.underlying28 (by kernel_rfl) (fun m cs' x' h' => ?_) h
  obtain ⟨a, e, _, hw⟩ := DataW.trod_int Try.underlying3 h'
  exact ⟨a, e, hw⟩
set_option maxRecDepth 100000 in
theorem open41 {n : Nat} {cs : List Value} {x : DataW H × List MemPlace} (h : DataW.trod enc Try.prog w base spare held n 41 cs = some x) :
    ∃ (A : Option Addr) (cap : Nat) (l : List (List Int)), cs = [.slice A l.length cap] ∧ l.length ≤ cap ∧ cap ≤ maxLen ∧ Kd.C (Kd.slice 3 (Kd.int .i64)) w A l.length l ∧ ∀ a ∈ l, a.length ≤ maxLen ∧ ∀ b ∈ a, (Lit.int .i64 b).wf = true := by
  refine Open.open_rows (Kd.slice 3 (Kd.int .i64)) ([] : List Int) (fun a => a.length ≤ maxLen ∧ ∀ b ∈ a, (Lit.int .i64 b).wf = true) Try.underlying41 (by kernel_rfl) (fun m cs' x' h' => ?_) h
  obtain ⟨A, cap, l, rfl, h1, h2, h3, h4⟩ := open28 h'
  exact ⟨l, ⟨A, cap, rfl, h1, h3⟩, Nat.le_trans h1 h2, h4⟩
set_option maxRecDepth 100000 in
theorem one_cell {t e : TypeId} {r : Reach} {b0 : Nat} {v v' : Value} (hs : Try.prog.underlying t = some (.slice e)) (hv : Value.okWide Try.prog w r b0 t v) (h : v.cells.toList = [v']) : v = v' := by
  obtain ⟨A, n, c, rfl⟩ := okWide_slice hs hv
  exact (List.cons.inj h).1
set_option maxRecDepth 100000 in
/-- A struct that came in by value. -/
theorem arg_agg {r : Reach} {b0 : Nat} {t : TypeId} {fs : Array Field} {v : Value} {d : DataW H} {p : List MemPlace} (hs : Try.prog.underlying t = some (.struct fs)) (hv : Value.okWide Try.prog w r b0 t v) (h : DataW.Trod enc Try.prog w base spare held t v d p) :
    ∃ (cs : List Value) (n : Nat), v = .agg cs.toArray ∧ DataW.trod enc Try.prog w base spare held n t cs = some (d, p) := by
  obtain ⟨cs, rfl, hsz⟩ := okWide_struct hs hv
  obtain ⟨fuel, hf⟩ := h
  exact ⟨cs.toList, fuel, by simp, hf⟩
end
end Go.Proofs.Ytcnckfhibmlioaa.Fa
