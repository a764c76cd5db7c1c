/- Objects: a block of cells as one thing, and the events on it (a new block, a whole load, a whole store, one cell's load and store). -/
import Derived.Test.YtohjmfjdopffkaaPAsx0
import Derived.Deep.MidRow
namespace Go.Proofs.Ytohjmfjdopffkaa.Ob
open Go Go.RowKit Go.Proofs.YtohjmfjdopffkaaW.PrintWords Go.Proofs.YtohjmfjdopffkaaW.PrintLast Go.Proofs.YtohjmfjdopffkaaW.PrintMore
set_option linter.unusedVariables false
/-- Block g holds these cells. -/
def Blk (w : World) (g : Nat) (t : TypeId) (cs : Array Value) : Prop := w.heap[g]? = some (.cells cs t (0, 0))
/-- The world has grown; of its old blocks at most 'row' has turned. -/
structure Grew (w w' : World) (row : Option Nat) : Prop where
  out : w.grownBy w' row
theorem Grew.refl (w : World) (row : Option Nat) : Grew w w row := ⟨⟨rfl, rfl, rfl, Nat.le_refl _, fun _ _ _ => rfl⟩⟩
theorem Grew.drew (w : World) (n : Nat) (row : Option Nat) : Grew w (w.drewN n) row := ⟨⟨rfl, rfl, rfl, Nat.le_refl _, fun _ _ _ => rfl⟩⟩
theorem grew_drew1 (w : World) (row : Option Nat) : Grew w w.drew row := ⟨⟨rfl, rfl, rfl, Nat.le_refl _, fun _ _ _ => rfl⟩⟩
theorem Grew.below {w w' : World} {row : Option Nat} (h : Below w.heap.size w w') : Grew w w' row := ⟨⟨h.os, h.tape, h.output, h.size, fun k hk _ => h.block k hk⟩⟩
theorem Grew.to_below {w w' : World} (h : Grew w w' none) : Below w.heap.size w w' := ⟨h.out.os, h.out.tape, h.out.output, h.out.size, fun k hk => h.out.block k hk (by simp)⟩
theorem Grew.size {w w' : World} {row : Option Nat} (h : Grew w w' row) : w.heap.size ≤ w'.heap.size := h.out.size
/-- Two steps; the second one turns the row, or a block of the call's own, or none. -/
theorem Grew.trans {a b c : World} {row row' : Option Nat} (h : Grew a b row) (k : Grew b c row') (hr : ∀ g, row' = some g → row = some g ∨ a.heap.size ≤ g) : Grew a c row :=
  ⟨⟨k.out.os.trans h.out.os, k.out.tape.trans h.out.tape, k.out.output.trans h.out.output, Nat.le_trans h.out.size k.out.size, fun i hi hne => (k.out.block i (Nat.lt_of_lt_of_le hi h.out.size) (fun e => by
    rcases hr i e.symm with e' | e'
    · exact hne e'.symm
    · omega)).trans (h.out.block i hi hne)⟩⟩
theorem Grew.then_none {a b c : World} {row : Option Nat} (h : Grew a b row) (k : Grew b c none) : Grew a c row := h.trans k (fun _ e => by cases e)
theorem Grew.then_own {a b c : World} {row : Option Nat} {g : Nat} (h : Grew a b row) (k : Grew b c (some g)) (hg : a.heap.size ≤ g) : Grew a c row := h.trans k (fun _ e => by cases e; exact .inr hg)
theorem Grew.then_row {a b c : World} {g : Nat} (h : Grew a b (some g)) (k : Grew b c (some g)) : Grew a c (some g) := h.trans k (fun _ e => .inl e)
theorem Grew.drawn {a b : World} {row : Option Nat} (h : Grew a b row) (n : Nat) : Grew a (b.drewN n) row := h.then_none (Grew.drew _ _ none)
theorem Grew.drawn0 {w w' : World} (h : Drawn0 w w') : Grew w w' none := by obtain ⟨n, rfl⟩ := h; exact Grew.drew _ _ none
theorem blk_drawn {w : World} {g : Nat} {t : TypeId} {cs : Array Value} (h : Blk w g t cs) (n : Nat) : Blk (w.drewN n) g t cs := h
theorem Blk.lt {w : World} {g : Nat} {t : TypeId} {cs : Array Value} (h : Blk w g t cs) : g < w.heap.size := blk_lt h
theorem Blk.step {w w1 : World} {g : Nat} {t : TypeId} {cs : Array Value} (h : Blk w g t cs) (hg : Grew w w1 none) : Blk w1 g t cs := (hg.out.block g h.lt (by simp)).trans h
theorem Blk.far {w w1 : World} {g g' : Nat} {t : TypeId} {cs : Array Value} (h : Blk w g t cs) (hg : Grew w w1 (some g')) (hne : g ≠ g') : Blk w1 g t cs := (hg.out.block g h.lt (by intro e; exact hne (Option.some.inj e))).trans h
theorem Grew.nxt {a b b' c : World} {row : Option Nat} (h : Grew a b row) (k : Grew b' c none) (e1 : b'.heap = b.heap) (e2 : b'.os = b.os) (e3 : b'.tape = b.tape) (e4 : b'.output = b.output) : Grew a c row :=
  ⟨⟨(k.out.os.trans e2).trans h.out.os, (k.out.tape.trans e3).trans h.out.tape, (k.out.output.trans e4).trans h.out.output, Nat.le_trans h.out.size (by rw [← e1]; exact k.out.size), fun i hi hne => (k.out.block i (by rw [e1]; exact Nat.lt_of_lt_of_le hi h.out.size) (by simp)).trans (by rw [e1]; exact h.out.block i hi hne)⟩⟩
theorem Grew.nxtOwn {a b b' c : World} {row : Option Nat} {g : Nat} (h : Grew a b row) (k : Grew b' c (some g)) (hg : a.heap.size ≤ g) (e1 : b'.heap = b.heap) (e2 : b'.os = b.os) (e3 : b'.tape = b.tape) (e4 : b'.output = b.output) : Grew a c row :=
  ⟨⟨(k.out.os.trans e2).trans h.out.os, (k.out.tape.trans e3).trans h.out.tape, (k.out.output.trans e4).trans h.out.output, Nat.le_trans h.out.size (by rw [← e1]; exact k.out.size), fun i hi hne => (k.out.block i (by rw [e1]; exact Nat.lt_of_lt_of_le hi h.out.size) (by intro e; cases e; omega)).trans (by rw [e1]; exact h.out.block i hi hne)⟩⟩
theorem Grew.nxtRow {a b b' c : World} {g : Nat} (h : Grew a b (some g)) (k : Grew b' c (some g)) (e1 : b'.heap = b.heap) (e2 : b'.os = b.os) (e3 : b'.tape = b.tape) (e4 : b'.output = b.output) : Grew a c (some g) :=
  ⟨⟨(k.out.os.trans e2).trans h.out.os, (k.out.tape.trans e3).trans h.out.tape, (k.out.output.trans e4).trans h.out.output, Nat.le_trans h.out.size (by rw [← e1]; exact k.out.size), fun i hi hne => (k.out.block i (by rw [e1]; exact Nat.lt_of_lt_of_le hi h.out.size) hne).trans (by rw [e1]; exact h.out.block i hi hne)⟩⟩
/-- A block made behind a call's start. -/
theorem Grew.young {a b b' c : World} {row row' : Option Nat} {g : Nat} (h : Grew a b row) (_ : Grew b' c row') (e1 : b'.heap = b.heap) (hle : b'.heap.size ≤ g) : a.heap.size ≤ g := Nat.le_trans h.size (by rw [← e1]; exact hle)
/-- A block that stands is not a new one. -/
theorem Grew.apart {b c : World} {row : Option Nat} {g g' : Nat} {t : TypeId} {cs : Array Value} (_ : Grew b c row) (h : Blk b g t cs) (hle : b.heap.size ≤ g') : g ≠ g' := Nat.ne_of_lt (Nat.lt_of_lt_of_le h.lt hle)
theorem Grew.pre {w w1 : World} {row : Option Nat} {g : Nat} {t : TypeId} {cs : Array Value} (_ : Grew w w1 row) (h : Blk w g t cs) : Blk w g t cs := h
theorem Grew.blk {w w1 : World} {g : Nat} {t : TypeId} {cs : Array Value} (hg : Grew w w1 none) (h : Blk w g t cs) : Blk w1 g t cs := h.step hg
theorem Grew.blkFar {w w1 : World} {g g' : Nat} {t : TypeId} {cs : Array Value} (hg : Grew w w1 (some g')) (h : Blk w g t cs) (hne : g ≠ g') : Blk w1 g t cs := h.far hg hne
theorem Blk.cell {w : World} {g : Nat} {t : TypeId} {cs : Array Value} (h : Blk w g t cs) (i : Nat) {v : Value} (e : cs[i]? = some v) : w.cell? ⟨g, i, none⟩ = some v := (blk_cell h i).trans e
theorem Blk.frozen {w : World} {g : Nat} {t : TypeId} {cs : Array Value} (h : Blk w g t cs) (i : Nat) : w.frozen? ⟨g, i, none⟩ = false := blk_frozen h i
theorem grew_setCell (w : World) (g j : Nat) (u : Value) : Grew w (w.setCell ⟨g, j, none⟩ u) (some g) :=
  ⟨⟨rfl, rfl, rfl, by simp [World.setCell], fun k _ hne => Below.heap_setCell w ⟨g, j, none⟩ u k (fun h => hne (by rw [h]))⟩⟩
theorem grew_setRow (w : World) (g : Nat) (cs : Array Value) : Grew w (w.setRow g cs) (some g) :=
  ⟨⟨rfl, rfl, rfl, by simp, fun k _ hne => setRow_other w g k cs (fun h => hne (by rw [h]))⟩⟩
theorem grew_setCells (w : World) (g off : Nat) (seg : List Value) : Grew w (w.setCells g off seg) (some g) := by
  obtain ⟨h1, h2, h3, h4⟩ := setCells_same g seg off w
  exact ⟨⟨h1, h2, h3, Nat.le_of_eq h4.symm, fun k _ hne => setCells_far seg off k (fun h => hne (by rw [h]))⟩⟩
theorem Blk.put {w : World} {g : Nat} {t : TypeId} {cs cs' : Array Value} (h : Blk w g t cs) (i : Nat) (u : Value) (e : cs.setIfInBounds i u = cs') : Blk (w.setCell ⟨g, i, none⟩ u) g t cs' := blk_put h i u e
section
variable {P : Program} {ops : Array Oper} {rest : List Oper} {o : Oper} {a : Act} {Q : Exit → Act → World → Prop} {W : World}
/-- A new block. -/
theorem ev_box (hgd : o.guard = none) {N : Tmp} (_hd : o.dst = some N) {cs : Array Value} {t : TypeId}
    (hrun : (execOp a.eval o).run P W = .ok (.value (.pointer (some ⟨W.heap.size, 0, none⟩))) (W.alloc (.cells cs t (0, 0))))
    (h : ∀ g, W.heap.size ≤ g → ∀ w1, Blk w1 g t cs → Grew W w1 none → wpList P ops Q rest (a.put o.dst (.pointer (some ⟨g, 0, none⟩))) w1) : wpList P ops Q (o :: rest) a W :=
  Kd.event_run hgd hrun (h _ (Nat.le_refl _) _ (blk_new W _) (Grew.below (below_alloc (Below.refl _ _) _)))
/-- A whole block, loaded. -/
theorem ev_load (hgd : o.guard = none) {N : Tmp} (_hd : o.dst = some N) (ty : TypeId) (x : Operand) (ho : o.op = .load ty x) {g : Nat} {t : TypeId} {cs : Array Value} (d : TypeDesc) (hx : a.eval x = .pointer (some ⟨g, 0, none⟩)) (hg : Blk W g t cs)
    (hu : P.underlying ty = some d) (hd : (match d with | .struct _ | .array _ _ => true | _ => false) = true) (hi : (P.info? ty).map (·.size) = some cs.size)
    (h : wpList P ops Q rest (a.put o.dst (.agg cs)) W) : wpList P ops Q (o :: rest) a W := by
  refine Kd.event_run (v := .agg cs) (w1 := W) hgd ?_ h
  unfold execOp
  simp only [ho, hx, Instr.loadAt, Instr.sureAddr, Sem.run_bind, Sem.run_pure, Result.andThen_ok, run_loadVar_row W g t ty cs (0, 0) d hg hu hd hi]
/-- A whole block, stored. -/
theorem ev_store (hgd : o.guard = none) (hN : o.dst = none) (ty : TypeId) (x y : Operand) (ho : o.op = .store ty x y) {g : Nat} {t : TypeId} {old : Array Value} (cs : Array Value) (hx : a.eval x = .pointer (some ⟨g, 0, none⟩)) (hy : a.eval y = .agg cs) (hg : Blk W g t old)
    (hi : (P.info? ty).map (·.size) = some cs.size) (hold : old.size = cs.size) (h1 : cs.all (·.oneCell') = true)
    (h : ∀ w1, Blk w1 g t cs → Grew W w1 (some g) → wpList P ops Q rest a w1) : wpList P ops Q (o :: rest) a W := by
  refine wpList_plain hgd fun K hK => ?_
  unfold Oper.wp execOp
  simp only [ho, hx, hy, Instr.storeAt, Instr.sureAddr, Sem.run_bind, Sem.run_pure, Result.andThen_ok, run_storeVar_row W g t ty old cs hg hi hold h1]
  show K (a.put o.dst undef) _
  rw [hN]
  exact hK _ _ (h _ (setRow_heap W g old cs t (0, 0) hg) (grew_setRow _ _ _))
/-- Cells of a block, stored from offset 'at' on. -/
theorem ev_put (hgd : o.guard = none) (hN : o.dst = none) (ty : TypeId) (x y : Operand) (ho : o.op = .store ty x y) {g off : Nat} {t : TypeId} {old : Array Value} (cs' : Array Value) (seg : List Value) (u : Value) (hx : a.eval x = .pointer (some ⟨g, off, none⟩)) (hy : a.eval y = u) (hu : u.cells.toList = seg) (hg : Blk W g t old)
    (hi : (P.info? ty).map (·.size) = some seg.length) (hold : off + seg.length ≤ old.size) (h1 : ∀ v ∈ seg, v.oneCell' = true) (he : (old.toList.take off ++ seg ++ old.toList.drop (off + seg.length)).toArray = cs')
    (h : ∀ w1, Blk w1 g t cs' → Grew W w1 (some g) → wpList P ops Q rest a w1) : wpList P ops Q (o :: rest) a W := by
  refine wpList_plain hgd fun K hK => ?_
  unfold Oper.wp execOp
  have hs := run_store_run (P := P) (o := off) ty u seg hg hu hi hold h1
  simp only [ho, hx, hy, hs, Sem.run_bind, Sem.run_pure, Result.andThen_ok]
  show K (a.put o.dst undef) _
  rw [hN]
  obtain ⟨cur', h5, _, h6⟩ := setCells_row seg off W old hg hold
  have e : cur' = cs' := by rw [← he, ← h6]
  exact hK _ _ (h _ (by rw [← e]; exact h5) (grew_setCells _ _ _ _))
end
end Go.Proofs.Ytohjmfjdopffkaa.Ob
