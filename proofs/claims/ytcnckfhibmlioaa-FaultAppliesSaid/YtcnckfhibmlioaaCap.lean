/- Objects as blocks (a new block, a whole load and store), maps, and the walk of checkFault with its table of ranges. -/
import Derived.Test.YtcnckfhibmlioaaProg
import Derived.Below
import Derived.Deep.Draws
import Derived.Deep.AppendLies
import Derived.Maps.AppendAt
import Derived.OwnWalk
import Derived.Laws.BytesArg
import Derived.Laws.MakeOwn
import Derived.Laws.OwnMore
import Derived.Deep.OwnRows
import Derived.Tactics
import Derived.Lib.ConvBytes
import Derived.Laws.Slices
import Derived.WalkKit
import Derived.KernelRfl
import Derived.RowKit3
import Derived.Deep.LoopGhost
import Derived.Deep.QuietTactic
import Derived.BigQuiet
import Derived.WideLaws
import Derived.Deep.DeepCutAuto
import Derived.Deep.CutBlock
import Derived.Deep.RegionHeld3
import Derived.Laws.Rows
import Derived.Lib.AppendStr
import Derived.ArgAppend
import Derived.Laws.IdiomCopy
import Derived.OrdersHeld
import Derived.Laws.BitsLemmas
import Derived.RowKit
import Derived.Test.YtcnckfhibmlioaaWWords
import Derived.Test.YtcnckfhibmlioaaWLast
import Derived.Test.YtcnckfhibmlioaaWTab
import Derived.Test.YtcnckfhibmlioaaWFour
import Derived.Test.YtcnckfhibmlioaaWQPut
import Derived.Test.YtcnckfhibmlioaaWApart
import Derived.Test.YtcnckfhibmlioaaWArr
import Derived.Test.YtcnckfhibmlioaaWZeros
import Derived.Test.YtcnckfhibmlioaaWFoot
import Derived.Test.YtcnckfhibmlioaaWKept
import Derived.Test.YtcnckfhibmlioaaWShare
import Derived.Test.YtcnckfhibmlioaaWN
import Derived.Test.YtcnckfhibmlioaaWFootNe
import Derived.Test.YtcnckfhibmlioaaWAt
import Derived.Test.YtcnckfhibmlioaaWEqStruct
import Derived.Test.YtcnckfhibmlioaaWRepsOne
import Derived.Test.YtcnckfhibmlioaaWInv
import Derived.Test.YtcnckfhibmlioaaWInvWords
import Derived.Test.YtcnckfhibmlioaaWGuard
import Derived.Test.YtcnckfhibmlioaaWNEv
import Derived.Test.YtcnckfhibmlioaaWMore
import Derived.Deep.MidRow
import Derived.MapKept
import Derived.Defers
import Derived.Recover
import Derived.WalkSmall
import Derived.StillTailTactics
import Derived.Deep.RegionHeld3
namespace Go.Proofs.Ytcnckfhibmlioaa.Ob
open Go Go.RowKit Go.Proofs.YtcnckfhibmlioaaW.PrintWords Go.Proofs.YtcnckfhibmlioaaW.PrintLast Go.Proofs.YtcnckfhibmlioaaW.PrintMore
set_option linter.unusedVariables false
/-- Block g holds these cells. -/
def Blk (w : World) (g : Nat) (t : TypeId) (cs : Array Value) : Prop := w.heap[g]? = some (.cells cs t (0, 0))
/-- The world has grown; of its old blocks at most 'row' has turned. -/
structure Grew (w w' : World) (row : Option Nat) : Prop where
  out : w.grownBy w' row
theorem Grew.refl (w : World) (row : Option Nat) : Grew w w row := ⟨⟨rfl, rfl, rfl, Nat.le_refl _, fun _ _ _ => rfl⟩⟩
theorem Grew.drew (w : World) (n : Nat) (row : Option Nat) : Grew w (w.drewN n) row := ⟨⟨rfl, rfl, rfl, Nat.le_refl _, fun _ _ _ => rfl⟩⟩
theorem grew_drew1 (w : World) (row : Option Nat) : Grew w w.drew row := ⟨⟨rfl, rfl, rfl, Nat.le_refl _, fun _ _ _ => rfl⟩⟩
theorem Grew.below {w w' : World} {row : Option Nat} (h : Below w.heap.size w w') : Grew w w' row := ⟨⟨h.os, h.tape, h.output, h.size, fun k hk _ => h.block k hk⟩⟩
theorem Grew.to_below {w w' : World} (h : Grew w w' none) : Below w.heap.size w w' := ⟨h.out.os, h.out.tape, h.out.output, h.out.size, fun k hk => h.out.block k hk (by simp)⟩
theorem Grew.size {w w' : World} {row : Option Nat} (h : Grew w w' row) : w.heap.size ≤ w'.heap.size := h.out.size
/-- Two steps; the second one turns the row, or a block of the call's own, or none. -/
theorem Grew.trans {a b c : World} {row row' : Option Nat} (h : Grew a b row) (k : Grew b c row') (hr : ∀ g, row' = some g → row = some g ∨ a.heap.size ≤ g) : Grew a c row :=
  ⟨⟨k.out.os.trans h.out.os, k.out.tape.trans h.out.tape, k.out.output.trans h.out.output, Nat.le_trans h.out.size k.out.size, fun i hi hne => (k.out.block i (Nat.lt_of_lt_of_le hi h.out.size) (fun e => by
    rcases hr i e.symm with e' | e'
    · exact hne e'.symm
    · omega)).trans (h.out.block i hi hne)⟩⟩
theorem Grew.then_none {a b c : World} {row : Option Nat} (h : Grew a b row) (k : Grew b c none) : Grew a c row := h.trans k (fun _ e => by cases e)
theorem Grew.then_own {a b c : World} {row : Option Nat} {g : Nat} (h : Grew a b row) (k : Grew b c (some g)) (hg : a.heap.size ≤ g) : Grew a c row := h.trans k (fun _ e => by cases e; exact .inr hg)
theorem Grew.then_row {a b c : World} {g : Nat} (h : Grew a b (some g)) (k : Grew b c (some g)) : Grew a c (some g) := h.trans k (fun _ e => .inl e)
theorem Grew.drawn {a b : World} {row : Option Nat} (h : Grew a b row) (n : Nat) : Grew a (b.drewN n) row := h.then_none (Grew.drew _ _ none)
theorem Grew.drawn0 {w w' : World} (h : Drawn0 w w') : Grew w w' none := by obtain ⟨n, rfl⟩ := h; exact Grew.drew _ _ none
theorem blk_drawn {w : World} {g : Nat} {t : TypeId} {cs : Array Value} (h : Blk w g t cs) (n : Nat) : Blk (w.drewN n) g t cs := h
theorem Blk.lt {w : World} {g : Nat} {t : TypeId} {cs : Array Value} (h : Blk w g t cs) : g < w.heap.size := blk_lt h
theorem Blk.step {w w1 : World} {g : Nat} {t : TypeId} {cs : Array Value} (h : Blk w g t cs) (hg : Grew w w1 none) : Blk w1 g t cs := (hg.out.block g h.lt (by simp)).trans h
theorem Blk.far {w w1 : World} {g g' : Nat} {t : TypeId} {cs : Array Value} (h : Blk w g t cs) (hg : Grew w w1 (some g')) (hne : g ≠ g') : Blk w1 g t cs := (hg.out.block g h.lt (by intro e; exact hne (Option.some.inj e))).trans h
theorem Grew.nxt {a b b' c : World} {row : Option Nat} (h : Grew a b row) (k : Grew b' c none) (e1 : b'.heap = b.heap) (e2 : b'.os = b.os) (e3 : b'.tape = b.tape) (e4 : b'.output = b.output) : Grew a c row :=
  ⟨⟨(k.out.os.trans e2).trans h.out.os, (k.out.tape.trans e3).trans h.out.tape, (k.out.output.trans e4).trans h.out.output, Nat.le_trans h.out.size (by rw [← e1]; exact k.out.size), fun i hi hne => (k.out.block i (by rw [e1]; exact Nat.lt_of_lt_of_le hi h.out.size) (by simp)).trans (by rw [e1]; exact h.out.block i hi hne)⟩⟩
theorem Grew.nxtOwn {a b b' c : World} {row : Option Nat} {g : Nat} (h : Grew a b row) (k : Grew b' c (some g)) (hg : a.heap.size ≤ g) (e1 : b'.heap = b.heap) (e2 : b'.os = b.os) (e3 : b'.tape = b.tape) (e4 : b'.output = b.output) : Grew a c row :=
  ⟨⟨(k.out.os.trans e2).trans h.out.os, (k.out.tape.trans e3).trans h.out.tape, (k.out.output.trans e4).trans h.out.output, Nat.le_trans h.out.size (by rw [← e1]; exact k.out.size), fun i hi hne => (k.out.block i (by rw [e1]; exact Nat.lt_of_lt_of_le hi h.out.size) (by intro e; cases e; omega)).trans (by rw [e1]; exact h.out.block i hi hne)⟩⟩
theorem Grew.nxtRow {a b b' c : World} {g : Nat} (h : Grew a b (some g)) (k : Grew b' c (some g)) (e1 : b'.heap = b.heap) (e2 : b'.os = b.os) (e3 : b'.tape = b.tape) (e4 : b'.output = b.output) : Grew a c (some g) :=
  ⟨⟨(k.out.os.trans e2).trans h.out.os, (k.out.tape.trans e3).trans h.out.tape, (k.out.output.trans e4).trans h.out.output, Nat.le_trans h.out.size (by rw [← e1]; exact k.out.size), fun i hi hne => (k.out.block i (by rw [e1]; exact Nat.lt_of_lt_of_le hi h.out.size) hne).trans (by rw [e1]; exact h.out.block i hi hne)⟩⟩
/-- A block made behind a call's start. -/
theorem Grew.young {a b b' c : World} {row row' : Option Nat} {g : Nat} (h : Grew a b row) (_ : Grew b' c row') (e1 : b'.heap = b.heap) (hle : b'.heap.size ≤ g) : a.heap.size ≤ g := Nat.le_trans h.size (by rw [← e1]; exact hle)
/-- A block that stands is not a new one. -/
theorem Grew.apart {b c : World} {row : Option Nat} {g g' : Nat} {t : TypeId} {cs : Array Value} (_ : Grew b c row) (h : Blk b g t cs) (hle : b.heap.size ≤ g') : g ≠ g' := Nat.ne_of_lt (Nat.lt_of_lt_of_le h.lt hle)
theorem Grew.pre {w w1 : World} {row : Option Nat} {g : Nat} {t : TypeId} {cs : Array Value} (_ : Grew w w1 row) (h : Blk w g t cs) : Blk w g t cs := h
theorem Grew.blk {w w1 : World} {g : Nat} {t : TypeId} {cs : Array Value} (hg : Grew w w1 none) (h : Blk w g t cs) : Blk w1 g t cs := h.step hg
theorem Grew.blkFar {w w1 : World} {g g' : Nat} {t : TypeId} {cs : Array Value} (hg : Grew w w1 (some g')) (h : Blk w g t cs) (hne : g ≠ g') : Blk w1 g t cs := h.far hg hne
theorem Blk.cell {w : World} {g : Nat} {t : TypeId} {cs : Array Value} (h : Blk w g t cs) (i : Nat) {v : Value} (e : cs[i]? = some v) : w.cell? ⟨g, i, none⟩ = some v := (blk_cell h i).trans e
theorem Blk.frozen {w : World} {g : Nat} {t : TypeId} {cs : Array Value} (h : Blk w g t cs) (i : Nat) : w.frozen? ⟨g, i, none⟩ = false := blk_frozen h i
theorem grew_setCell (w : World) (g j : Nat) (u : Value) : Grew w (w.setCell ⟨g, j, none⟩ u) (some g) :=
  ⟨⟨rfl, rfl, rfl, by simp [World.setCell], fun k _ hne => Below.heap_setCell w ⟨g, j, none⟩ u k (fun h => hne (by rw [h]))⟩⟩
theorem grew_setRow (w : World) (g : Nat) (cs : Array Value) : Grew w (w.setRow g cs) (some g) :=
  ⟨⟨rfl, rfl, rfl, by simp, fun k _ hne => setRow_other w g k cs (fun h => hne (by rw [h]))⟩⟩
theorem grew_setCells (w : World) (g off : Nat) (seg : List Value) : Grew w (w.setCells g off seg) (some g) := by
  obtain ⟨h1, h2, h3, h4⟩ := setCells_same g seg off w
  exact ⟨⟨h1, h2, h3, Nat.le_of_eq h4.symm, fun k _ hne => setCells_far seg off k (fun h => hne (by rw [h]))⟩⟩
theorem Blk.put {w : World} {g : Nat} {t : TypeId} {cs cs' : Array Value} (h : Blk w g t cs) (i : Nat) (u : Value) (e : cs.setIfInBounds i u = cs') : Blk (w.setCell ⟨g, i, none⟩ u) g t cs' := blk_put h i u e
section
variable {P : Program} {ops : Array Oper} {rest : List Oper} {o : Oper} {a : Act} {Q : Exit → Act → World → Prop} {W : World}
/-- A new block. -/
theorem ev_box (hgd : o.guard = none) {N : Tmp} (_hd : o.dst = some N) {cs : Array Value} {t : TypeId}
    (hrun : (execOp a.eval o).run P W = .ok (.value (.pointer (some ⟨W.heap.size, 0, none⟩))) (W.alloc (.cells cs t (0, 0))))
    (h : ∀ g, W.heap.size ≤ g → ∀ w1, Blk w1 g t cs → Grew W w1 none → wpList P ops Q rest (a.put o.dst (.pointer (some ⟨g, 0, none⟩))) w1) : wpList P ops Q (o :: rest) a W :=
  Kd.event_run hgd hrun (h _ (Nat.le_refl _) _ (blk_new W _) (Grew.below (below_alloc (Below.refl _ _) _)))
/-- A whole block, loaded. -/
theorem ev_load (hgd : o.guard = none) {N : Tmp} (_hd : o.dst = some N) (ty : TypeId) (x : Operand) (ho : o.op = .load ty x) {g : Nat} {t : TypeId} {cs : Array Value} (d : TypeDesc) (hx : a.eval x = .pointer (some ⟨g, 0, none⟩)) (hg : Blk W g t cs)
    (hu : P.underlying ty = some d) (hd : (match d with | .struct _ | .array _ _ => true | _ => false) = true) (hi : (P.info? ty).map (·.size) = some cs.size)
    (h : wpList P ops Q rest (a.put o.dst (.agg cs)) W) : wpList P ops Q (o :: rest) a W := by
  refine Kd.event_run (v := .agg cs) (w1 := W) hgd ?_ h
  unfold execOp
  simp only [ho, hx, Instr.loadAt, Instr.sureAddr, Sem.run_bind, Sem.run_pure, Result.andThen_ok, run_loadVar_row W g t ty cs (0, 0) d hg hu hd hi]
/-- A whole block, stored. -/
theorem ev_store (hgd : o.guard = none) (hN : o.dst = none) (ty : TypeId) (x y : Operand) (ho : o.op = .store ty x y) {g : Nat} {t : TypeId} {old : Array Value} (cs : Array Value) (hx : a.eval x = .pointer (some ⟨g, 0, none⟩)) (hy : a.eval y = .agg cs) (hg : Blk W g t old)
    (hi : (P.info? ty).map (·.size) = some cs.size) (hold : old.size = cs.size) (h1 : cs.all (·.oneCell') = true)
    (h : ∀ w1, Blk w1 g t cs → Grew W w1 (some g) → wpList P ops Q rest a w1) : wpList P ops Q (o :: rest) a W := by
  refine wpList_plain hgd fun K hK => ?_
  unfold Oper.wp execOp
  simp only [ho, hx, hy, Instr.storeAt, Instr.sureAddr, Sem.run_bind, Sem.run_pure, Result.andThen_ok, run_storeVar_row W g t ty old cs hg hi hold h1]
  show K (a.put o.dst undef) _
  rw [hN]
  exact hK _ _ (h _ (setRow_heap W g old cs t (0, 0) hg) (grew_setRow _ _ _))
/-- Cells of a block, stored from offset 'at' on. -/
theorem ev_put (hgd : o.guard = none) (hN : o.dst = none) (ty : TypeId) (x y : Operand) (ho : o.op = .store ty x y) {g off : Nat} {t : TypeId} {old : Array Value} (cs' : Array Value) (seg : List Value) (u : Value) (hx : a.eval x = .pointer (some ⟨g, off, none⟩)) (hy : a.eval y = u) (hu : u.cells.toList = seg) (hg : Blk W g t old)
    (hi : (P.info? ty).map (·.size) = some seg.length) (hold : off + seg.length ≤ old.size) (h1 : ∀ v ∈ seg, v.oneCell' = true) (he : (old.toList.take off ++ seg ++ old.toList.drop (off + seg.length)).toArray = cs')
    (h : ∀ w1, Blk w1 g t cs' → Grew W w1 (some g) → wpList P ops Q rest a w1) : wpList P ops Q (o :: rest) a W := by
  refine wpList_plain hgd fun K hK => ?_
  unfold Oper.wp execOp
  have hs := run_store_run (P := P) (o := off) ty u seg hg hu hi hold h1
  simp only [ho, hx, hy, hs, Sem.run_bind, Sem.run_pure, Result.andThen_ok]
  show K (a.put o.dst undef) _
  rw [hN]
  obtain ⟨cur', h5, _, h6⟩ := setCells_row seg off W old hg hold
  have e : cur' = cs' := by rw [← he, ← h6]
  exact hK _ _ (h _ (by rw [← e]; exact h5) (grew_setCells _ _ _ _))
end
theorem blk_set {w : World} {g p : Nat} {t : TypeId} {cs : Array Value} (h : Blk w g t cs) (i : Nat) (u : Value) (hne : g ≠ p) : Blk (w.setCell ⟨p, i, none⟩ u) g t cs := h.far (grew_setCell w p i u) hne
theorem blk_old {w : World} {g : Nat} {t : TypeId} {cs : Array Value} (h : Blk w g t cs) (o : Obj) : Blk (w.alloc o) g t cs := (Below.heap_alloc w o g h.lt).trans h
theorem grew_alloc (w : World) (o : Obj) (row : Option Nat) : Grew w (w.alloc o) row := Grew.below (below_alloc (Below.refl _ _) _)
/-- Stores into one block, one behind the other. -/
def setsL (w : World) (g : Nat) : Nat → List Value → World
  | _, [] => w
  | i, v :: r => setsL (w.setCell ⟨g, i, none⟩ v) g (i + 1) r
def putL (cs : Array Value) : Nat → List Value → Array Value
  | _, [] => cs
  | i, v :: r => putL (cs.setIfInBounds i v) (i + 1) r
theorem setsL_blk {g : Nat} {t : TypeId} : ∀ (vs : List Value) (i : Nat) (w : World) (cs : Array Value), Blk w g t cs → Blk (setsL w g i vs) g t (putL cs i vs)
  | [], _, _, _, h => h
  | v :: r, i, w, cs, h => setsL_blk r (i + 1) _ _ (h.put i v rfl)
theorem putL_at : ∀ (vs : List Value) (i : Nat) (cs : Array Value), i + vs.length = cs.size → (putL cs i vs).toList = cs.toList.take i ++ vs
  | [], i, cs, h => by show cs.toList = _; simp at h; rw [List.append_nil, List.take_of_length_le (by simp; omega)]
  | v :: r, i, cs, h => by
    show (putL (cs.setIfInBounds i v) (i + 1) r).toList = _
    simp at h
    rw [putL_at r (i + 1) _ (by simp; omega), Array.toList_setIfInBounds, List.take_succ_eq_append_getElem (by simp; omega)]
    simp [List.take_set_of_le]
theorem setsL_full {g : Nat} {t : TypeId} (vs : List Value) (w : World) (cs : Array Value) (h : Blk w g t cs) (hl : vs.length = cs.size) : Blk (setsL w g 0 vs) g t vs.toArray := by
  have e : putL cs 0 vs = vs.toArray := by
    apply Array.toList_inj.1
    rw [putL_at vs 0 cs (by omega)]; simp
  rw [← e]; exact setsL_blk vs 0 w cs h
theorem setsL_far {g p : Nat} {t : TypeId} {cs : Array Value} (hne : g ≠ p) : ∀ (vs : List Value) (i : Nat) (w : World), Blk w g t cs → Blk (setsL w p i vs) g t cs
  | [], _, _, h => h
  | v :: r, i, w, h => setsL_far hne r (i + 1) _ (blk_set h i v hne)
theorem setsL_grew {a : World} {g : Nat} (hge : a.heap.size ≤ g) : ∀ (vs : List Value) (i : Nat) (w : World), Grew a w none → Grew a (setsL w g i vs) none
  | [], _, _, h => h
  | v :: r, i, w, h => setsL_grew hge r (i + 1) _ (h.then_own (grew_setCell _ _ _ _) hge)
theorem lcell {w W : World} {a : Addr} {u : Value} (hG : Grew w W none) (h : w.cell? a = some u) : W.cell? a = some u := (hG.to_below.cell (World.block_lt_of_cell? w _ h)).trans h
/-- Block b holds a map with these entries. -/
def Mp (w : World) (b : Nat) (es : Array MapEntry) (c : Nat) : Prop := w.heap[b]? = some (.map es c)
theorem Mp.lt {w : World} {b : Nat} {es : Array MapEntry} {c : Nat} (h : Mp w b es c) : b < w.heap.size := (Array.getElem?_eq_some_iff.1 h).1
theorem Mp.step {w w1 : World} {b : Nat} {es : Array MapEntry} {c : Nat} (h : Mp w b es c) (hg : Grew w w1 none) : Mp w1 b es c := (hg.out.block b h.lt (by simp)).trans h
section
variable {P : Program} {ops : Array Oper} {rest : List Oper} {o : Oper} {a : Act} {Q : Exit → Act → World → Prop} {W : World}
/-- A new map. -/
theorem ev_map (hgd : o.guard = none) (t : TypeId) (ho : o.op = .makeMap t none) (h : ∀ b, W.heap.size ≤ b → ∀ w1, Mp w1 b #[] 0 → Grew W w1 none → wpList P ops Q rest (a.put o.dst (.map (some b))) w1) : wpList P ops Q (o :: rest) a W := by
  refine Kd.event_run (v := .map (some W.heap.size)) (w1 := W.alloc (.map #[] 0)) hgd ?_ (h _ (Nat.le_refl _) _ (by show (W.heap.push _)[W.heap.size]? = _; simp) (Grew.below (below_alloc (Below.refl _ _) _)))
  unfold execOp
  simp only [ho, Option.map_none, Sem.run_bind, run_makeMap, Result.andThen_ok, Sem.run_pure]
theorem run_insert {t kt et : TypeId} {d : TypeDesc} (ht : P.underlying t = some (.map kt et)) (hd : P.underlying kt = some d) {k v : Value} (hk : MapKept.IsKey d k) {b c : Nat} {es : Array MapEntry} (hb : Mp W b es c) (hf : Instr.findNow d k es.toList 0 = some none) :
    (Instr.mapUpdate t (.map (some b)) k v).run P W = .ok () { W with heap := W.heap.setIfInBounds b (.map (es.push { key := k, val := v, born := c }) (c + 1)) } := by
  unfold Instr.mapUpdate
  simp only [Sem.run_bind, run_underlying ht, Result.andThen_ok, MapKept.run_getObj_map hb, MapKept.run_checkKey hd hk, MapKept.run_findKey hd hf, MapKept.run_setObj_map _ hb]
/-- An entry, put into a map that lacks its key. -/
theorem ev_insert (hgd : o.guard = none) (hN : o.dst = none) (t : TypeId) (m x y : Operand) (ho : o.op = .insert t m x y) {kt et : TypeId} {d : TypeDesc} {k v : Value} {b c : Nat} {es : Array MapEntry} (ht : P.underlying t = some (.map kt et)) (hd : P.underlying kt = some d)
    (hm : a.eval m = .map (some b)) (hx : a.eval x = k) (hy : a.eval y = v) (hk : MapKept.IsKey d k) (hb : Mp W b es c) (hf : Instr.findNow d k es.toList 0 = some none)
    (h : ∀ w1, Mp w1 b (es.push { key := k, val := v, born := c }) (c + 1) → Grew W w1 (some b) → wpList P ops Q rest a w1) : wpList P ops Q (o :: rest) a W := by
  refine wpList_plain hgd fun K hK => ?_
  unfold Oper.wp execOp
  simp only [ho, hm, hx, hy, Sem.run_bind, run_insert ht hd hk hb hf, Sem.run_pure, Result.andThen_ok]
  show K (a.put o.dst undef) _
  rw [hN]
  exact hK _ _ (h _ (by simp [Mp, hb.lt]) ⟨⟨rfl, rfl, rfl, by simp, fun k _ hne => by simp only [Array.getElem?_setIfInBounds]; rw [if_neg (fun e => hne (by rw [e]))]⟩⟩)
end
section
variable {P : Program} {ops : Array Oper} {rest : List Oper} {o : Oper} {a : Act} {Q : Exit → Act → World → Prop} {W : World}
/-- A gate: the operation puts the entry of this key. -/
theorem gate_ins {k : Int} (_h : (match o.op with | .insert _ _ (.const (.int .i64 j)) _ => j == k | _ => false) = true) (h : wpList P ops Q (o :: rest) a W) : wpList P ops Q (o :: rest) a W := h
end
/-- The entries of the map that 'ranges' makes. -/
def RNG : Array MapEntry := #[⟨.int .i64 1, .agg #[.int .i64 0, .int .i64 0], 0⟩, ⟨.int .i64 2, .agg #[.int .i64 (-1125899906842624), .int .i64 1125899906842624], 1⟩, ⟨.int .i64 3, .agg #[.int .i64 (-1125899906842624), .int .i64 1125899906842624], 2⟩, ⟨.int .i64 4, .agg #[.int .i64 0, .int .i64 0], 3⟩, ⟨.int .i64 5, .agg #[.int .i64 1, .int .i64 15], 4⟩, ⟨.int .i64 6, .agg #[.int .i64 0, .int .i64 3], 5⟩, ⟨.int .i64 7, .agg #[.int .i64 0, .int .i64 0], 6⟩, ⟨.int .i64 8, .agg #[.int .i64 0, .int .i64 0], 7⟩, ⟨.int .i64 9, .agg #[.int .i64 0, .int .i64 1125899906842624], 8⟩]
set_option maxHeartbeats 2000000 in
set_option maxRecDepth 100000 in
theorem ranges_ok (w : World) : Calls Try.prog 48 #[] w fun e w' => ∃ b, e = .returned (.map (some b)) ∧ w.heap.size ≤ b ∧ Mp w' b RNG 9 ∧ Grew w w' none := by
  have hu35 := Try.underlying35
  have GR : Aside0 (Grew w w none) := Aside0.mk (Grew.refl w none)
  go_enter Try.func48, Try.ntmps48
  go_wp2_with (first
    | ((with_reducible refine gate_dst (N := 1) rfl ?_); refine ev_box rfl (N := 1) rfl (cs := #[.int .i64 0, .int .i64 0]) (t := 35) ?hr ?_; (case hr => first | (go_simp; done) | (go_simp; rfl)); intro ga hle w1 hbox hgr; have Ba := Aside0.mk hbox; have La := Aside0.mk (GR.out.young hgr rfl hle); replace GR := Aside0.mk (GR.out.nxt hgr rfl rfl rfl rfl); clear hgr hle hbox)
    | ((with_reducible refine gate_store (t := 35) (p := 1) (v := .tmp 2) rfl ?_); refine ev_store rfl rfl 35 (.tmp 1) (.tmp 2) rfl (g := ga) (t := 35) (old := ?_) #[.int .i64 (-1125899906842624), .int .i64 1125899906842624] ?hx ?hy ?hb ?hi ?ho ?h1 ?_; (case hx => rfl); (case hy => first | rfl | (go_simp; done) | (go_simp; rfl)); (case hb => exact Ba.out); (case hi => kernel_rfl); (case ho => rfl); (case h1 => simp [Value.oneCell']); intro w2 hbox hgr; clear Ba; have Ba := Aside0.mk hbox; clear hbox; replace GR := Aside0.mk (GR.out.nxtOwn hgr La.out rfl rfl rfl rfl); clear hgr; have qa0 := Ba.out.cell 0 rfl; have qa1 := Ba.out.cell 1 rfl)
    | ((with_reducible refine gate_dst (N := 3) rfl ?_); refine ev_map rfl 80 rfl ?_; intro b hle w3 hm hgr; have Lb := Aside0.mk (GR.out.young hgr rfl hle); have Nab := Aside0.mk (hgr.apart Ba.out hle); replace Ba := Aside0.mk (hgr.blk Ba.out); replace GR := Aside0.mk (GR.out.nxt hgr rfl rfl rfl rfl); have Hm := Aside0.mk hm; clear qa0 qa1 hm hgr hle; have qa0 := Ba.out.cell 0 rfl; have qa1 := Ba.out.cell 1 rfl)
    | ((with_reducible refine gate_ins (k := 1) rfl ?_); refine ev_insert rfl rfl 80 (.tmp 3) (.const (.int .i64 1)) (.tmp 4) rfl (k := .int .i64 1) (v := .agg #[.int .i64 0, .int .i64 0]) (b := b) (c := 0) (es := #[]) Try.underlying80 Try.underlying3 ?hm rfl ?hy rfl ?hb rfl ?_; (case hm => rfl); (case hy => first | rfl | (go_simp; done) | (go_simp; rfl)); (case hb => exact Hm.out); intro w10 hm hgr; clear Hm qa0 qa1; have Hm := Aside0.mk hm; replace Ba := Aside0.mk (hgr.blkFar Ba.out Nab.out); replace GR := Aside0.mk (GR.out.nxtOwn hgr Lb.out rfl rfl rfl rfl); clear hgr hm; have qa0 := Ba.out.cell 0 rfl; have qa1 := Ba.out.cell 1 rfl)
    | ((with_reducible refine gate_ins (k := 2) rfl ?_); refine ev_insert rfl rfl 80 (.tmp 3) (.const (.int .i64 2)) (.tmp 5) rfl (k := .int .i64 2) (v := .agg #[.int .i64 (-1125899906842624), .int .i64 1125899906842624]) (b := b) (c := 1) (es := #[⟨.int .i64 1, .agg #[.int .i64 0, .int .i64 0], 0⟩]) Try.underlying80 Try.underlying3 ?hm rfl ?hy rfl ?hb rfl ?_; (case hm => rfl); (case hy => first | rfl | (go_simp; done) | (go_simp; rfl)); (case hb => exact Hm.out); intro w11 hm hgr; clear Hm qa0 qa1; have Hm := Aside0.mk hm; replace Ba := Aside0.mk (hgr.blkFar Ba.out Nab.out); replace GR := Aside0.mk (GR.out.nxtOwn hgr Lb.out rfl rfl rfl rfl); clear hgr hm; have qa0 := Ba.out.cell 0 rfl; have qa1 := Ba.out.cell 1 rfl)
    | ((with_reducible refine gate_ins (k := 3) rfl ?_); refine ev_insert rfl rfl 80 (.tmp 3) (.const (.int .i64 3)) (.tmp 6) rfl (k := .int .i64 3) (v := .agg #[.int .i64 (-1125899906842624), .int .i64 1125899906842624]) (b := b) (c := 2) (es := #[⟨.int .i64 1, .agg #[.int .i64 0, .int .i64 0], 0⟩, ⟨.int .i64 2, .agg #[.int .i64 (-1125899906842624), .int .i64 1125899906842624], 1⟩]) Try.underlying80 Try.underlying3 ?hm rfl ?hy rfl ?hb rfl ?_; (case hm => rfl); (case hy => first | rfl | (go_simp; done) | (go_simp; rfl)); (case hb => exact Hm.out); intro w12 hm hgr; clear Hm qa0 qa1; have Hm := Aside0.mk hm; replace Ba := Aside0.mk (hgr.blkFar Ba.out Nab.out); replace GR := Aside0.mk (GR.out.nxtOwn hgr Lb.out rfl rfl rfl rfl); clear hgr hm; have qa0 := Ba.out.cell 0 rfl; have qa1 := Ba.out.cell 1 rfl)
    | ((with_reducible refine gate_ins (k := 4) rfl ?_); refine ev_insert rfl rfl 80 (.tmp 3) (.const (.int .i64 4)) (.tmp 7) rfl (k := .int .i64 4) (v := .agg #[.int .i64 0, .int .i64 0]) (b := b) (c := 3) (es := #[⟨.int .i64 1, .agg #[.int .i64 0, .int .i64 0], 0⟩, ⟨.int .i64 2, .agg #[.int .i64 (-1125899906842624), .int .i64 1125899906842624], 1⟩, ⟨.int .i64 3, .agg #[.int .i64 (-1125899906842624), .int .i64 1125899906842624], 2⟩]) Try.underlying80 Try.underlying3 ?hm rfl ?hy rfl ?hb rfl ?_; (case hm => rfl); (case hy => first | rfl | (go_simp; done) | (go_simp; rfl)); (case hb => exact Hm.out); intro w13 hm hgr; clear Hm qa0 qa1; have Hm := Aside0.mk hm; replace Ba := Aside0.mk (hgr.blkFar Ba.out Nab.out); replace GR := Aside0.mk (GR.out.nxtOwn hgr Lb.out rfl rfl rfl rfl); clear hgr hm; have qa0 := Ba.out.cell 0 rfl; have qa1 := Ba.out.cell 1 rfl)
    | ((with_reducible refine gate_ins (k := 5) rfl ?_); refine ev_insert rfl rfl 80 (.tmp 3) (.const (.int .i64 5)) (.tmp 8) rfl (k := .int .i64 5) (v := .agg #[.int .i64 1, .int .i64 15]) (b := b) (c := 4) (es := #[⟨.int .i64 1, .agg #[.int .i64 0, .int .i64 0], 0⟩, ⟨.int .i64 2, .agg #[.int .i64 (-1125899906842624), .int .i64 1125899906842624], 1⟩, ⟨.int .i64 3, .agg #[.int .i64 (-1125899906842624), .int .i64 1125899906842624], 2⟩, ⟨.int .i64 4, .agg #[.int .i64 0, .int .i64 0], 3⟩]) Try.underlying80 Try.underlying3 ?hm rfl ?hy rfl ?hb rfl ?_; (case hm => rfl); (case hy => first | rfl | (go_simp; done) | (go_simp; rfl)); (case hb => exact Hm.out); intro w14 hm hgr; clear Hm qa0 qa1; have Hm := Aside0.mk hm; replace Ba := Aside0.mk (hgr.blkFar Ba.out Nab.out); replace GR := Aside0.mk (GR.out.nxtOwn hgr Lb.out rfl rfl rfl rfl); clear hgr hm; have qa0 := Ba.out.cell 0 rfl; have qa1 := Ba.out.cell 1 rfl)
    | ((with_reducible refine gate_ins (k := 6) rfl ?_); refine ev_insert rfl rfl 80 (.tmp 3) (.const (.int .i64 6)) (.tmp 9) rfl (k := .int .i64 6) (v := .agg #[.int .i64 0, .int .i64 3]) (b := b) (c := 5) (es := #[⟨.int .i64 1, .agg #[.int .i64 0, .int .i64 0], 0⟩, ⟨.int .i64 2, .agg #[.int .i64 (-1125899906842624), .int .i64 1125899906842624], 1⟩, ⟨.int .i64 3, .agg #[.int .i64 (-1125899906842624), .int .i64 1125899906842624], 2⟩, ⟨.int .i64 4, .agg #[.int .i64 0, .int .i64 0], 3⟩, ⟨.int .i64 5, .agg #[.int .i64 1, .int .i64 15], 4⟩]) Try.underlying80 Try.underlying3 ?hm rfl ?hy rfl ?hb rfl ?_; (case hm => rfl); (case hy => first | rfl | (go_simp; done) | (go_simp; rfl)); (case hb => exact Hm.out); intro w15 hm hgr; clear Hm qa0 qa1; have Hm := Aside0.mk hm; replace Ba := Aside0.mk (hgr.blkFar Ba.out Nab.out); replace GR := Aside0.mk (GR.out.nxtOwn hgr Lb.out rfl rfl rfl rfl); clear hgr hm; have qa0 := Ba.out.cell 0 rfl; have qa1 := Ba.out.cell 1 rfl)
    | ((with_reducible refine gate_ins (k := 7) rfl ?_); refine ev_insert rfl rfl 80 (.tmp 3) (.const (.int .i64 7)) (.tmp 10) rfl (k := .int .i64 7) (v := .agg #[.int .i64 0, .int .i64 0]) (b := b) (c := 6) (es := #[⟨.int .i64 1, .agg #[.int .i64 0, .int .i64 0], 0⟩, ⟨.int .i64 2, .agg #[.int .i64 (-1125899906842624), .int .i64 1125899906842624], 1⟩, ⟨.int .i64 3, .agg #[.int .i64 (-1125899906842624), .int .i64 1125899906842624], 2⟩, ⟨.int .i64 4, .agg #[.int .i64 0, .int .i64 0], 3⟩, ⟨.int .i64 5, .agg #[.int .i64 1, .int .i64 15], 4⟩, ⟨.int .i64 6, .agg #[.int .i64 0, .int .i64 3], 5⟩]) Try.underlying80 Try.underlying3 ?hm rfl ?hy rfl ?hb rfl ?_; (case hm => rfl); (case hy => first | rfl | (go_simp; done) | (go_simp; rfl)); (case hb => exact Hm.out); intro w16 hm hgr; clear Hm qa0 qa1; have Hm := Aside0.mk hm; replace Ba := Aside0.mk (hgr.blkFar Ba.out Nab.out); replace GR := Aside0.mk (GR.out.nxtOwn hgr Lb.out rfl rfl rfl rfl); clear hgr hm; have qa0 := Ba.out.cell 0 rfl; have qa1 := Ba.out.cell 1 rfl)
    | ((with_reducible refine gate_ins (k := 8) rfl ?_); refine ev_insert rfl rfl 80 (.tmp 3) (.const (.int .i64 8)) (.tmp 11) rfl (k := .int .i64 8) (v := .agg #[.int .i64 0, .int .i64 0]) (b := b) (c := 7) (es := #[⟨.int .i64 1, .agg #[.int .i64 0, .int .i64 0], 0⟩, ⟨.int .i64 2, .agg #[.int .i64 (-1125899906842624), .int .i64 1125899906842624], 1⟩, ⟨.int .i64 3, .agg #[.int .i64 (-1125899906842624), .int .i64 1125899906842624], 2⟩, ⟨.int .i64 4, .agg #[.int .i64 0, .int .i64 0], 3⟩, ⟨.int .i64 5, .agg #[.int .i64 1, .int .i64 15], 4⟩, ⟨.int .i64 6, .agg #[.int .i64 0, .int .i64 3], 5⟩, ⟨.int .i64 7, .agg #[.int .i64 0, .int .i64 0], 6⟩]) Try.underlying80 Try.underlying3 ?hm rfl ?hy rfl ?hb rfl ?_; (case hm => rfl); (case hy => first | rfl | (go_simp; done) | (go_simp; rfl)); (case hb => exact Hm.out); intro w17 hm hgr; clear Hm qa0 qa1; have Hm := Aside0.mk hm; replace Ba := Aside0.mk (hgr.blkFar Ba.out Nab.out); replace GR := Aside0.mk (GR.out.nxtOwn hgr Lb.out rfl rfl rfl rfl); clear hgr hm; have qa0 := Ba.out.cell 0 rfl; have qa1 := Ba.out.cell 1 rfl)
    | ((with_reducible refine gate_ins (k := 9) rfl ?_); refine ev_insert rfl rfl 80 (.tmp 3) (.const (.int .i64 9)) (.tmp 12) rfl (k := .int .i64 9) (v := .agg #[.int .i64 0, .int .i64 1125899906842624]) (b := b) (c := 8) (es := #[⟨.int .i64 1, .agg #[.int .i64 0, .int .i64 0], 0⟩, ⟨.int .i64 2, .agg #[.int .i64 (-1125899906842624), .int .i64 1125899906842624], 1⟩, ⟨.int .i64 3, .agg #[.int .i64 (-1125899906842624), .int .i64 1125899906842624], 2⟩, ⟨.int .i64 4, .agg #[.int .i64 0, .int .i64 0], 3⟩, ⟨.int .i64 5, .agg #[.int .i64 1, .int .i64 15], 4⟩, ⟨.int .i64 6, .agg #[.int .i64 0, .int .i64 3], 5⟩, ⟨.int .i64 7, .agg #[.int .i64 0, .int .i64 0], 6⟩, ⟨.int .i64 8, .agg #[.int .i64 0, .int .i64 0], 7⟩]) Try.underlying80 Try.underlying3 ?hm rfl ?hy rfl ?hb rfl ?_; (case hm => rfl); (case hy => first | rfl | (go_simp; done) | (go_simp; rfl)); (case hb => exact Hm.out); intro w18 hm hgr; clear Hm qa0 qa1; have Hm := Aside0.mk hm; replace Ba := Aside0.mk (hgr.blkFar Ba.out Nab.out); replace GR := Aside0.mk (GR.out.nxtOwn hgr Lb.out rfl rfl rfl rfl); clear hgr hm; have qa0 := Ba.out.cell 0 rfl; have qa1 := Ba.out.cell 1 rfl))
  go_ret
  exact ⟨b, rfl, Lb.out, Hm.out, GR.out⟩
set_option maxRecDepth 100000 in
theorem within_ok (a b c : Int) (h : b ≤ a ∧ a ≤ c) (w : World) : Calls Try.prog 47 #[.int .i64 a, .int .i64 b, .int .i64 c] w fun e w' => e = .returned (.bool true) ∧ Drawn0 w w' := by
  have h1 : decide (b ≤ a) = true := decide_eq_true h.1
  have h2 : decide (a ≤ c) = true := decide_eq_true h.2
  clear h
  go_enter Try.func47, Try.ntmps47
  go_wp2
  go_ret
  exact ⟨rfl, Drawn0.refl _⟩
set_option maxRecDepth 100000 in
theorem within_no (a b c : Int) (h : ¬ (b ≤ a ∧ a ≤ c)) (w : World) : Calls Try.prog 47 #[.int .i64 a, .int .i64 b, .int .i64 c] w fun e w' => e = .returned (.bool false) ∧ Drawn0 w w' := by
  by_cases h0 : b ≤ a
  · have h1 : decide (b ≤ a) = true := decide_eq_true h0
    have h2 : decide (a ≤ c) = false := decide_eq_false (fun e => h ⟨h0, e⟩)
    clear h h0
    go_enter Try.func47, Try.ntmps47
    go_wp2
    go_ret
    exact ⟨rfl, Drawn0.refl _⟩
  · have h1 : decide (b ≤ a) = false := decide_eq_false h0
    clear h h0
    go_enter Try.func47, Try.ntmps47
    go_wp2
    go_ret
    exact ⟨rfl, Drawn0.refl _⟩
def rlo (k : Int) : Int := if k = 2 ∨ k = 3 then -1125899906842624 else if k = 5 then 1 else 0
def rhi (k : Int) : Int := if k = 2 ∨ k = 3 ∨ k = 9 then 1125899906842624 else if k = 5 then 15 else if k = 6 then 3 else 0
def rok (k : Int) : Bool := decide (1 ≤ k) && decide (k ≤ 9)
theorem run_lookup {w : World} {b : Nat} (k : Int) (hb : Mp w b RNG 9) : (Instr.lookup 80 (.map (some b)) (.int .i64 k) true).run Try.prog w = .ok (.tuple #[.agg #[.int .i64 (rlo k), .int .i64 (rhi k)], .bool (rok k)]) w := by
  have hz : (zeroValue 35).run Try.prog w = .ok (.agg #[.int .i64 0, .int .i64 0]) w := by kernel_rfl
  have key : ∀ r, Instr.findNow (.int .i64) (.int .i64 k) RNG.toList 0 = some r → (∀ i v, r = some (i, v) → v = .agg #[.int .i64 (rlo k), .int .i64 (rhi k)] ∧ rok k = true) → (r = none → rlo k = 0 ∧ rhi k = 0 ∧ rok k = false) →
      (Instr.lookup 80 (.map (some b)) (.int .i64 k) true).run Try.prog w = .ok (.tuple #[.agg #[.int .i64 (rlo k), .int .i64 (rhi k)], .bool (rok k)]) w := by
    intro r hr h1 h2
    unfold Instr.lookup
    simp only [Sem.run_bind, run_underlying Try.underlying80, Result.andThen_ok, MapKept.run_getObj_map hb, Sem.run_pure]
    have hk : (Instr.checkKey RNG.isEmpty 10000 3 (.int .i64 k)).run Try.prog w = .ok () w := MapKept.run_checkKey Try.underlying3 (show MapKept.IsKey (.int .i64) (.int .i64 k) from rfl) _ _
    have hf : (Instr.findKey 3 (.int .i64 k) RNG.toList).run Try.prog w = .ok r w := MapKept.run_findKey Try.underlying3 hr
    simp only [hk, hf, Result.andThen_ok]
    cases r with
    | none => obtain ⟨e1, e2, e3⟩ := h2 rfl; simp only [Sem.run_bind, hz, Result.andThen_ok, Sem.run_pure, e1, e2, e3]; rfl
    | some iv => obtain ⟨i, v⟩ := iv; obtain ⟨rfl, e2⟩ := h1 i v rfl; simp only [Sem.run_bind, Result.andThen_ok, Sem.run_pure, e2]; rfl
  by_cases e1 : k = 1; · subst e1; exact key _ rfl (fun i v h => by cases h; exact ⟨rfl, rfl⟩) (fun h => by cases h)
  by_cases e2 : k = 2; · subst e2; exact key _ rfl (fun i v h => by cases h; exact ⟨rfl, rfl⟩) (fun h => by cases h)
  by_cases e3 : k = 3; · subst e3; exact key _ rfl (fun i v h => by cases h; exact ⟨rfl, rfl⟩) (fun h => by cases h)
  by_cases e4 : k = 4; · subst e4; exact key _ rfl (fun i v h => by cases h; exact ⟨rfl, rfl⟩) (fun h => by cases h)
  by_cases e5 : k = 5; · subst e5; exact key _ rfl (fun i v h => by cases h; exact ⟨rfl, rfl⟩) (fun h => by cases h)
  by_cases e6 : k = 6; · subst e6; exact key _ rfl (fun i v h => by cases h; exact ⟨rfl, rfl⟩) (fun h => by cases h)
  by_cases e7 : k = 7; · subst e7; exact key _ rfl (fun i v h => by cases h; exact ⟨rfl, rfl⟩) (fun h => by cases h)
  by_cases e8 : k = 8; · subst e8; exact key _ rfl (fun i v h => by cases h; exact ⟨rfl, rfl⟩) (fun h => by cases h)
  by_cases e9 : k = 9; · subst e9; exact key _ rfl (fun i v h => by cases h; exact ⟨rfl, rfl⟩) (fun h => by cases h)
  refine key none ?_ (fun i v h => by cases h) (fun _ => ?_)
  · have b : ∀ j : Int, k ≠ j → (k == j) = false := fun j h => beq_eq_false_iff_ne.mpr h
    simp [RNG, Instr.findNow, Instr.sameNow, b 1 e1, b 2 e2, b 3 e3, b 4 e4, b 5 e5, b 6 e6, b 7 e7, b 8 e8, b 9 e9]
  · unfold rlo rhi rok
    refine ⟨by rw [if_neg (by omega), if_neg e5], by rw [if_neg (by omega), if_neg e5, if_neg e6], ?_⟩
    rw [Bool.and_eq_false_iff]
    rcases Int.lt_or_le k 1 with h | h
    · exact .inl (decide_eq_false (by omega))
    · exact .inr (decide_eq_false (by omega))
/-- The error of a fault. -/
def chkF (nd fr tw kd vl : Int) : Int :=
  if ¬ (0 ≤ nd ∧ nd ≤ 23) then 3 else if ¬ (0 ≤ fr ∧ fr ≤ 1125899906842624) then 3 else if ¬ (0 ≤ tw ∧ tw ≤ 1125899906842624) then 3 else if tw < fr then 12 else if rok kd = false then 8 else if ¬ (rlo kd ≤ vl ∧ vl ≤ rhi kd) then 3 else 0
set_option maxHeartbeats 4000000 in
set_option maxRecDepth 100000 in
theorem chkF_1 (w : World) (nd fr tw kd vl : Int) (hnd : ¬ (0 ≤ nd ∧ nd ≤ 23)) : Calls Try.prog 33 #[.agg #[.int .i64 nd, .int .i64 fr, .int .i64 tw, .int .i64 kd, .int .i64 vl]] w fun e w' => e = .returned (.int .i64 3) ∧ Grew w w' none := by
  have hu46 := Try.underlying46
  have hu35 := Try.underlying35
  have GR : Aside0 (Grew w w none) := Aside0.mk (Grew.refl w none)
  have Hnd := Aside0.mk hnd
  clear hnd
  go_enter Try.func33, Try.ntmps33
  go_wp2_with (first
    | ((with_reducible refine gate_dst (N := 1) rfl ?_); refine ev_box rfl (N := 1) rfl (cs := #[.int .i64 nd, .int .i64 fr, .int .i64 tw, .int .i64 kd, .int .i64 vl]) (t := 46) ?hr ?_; (case hr => first | (go_simp; done) | (go_simp; rfl)); intro gx hle w1 hbox hgr; have Lx := Aside0.mk (GR.out.young hgr rfl hle); clear hle; have Bx := Aside0.mk hbox; clear hbox; replace GR := Aside0.mk (GR.out.nxt hgr rfl rfl rfl rfl); clear hgr; have qx0 := Bx.out.cell 0 rfl)
    | (go_at_call 47; (with_reducible refine (within_no _ _ _ Hnd.out _).mono ?_); rintro e w2 ⟨rfl, hb⟩; have hgr := Grew.drawn0 hb; clear hb; clear qx0; replace Bx := Aside0.mk (hgr.blk Bx.out); replace GR := Aside0.mk (GR.out.nxt hgr rfl rfl rfl rfl); clear hgr; have qx1 := Bx.out.cell 1 rfl))
  all_goals go_ret
  all_goals exact ⟨rfl, GR.out⟩
set_option maxHeartbeats 4000000 in
set_option maxRecDepth 100000 in
theorem chkF_2 (w : World) (nd fr tw kd vl : Int) (hnd : (0 ≤ nd ∧ nd ≤ 23)) (hfr : ¬ (0 ≤ fr ∧ fr ≤ 1125899906842624)) : Calls Try.prog 33 #[.agg #[.int .i64 nd, .int .i64 fr, .int .i64 tw, .int .i64 kd, .int .i64 vl]] w fun e w' => e = .returned (.int .i64 3) ∧ Grew w w' none := by
  have hu46 := Try.underlying46
  have hu35 := Try.underlying35
  have GR : Aside0 (Grew w w none) := Aside0.mk (Grew.refl w none)
  have Hnd := Aside0.mk hnd
  clear hnd
  have Hfr := Aside0.mk hfr
  clear hfr
  go_enter Try.func33, Try.ntmps33
  go_wp2_with (first
    | ((with_reducible refine gate_dst (N := 1) rfl ?_); refine ev_box rfl (N := 1) rfl (cs := #[.int .i64 nd, .int .i64 fr, .int .i64 tw, .int .i64 kd, .int .i64 vl]) (t := 46) ?hr ?_; (case hr => first | (go_simp; done) | (go_simp; rfl)); intro gx hle w1 hbox hgr; have Lx := Aside0.mk (GR.out.young hgr rfl hle); clear hle; have Bx := Aside0.mk hbox; clear hbox; replace GR := Aside0.mk (GR.out.nxt hgr rfl rfl rfl rfl); clear hgr; have qx0 := Bx.out.cell 0 rfl)
    | (go_at_call 47; (with_reducible refine (within_ok _ _ _ Hnd.out _).mono ?_); rintro e w2 ⟨rfl, hb⟩; have hgr := Grew.drawn0 hb; clear hb; clear qx0; replace Bx := Aside0.mk (hgr.blk Bx.out); replace GR := Aside0.mk (GR.out.nxt hgr rfl rfl rfl rfl); clear hgr; have qx1 := Bx.out.cell 1 rfl)
    | (go_at_call 47; (with_reducible refine (within_no _ _ _ Hfr.out _).mono ?_); rintro e w3 ⟨rfl, hb⟩; have hgr := Grew.drawn0 hb; clear hb; clear qx1; replace Bx := Aside0.mk (hgr.blk Bx.out); replace GR := Aside0.mk (GR.out.nxt hgr rfl rfl rfl rfl); clear hgr; have qx1 := Bx.out.cell 1 rfl; have qx2 := Bx.out.cell 2 rfl))
  all_goals go_ret
  all_goals exact ⟨rfl, GR.out⟩
set_option maxHeartbeats 4000000 in
set_option maxRecDepth 100000 in
theorem chkF_3 (w : World) (nd fr tw kd vl : Int) (hnd : (0 ≤ nd ∧ nd ≤ 23)) (hfr : (0 ≤ fr ∧ fr ≤ 1125899906842624)) (hto : ¬ (0 ≤ tw ∧ tw ≤ 1125899906842624)) : Calls Try.prog 33 #[.agg #[.int .i64 nd, .int .i64 fr, .int .i64 tw, .int .i64 kd, .int .i64 vl]] w fun e w' => e = .returned (.int .i64 3) ∧ Grew w w' none := by
  have hu46 := Try.underlying46
  have hu35 := Try.underlying35
  have GR : Aside0 (Grew w w none) := Aside0.mk (Grew.refl w none)
  have Hnd := Aside0.mk hnd
  clear hnd
  have Hfr := Aside0.mk hfr
  clear hfr
  have Hto := Aside0.mk hto
  clear hto
  go_enter Try.func33, Try.ntmps33
  go_wp2_with (first
    | ((with_reducible refine gate_dst (N := 1) rfl ?_); refine ev_box rfl (N := 1) rfl (cs := #[.int .i64 nd, .int .i64 fr, .int .i64 tw, .int .i64 kd, .int .i64 vl]) (t := 46) ?hr ?_; (case hr => first | (go_simp; done) | (go_simp; rfl)); intro gx hle w1 hbox hgr; have Lx := Aside0.mk (GR.out.young hgr rfl hle); clear hle; have Bx := Aside0.mk hbox; clear hbox; replace GR := Aside0.mk (GR.out.nxt hgr rfl rfl rfl rfl); clear hgr; have qx0 := Bx.out.cell 0 rfl)
    | (go_at_call 47; (with_reducible refine (within_ok _ _ _ Hnd.out _).mono ?_); rintro e w2 ⟨rfl, hb⟩; have hgr := Grew.drawn0 hb; clear hb; clear qx0; replace Bx := Aside0.mk (hgr.blk Bx.out); replace GR := Aside0.mk (GR.out.nxt hgr rfl rfl rfl rfl); clear hgr; have qx1 := Bx.out.cell 1 rfl)
    | (go_at_call 47; (with_reducible refine (within_ok _ _ _ Hfr.out _).mono ?_); rintro e w3 ⟨rfl, hb⟩; have hgr := Grew.drawn0 hb; clear hb; clear qx1; replace Bx := Aside0.mk (hgr.blk Bx.out); replace GR := Aside0.mk (GR.out.nxt hgr rfl rfl rfl rfl); clear hgr; have qx1 := Bx.out.cell 1 rfl; have qx2 := Bx.out.cell 2 rfl)
    | (go_at_call 47; (with_reducible refine (within_no _ _ _ Hto.out _).mono ?_); rintro e w4 ⟨rfl, hb⟩; have hgr := Grew.drawn0 hb; clear hb; clear qx1 qx2; replace Bx := Aside0.mk (hgr.blk Bx.out); replace GR := Aside0.mk (GR.out.nxt hgr rfl rfl rfl rfl); clear hgr; have qx1 := Bx.out.cell 1 rfl; have qx2 := Bx.out.cell 2 rfl; have qx3 := Bx.out.cell 3 rfl))
  all_goals go_ret
  all_goals exact ⟨rfl, GR.out⟩
set_option maxHeartbeats 4000000 in
set_option maxRecDepth 100000 in
theorem chkF_4 (w : World) (nd fr tw kd vl : Int) (hnd : (0 ≤ nd ∧ nd ≤ 23)) (hfr : (0 ≤ fr ∧ fr ≤ 1125899906842624)) (hto : (0 ≤ tw ∧ tw ≤ 1125899906842624)) (ho : tw < fr) : Calls Try.prog 33 #[.agg #[.int .i64 nd, .int .i64 fr, .int .i64 tw, .int .i64 kd, .int .i64 vl]] w fun e w' => e = .returned (.int .i64 12) ∧ Grew w w' none := by
  have hu46 := Try.underlying46
  have hu35 := Try.underlying35
  have GR : Aside0 (Grew w w none) := Aside0.mk (Grew.refl w none)
  have Hnd := Aside0.mk hnd
  clear hnd
  have Hfr := Aside0.mk hfr
  clear hfr
  have Hto := Aside0.mk hto
  clear hto
  have ho1 : decide (tw < fr) = true := decide_eq_true ho
  clear ho
  go_enter Try.func33, Try.ntmps33
  go_wp2_with (first
    | ((with_reducible refine gate_dst (N := 1) rfl ?_); refine ev_box rfl (N := 1) rfl (cs := #[.int .i64 nd, .int .i64 fr, .int .i64 tw, .int .i64 kd, .int .i64 vl]) (t := 46) ?hr ?_; (case hr => first | (go_simp; done) | (go_simp; rfl)); intro gx hle w1 hbox hgr; have Lx := Aside0.mk (GR.out.young hgr rfl hle); clear hle; have Bx := Aside0.mk hbox; clear hbox; replace GR := Aside0.mk (GR.out.nxt hgr rfl rfl rfl rfl); clear hgr; have qx0 := Bx.out.cell 0 rfl)
    | (go_at_call 47; (with_reducible refine (within_ok _ _ _ Hnd.out _).mono ?_); rintro e w2 ⟨rfl, hb⟩; have hgr := Grew.drawn0 hb; clear hb; clear qx0; replace Bx := Aside0.mk (hgr.blk Bx.out); replace GR := Aside0.mk (GR.out.nxt hgr rfl rfl rfl rfl); clear hgr; have qx1 := Bx.out.cell 1 rfl)
    | (go_at_call 47; (with_reducible refine (within_ok _ _ _ Hfr.out _).mono ?_); rintro e w3 ⟨rfl, hb⟩; have hgr := Grew.drawn0 hb; clear hb; clear qx1; replace Bx := Aside0.mk (hgr.blk Bx.out); replace GR := Aside0.mk (GR.out.nxt hgr rfl rfl rfl rfl); clear hgr; have qx1 := Bx.out.cell 1 rfl; have qx2 := Bx.out.cell 2 rfl)
    | (go_at_call 47; (with_reducible refine (within_ok _ _ _ Hto.out _).mono ?_); rintro e w4 ⟨rfl, hb⟩; have hgr := Grew.drawn0 hb; clear hb; clear qx1 qx2; replace Bx := Aside0.mk (hgr.blk Bx.out); replace GR := Aside0.mk (GR.out.nxt hgr rfl rfl rfl rfl); clear hgr; have qx1 := Bx.out.cell 1 rfl; have qx2 := Bx.out.cell 2 rfl; have qx3 := Bx.out.cell 3 rfl))
  all_goals go_ret
  all_goals exact ⟨rfl, GR.out⟩
set_option maxHeartbeats 4000000 in
set_option maxRecDepth 100000 in
theorem chkF_5 (w : World) (nd fr tw kd vl : Int) (hnd : (0 ≤ nd ∧ nd ≤ 23)) (hfr : (0 ≤ fr ∧ fr ≤ 1125899906842624)) (hto : (0 ≤ tw ∧ tw ≤ 1125899906842624)) (ho : ¬ tw < fr) (hk : rok kd = false) : Calls Try.prog 33 #[.agg #[.int .i64 nd, .int .i64 fr, .int .i64 tw, .int .i64 kd, .int .i64 vl]] w fun e w' => e = .returned (.int .i64 8) ∧ Grew w w' none := by
  have hu46 := Try.underlying46
  have hu35 := Try.underlying35
  have GR : Aside0 (Grew w w none) := Aside0.mk (Grew.refl w none)
  have Hnd := Aside0.mk hnd
  clear hnd
  have Hfr := Aside0.mk hfr
  clear hfr
  have Hto := Aside0.mk hto
  clear hto
  have ho1 : decide (tw < fr) = false := decide_eq_false ho
  clear ho
  go_enter Try.func33, Try.ntmps33
  go_wp2_with (first
    | ((with_reducible refine gate_dst (N := 1) rfl ?_); refine ev_box rfl (N := 1) rfl (cs := #[.int .i64 nd, .int .i64 fr, .int .i64 tw, .int .i64 kd, .int .i64 vl]) (t := 46) ?hr ?_; (case hr => first | (go_simp; done) | (go_simp; rfl)); intro gx hle w1 hbox hgr; have Lx := Aside0.mk (GR.out.young hgr rfl hle); clear hle; have Bx := Aside0.mk hbox; clear hbox; replace GR := Aside0.mk (GR.out.nxt hgr rfl rfl rfl rfl); clear hgr; have qx0 := Bx.out.cell 0 rfl)
    | (go_at_call 47; (with_reducible refine (within_ok _ _ _ Hnd.out _).mono ?_); rintro e w2 ⟨rfl, hb⟩; have hgr := Grew.drawn0 hb; clear hb; clear qx0; replace Bx := Aside0.mk (hgr.blk Bx.out); replace GR := Aside0.mk (GR.out.nxt hgr rfl rfl rfl rfl); clear hgr; have qx1 := Bx.out.cell 1 rfl)
    | (go_at_call 47; (with_reducible refine (within_ok _ _ _ Hfr.out _).mono ?_); rintro e w3 ⟨rfl, hb⟩; have hgr := Grew.drawn0 hb; clear hb; clear qx1; replace Bx := Aside0.mk (hgr.blk Bx.out); replace GR := Aside0.mk (GR.out.nxt hgr rfl rfl rfl rfl); clear hgr; have qx1 := Bx.out.cell 1 rfl; have qx2 := Bx.out.cell 2 rfl)
    | (go_at_call 47; (with_reducible refine (within_ok _ _ _ Hto.out _).mono ?_); rintro e w4 ⟨rfl, hb⟩; have hgr := Grew.drawn0 hb; clear hb; clear qx1 qx2; replace Bx := Aside0.mk (hgr.blk Bx.out); replace GR := Aside0.mk (GR.out.nxt hgr rfl rfl rfl rfl); clear hgr; have qx1 := Bx.out.cell 1 rfl; have qx2 := Bx.out.cell 2 rfl; have qx3 := Bx.out.cell 3 rfl))
  skip
  go_region_held3 (fun w' => w'.cell? ⟨gx, 3, none⟩ = some (.int .i64 kd)) (first | ((with_reducible show (World.setCell _ _ _).cell? _ = _); have hbx := setsL_far (Nat.ne_of_lt Bx.out.lt) [.int .i64 (rlo kd), .int .i64 (rhi kd)] 0 w2 bx2; exact hbx.cell 3 rfl) | (with_reducible exact qx3) | (with_reducible exact q3w) | ((with_reducible show (World.drew _).cell? _ = _); first | exact (Bx.out.cell 3 rfl) | exact (blk_old Bx.out _).cell 3 rfl | exact (blk_old bx2 _).cell 3 rfl) | ((with_reducible show (World.alloc _ _).cell? _ = _); first | exact (blk_old bx2 _).cell 3 rfl | exact (blk_old Bx.out _).cell 3 rfl)) (first | ((go_at_call 48; (with_reducible refine (ranges_ok _).mono ?_); rintro e w2 ⟨b, rfl, hle, hm, hgr⟩); have hl1 := run_lookup kd hm; have hl2 := run_lookup kd (hm.step (grew_alloc w2 (.cells #[.int .i64 0, .int .i64 0] 35 (0, 0)) none)); rw [hk] at hl1 hl2; have bx2 : Blk w2 gx 46 #[.int .i64 nd, .int .i64 fr, .int .i64 tw, .int .i64 kd, .int .i64 vl] := hgr.blk (by first | exact Bx.out | exact blk_drawn Bx.out _ | exact blk_old Bx.out _ | exact blk_old (blk_drawn Bx.out _) _); have q3w := bx2.cell 3 (v := .int .i64 kd) rfl; have G2 : Grew w w2 none := (by first | exact GR.out.nxt hgr rfl rfl rfl rfl | exact (GR.out.then_none (Grew.below (below_alloc (Below.refl _ _) (.cells #[.int .i64 0, .int .i64 0] 35 (0, 0))))).nxt hgr rfl rfl rfl rfl); (try (have hx : Blk w2 w4.heap.size 35 #[.int .i64 0, .int .i64 0] := hgr.blk (by exact blk_new w4 _); have cx0 := hx.cell 0 (v := .int .i64 0) rfl; have fx0 := hx.frozen 0; have cx1 := hx.cell 1 (v := .int .i64 0) rfl; have fx1 := hx.frozen 1))))
  all_goals first
    | (have hm_ := Nat.ne_of_lt (Blk.lt (w := w4) Bx.out); have hge : w.heap.size ≤ w4.heap.size := GR.out.size; have hbh := setsL_full [.int .i64 (rlo kd), .int .i64 (rhi kd)] w2 _ hx rfl; have hba := setsL_far hm_ [.int .i64 (rlo kd), .int .i64 (rhi kd)] 0 w2 bx2; have hgg := setsL_grew hge [.int .i64 (rlo kd), .int .i64 (rhi kd)] 0 w2 G2; simp only [setsL, Nat.reduceAdd] at hbh hba hgg; generalize ((w2.setCell ⟨w4.heap.size, 0, none⟩ (.int .i64 (rlo kd))).setCell ⟨w4.heap.size, 1, none⟩ (.int .i64 (rhi kd))) = wz at hbh hba hgg ⊢; generalize w4.heap.size = gh at hbh ⊢)
    | (have hbh : Blk (w2.alloc (.cells #[.int .i64 (rlo kd), .int .i64 (rhi kd)] 35 (0, 0))) w2.heap.size 35 #[.int .i64 (rlo kd), .int .i64 (rhi kd)] := blk_new w2 _; have hba := blk_old bx2 (.cells #[.int .i64 (rlo kd), .int .i64 (rhi kd)] 35 (0, 0)); have hgg : Grew w (w2.alloc (.cells #[.int .i64 (rlo kd), .int .i64 (rhi kd)] 35 (0, 0))) none := G2.then_none (Grew.below (below_alloc (Below.refl _ _) _)); generalize w2.alloc (.cells #[.int .i64 (rlo kd), .int .i64 (rhi kd)] 35 (0, 0)) = wz at hbh hba hgg ⊢; generalize w2.heap.size = gh at hbh ⊢)
  all_goals (have y4 := hba.cell 4 rfl; have z0 := hbh.cell 0 rfl; have z1 := hbh.cell 1 rfl; have GR := Aside0.mk hgg)
  all_goals (go_wp2_with fail)
  all_goals go_ret
  all_goals exact ⟨rfl, GR.out⟩
set_option maxHeartbeats 4000000 in
set_option maxRecDepth 100000 in
theorem chkF_6 (w : World) (nd fr tw kd vl : Int) (hnd : (0 ≤ nd ∧ nd ≤ 23)) (hfr : (0 ≤ fr ∧ fr ≤ 1125899906842624)) (hto : (0 ≤ tw ∧ tw ≤ 1125899906842624)) (ho : ¬ tw < fr) (hk : rok kd = true) (hvl : ¬ (rlo kd ≤ vl ∧ vl ≤ rhi kd)) : Calls Try.prog 33 #[.agg #[.int .i64 nd, .int .i64 fr, .int .i64 tw, .int .i64 kd, .int .i64 vl]] w fun e w' => e = .returned (.int .i64 3) ∧ Grew w w' none := by
  have hu46 := Try.underlying46
  have hu35 := Try.underlying35
  have GR : Aside0 (Grew w w none) := Aside0.mk (Grew.refl w none)
  have Hnd := Aside0.mk hnd
  clear hnd
  have Hfr := Aside0.mk hfr
  clear hfr
  have Hto := Aside0.mk hto
  clear hto
  have ho1 : decide (tw < fr) = false := decide_eq_false ho
  clear ho
  have Hvl := Aside0.mk hvl
  clear hvl
  go_enter Try.func33, Try.ntmps33
  go_wp2_with (first
    | ((with_reducible refine gate_dst (N := 1) rfl ?_); refine ev_box rfl (N := 1) rfl (cs := #[.int .i64 nd, .int .i64 fr, .int .i64 tw, .int .i64 kd, .int .i64 vl]) (t := 46) ?hr ?_; (case hr => first | (go_simp; done) | (go_simp; rfl)); intro gx hle w1 hbox hgr; have Lx := Aside0.mk (GR.out.young hgr rfl hle); clear hle; have Bx := Aside0.mk hbox; clear hbox; replace GR := Aside0.mk (GR.out.nxt hgr rfl rfl rfl rfl); clear hgr; have qx0 := Bx.out.cell 0 rfl)
    | (go_at_call 47; (with_reducible refine (within_ok _ _ _ Hnd.out _).mono ?_); rintro e w2 ⟨rfl, hb⟩; have hgr := Grew.drawn0 hb; clear hb; clear qx0; replace Bx := Aside0.mk (hgr.blk Bx.out); replace GR := Aside0.mk (GR.out.nxt hgr rfl rfl rfl rfl); clear hgr; have qx1 := Bx.out.cell 1 rfl)
    | (go_at_call 47; (with_reducible refine (within_ok _ _ _ Hfr.out _).mono ?_); rintro e w3 ⟨rfl, hb⟩; have hgr := Grew.drawn0 hb; clear hb; clear qx1; replace Bx := Aside0.mk (hgr.blk Bx.out); replace GR := Aside0.mk (GR.out.nxt hgr rfl rfl rfl rfl); clear hgr; have qx1 := Bx.out.cell 1 rfl; have qx2 := Bx.out.cell 2 rfl)
    | (go_at_call 47; (with_reducible refine (within_ok _ _ _ Hto.out _).mono ?_); rintro e w4 ⟨rfl, hb⟩; have hgr := Grew.drawn0 hb; clear hb; clear qx1 qx2; replace Bx := Aside0.mk (hgr.blk Bx.out); replace GR := Aside0.mk (GR.out.nxt hgr rfl rfl rfl rfl); clear hgr; have qx1 := Bx.out.cell 1 rfl; have qx2 := Bx.out.cell 2 rfl; have qx3 := Bx.out.cell 3 rfl))
  skip
  go_region_held3 (fun w' => w'.cell? ⟨gx, 3, none⟩ = some (.int .i64 kd)) (first | ((with_reducible show (World.setCell _ _ _).cell? _ = _); have hbx := setsL_far (Nat.ne_of_lt Bx.out.lt) [.int .i64 (rlo kd), .int .i64 (rhi kd)] 0 w2 bx2; exact hbx.cell 3 rfl) | (with_reducible exact qx3) | (with_reducible exact q3w) | ((with_reducible show (World.drew _).cell? _ = _); first | exact (Bx.out.cell 3 rfl) | exact (blk_old Bx.out _).cell 3 rfl | exact (blk_old bx2 _).cell 3 rfl) | ((with_reducible show (World.alloc _ _).cell? _ = _); first | exact (blk_old bx2 _).cell 3 rfl | exact (blk_old Bx.out _).cell 3 rfl)) (first | ((go_at_call 48; (with_reducible refine (ranges_ok _).mono ?_); rintro e w2 ⟨b, rfl, hle, hm, hgr⟩); have hl1 := run_lookup kd hm; have hl2 := run_lookup kd (hm.step (grew_alloc w2 (.cells #[.int .i64 0, .int .i64 0] 35 (0, 0)) none)); rw [hk] at hl1 hl2; have bx2 : Blk w2 gx 46 #[.int .i64 nd, .int .i64 fr, .int .i64 tw, .int .i64 kd, .int .i64 vl] := hgr.blk (by first | exact Bx.out | exact blk_drawn Bx.out _ | exact blk_old Bx.out _ | exact blk_old (blk_drawn Bx.out _) _); have q3w := bx2.cell 3 (v := .int .i64 kd) rfl; have G2 : Grew w w2 none := (by first | exact GR.out.nxt hgr rfl rfl rfl rfl | exact (GR.out.then_none (Grew.below (below_alloc (Below.refl _ _) (.cells #[.int .i64 0, .int .i64 0] 35 (0, 0))))).nxt hgr rfl rfl rfl rfl); (try (have hx : Blk w2 w4.heap.size 35 #[.int .i64 0, .int .i64 0] := hgr.blk (by exact blk_new w4 _); have cx0 := hx.cell 0 (v := .int .i64 0) rfl; have fx0 := hx.frozen 0; have cx1 := hx.cell 1 (v := .int .i64 0) rfl; have fx1 := hx.frozen 1))))
  all_goals first
    | (have hm_ := Nat.ne_of_lt (Blk.lt (w := w4) Bx.out); have hge : w.heap.size ≤ w4.heap.size := GR.out.size; have hbh := setsL_full [.int .i64 (rlo kd), .int .i64 (rhi kd)] w2 _ hx rfl; have hba := setsL_far hm_ [.int .i64 (rlo kd), .int .i64 (rhi kd)] 0 w2 bx2; have hgg := setsL_grew hge [.int .i64 (rlo kd), .int .i64 (rhi kd)] 0 w2 G2; simp only [setsL, Nat.reduceAdd] at hbh hba hgg; generalize ((w2.setCell ⟨w4.heap.size, 0, none⟩ (.int .i64 (rlo kd))).setCell ⟨w4.heap.size, 1, none⟩ (.int .i64 (rhi kd))) = wz at hbh hba hgg ⊢; generalize w4.heap.size = gh at hbh ⊢)
    | (have hbh : Blk (w2.alloc (.cells #[.int .i64 (rlo kd), .int .i64 (rhi kd)] 35 (0, 0))) w2.heap.size 35 #[.int .i64 (rlo kd), .int .i64 (rhi kd)] := blk_new w2 _; have hba := blk_old bx2 (.cells #[.int .i64 (rlo kd), .int .i64 (rhi kd)] 35 (0, 0)); have hgg : Grew w (w2.alloc (.cells #[.int .i64 (rlo kd), .int .i64 (rhi kd)] 35 (0, 0))) none := G2.then_none (Grew.below (below_alloc (Below.refl _ _) _)); generalize w2.alloc (.cells #[.int .i64 (rlo kd), .int .i64 (rhi kd)] 35 (0, 0)) = wz at hbh hba hgg ⊢; generalize w2.heap.size = gh at hbh ⊢)
  all_goals (have y4 := hba.cell 4 rfl; have z0 := hbh.cell 0 rfl; have z1 := hbh.cell 1 rfl; have GR := Aside0.mk hgg)
  all_goals (go_wp2_with (go_at_call 47; (with_reducible refine (within_no _ _ _ Hvl.out _).mono ?_); rintro e w5 ⟨rfl, hg5⟩; have GR5 := Aside0.mk (GR.out.nxt (Grew.drawn0 hg5) rfl rfl rfl rfl)))
  all_goals go_ret
  all_goals exact ⟨rfl, GR5.out⟩
set_option maxHeartbeats 4000000 in
set_option maxRecDepth 100000 in
theorem chkF_7 (w : World) (nd fr tw kd vl : Int) (hnd : (0 ≤ nd ∧ nd ≤ 23)) (hfr : (0 ≤ fr ∧ fr ≤ 1125899906842624)) (hto : (0 ≤ tw ∧ tw ≤ 1125899906842624)) (ho : ¬ tw < fr) (hk : rok kd = true) (hvl : (rlo kd ≤ vl ∧ vl ≤ rhi kd)) : Calls Try.prog 33 #[.agg #[.int .i64 nd, .int .i64 fr, .int .i64 tw, .int .i64 kd, .int .i64 vl]] w fun e w' => e = .returned (.int .i64 0) ∧ Grew w w' none := by
  have hu46 := Try.underlying46
  have hu35 := Try.underlying35
  have GR : Aside0 (Grew w w none) := Aside0.mk (Grew.refl w none)
  have Hnd := Aside0.mk hnd
  clear hnd
  have Hfr := Aside0.mk hfr
  clear hfr
  have Hto := Aside0.mk hto
  clear hto
  have ho1 : decide (tw < fr) = false := decide_eq_false ho
  clear ho
  have Hvl := Aside0.mk hvl
  clear hvl
  go_enter Try.func33, Try.ntmps33
  go_wp2_with (first
    | ((with_reducible refine gate_dst (N := 1) rfl ?_); refine ev_box rfl (N := 1) rfl (cs := #[.int .i64 nd, .int .i64 fr, .int .i64 tw, .int .i64 kd, .int .i64 vl]) (t := 46) ?hr ?_; (case hr => first | (go_simp; done) | (go_simp; rfl)); intro gx hle w1 hbox hgr; have Lx := Aside0.mk (GR.out.young hgr rfl hle); clear hle; have Bx := Aside0.mk hbox; clear hbox; replace GR := Aside0.mk (GR.out.nxt hgr rfl rfl rfl rfl); clear hgr; have qx0 := Bx.out.cell 0 rfl)
    | (go_at_call 47; (with_reducible refine (within_ok _ _ _ Hnd.out _).mono ?_); rintro e w2 ⟨rfl, hb⟩; have hgr := Grew.drawn0 hb; clear hb; clear qx0; replace Bx := Aside0.mk (hgr.blk Bx.out); replace GR := Aside0.mk (GR.out.nxt hgr rfl rfl rfl rfl); clear hgr; have qx1 := Bx.out.cell 1 rfl)
    | (go_at_call 47; (with_reducible refine (within_ok _ _ _ Hfr.out _).mono ?_); rintro e w3 ⟨rfl, hb⟩; have hgr := Grew.drawn0 hb; clear hb; clear qx1; replace Bx := Aside0.mk (hgr.blk Bx.out); replace GR := Aside0.mk (GR.out.nxt hgr rfl rfl rfl rfl); clear hgr; have qx1 := Bx.out.cell 1 rfl; have qx2 := Bx.out.cell 2 rfl)
    | (go_at_call 47; (with_reducible refine (within_ok _ _ _ Hto.out _).mono ?_); rintro e w4 ⟨rfl, hb⟩; have hgr := Grew.drawn0 hb; clear hb; clear qx1 qx2; replace Bx := Aside0.mk (hgr.blk Bx.out); replace GR := Aside0.mk (GR.out.nxt hgr rfl rfl rfl rfl); clear hgr; have qx1 := Bx.out.cell 1 rfl; have qx2 := Bx.out.cell 2 rfl; have qx3 := Bx.out.cell 3 rfl))
  skip
  go_region_held3 (fun w' => w'.cell? ⟨gx, 3, none⟩ = some (.int .i64 kd)) (first | ((with_reducible show (World.setCell _ _ _).cell? _ = _); have hbx := setsL_far (Nat.ne_of_lt Bx.out.lt) [.int .i64 (rlo kd), .int .i64 (rhi kd)] 0 w2 bx2; exact hbx.cell 3 rfl) | (with_reducible exact qx3) | (with_reducible exact q3w) | ((with_reducible show (World.drew _).cell? _ = _); first | exact (Bx.out.cell 3 rfl) | exact (blk_old Bx.out _).cell 3 rfl | exact (blk_old bx2 _).cell 3 rfl) | ((with_reducible show (World.alloc _ _).cell? _ = _); first | exact (blk_old bx2 _).cell 3 rfl | exact (blk_old Bx.out _).cell 3 rfl)) (first | ((go_at_call 48; (with_reducible refine (ranges_ok _).mono ?_); rintro e w2 ⟨b, rfl, hle, hm, hgr⟩); have hl1 := run_lookup kd hm; have hl2 := run_lookup kd (hm.step (grew_alloc w2 (.cells #[.int .i64 0, .int .i64 0] 35 (0, 0)) none)); rw [hk] at hl1 hl2; have bx2 : Blk w2 gx 46 #[.int .i64 nd, .int .i64 fr, .int .i64 tw, .int .i64 kd, .int .i64 vl] := hgr.blk (by first | exact Bx.out | exact blk_drawn Bx.out _ | exact blk_old Bx.out _ | exact blk_old (blk_drawn Bx.out _) _); have q3w := bx2.cell 3 (v := .int .i64 kd) rfl; have G2 : Grew w w2 none := (by first | exact GR.out.nxt hgr rfl rfl rfl rfl | exact (GR.out.then_none (Grew.below (below_alloc (Below.refl _ _) (.cells #[.int .i64 0, .int .i64 0] 35 (0, 0))))).nxt hgr rfl rfl rfl rfl); (try (have hx : Blk w2 w4.heap.size 35 #[.int .i64 0, .int .i64 0] := hgr.blk (by exact blk_new w4 _); have cx0 := hx.cell 0 (v := .int .i64 0) rfl; have fx0 := hx.frozen 0; have cx1 := hx.cell 1 (v := .int .i64 0) rfl; have fx1 := hx.frozen 1))))
  all_goals first
    | (have hm_ := Nat.ne_of_lt (Blk.lt (w := w4) Bx.out); have hge : w.heap.size ≤ w4.heap.size := GR.out.size; have hbh := setsL_full [.int .i64 (rlo kd), .int .i64 (rhi kd)] w2 _ hx rfl; have hba := setsL_far hm_ [.int .i64 (rlo kd), .int .i64 (rhi kd)] 0 w2 bx2; have hgg := setsL_grew hge [.int .i64 (rlo kd), .int .i64 (rhi kd)] 0 w2 G2; simp only [setsL, Nat.reduceAdd] at hbh hba hgg; generalize ((w2.setCell ⟨w4.heap.size, 0, none⟩ (.int .i64 (rlo kd))).setCell ⟨w4.heap.size, 1, none⟩ (.int .i64 (rhi kd))) = wz at hbh hba hgg ⊢; generalize w4.heap.size = gh at hbh ⊢)
    | (have hbh : Blk (w2.alloc (.cells #[.int .i64 (rlo kd), .int .i64 (rhi kd)] 35 (0, 0))) w2.heap.size 35 #[.int .i64 (rlo kd), .int .i64 (rhi kd)] := blk_new w2 _; have hba := blk_old bx2 (.cells #[.int .i64 (rlo kd), .int .i64 (rhi kd)] 35 (0, 0)); have hgg : Grew w (w2.alloc (.cells #[.int .i64 (rlo kd), .int .i64 (rhi kd)] 35 (0, 0))) none := G2.then_none (Grew.below (below_alloc (Below.refl _ _) _)); generalize w2.alloc (.cells #[.int .i64 (rlo kd), .int .i64 (rhi kd)] 35 (0, 0)) = wz at hbh hba hgg ⊢; generalize w2.heap.size = gh at hbh ⊢)
  all_goals (have y4 := hba.cell 4 rfl; have z0 := hbh.cell 0 rfl; have z1 := hbh.cell 1 rfl; have GR := Aside0.mk hgg)
  all_goals (go_wp2_with (go_at_call 47; (with_reducible refine (within_ok _ _ _ Hvl.out _).mono ?_); rintro e w5 ⟨rfl, hg5⟩; have GR5 := Aside0.mk (GR.out.nxt (Grew.drawn0 hg5) rfl rfl rfl rfl)))
  all_goals go_ret
  all_goals exact ⟨rfl, GR5.out⟩
theorem checkFault_ok (w : World) (nd fr tw kd vl : Int) : Calls Try.prog 33 #[.agg #[.int .i64 nd, .int .i64 fr, .int .i64 tw, .int .i64 kd, .int .i64 vl]] w fun e w' => e = .returned (.int .i64 (chkF nd fr tw kd vl)) ∧ Grew w w' none := by
  unfold chkF
  by_cases h1 : 0 ≤ nd ∧ nd ≤ 23
  · rw [if_neg (not_not_intro h1)]
    by_cases h2 : 0 ≤ fr ∧ fr ≤ 1125899906842624
    · rw [if_neg (not_not_intro h2)]
      by_cases h3 : 0 ≤ tw ∧ tw ≤ 1125899906842624
      · rw [if_neg (not_not_intro h3)]
        by_cases h4 : tw < fr
        · rw [if_pos h4]; exact chkF_4 w _ _ _ _ _ h1 h2 h3 h4
        · rw [if_neg h4]
          by_cases h5 : rok kd = false
          · rw [if_pos h5]; exact chkF_5 w _ _ _ _ _ h1 h2 h3 h4 h5
          · rw [if_neg h5]
            have h5' : rok kd = true := by simpa using h5
            by_cases h6 : rlo kd ≤ vl ∧ vl ≤ rhi kd
            · rw [if_neg (not_not_intro h6)]; exact chkF_7 w _ _ _ _ _ h1 h2 h3 h4 h5' h6
            · rw [if_pos h6]; exact chkF_6 w _ _ _ _ _ h1 h2 h3 h4 h5' h6
      · rw [if_pos h3]; exact chkF_3 w _ _ _ _ _ h1 h2 h3
    · rw [if_pos h2]; exact chkF_2 w _ _ _ _ _ h1 h2
  · rw [if_pos h1]; exact chkF_1 w _ _ _ _ _ h1
end Go.Proofs.Ytcnckfhibmlioaa.Ob
