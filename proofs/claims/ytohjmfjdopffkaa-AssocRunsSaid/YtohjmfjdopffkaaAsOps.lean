/- A slice of operations, opened: its elements as a list. -/
import Derived.Test.YtohjmfjdopffkaaAsLaw
namespace Go.Proofs.Ytohjmfjdopffkaa.As
open Go Go.RowKit Go.ChangeShapes Go.WideShapes Go.Deep Go.Proofs.Ytohjmfjdopffkaa Go.Proofs.Ytohjmfjdopffkaa.Ob Go.Proofs.YtohjmfjdopffkaaW.PrintWords
set_option linter.unusedVariables false
/-- An element of so many cells, each a plain value. -/
def flat {α : Type} (enc : α → List Value) (n : Nat) (hl : ∀ x, (enc x).length = n) (h1 : ∀ x, ∀ u ∈ enc x, u.oneCell' = true) : Kd α where
  sz := n
  E := []
  K := fun _ x cs => cs = enc x
  M := fun _ _ _ x cs => cs = enc x
  K_len := fun h => by rw [h]; exact hl _
  K_one := fun h u hu => by rw [h] at hu; exact h1 _ u hu
  K_below := fun _ h => h
  K_of_M := fun h => h
  M_mono := fun _ h => h
  M_bound := fun h => h
  M_move := fun _ h => h
  M_lower := fun _ h => h
structure Opn where
  kd : Int
  now : Int
  nonce : Int
  p : Np
def Opn.l (x : Opn) : List Value := .int .i64 x.kd :: .int .i64 x.now :: .int .u64 x.nonce :: x.p.l
def kop : Kd Opn := flat Opn.l 16 (fun x => rfl) (fun x u hu => by simp [Opn.l, Np.l] at hu; rcases hu with rfl | rfl | rfl | rfl | rfl | rfl | rfl | rfl | rfl | rfl | rfl | rfl | rfl | rfl | rfl | rfl <;> rfl)
def zop : Opn := ⟨0, 0, 0, ⟨0, 0, 0, 0, 0, 0, 0, 0, 0, 0, 0, 0, 0⟩⟩
def Opn.wf (x : Opn) : Prop := (Lit.int .i64 x.kd).wf = true ∧ (Lit.int .i64 x.now).wf = true ∧ (Lit.int .u64 x.nonce).wf = true ∧ x.p.wf
def rdo (xs : List Opn) (i : Int) : Opn := xs.getD i.toNat zop
theorem rdo_wf {xs : List Opn} (h : ∀ a ∈ xs, a.wf) (i : Int) (h0 : 0 ≤ i) (h1 : i < xs.length) : (rdo xs i).wf := by
  have hl : i.toNat < xs.length := by omega
  unfold rdo
  rw [List.getD_eq_getElem?_getD, List.getElem?_eq_getElem hl]
  exact h _ (List.getElem_mem hl)
theorem at_op {w : World} {A : Option Addr} {n : Nat} {xs : List Opn} (h : Kd.C kop w A n xs) (i : Int) (h0 : 0 ≤ i) (h1 : i < n) : ∃ ad , A = some ad ∧ w.cell? (ad.add (i.toNat * 16)) = some (.int .i64 (rdo xs i).kd) ∧ w.cell? ⟨(ad.add (i.toNat * 16)).block, (ad.add (i.toNat * 16)).off + 1, none⟩ = some (.int .i64 (rdo xs i).now) ∧ w.cell? ⟨(ad.add (i.toNat * 16)).block, (ad.add (i.toNat * 16)).off + 2, none⟩ = some (.int .u64 (rdo xs i).nonce) ∧ w.cell? ⟨(ad.add (i.toNat * 16)).block, (ad.add (i.toNat * 16)).off + 3, none⟩ = some (.int .i64 (rdo xs i).p.p0) ∧ w.cell? ⟨(ad.add (i.toNat * 16)).block, (ad.add (i.toNat * 16)).off + 4, none⟩ = some (.int .i64 (rdo xs i).p.p1) ∧ w.cell? ⟨(ad.add (i.toNat * 16)).block, (ad.add (i.toNat * 16)).off + 5, none⟩ = some (.int .i64 (rdo xs i).p.p2) ∧ w.cell? ⟨(ad.add (i.toNat * 16)).block, (ad.add (i.toNat * 16)).off + 6, none⟩ = some (.int .i64 (rdo xs i).p.p3) ∧ w.cell? ⟨(ad.add (i.toNat * 16)).block, (ad.add (i.toNat * 16)).off + 7, none⟩ = some (.int .i64 (rdo xs i).p.p4) ∧ w.cell? ⟨(ad.add (i.toNat * 16)).block, (ad.add (i.toNat * 16)).off + 8, none⟩ = some (.int .i64 (rdo xs i).p.p5) ∧ w.cell? ⟨(ad.add (i.toNat * 16)).block, (ad.add (i.toNat * 16)).off + 9, none⟩ = some (.int .u32 (rdo xs i).p.p6) ∧ w.cell? ⟨(ad.add (i.toNat * 16)).block, (ad.add (i.toNat * 16)).off + 10, none⟩ = some (.int .u32 (rdo xs i).p.p7) ∧ w.cell? ⟨(ad.add (i.toNat * 16)).block, (ad.add (i.toNat * 16)).off + 11, none⟩ = some (.int .u32 (rdo xs i).p.p8) ∧ w.cell? ⟨(ad.add (i.toNat * 16)).block, (ad.add (i.toNat * 16)).off + 12, none⟩ = some (.int .u64 (rdo xs i).p.p9) ∧ w.cell? ⟨(ad.add (i.toNat * 16)).block, (ad.add (i.toNat * 16)).off + 13, none⟩ = some (.int .u64 (rdo xs i).p.p10) ∧ w.cell? ⟨(ad.add (i.toNat * 16)).block, (ad.add (i.toNat * 16)).off + 14, none⟩ = some (.int .u64 (rdo xs i).p.p11) ∧ w.cell? ⟨(ad.add (i.toNat * 16)).block, (ad.add (i.toNat * 16)).off + 15, none⟩ = some (.int .u64 (rdo xs i).p.p12) := by
  obtain ⟨ad, c, e, _, hK, hc0⟩ := Kd.C_get h zop i h0 h1
  have hc : ∀ j u, c[j]? = some u → w.cell? (ad.add (i.toNat * 16 + j)) = some u := hc0
  have hK' : c = (rdo xs i).l := hK
  subst hK'
  exact ⟨ad, e, hc 0 _ rfl, by rw [← add_field _ _ 1 (by omega)]; exact hc 1 _ rfl, by rw [← add_field _ _ 2 (by omega)]; exact hc 2 _ rfl, by rw [← add_field _ _ 3 (by omega)]; exact hc 3 _ rfl, by rw [← add_field _ _ 4 (by omega)]; exact hc 4 _ rfl, by rw [← add_field _ _ 5 (by omega)]; exact hc 5 _ rfl, by rw [← add_field _ _ 6 (by omega)]; exact hc 6 _ rfl, by rw [← add_field _ _ 7 (by omega)]; exact hc 7 _ rfl, by rw [← add_field _ _ 8 (by omega)]; exact hc 8 _ rfl, by rw [← add_field _ _ 9 (by omega)]; exact hc 9 _ rfl, by rw [← add_field _ _ 10 (by omega)]; exact hc 10 _ rfl, by rw [← add_field _ _ 11 (by omega)]; exact hc 11 _ rfl, by rw [← add_field _ _ 12 (by omega)]; exact hc 12 _ rfl, by rw [← add_field _ _ 13 (by omega)]; exact hc 13 _ rfl, by rw [← add_field _ _ 14 (by omega)]; exact hc 14 _ rfl, by rw [← add_field _ _ 15 (by omega)]; exact hc 15 _ rfl⟩
theorem lcell {w W : World} {a : Addr} {u : Value} (hG : Grew w W none) (h : w.cell? a = some u) : W.cell? a = some u := (hG.to_below.cell (World.block_lt_of_cell? w _ h)).trans h
theorem open22 {H : Type} {enc : TypeId × Value → H} {w : World} {base : Nat} {spare : Nat → Bool} {held : Bool} {n : Nat} {cs : List Value} {x : DataW H × List MemPlace} (h : DataW.trod enc Try.prog w base spare held n 22 cs = some x) :
    ∃ (A : Option Addr) (cap : Nat) (l : List Opn), cs = [.slice A l.length cap] ∧ l.length ≤ cap ∧ cap ≤ maxLen ∧ kop.C w A l.length l ∧ ∀ a ∈ l, a.wf := by
  refine Open.open_rows kop zop Opn.wf Try.underlying22 (by kernel_rfl) (fun m cs' x' h' => ?_) h
  obtain ⟨kd, now, nonce, p, rfl, h1, h2, h3, h4⟩ := open33 m cs' x' h'
  exact ⟨⟨kd, now, nonce, p⟩, rfl, h1, h2, h3, h4⟩
theorem one_cell {w : World} {r : Reach} {b0 : Nat} {v v' : Value} (hs : Try.prog.underlying 22 = some (.slice 33)) (hv : Value.okWide Try.prog w r b0 22 v) (h : v.cells.toList = [v']) : v = v' := by
  obtain ⟨A, n, c, rfl⟩ := okWide_slice hs hv
  exact (List.cons.inj h).1
end Go.Proofs.Ytohjmfjdopffkaa.As
