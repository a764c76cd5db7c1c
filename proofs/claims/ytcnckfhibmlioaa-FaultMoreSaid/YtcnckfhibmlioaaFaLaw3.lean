/- FaultLeast: the walk and the plain law, joined; the lengths of the lists are bounded by what a machine can hold. -/
import Derived.Test.YtcnckfhibmlioaaFaLeast2
import Derived.SizedLaws
namespace Go.Proofs.Ytcnckfhibmlioaa.Fa
open Go Go.RowKit Go.ChangeShapes Go.WideShapes Go.Deep Go.Proofs.Ytcnckfhibmlioaa Go.Proofs.Ytcnckfhibmlioaa.PFa Go.Proofs.YtcnckfhibmlioaaW.PrintWords
set_option linter.unusedVariables false
theorem all_mem {H : Type} {P : Program} {e : TypeId} {l : List (DataW H)} {x : DataW H} (hx : x ∈ l) (n : Nat) (hn : n ∈ DataW.weights P e x) : n ∈ DataW.weightsAll P e l := by
  induction l with
  | nil => cases hx
  | cons y r ih =>
    simp only [DataW.weightsAll, List.mem_append]
    rcases List.mem_cons.mp hx with rfl | h
    · exact .inl hn
    · exact .inr (ih h)
theorem sized_in {H : Type} {P : Program} {ts : List TypeId} {ds : List (DataW H)} (h : (DataW.weightsEach P ts ds).all (· ≤ reachBytes) = true) {j : Nat} {t e q : TypeId} {elems spare e' sp' : List (DataW H)}
    (ht : ts[j]? = some t) (hd : ds[j]? = some (.slice elems spare)) (hu : P.underlying t = some (.slice e)) (hu2 : P.underlying e = some (.slice q)) (hx : DataW.slice e' sp' ∈ elems) : (e'.length + sp'.length) * P.bytesOf q ≤ reachBytes := by
  refine of_decide_eq_true (List.all_eq_true.1 h _ (DataW.weights_mem_each ht hd _ ?_))
  simp only [DataW.weights, hu, List.mem_cons, List.mem_append]
  exact Or.inr (Or.inl (all_mem hx _ (by simp [DataW.weights, hu2])))
section
variable {H : Type} {enc : TypeId × Value → H} {w : World} {base : Nat} {spare : Nat → Bool} {held : Bool}
theorem open_rows2 {α : Type} (d : Kd α) (z : α) (Q : α → Prop) {P : Program} {t e : TypeId} {fuel : Nat} {cs : List Value} {x : DataW H × List MemPlace} (R : DataW H → Prop) (hR : ∀ es sp, x.1 = .slice es sp → ∀ y ∈ es, R y) (ht : P.underlying t = some (.slice e)) (hsz : P.cellsOf e = d.sz)
    (hK : ∀ n cs' x', R x'.1 → DataW.trod enc P w base spare held n e cs' = some x' → ∃ a, d.K w a cs' ∧ Q a) (h : DataW.trod enc P w base spare held fuel t cs = some x) :
    ∃ (A : Option Addr) (cap : Nat) (l : List α), cs = [.slice A l.length cap] ∧ l.length ≤ cap ∧ cap ≤ maxLen ∧ d.C w A l.length l ∧ ∀ a ∈ l, Q a := by
  rcases open_slice ht h with ⟨rfl, _⟩ | ⟨a, len, cap, m, n, D, Pl, rfl, _, hl, hm, hmm, hx, hi⟩
  · exact ⟨none, 0, [], rfl, Nat.le_refl _, Nat.zero_le _, Kd.C_nil d w, fun a ha => by simp at ha⟩
  · have hlm : len ≤ m := by rw [hmm]; split <;> omega
    have hD : ∀ i, i < len → R (D i) := fun i hi => hR _ _ (by rw [hx]) _ (List.mem_map.2 ⟨i, List.mem_range.2 hi, rfl⟩)
    have each : ∀ i : Nat, ∃ y : α, i < len → Q y ∧ ∃ c, c.length = d.sz ∧ d.K w y c ∧ ∀ j u, c[j]? = some u → w.cell? (a.add (i * d.sz + j)) = some u := by
      intro i
      by_cases hil : i < len
      · obtain ⟨cs', hc, ht'⟩ := hi i (by omega)
        obtain ⟨y, hy, hq⟩ := hK _ _ _ (hD i hil) ht'
        rw [hsz] at hc
        obtain ⟨_, hcl, hat⟩ := World.cells?_some hc
        refine ⟨y, fun _ => ⟨hq, cs', hcl, hy, fun j u hu => ?_⟩⟩
        have hj : j < d.sz := by rw [← hcl]; exact (List.getElem?_eq_some_iff.1 hu).1
        rw [← Go.Deep.add_add, hat j hj, hu]
      · exact ⟨z, fun hh => absurd hh hil⟩
    let f : Nat → α := fun i => Classical.choose (each i)
    have hf : ∀ i, i < len → Q (f i) ∧ ∃ c, c.length = d.sz ∧ d.K w (f i) c ∧ ∀ j u, c[j]? = some u → w.cell? (a.add (i * d.sz + j)) = some u := fun i => Classical.choose_spec (each i)
    have hlen : ((List.range len).map f).length = len := by simp
    refine ⟨some a, cap, (List.range len).map f, by rw [hlen], by rw [hlen]; exact hl, hm, ⟨rfl, by rw [hlen]; have := hm; simp [maxLen] at this; omega, fun _ => ⟨a, rfl, fun j p hj => ?_⟩⟩, fun y hy => ?_⟩
    · rw [List.getElem?_map] at hj
      obtain ⟨i, hi', rfl⟩ := Option.map_eq_some_iff.1 hj
      obtain ⟨hil, e⟩ := List.getElem?_eq_some_iff.1 hi'
      simp at hil e
      subst e
      exact (hf j hil).2
    · obtain ⟨i, hi', rfl⟩ := List.mem_map.1 hy
      exact (hf i (by simpa using hi')).1
set_option maxRecDepth 100000 in
theorem open41s {n : Nat} {cs : List Value} {x : DataW H × List MemPlace} (h : DataW.trod enc Try.prog w base spare held n 41 cs = some x) (hR : ∀ es sp, x.1 = .slice es sp → ∀ e' sp', DataW.slice e' sp' ∈ es → e'.length ≤ LIM) :
    ∃ (A : Option Addr) (cap : Nat) (l : List (List Int)), cs = [.slice A l.length cap] ∧ l.length ≤ cap ∧ cap ≤ maxLen ∧ Kd.C (Kd.slice 3 (Kd.int .i64)) w A l.length l ∧ ∀ a ∈ l, a.length ≤ LIM := by
  refine open_rows2 (Kd.slice 3 (Kd.int .i64)) ([] : List Int) (fun a => a.length ≤ LIM) (fun y => ∀ e' sp', y = DataW.slice e' sp' → e'.length ≤ LIM) (fun es sp he y hy e' sp' e => hR es sp he e' sp' (e ▸ hy)) Try.underlying41 (by kernel_rfl) (fun m cs' x' hr h' => ?_) h
  obtain ⟨A, cap, l, e1, h1, h2, h3, h4⟩ := open28 h'
  refine ⟨l, ⟨A, cap, e1, h1, h3⟩, ?_⟩
  rcases open_slice Try.underlying28 h' with ⟨e2, _⟩ | ⟨a, len, cap', m', n', D, Pl, e2, _, _, _, _, hx, _⟩
  · rw [e1] at e2
    have : l.length = 0 := by injection e2 with e2; injection e2
    rw [this]; exact Nat.zero_le _
  · have hlen : l.length = len := by rw [e1] at e2; injection e2 with e2; injection e2
    have := hr _ _ (by rw [hx])
    rw [List.length_map, List.length_range] at this
    rw [hlen]; exact this
end
theorem reach_lim {n m : Nat} (h : (n + m) * Try.prog.bytesOf 3 ≤ reachBytes) : n ≤ LIM := by
  have h8 : Try.prog.bytesOf 3 = 8 := by kernel_rfl
  have hr := reachBytes_lt
  rw [h8] at h
  unfold LIM; omega
theorem least_law (W : World) (n : Int) (wn : (Lit.int .i64 n).wf = true) (A1 : Option Addr) (cap1 : Nat) (S : List (List Int)) (hlc1 : S.length ≤ cap1) (hcm1 : cap1 ≤ maxLen) (hC1 : Kd.C (Kd.slice 3 (Kd.int .i64)) W A1 S.length S) (hQ1 : ∀ a ∈ S, a.length ≤ LIM)
    (A : Option Addr) (cap : Nat) (l : List S46) (hlc : l.length ≤ cap) (hcm : cap ≤ maxLen) (hC : Kd.C k46 W A l.length l) (hQ : ∀ a ∈ l, S46.wf a) (v : Int) (wv : (Lit.int .u32 v).wf = true) :
    Calls Try.prog 9 #[.int .i64 n, .slice A1 S.length cap1, .slice A l.length cap, .int .u32 v] W fun e W' => e = .returned (.bool true) ∧ Below W.heap.size W W' := by
  have hm : maxLen ≤ BIG := of_decide_eq_true (by kernel_rfl)
  have hv : 0 ≤ v ∧ v ≤ 4294967295 := by simpa [Lit.wf, IntKind.min, IntKind.max, IntKind.signed, IntKind.bits] using wv
  obtain ⟨q, rfl⟩ : ∃ q : Nat, v = q := ⟨v.toNat, by omega⟩
  obtain ⟨k, hk⟩ := faultLeast_pure n S l q (by omega) hQ1 (Nat.le_trans (Nat.le_trans hlc1 hcm1) hm)
  exact timesynclaw55_FaultLeast.calls k n A1 cap1 S A cap l q true W hC1 hlc1 hC hlc hk
end Go.Proofs.Ytcnckfhibmlioaa.Fa
