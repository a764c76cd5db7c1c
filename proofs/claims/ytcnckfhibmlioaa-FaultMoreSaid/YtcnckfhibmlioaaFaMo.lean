/- FaultMore: what its walk computes answers true; then walk and law, joined. -/
import Derived.Test.YtcnckfhibmlioaaFaMoW
import Derived.Test.YtcnckfhibmlioaaFaLaw3
namespace Go.Proofs.Ytcnckfhibmlioaa.Fa
open Go Go.RowKit Go.ChangeShapes Go.WideShapes Go.Deep Go.Proofs.Ytcnckfhibmlioaa Go.Proofs.Ytcnckfhibmlioaa.PFa Go.Proofs.Ytcnckfhibmlioaa.Ob Go.Proofs.YtcnckfhibmlioaaW.PrintWords Go.Proofs.YtcnckfhibmlioaaW.PrintMore
set_option linter.unusedVariables false
theorem chkL_all : ∀ (l : List S46), (∀ a ∈ l, chkA a = 0) → chkL l = 0
  | [], _ => rfl
  | a :: r, h => by
    unfold chkL
    rw [if_pos (h a List.mem_cons_self)]
    exact chkL_all r fun b hb => h b (List.mem_cons_of_mem _ hb)
theorem CHK_less (l : List S46) (m : S46) (h : CHK (l ++ [m]) = 0) : CHK l = 0 := by
  obtain ⟨h1, h2⟩ := CHK_ok _ h
  rw [List.length_append] at h1
  unfold CHK
  rw [if_neg (by omega)]
  exact chkL_all l fun a ha => h2 a (List.mem_append_left _ ha)
theorem nodes_mem (l : List S46) (h : CHK l = 0) (x : Int) : x ∈ NODES l ↔ ∃ j : Nat, x = (j : Int) ∧ j < 24 ∧ bad l j = true := by
  unfold NODES nodesL
  rw [if_pos h, List.mem_map]
  constructor
  · rintro ⟨j, hj, rfl⟩
    have := List.mem_filter.mp hj
    exact ⟨j, rfl, List.mem_range.mp this.1, this.2⟩
  · rintro ⟨j, rfl, h1, h2⟩
    exact ⟨j, List.mem_filter.mpr ⟨List.mem_range.mpr h1, h2⟩, rfl⟩
theorem nodes_sorted (l : List S46) : (NODES l).Pairwise (· < ·) := by
  unfold NODES
  split
  · unfold nodesL
    rw [List.pairwise_map]
    exact (List.pairwise_lt_range.filter _).imp (fun h => by omega)
  · exact List.Pairwise.nil
theorem nodes_more (l : List S46) (m : S46) (h : CHK (l ++ [m]) = 0) (x : Int) (hx : x ∈ NODES l) : x ∈ NODES (l ++ [m]) := by
  obtain ⟨j, e, h1, h2⟩ := (nodes_mem l (CHK_less l m h) x).mp hx
  refine (nodes_mem _ h x).mpr ⟨j, e, h1, ?_⟩
  unfold bad at h2 ⊢
  rw [List.any_append, h2, Bool.true_or]
theorem nodes_of (l : List S46) (h : CHK l = 0) (a : S46) (ha : a ∈ l) : a.f0 ∈ NODES l := by
  have hn := chkF_node ((CHK_ok l h).2 a ha)
  refine (nodes_mem l h _).mpr ⟨a.f0.toNat, by omega, by omega, ?_⟩
  unfold bad
  rw [List.any_eq_true]
  exact ⟨a, ha, beq_iff_eq.mpr (by omega)⟩
theorem uns_more (n : Int) (S : List (List Int)) (hS : ∀ xs ∈ S, xs.length ≤ LIM) (l : List S46) (m : S46) (h : CHK (l ++ [m]) = 0) (x : Int) (hx : x ∈ UNS n S l) : x ∈ UNS n S (l ++ [m]) := by
  unfold UNS at hx ⊢
  by_cases g : n < 1 ∨ 24 < n
  · rw [if_pos g] at hx; cases hx
  · rw [if_neg g] at hx ⊢
    obtain ⟨j, e, h1, h2⟩ := (pick_mem _ _ _).mp hx
    refine (pick_mem _ _ _).mpr ⟨j, e, h1, ?_⟩
    have c := uns_closed (n := n.toNat) hS (l ++ [m])
    have hl : (fin S (ini n.toNat (l ++ [m]))).length = n.toNat := by unfold fin; rw [iterR_len, ini_len]
    exact uns_least hS l _ hl ⟨fun y hy hn => c.1 y (nodes_more l m h y hy) hn, c.2⟩ j h2
theorem index_in (xs : List Int) (x : Int) (hl : xs.length ≤ 24) : ∀ (d i k : Nat), i + d = xs.length → d < k → x ∈ xs.drop i → ∃ r : Int, slices_Index_int_int.l0 k xs x (xs.length : Int) (i : Int) = some r ∧ 0 ≤ r := by
  intro d
  induction d with
  | zero =>
    intro i k hi hk hx
    rw [List.drop_eq_nil_of_le (by omega)] at hx; cases hx
  | succ d ih =>
    intro i k hi hk hx
    obtain ⟨q, rfl⟩ : ∃ q, k = q + 1 := ⟨k - 1, by omega⟩
    have hlt : i < xs.length := by omega
    rw [List.drop_eq_getElem_cons hlt] at hx
    rw [slices_Index_int_int.l0, if_pos (by omega), if_pos (by omega), if_pos (by omega), rd_e xs i hlt]
    by_cases e : x = xs[i]
    · rw [if_pos e]; exact ⟨(i : Int), rfl, by omega⟩
    · rw [if_neg e, w1 i (by omega)]
      refine ih (i + 1) q (by omega) (by omega) ?_
      rcases List.mem_cons.mp hx with h | h
      · exact absurd h e
      · exact h
theorem contains_in (xs : List Int) (x : Int) (hl : xs.length ≤ 24) (k : Nat) (hk : 24 < k) (hx : x ∈ xs) : slices_Contains_int_int.f k xs x = some true := by
  obtain ⟨r, h1, h2⟩ := index_in xs x hl xs.length 0 k (by omega) (by omega) (by rw [List.drop_zero]; exact hx)
  unfold slices_Contains_int_int.f slices_Index_int_int.f
  rw [show ((0 : Nat) : Int) = 0 from rfl] at h1
  rw [h1, Option.bind_some, decide_eq_true (show r ≥ 0 from h2)]
section
variable {S : List (List Int)} {al : List S46}
theorem m_l2 (hal : al.length ≤ 32) (hin : ∀ a ∈ al, a.f0 ∈ NODES al) : ∀ (d j k0 : Nat), j + d = al.length → 24 < k0 → timesynclaw55_FaultMore.l2 (k0 + d + 1) (NODES al) al (al.length : Int) j = some true := by
  intro d
  induction d with
  | zero =>
    intro j k0 hj hk
    rw [timesynclaw55_FaultMore.l2, if_neg (by omega)]; rfl
  | succ d ih =>
    intro j k0 hj hk
    have hlt : j < al.length := by omega
    rw [show k0 + (d + 1) + 1 = (k0 + d + 1) + 1 by omega, timesynclaw55_FaultMore.l2, if_pos (by omega), if_pos (by omega), if_pos (by omega), rd_at al j hlt,
      contains_in _ _ (NODES_len al) _ (by omega) (hin _ (List.getElem_mem hlt)), Option.bind_some, if_pos rfl, w1 j (by omega)]
    exact ih (j + 1) k0 (by omega) hk
theorem m_l1 (hany : ∀ x ∈ NODES al, (al.any fun f => f.f0 == x) = true) (hs : (NODES al).Pairwise (· < ·)) (hln : (NODES al).length ≤ 24) : ∀ (d j k0 : Nat), j + d = (NODES al).length →
    timesynclaw55_FaultMore.l1 (k0 + d + 1) al (NODES al) (NODES al) ((NODES al).length : Int) j = timesynclaw55_FaultMore.l2 k0 (NODES al) al (al.length : Int) 0 := by
  intro d
  induction d with
  | zero =>
    intro j k0 hj
    rw [timesynclaw55_FaultMore.l1, if_neg (by omega)]
  | succ d ih =>
    intro j k0 hj
    have hlt : j < (NODES al).length := by omega
    have ha : api_Fault_31.f al ((NODES al)[j]) = some true := by unfold api_Fault_31.f; rw [hany _ (List.getElem_mem hlt)]
    rw [show k0 + (d + 1) + 1 = (k0 + d + 1) + 1 by omega, timesynclaw55_FaultMore.l1, if_pos (by omega), if_pos (by omega), if_pos (by omega), rd_e _ j hlt]
    have hn := ih (j + 1) k0 (by omega)
    by_cases h0 : (j : Int) > 0
    · have e : wrap64 ((j : Int) - 1) = ((j - 1 : Nat) : Int) := by rw [w64_in (by omega) (by omega)]; omega
      rw [if_pos h0, e, if_pos (by omega), if_pos (by omega), rd_e _ (j - 1) (by omega)]
      have lt : (NODES al)[j - 1] < (NODES al)[j] := List.pairwise_iff_getElem.mp hs (j - 1) j (by omega) hlt (by omega)
      rw [if_neg (by omega), ha, Option.bind_some, if_pos rfl, w1 j (by omega)]
      exact hn
    · rw [if_neg h0, ha, Option.bind_some, if_pos rfl, w1 j (by omega)]
      exact hn
theorem m_l0 (u b : List Int) (hb : b.length ≤ 24) (hu : u.length ≤ 24) (hin : ∀ x ∈ u, x ∈ b) (nd : List Int) : ∀ (d j k0 : Nat), j + d = u.length → 24 < k0 →
    timesynclaw55_FaultMore.l0 (k0 + d + 1) al b nd u (u.length : Int) j = timesynclaw55_FaultMore.l1 k0 al nd nd (nd.length : Int) 0 := by
  intro d
  induction d with
  | zero =>
    intro j k0 hj hk
    rw [timesynclaw55_FaultMore.l0, if_neg (by omega)]
  | succ d ih =>
    intro j k0 hj hk
    have hlt : j < u.length := by omega
    rw [show k0 + (d + 1) + 1 = (k0 + d + 1) + 1 by omega, timesynclaw55_FaultMore.l0, if_pos (by omega), if_pos (by omega), if_pos (by omega), rd_e _ j hlt,
      contains_in _ _ hb _ (by omega) (hin _ (List.getElem_mem hlt)), Option.bind_some, if_pos rfl, w1 j (by omega)]
    exact ih (j + 1) k0 (by omega) hk
end
theorem faultMore_pure (n : Int) (S : List (List Int)) (l : List S46) (m0 m1 m2 m3 m4 : Int) (hS : ∀ xs ∈ S, xs.length ≤ LIM) (hl : S.length ≤ BIG) (hll : l.length ≤ 3518437208881) : ∃ k, timesynclaw55_FaultMore.f k n S l m0 m1 m2 m3 m4 = some true := by
  have hB : ∀ xs ∈ S, xs.length ≤ BIG := fun xs hx => Nat.le_trans (hS xs hx) (by unfold LIM BIG; omega)
  generalize hal : l ++ [(⟨m0, m1, m2, m3, m4⟩ : S46)] = al
  obtain ⟨c1, h1⟩ := unsound_f n S l hB
  obtain ⟨c2, h2⟩ := unsound_f n S al hB
  have j : ∃ c, ∀ k0 b, (b = false → CHK al = 0) → timesynclaw55_FaultMore.j0 (k0 + c) n S l al b = some true := by
    refine ⟨(((c1 + c2 + 100 + al.length) + (NODES al).length + 1) + (UNS n S l).length + 1) + 1, fun k0 b hb => ?_⟩
    rw [← Nat.add_assoc, timesynclaw55_FaultMore.j0]
    by_cases c : b = true
    · rw [if_pos c]; rfl
    have hz := hb (by simpa using c)
    have hz' : CHK l = 0 := CHK_less l ⟨m0, m1, m2, m3, m4⟩ (by rw [hal]; exact hz)
    have h32 := (CHK_ok al hz).1
    have e1 := h1 (k0 + (((c2 + 100 + al.length) + (NODES al).length + 1) + (UNS n S l).length + 1))
    have e2 := h2 (k0 + (((c1 + 100 + al.length) + (NODES al).length + 1) + (UNS n S l).length + 1))
    rw [show k0 + (((c2 + 100 + al.length) + (NODES al).length + 1) + (UNS n S l).length + 1) + c1 = k0 + (((c1 + c2 + 100 + al.length) + (NODES al).length + 1) + (UNS n S l).length + 1) by omega] at e1
    rw [show k0 + (((c1 + 100 + al.length) + (NODES al).length + 1) + (UNS n S l).length + 1) + c2 = k0 + (((c1 + c2 + 100 + al.length) + (NODES al).length + 1) + (UNS n S l).length + 1) by omega] at e2
    rw [if_neg c, e1, Option.bind_some, e2, Option.bind_some, nodes_f al _ (by omega), Option.bind_some]
    rw [show k0 + (((c1 + c2 + 100 + al.length) + (NODES al).length + 1) + (UNS n S l).length + 1) = (k0 + ((c1 + c2 + 100 + al.length) + (NODES al).length + 1)) + (UNS n S l).length + 1 by omega]
    have t0 := m_l0 (al := al) (UNS n S l) (UNS n S al) (UNS_len n S al) (UNS_len n S l) (fun x hx => by rw [← hal]; exact uns_more n S hS l _ (by rw [hal]; exact hz) x hx) (NODES al) (UNS n S l).length 0 (k0 + ((c1 + c2 + 100 + al.length) + (NODES al).length + 1)) (by omega) (by omega)
    rw [show ((0 : Nat) : Int) = 0 from rfl] at t0
    rw [t0, show k0 + ((c1 + c2 + 100 + al.length) + (NODES al).length + 1) = (k0 + (c1 + c2 + 100 + al.length)) + (NODES al).length + 1 by omega]
    have hany : ∀ x ∈ NODES al, (al.any fun f => f.f0 == x) = true := fun x hx => by
      obtain ⟨j, e, _, hb⟩ := (nodes_mem al hz x).mp hx
      rw [e]; exact hb
    have t1 := m_l1 (al := al) hany (nodes_sorted al) (NODES_len al) (NODES al).length 0 (k0 + (c1 + c2 + 100 + al.length)) (by omega)
    rw [show ((0 : Nat) : Int) = 0 from rfl] at t1
    rw [t1]
    have t2 := m_l2 (al := al) h32 (fun a ha => nodes_of al hz a ha) al.length 0 (k0 + c1 + c2 + 99) (by omega) (by omega)
    rw [show ((0 : Nat) : Int) = 0 from rfl] at t2
    rw [show k0 + (c1 + c2 + 100 + al.length) = k0 + c1 + c2 + 99 + al.length + 1 by omega]
    exact t2
  obtain ⟨c, hc⟩ := j
  refine ⟨S.length + 40 + c, ?_⟩
  obtain ⟨b, hb⟩ := many_f S hl (S.length + 40 + c) (by omega)
  unfold timesynclaw55_FaultMore.f api_Fault_29.f
  rw [if_pos (by omega), Option.bind_some, Option.bind_some, if_pos (by simp only [List.length_singleton]; omega), hal, Option.bind_some]
  rw [show timesynclaw55_long.f l = some (decide ((l.length : Int) > 200)) from rfl, Option.bind_some]
  by_cases h : (l.length : Int) > 200
  · rw [decide_eq_true h, if_pos rfl]; exact hc _ _ (fun e => by cases e)
  · rw [decide_eq_false h, if_neg (by simp), hb, Option.bind_some]
    by_cases g : b = true
    · rw [if_pos g]; exact hc _ _ (fun e => by cases e)
    · rw [if_neg g, check_f al _ (by omega), Option.bind_some]
      exact hc _ _ (fun e => by simpa using e)
theorem reach_lim40 {n m : Nat} (h : (n + m) * Try.prog.bytesOf 46 ≤ reachBytes) : n ≤ 3518437208881 := by
  have h8 : Try.prog.bytesOf 46 = 40 := by kernel_rfl
  have hr : reachBytes ≤ 140737488351232 := of_decide_eq_true (by kernel_rfl)
  rw [h8] at h
  omega
theorem sized_len {H : Type} {P : Program} {ts : List TypeId} {ds : List (DataW H)} (h : (DataW.weightsEach P ts ds).all (· ≤ reachBytes) = true) {j : Nat} {t e : TypeId} {elems spare : List (DataW H)}
    (ht : ts[j]? = some t) (hd : ds[j]? = some (.slice elems spare)) (hu : P.underlying t = some (.slice e)) : (elems.length + spare.length) * P.bytesOf e ≤ reachBytes := by
  refine of_decide_eq_true (List.all_eq_true.1 h _ (DataW.weights_mem_each ht hd _ ?_))
  simp [DataW.weights, hu]
set_option maxRecDepth 100000 in
theorem open22s {H : Type} {enc : TypeId × Value → H} {w : World} {base : Nat} {spare : Nat → Bool} {held : Bool} {n : Nat} {cs : List Value} {x : DataW H × List MemPlace} (h : DataW.trod enc Try.prog w base spare held n 22 cs = some x) (hR : ∀ es sp, x.1 = .slice es sp → es.length ≤ 3518437208881) :
    ∃ (A : Option Addr) (cap : Nat) (l : List S46), cs = [.slice A l.length cap] ∧ l.length ≤ cap ∧ cap ≤ maxLen ∧ Kd.C k46 w A l.length l ∧ (∀ a ∈ l, S46.wf a) ∧ l.length ≤ 3518437208881 := by
  obtain ⟨A, cap, l, e1, h1, h2, h3, h4⟩ := open22 h
  refine ⟨A, cap, l, e1, h1, h2, h3, h4, ?_⟩
  rcases open_slice Try.underlying22 h with ⟨e2, _⟩ | ⟨a, len, cap', m', n', D, Pl, e2, _, _, _, _, hx, _⟩
  · rw [e1] at e2
    have : l.length = 0 := by injection e2 with e2; injection e2
    rw [this]; exact Nat.zero_le _
  · have hlen : l.length = len := by rw [e1] at e2; injection e2 with e2; injection e2
    have := hR _ _ (by rw [hx])
    rw [List.length_map, List.length_range] at this
    rw [hlen]; exact this
theorem more_law (W : World) (n : Int) (wn : (Lit.int .i64 n).wf = true) (A1 : Option Addr) (cap1 : Nat) (S : List (List Int)) (hlc1 : S.length ≤ cap1) (hcm1 : cap1 ≤ maxLen) (hC1 : Kd.C (Kd.slice 3 (Kd.int .i64)) W A1 S.length S) (hQ1 : ∀ a ∈ S, a.length ≤ LIM)
    (A : Option Addr) (cap : Nat) (l : List S46) (hlc : l.length ≤ cap) (hcm : cap ≤ maxLen) (hC : Kd.C k46 W A l.length l) (hQ : ∀ a ∈ l, S46.wf a) (hsl : l.length ≤ 3518437208881) (m0 m1 m2 m3 m4 : Int) (w0 : (Lit.int .i64 m0).wf = true) (w1 : (Lit.int .i64 m1).wf = true) (w2 : (Lit.int .i64 m2).wf = true) (w3 : (Lit.int .i64 m3).wf = true) (w4 : (Lit.int .i64 m4).wf = true) :
    Calls Try.prog 10 #[.int .i64 n, .slice A1 S.length cap1, .slice A l.length cap, .agg #[.int .i64 m0, .int .i64 m1, .int .i64 m2, .int .i64 m3, .int .i64 m4]] W fun e W' => e = .returned (.bool true) ∧ Below W.heap.size W W' := by
  have hm : maxLen ≤ BIG := of_decide_eq_true (by kernel_rfl)
  obtain ⟨k, hk⟩ := faultMore_pure n S l m0 m1 m2 m3 m4 hQ1 (Nat.le_trans (Nat.le_trans hlc1 hcm1) hm) hsl
  exact timesynclaw55_FaultMore.true_ k n A1 cap1 S A cap l m0 m1 m2 m3 m4 W hC1 hlc1 hC hlc hk
end Go.Proofs.Ytcnckfhibmlioaa.Fa
