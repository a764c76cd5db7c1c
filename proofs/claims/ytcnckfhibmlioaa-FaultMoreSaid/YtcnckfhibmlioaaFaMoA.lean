/- What FaultMore calls beside the printed functions: slices.Clone of faults, slices.ContainsFunc with FaultMore's closure. Clone: the list's bytes fit the machine. -/
import Derived.Test.YtcnckfhibmlioaaPFax0
import Derived.StillTailTactics
import Derived.Lib.SliceRun
namespace Go.Proofs.Ytcnckfhibmlioaa.PFa
open Go.Proofs.Ytcnckfhibmlioaa.Ob Go.RowKit Go.Proofs.YtcnckfhibmlioaaW.PrintWords Go.Proofs.YtcnckfhibmlioaaW.PrintLast Go.Proofs.YtcnckfhibmlioaaW.PrintMore
set_option linter.unusedVariables false
set_option linter.unusedSimpArgs false
set_option maxHeartbeats 2000000 in
set_option maxRecDepth 100000 in
/-- FaultMore's closure: the fault's node is the captured number. -/
theorem more1_ok (g : Nat) (x f0 f1 f2 f3 f4 : Int) (w : World) (hg : Blk w g 3 #[.int .i64 x]) :
    Calls Try.prog 32 #[.agg #[.int .i64 f0, .int .i64 f1, .int .i64 f2, .int .i64 f3, .int .i64 f4], .pointer (some ⟨g, 0, none⟩)] w fun e w' => e = .returned (.bool (f0 == x)) ∧ Grew w w' none := by
  have hu46 := Try.underlying46
  have HG := Aside0.mk hg
  have GR : Aside0 (Grew w w none) := Aside0.mk (Grew.refl w none)
  clear hg
  go_enter Try.func32, Try.ntmps32
  go_wp2_with (first
    | ((with_reducible refine gate_dst (N := 2) rfl ?_); refine ev_box rfl (N := 2) rfl (cs := #[.int .i64 f0, .int .i64 f1, .int .i64 f2, .int .i64 f3, .int .i64 f4]) (t := 46) ?hr ?_; (case hr => first | (go_simp; done) | (go_simp; rfl)); intro b0 hle wb0 hbox hgr; replace HG := Aside0.mk (hgr.blk HG.out); have Hb := Aside0.mk hbox; replace GR := Aside0.mk (GR.out.nxt hgr rfl rfl rfl rfl); clear hbox hgr hle; have q0 := HG.out.cell 0 (v := .int .i64 x) rfl; have q1 := Hb.out.cell 0 (v := .int .i64 f0) rfl))
  go_ret
  exact ⟨rfl, GR.out⟩
/-- slices.IndexFunc with FaultMore's closure. -/
def idxF : Nat → List S46 → Int → Int → Option Int
  | 0, _, _, _ => none
  | k + 1, l, x, i => if i < (l.length : Int) then (if 0 ≤ i then (if (rd_T46 l i).f0 = x then some i else idxF k l x (wrap64 (i + 1))) else none) else some (-1)
set_option maxHeartbeats 4000000 in
set_option maxRecDepth 100000 in
theorem index_ok (k : Nat) (g : Nat) (x : Int) (A0 : Option Addr) (c0 : Nat) (l0 : List S46) (r : Int) (w : World) (hr0 : Kd.C k46 w A0 l0.length l0) (hc0 : l0.length ≤ c0) (hg : Blk w g 3 #[.int .i64 x]) (h : idxF k l0 x 0 = some r) :
    Calls Try.prog 46 #[.slice A0 l0.length c0, .func (.func 32) #[] #[.pointer (some ⟨g, 0, none⟩)]] w fun e w' => e = .returned (.int .i64 r) ∧ Grew w w' none := by
  have hu46 := Try.underlying46
  have hk : ∀ (v : Value) (w : World), (callFunc 32 #[v, .pointer (some ⟨g, 0, none⟩)]).run Try.prog w = .ok (.enter 32 #[v, .pointer (some ⟨g, 0, none⟩)]) w := fun _ _ => by simp [go_sem]
  have HK := Aside0.mk hk
  have HR0 := Aside0.mk hr0
  have HC0 := Aside0.mk hc0
  have HG := Aside0.mk hg
  have GR : Aside0 (Grew w w none) := Aside0.mk (Grew.refl w none)
  have H' := Aside0.mk h
  clear h hr0 hc0 hg
  go_enter Try.func46, Try.ntmps46
  go_wp2
  go_loopg [8] k (fun kq v8 w' => ∃ (i : Int), v8 = .int .i64 i ∧ Aside0 (idxF kq l0 x i = some r) ∧ Aside0 (kq ≤ k) ∧ Aside0 (Blk w' g 3 #[.int .i64 x]) ∧ Aside0 (Grew w w' none))
  case atStart => exact ⟨0, rfl, H', ⟨Nat.le_refl _⟩, HG, GR⟩
  case round =>
    clear H' HG GR
    obtain ⟨i, rfl, HA, HK1, HG, GR⟩ := hrel
    cases gk with
    | zero => exact absurd HA.out (by simp [idxF])
    | succ k1 =>
      have H := HA.out
      clear HA
      simp only [idxF] at H
      by_cases c3 : i < (l0.length : Int)
      · rw [if_pos c3] at H
        have c3b0 : decide (i < (l0.length : Int)) = true := decide_eq_true c3
        clear c3
        by_cases c4 : 0 ≤ i
        · rw [if_pos c4] at H
          have c4b0 : decide (0 ≤ i) = true := decide_eq_true c4
          clear c4
          have p129 : 0 ≤ (i : Int) := of_decide_eq_true c4b0
          have q129 : i < (l0.length : Int) := of_decide_eq_true c3b0
          obtain ⟨ad129, e129, hx129_0, hx129_1, hx129_2, hx129_3, hx129_4⟩ := at_T46 HR0.out i p129 q129
          cases e129
          have HB := Aside0.mk GR.out.to_below
          replace hx129_0 := (HB.out.cell (World.block_lt_of_cell? w _ hx129_0)).trans hx129_0
          replace hx129_1 := (HB.out.cell (World.block_lt_of_cell? w _ hx129_1)).trans hx129_1
          replace hx129_2 := (HB.out.cell (World.block_lt_of_cell? w _ hx129_2)).trans hx129_2
          replace hx129_3 := (HB.out.cell (World.block_lt_of_cell? w _ hx129_3)).trans hx129_3
          replace hx129_4 := (HB.out.cell (World.block_lt_of_cell? w _ hx129_4)).trans hx129_4
          replace p129 := eq_true p129
          replace q129 := eq_true q129
          by_cases c5 : (rd_T46 l0 i).f0 = x
          · rw [if_pos c5] at H
            obtain rfl := Option.some.inj H
            have c5b : ((rd_T46 l0 i).f0 == x) = true := beq_iff_eq.mpr c5
            go_wp2_with (first | (refine (more1_ok g x _ _ _ _ _ _ HG.out).mono ?_; rintro e w1 ⟨rfl, hgr⟩; replace GR := Aside0.mk (GR.out.then_none hgr); replace HG := Aside0.mk (hgr.blk HG.out)))
            go_ret
            exact ⟨rfl, GR.out⟩
          · rw [if_neg c5] at H
            have c5b : ((rd_T46 l0 i).f0 == x) = false := beq_eq_false_iff_ne.mpr c5
            have H' := Aside0.mk H
            clear H
            go_wp2_with (first | (refine (more1_ok g x _ _ _ _ _ _ HG.out).mono ?_; rintro e w1 ⟨rfl, hgr⟩; replace GR := Aside0.mk (GR.out.then_none hgr); replace HG := Aside0.mk (hgr.blk HG.out)))
            go_roundg k1
            case measure => have := HK1.out; omega
            case rel => exact ⟨wrap64 (i + 1), (by first | rfl | (simp; done) | (simp [*]; done)), H', ⟨by have := HK1.out; omega⟩, HG, GR⟩
        · rw [if_neg c4] at H
          cases H
      · rw [if_neg c3] at H
        have c3b0 : decide (i < (l0.length : Int)) = false := decide_eq_false c3
        obtain rfl := Option.some.inj H
        go_wp2
        go_ret
        exact ⟨rfl, GR.out⟩
/-- What IndexFunc answers, told without rounds. -/
theorem idxF_any (l : List S46) (x : Int) (hl : l.length ≤ 9223372036854775807) : ∀ (d : Nat) (i : Nat), l.length - i = d → ∃ r, idxF (d + 1) l x (i : Int) = some r ∧ (decide (0 ≤ r) = (l.drop i).any fun f => f.f0 == x) := by
  intro d
  induction d with
  | zero =>
    intro i hd
    have h1 : ¬ ((i : Int) < (l.length : Int)) := by omega
    refine ⟨-1, by simp only [idxF]; rw [if_neg h1], ?_⟩
    rw [List.drop_eq_nil_of_le (by omega)]; rfl
  | succ d ih =>
    intro i hd
    have h1 : (i : Int) < (l.length : Int) := by omega
    have hi : i < l.length := by omega
    have hw : wrap64 ((i : Int) + 1) = ((i + 1 : Nat) : Int) := by unfold wrap64; omega
    have hrd : rd_T46 l (i : Int) = l[i] := by simp [rd_T46, hi]
    obtain ⟨r, hr, hr2⟩ := ih (i + 1) (by omega)
    rw [List.drop_eq_getElem_cons hi, List.any_cons]
    by_cases h : (l[i]).f0 = x
    · refine ⟨(i : Int), ?_, ?_⟩
      · simp only [idxF]; rw [if_pos h1, if_pos (by omega), hrd, if_pos h]
      · rw [beq_iff_eq.mpr h]; simp
    · refine ⟨r, ?_, ?_⟩
      · rw [idxF, if_pos h1, if_pos (by omega), hrd, if_neg h, hw]; exact hr
      · rw [hr2, beq_eq_false_iff_ne.mpr h]; rfl
set_option maxHeartbeats 2000000 in
set_option maxRecDepth 100000 in
/-- slices.ContainsFunc with FaultMore's closure: some fault has the captured node. -/
theorem contains_ok (g : Nat) (x : Int) (A0 : Option Addr) (c0 : Nat) (l0 : List S46) (r : Bool) (w : World) (hr0 : Kd.C k46 w A0 l0.length l0) (hc0 : l0.length ≤ c0) (hg : Blk w g 3 #[.int .i64 x]) (h : (l0.any fun f => f.f0 == x) = r) :
    Calls Try.prog 31 #[.slice A0 l0.length c0, .func (.func 32) #[] #[.pointer (some ⟨g, 0, none⟩)]] w fun e w' => e = .returned (.bool r) ∧ Grew w w' none := by
  obtain ⟨n, h1, h2⟩ := idxF_any l0 x hr0.2.1 l0.length 0 (by omega)
  rw [List.drop_zero, h] at h2
  have hk : ∀ (a b : Value) (w : World), (callFunc 46 #[a, b]).run Try.prog w = .ok (.enter 46 #[a, b]) w := fun _ _ _ => by simp [go_sem]
  have HI := Aside0.mk (index_ok _ g x A0 c0 l0 n w hr0 hc0 hg h1)
  have GR : Aside0 (Grew w w none) := Aside0.mk (Grew.refl w none)
  clear hr0 hc0 hg h1
  go_enter Try.func31, Try.ntmps31
  go_wp2_with (first | (refine HI.out.mono ?_; rintro e w1 ⟨rfl, hgr⟩; replace GR := Aside0.mk (GR.out.then_none hgr)))
  go_ret
  exact ⟨rfl, GR.out⟩
def api_Fault_31.f (l0 : List S46) (x : Int) : Option Bool := some (l0.any fun f => f.f0 == x)
theorem api_Fault_31.calls (A0 : Option Addr) (c0 : Nat) (l0 : List S46) (g : Nat) (x : Int) (r : Bool) (w : World) (hr0 : Kd.C k46 w A0 l0.length l0) (hc0 : l0.length ≤ c0) (hg : w.heap[g]? = some (.cells #[.int .i64 x] 3 (0, 0))) (h : api_Fault_31.f l0 x = some r) :
    Calls Try.prog 31 #[.slice A0 l0.length c0, .func (.func 32) #[] #[.pointer (some ⟨g, 0, none⟩)]] w fun e w' => e = .returned (.bool r) ∧ Below w.heap.size w w' :=
  (contains_ok g x A0 c0 l0 r w hr0 hc0 hg (Option.some.inj h)).mono fun _ _ h => ⟨h.1, h.2.to_below⟩
theorem k46_KM {w w' : World} {base : Nat} {ok : Nat → Prop} {x : S46} {cs : List Value} (h : k46.K w x cs) : k46.M w' base ok x cs := by
  rw [k46_open h]; exact k46_mkM _ _ _ x
/-- slices.Clone of a list of faults: the list itself, where its bytes fit. -/
def api_Fault_29.f (l0 : List S46) : Option (List S46) := if l0.length * 40 ≤ 140737488355328 then some l0 else none
set_option maxHeartbeats 2000000 in
set_option maxRecDepth 100000 in
theorem api_Fault_29.calls (A0 : Option Addr) (c0 : Nat) (l0 : List S46) (r : List S46) (w : World) (hr0 : Kd.C k46 w A0 l0.length l0) (hc0 : l0.length ≤ c0) (h : api_Fault_29.f l0 = some r) : Calls Try.prog 29 #[.slice A0 l0.length c0] w fun e w' => ∃ v0_ : Value, e = .returned v0_ ∧ Kd.R k46 46 w' w.heap.size (fun _ => True) v0_ r ∧ Below w.heap.size w w' := by
  have hu46 := Try.underlying46
  have hu22 := Try.underlying22
  have hnilq : ∀ (a : Option Addr) (n c : Nat) (w : World), (binOp .eql 22 (.slice a n c) (.slice none 0 0)).run Try.prog w = .ok (.bool a.isNone) w := fun a n c w => Go.Lib.run_eql_slice_nil w 22 46 a n c 0 0 Try.underlying22
  unfold api_Fault_29.f at h
  by_cases hl : l0.length * 40 ≤ 140737488355328
  · rw [if_pos hl] at h
    obtain rfl := Option.some.inj h
    have HL := Aside0.mk hl
    have HR0 := Aside0.mk hr0
    have HC0 := Aside0.mk hc0
    clear hl h hr0 hc0
    have HB := Aside0.mk (Below.refl w.heap.size w)
    cases A0 with
    | none =>
      have hnil : l0 = [] := by
        rcases l0 with _ | ⟨a, t⟩
        · rfl
        · obtain ⟨ad, e, _⟩ := HR0.out.2.2 (by simp); cases e
      go_enter Try.func29, Try.ntmps29
      go_wp2
      go_ret
      subst hnil
      exact ⟨_, rfl, Kd.R_nil _ _ _ _ _, HB.out⟩
    | some ad =>
      go_enter Try.func29, Try.ntmps29
      go_wp2_with (first
        | ((with_reducible refine gate_dst (N := 5) rfl ?_); refine Kd.R_lit k46 (w0 := w) w.heap.size 46 ?hg (N := 5) ?hd (xs := ([] : List S46)) (inner := []) (ok := fun _ => True) (okp := fun _ => True) ?hr ?hp (fun _ hk => hk) trivial (Below.refl _ _) (Nat.le_refl _) (by simp) ?_; (case hd => rfl); (case hg => rfl); (case hr => first | (go_simp; done) | (go_simp; rfl)); (case hp => exact Reps.none _ _); intro v5 w5 ho5 hb hg_ hnew_; clear hg_ hnew_; have HO5 := Aside0.mk ho5; have HR5 := Aside0.mk (Kd.C_below HR0.out hb); replace HB := Aside0.mk hb; clear hb ho5)
        | ((with_reducible refine gate_builtin (b := .append) (xs := #[.tmp 5, .tmp 6]) rfl ?_); at_builtin; refine Kd.R_append_rows (Rr := k46.K w5) k46 (w0 := w) w.heap.size (by rfl) (.tmp 5) (.tmp 6) 22 46 (.agg #[(.int .i64 0), (.int .i64 0), (.int .i64 0), (.int .i64 0), (.int .i64 0)]) 40 rfl Try.underlying22 info46 rfl (by decide) (by omega) v5 [] l0 _ _ _ (fun _ => True) (fun _ => False) rfl rfl ?aO ?aR ?aK (fun _ h => h.elim) (fun _ _ => trivial) ?aB ?aS ?aL ?_; (case aR => exact HR5.out); (case aK => exact fun _ _ h => k46_KM h); (case aB => exact HB.out); (case aO => exact HO5.out); (case aS => exact below_size HB.out); (case aL => exact (by simpa using HL.out)); intro v7 w7 ho hb hg hat; have HO7 := Aside0.mk ho; replace HB := Aside0.mk hb; clear ho hb hg hat))
      go_ret
      exact ⟨_, rfl, HO7.out, HB.out⟩
  · rw [if_neg hl] at h; cases h
end Go.Proofs.Ytcnckfhibmlioaa.PFa
