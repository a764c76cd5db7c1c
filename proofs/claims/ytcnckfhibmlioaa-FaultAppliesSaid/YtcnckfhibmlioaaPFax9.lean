-- Printed for this claim by this session's turned copy of the print (wip/tools/xprint.sh)
import Derived.Test.YtcnckfhibmlioaaPFax0
import Derived.Test.YtcnckfhibmlioaaPFax6
import Derived.Test.YtcnckfhibmlioaaPFax7
import Derived.Test.YtcnckfhibmlioaaPFax8
namespace Go.Proofs.Ytcnckfhibmlioaa.PFa
open Go.RowKit Go.Proofs.YtcnckfhibmlioaaW.PrintWords Go.Proofs.YtcnckfhibmlioaaW.PrintLast Go.Proofs.YtcnckfhibmlioaaW.PrintMore
attribute [local go_sem] max2_int min2_int max_two min_two max_three min_three max_four min_four   -- for this text's walks alone
set_option linter.unusedVariables false
set_option linter.unusedSimpArgs false

/-! ### timesynclaw55_awake: function 12 -/
section
open Go.Proofs.Ytcnckfhibmlioaa.Ob
section
variable {P : Program} {ops : Array Oper} {rest : List Oper} {o : Oper} {a : Act} {Q : Exit → Act → World → Prop} {W : World}
/-- A new slice over a new block. -/
theorem ev_row (hgd : o.guard = none) {N : Tmp} (_hd : o.dst = some N) {cs : Array Value} {t : TypeId} {n : Nat}
    (hrun : (execOp a.eval o).run P W = .ok (.value (.slice (some ⟨W.heap.size, 0, none⟩) n n)) (W.alloc (.cells cs t (0, 0))))
    (h : ∀ g, W.heap.size ≤ g → ∀ w1, Blk w1 g t cs → Grew W w1 none → wpList P ops Q rest (a.put o.dst (.slice (some ⟨g, 0, none⟩) n n)) w1) : wpList P ops Q (o :: rest) a W :=
  Kd.event_run hgd hrun (h _ (Nat.le_refl _) _ (blk_new W _) (Grew.below (below_alloc (Below.refl _ _) _)))
end
theorem C_blk {α : Type} (d : Kd α) {w : World} {g : Nat} {t : TypeId} {cells : Array Value} (hb : Blk w g t cells) (xs : List α) (hl : xs.length ≤ 1000)
    (each : ∀ j x, xs[j]? = some x → ∃ c, c.length = d.sz ∧ d.K w x c ∧ ∀ i u, c[i]? = some u → cells[j * d.sz + i]? = some u) : Kd.C d w (some ⟨g, 0, none⟩) xs.length xs := by
  refine ⟨rfl, by omega, fun _ => ⟨⟨g, 0, none⟩, rfl, fun j p hj => ?_⟩⟩
  obtain ⟨c, h1, h2, h3⟩ := each j p hj
  refine ⟨c, h1, h2, fun i u hu => ?_⟩
  have e : (⟨g, 0, none⟩ : Addr).add (j * d.sz + i) = ⟨g, j * d.sz + i, none⟩ := by rw [Addr.add_mid, Nat.zero_add]
  rw [e]
  exact hb.cell _ (h3 i u hu)
theorem C_46 {w : World} {g : Nat} {a b c d e : Int} (hb : Blk w g 46 #[.int .i64 a, .int .i64 b, .int .i64 c, .int .i64 d, .int .i64 e]) : Kd.C k46 w (some ⟨g, 0, none⟩) 1 [(⟨a, b, c, d, e⟩ : S46)] := by
  refine C_blk k46 hb [(⟨a, b, c, d, e⟩ : S46)] (by simp) fun j x hj => ?_
  obtain rfl : j = 0 := by
    have := (List.getElem?_eq_some_iff.1 hj).1
    simp at this; exact this
  obtain rfl : (⟨a, b, c, d, e⟩ : S46) = x := Option.some.inj hj
  exact ⟨_, rfl, k46_mk w _, fun i u hu => by rw [show 0 * k46.sz + i = i by omega]; simpa using hu⟩
theorem C_ints {w : World} {g : Nat} {l : List Int} (hb : Blk w g 3 (l.map (Value.int .i64)).toArray) (hl : l.length ≤ 1000) : Kd.C (Kd.int .i64) w (some ⟨g, 0, none⟩) l.length l := by
  refine C_blk (Kd.int .i64) hb l hl fun j x hj => ⟨[.int .i64 x], rfl, rfl, fun i u hu => ?_⟩
  obtain rfl : i = 0 := by
    have := (List.getElem?_eq_some_iff.1 hu).1
    simp at this; exact this
  show _ = _
  rw [show j * (Kd.int .i64).sz + 0 = j from by show j * 1 + 0 = j; omega, List.getElem?_toArray, List.getElem?_map, hj]
  exact hu
theorem C_rows {w : World} {ga gb gr : Nat} (ha : Blk w ga 3 #[.int .i64 0, .int .i64 1]) (hb : Blk w gb 3 #[.int .i64 1, .int .i64 2, .int .i64 2]) (hr : Blk w gr 28 #[.slice none 0 0, .slice none 0 0, .slice (some ⟨ga, 0, none⟩) 2 2, .slice (some ⟨gb, 0, none⟩) 3 3]) :
    Kd.C (Kd.slice 3 (Kd.int .i64)) w (some ⟨gr, 0, none⟩) 4 [[], [], [0, 1], [1, 2, 2]] := by
  refine C_blk (Kd.slice 3 (Kd.int .i64)) hr [[], [], [0, 1], [1, 2, 2]] (by simp) fun j x hj => ?_
  have k : ∀ (v : Value) (q : Nat), #[Value.slice none 0 0, .slice none 0 0, .slice (some ⟨ga, 0, none⟩) 2 2, .slice (some ⟨gb, 0, none⟩) 3 3][q]? = some v → ∀ (i : Nat) u, [v][i]? = some u → #[Value.slice none 0 0, .slice none 0 0, .slice (some ⟨ga, 0, none⟩) 2 2, .slice (some ⟨gb, 0, none⟩) 3 3][q * 1 + i]? = some u := by
    intro v q hq i u hu
    obtain rfl : i = 0 := by
      have := (List.getElem?_eq_some_iff.1 hu).1
      simp at this; exact this
    rw [Nat.mul_one, Nat.add_zero, hq]; exact hu
  match j, hj with
  | 0, hj => cases hj; exact ⟨[.slice none 0 0], rfl, ⟨none, 0, rfl, Nat.le_refl _, Kd.C_nil _ _⟩, k _ 0 rfl⟩
  | 1, hj => cases hj; exact ⟨[.slice none 0 0], rfl, ⟨none, 0, rfl, Nat.le_refl _, Kd.C_nil _ _⟩, k _ 1 rfl⟩
  | 2, hj => cases hj; exact ⟨[.slice (some ⟨ga, 0, none⟩) 2 2], rfl, ⟨_, 2, rfl, Nat.le_refl _, C_ints (l := [0, 1]) ha (by simp)⟩, k _ 2 rfl⟩
  | 3, hj => cases hj; exact ⟨[.slice (some ⟨gb, 0, none⟩) 3 3], rfl, ⟨_, 3, rfl, Nat.le_refl _, C_ints (l := [1, 2, 2]) hb (by simp)⟩, k _ 3 rfl⟩
theorem aw_a1 : fault_Apply.f 60 [(⟨0, 5, 9, 3, 1⟩ : S46)] 0 5 1 0 0 0 0 0 0 0 0 0 0 0 0 10 13 = some (false, 1, 0, 0, 0, 0, 0, 0, 0, 0, 0, 0, 0, 0, 12, 12, 0) := by kernel_rfl
theorem aw_a2 : fault_Apply.f 60 [(⟨0, 5, 9, 3, 1⟩ : S46)] 0 9 1 0 0 0 0 0 0 0 0 0 0 0 0 10 13 = some (false, 1, 0, 0, 0, 0, 0, 0, 0, 0, 0, 0, 0, 0, 10, 13, 0) := by kernel_rfl
theorem aw_u : fault_Unsound.f 60 4 [[], [], [0, 1], [1, 2, 2]] [(⟨0, 5, 9, 3, 1⟩ : S46)] = some [0, 2, 3] := by kernel_rfl
theorem aw_c : fault_Active.f 60 [(⟨0, 5, 9, 3, 1⟩ : S46)] 0 8 = some [0] := by kernel_rfl
theorem aw_n : fault_Nodes.f 60 [(⟨0, 5, 9, 3, 1⟩ : S46)] = some [0] := by kernel_rfl
theorem aw_k : fault_Check.f 60 [(⟨0, 6, 5, 1, 0⟩ : S46)] = some 12 := by kernel_rfl
theorem aw_apply1 (w : World) (g : Nat) (hb : Blk w g 46 #[.int .i64 0, .int .i64 5, .int .i64 9, .int .i64 3, .int .i64 1]) : Calls Try.prog 20 #[.slice (some ⟨g, 0, none⟩) 1 1, .int .i64 0, .int .i64 5, .agg #[.int .i64 1, .int .i64 0, .int .i64 0, .int .i64 0, .int .i64 0, .int .i64 0, .int .u32 0, .int .u32 0, .int .u32 0, .int .u64 0, .int .u64 0, .int .u64 0, .int .u64 0], .agg #[.int .i64 10, .int .i64 13]] w fun e w' => e = .returned (.agg #[.bool false, .int .i64 1, .int .i64 0, .int .i64 0, .int .i64 0, .int .i64 0, .int .i64 0, .int .u32 0, .int .u32 0, .int .u32 0, .int .u64 0, .int .u64 0, .int .u64 0, .int .u64 0, .int .i64 12, .int .i64 12, .int .i64 0]) ∧ Below w.heap.size w w' := fault_Apply.calls 60 _ _ [(⟨0, 5, 9, 3, 1⟩ : S46)] 0 5 1 0 0 0 0 0 0 0 0 0 0 0 0 10 13 false 1 0 0 0 0 0 0 0 0 0 0 0 0 12 12 0 _ (C_46 hb) (by decide) aw_a1
theorem aw_apply2 (w : World) (g : Nat) (hb : Blk w g 46 #[.int .i64 0, .int .i64 5, .int .i64 9, .int .i64 3, .int .i64 1]) : Calls Try.prog 20 #[.slice (some ⟨g, 0, none⟩) 1 1, .int .i64 0, .int .i64 9, .agg #[.int .i64 1, .int .i64 0, .int .i64 0, .int .i64 0, .int .i64 0, .int .i64 0, .int .u32 0, .int .u32 0, .int .u32 0, .int .u64 0, .int .u64 0, .int .u64 0, .int .u64 0], .agg #[.int .i64 10, .int .i64 13]] w fun e w' => e = .returned (.agg #[.bool false, .int .i64 1, .int .i64 0, .int .i64 0, .int .i64 0, .int .i64 0, .int .i64 0, .int .u32 0, .int .u32 0, .int .u32 0, .int .u64 0, .int .u64 0, .int .u64 0, .int .u64 0, .int .i64 10, .int .i64 13, .int .i64 0]) ∧ Below w.heap.size w w' := fault_Apply.calls 60 _ _ [(⟨0, 5, 9, 3, 1⟩ : S46)] 0 9 1 0 0 0 0 0 0 0 0 0 0 0 0 10 13 false 1 0 0 0 0 0 0 0 0 0 0 0 0 10 13 0 _ (C_46 hb) (by decide) aw_a2
theorem aw_uns (w : World) (ga gb gr g : Nat) (ha : Blk w ga 3 #[.int .i64 0, .int .i64 1]) (h2 : Blk w gb 3 #[.int .i64 1, .int .i64 2, .int .i64 2]) (hr : Blk w gr 28 #[.slice none 0 0, .slice none 0 0, .slice (some ⟨ga, 0, none⟩) 2 2, .slice (some ⟨gb, 0, none⟩) 3 3]) (hb : Blk w g 46 #[.int .i64 0, .int .i64 5, .int .i64 9, .int .i64 3, .int .i64 1]) : Calls Try.prog 23 #[.int .i64 4, .slice (some ⟨gr, 0, none⟩) 4 4, .slice (some ⟨g, 0, none⟩) 1 1] w fun e w' => ∃ v0_ : Value, e = .returned (v0_) ∧ Kd.R (Kd.int .i64) 3 w' w.heap.size (fun _ => True) v0_ [0, 2, 3] ∧ Below w.heap.size w w' := fault_Unsound.calls 60 4 _ _ [[], [], [0, 1], [1, 2, 2]] _ _ [(⟨0, 5, 9, 3, 1⟩ : S46)] [0, 2, 3] _ (C_rows ha h2 hr) (by decide) (C_46 hb) (by decide) aw_u
theorem aw_act (w : World) (g : Nat) (hb : Blk w g 46 #[.int .i64 0, .int .i64 5, .int .i64 9, .int .i64 3, .int .i64 1]) : Calls Try.prog 18 #[.slice (some ⟨g, 0, none⟩) 1 1, .int .i64 0, .int .i64 8] w fun e w' => ∃ v0_ : Value, e = .returned (v0_) ∧ Kd.R (Kd.int .i64) 3 w' w.heap.size (fun _ => True) v0_ [0] ∧ Below w.heap.size w w' := fault_Active.calls 60 _ _ [(⟨0, 5, 9, 3, 1⟩ : S46)] 0 8 [0] _ (C_46 hb) (by decide) aw_c
theorem aw_nod (w : World) (g : Nat) (hb : Blk w g 46 #[.int .i64 0, .int .i64 5, .int .i64 9, .int .i64 3, .int .i64 1]) : Calls Try.prog 16 #[.slice (some ⟨g, 0, none⟩) 1 1] w fun e w' => ∃ v0_ : Value, e = .returned (v0_) ∧ Kd.R (Kd.int .i64) 3 w' w.heap.size (fun _ => True) v0_ [0] ∧ Below w.heap.size w w' := fault_Nodes.calls 60 _ _ [(⟨0, 5, 9, 3, 1⟩ : S46)] [0] _ (C_46 hb) (by decide) aw_n
theorem aw_chk (w : World) (g : Nat) (hb : Blk w g 46 #[.int .i64 0, .int .i64 6, .int .i64 5, .int .i64 1, .int .i64 0]) : Calls Try.prog 13 #[.slice (some ⟨g, 0, none⟩) 1 1] w fun e w' => e = .returned (.int .i64 12) ∧ Below w.heap.size w w' := fault_Check.calls 60 _ _ [(⟨0, 6, 5, 1, 0⟩ : S46)] 12 _ (C_46 hb) (by decide) aw_k
theorem aw_eq1 (w : World) (A : Option Addr) (c g : Nat) (hc : Kd.C (Kd.int .i64) w A 1 [0]) (hd : 1 ≤ c) (hb : Blk w g 3 #[.int .i64 0]) : Calls Try.prog 15 #[.slice A 1 c, .slice (some ⟨g, 0, none⟩) 1 1] w fun e w' => e = .returned (.bool true) ∧ Drawn0 w w' := slices_Equal_int_int.calls 60 A c [0] _ 1 [0] true w hc hd (C_ints (l := [0]) hb (by decide)) (by decide) (by kernel_rfl)
theorem aw_eq3 (w : World) (A : Option Addr) (c g : Nat) (hc : Kd.C (Kd.int .i64) w A 3 [0, 2, 3]) (hd : 3 ≤ c) (hb : Blk w g 3 #[.int .i64 0, .int .i64 2, .int .i64 3]) : Calls Try.prog 15 #[.slice A 3 c, .slice (some ⟨g, 0, none⟩) 3 3] w fun e w' => e = .returned (.bool true) ∧ Drawn0 w w' := slices_Equal_int_int.calls 60 A c [0, 2, 3] _ 3 [0, 2, 3] true w hc hd (C_ints (l := [0, 2, 3]) hb (by decide)) (by decide) (by kernel_rfl)
set_option maxHeartbeats 8000000 in
set_option maxRecDepth 100000 in
theorem timesynclaw55_awake.true_ (w : World) : Calls Try.prog 12 #[] w fun e w' => e = .returned (.bool true) ∧ Below w.heap.size w w' := by
  have hu46 := Try.underlying46
  have hu33 := Try.underlying33
  have hu35 := Try.underlying35
  have hu38 := Try.underlying38
  have GR : Aside0 (Grew w w none) := Aside0.mk (Grew.refl w none)
  go_enter Try.func12, Try.ntmps12
  go_wp2_with (first
    | ((with_reducible refine gate_dst (N := 6) rfl ?_); (try (refine gate_guard (by rfl) ?_; dsimp only)); refine ev_row rfl (N := 6) rfl (cs := #[.int .i64 0, .int .i64 5, .int .i64 9, .int .i64 3, .int .i64 1]) (t := 46) (n := 1) ?hr ?_; (case hr => first | (go_simp; done) | (go_simp; rfl)); intro gl hle w1 hbox hgr; have Ll := Aside0.mk (GR.out.young hgr rfl hle); clear hle; have Bl := Aside0.mk hbox; clear hbox; replace GR := Aside0.mk (GR.out.nxt hgr rfl rfl rfl rfl); clear hgr)
    | (go_at_call 20; (with_reducible refine (aw_apply1 _ _ Bl.out).mono ?_); rintro e w2 ⟨rfl, hb⟩; have hgr := Grew.below (row := none) hb; clear hb; replace Bl := Aside0.mk (hgr.blk Bl.out); replace GR := Aside0.mk (GR.out.nxt hgr rfl rfl rfl rfl); clear hgr)
    | ((with_reducible refine gate_dst (N := 2) rfl ?_); refine ev_box rfl (N := 2) rfl (cs := #[.bool false, .int .i64 0, .int .i64 0, .int .i64 0, .int .i64 0, .int .i64 0, .int .i64 0, .int .u32 0, .int .u32 0, .int .u32 0, .int .u64 0, .int .u64 0, .int .u64 0, .int .u64 0, .int .i64 0, .int .i64 0, .int .i64 0]) (t := 38) ?hr ?_; (case hr => first | (go_simp; done) | (go_simp; rfl)); intro gf hle w3 hbox hgr; have Nlf := Aside0.mk (hgr.apart Bl.out hle); have Lf := Aside0.mk (GR.out.young hgr rfl hle); clear hle; have Bf := Aside0.mk hbox; clear hbox; replace Bl := Aside0.mk (hgr.blk Bl.out); replace GR := Aside0.mk (GR.out.nxt hgr rfl rfl rfl rfl); clear hgr)
    | ((with_reducible refine gate_store (t := 38) (p := 2) (v := .tmp 10) rfl ?_); refine ev_store rfl rfl 38 (.tmp 2) (.tmp 10) rfl (g := gf) (t := 38) (old := ?_) #[.bool false, .int .i64 1, .int .i64 0, .int .i64 0, .int .i64 0, .int .i64 0, .int .i64 0, .int .u32 0, .int .u32 0, .int .u32 0, .int .u64 0, .int .u64 0, .int .u64 0, .int .u64 0, .int .i64 12, .int .i64 12, .int .i64 0] ?hx ?hy ?hb ?hi ?ho ?h1 ?_; (case hx => rfl); (case hy => first | rfl | (go_simp; done) | (go_simp; rfl)); (case hb => exact Bf.out); (case hi => kernel_rfl); (case ho => rfl); (case h1 => simp [Value.oneCell']); intro w4 hbox hgr; clear Bf; have Bf := Aside0.mk hbox; clear hbox; replace Bl := Aside0.mk (hgr.blkFar Bl.out Nlf.out); replace GR := Aside0.mk (GR.out.nxtOwn hgr Lf.out rfl rfl rfl rfl); clear hgr)
    | (go_at_call 20; (with_reducible refine (aw_apply2 _ _ Bl.out).mono ?_); rintro e w5 ⟨rfl, hb⟩; have hgr := Grew.below (row := none) hb; clear hb; replace Bl := Aside0.mk (hgr.blk Bl.out); replace Bf := Aside0.mk (hgr.blk Bf.out); replace GR := Aside0.mk (GR.out.nxt hgr rfl rfl rfl rfl); clear hgr)
    | ((with_reducible refine gate_dst (N := 3) rfl ?_); refine ev_box rfl (N := 3) rfl (cs := #[.bool false, .int .i64 0, .int .i64 0, .int .i64 0, .int .i64 0, .int .i64 0, .int .i64 0, .int .u32 0, .int .u32 0, .int .u32 0, .int .u64 0, .int .u64 0, .int .u64 0, .int .u64 0, .int .i64 0, .int .i64 0, .int .i64 0]) (t := 38) ?hr ?_; (case hr => first | (go_simp; done) | (go_simp; rfl)); intro gh hle w6 hbox hgr; have Nlh := Aside0.mk (hgr.apart Bl.out hle); have Nfh := Aside0.mk (hgr.apart Bf.out hle); have Lh := Aside0.mk (GR.out.young hgr rfl hle); clear hle; have Bh := Aside0.mk hbox; clear hbox; replace Bl := Aside0.mk (hgr.blk Bl.out); replace Bf := Aside0.mk (hgr.blk Bf.out); replace GR := Aside0.mk (GR.out.nxt hgr rfl rfl rfl rfl); clear hgr)
    | ((with_reducible refine gate_store (t := 38) (p := 3) (v := .tmp 14) rfl ?_); refine ev_store rfl rfl 38 (.tmp 3) (.tmp 14) rfl (g := gh) (t := 38) (old := ?_) #[.bool false, .int .i64 1, .int .i64 0, .int .i64 0, .int .i64 0, .int .i64 0, .int .i64 0, .int .u32 0, .int .u32 0, .int .u32 0, .int .u64 0, .int .u64 0, .int .u64 0, .int .u64 0, .int .i64 10, .int .i64 13, .int .i64 0] ?hx ?hy ?hb ?hi ?ho ?h1 ?_; (case hx => rfl); (case hy => first | rfl | (go_simp; done) | (go_simp; rfl)); (case hb => exact Bh.out); (case hi => kernel_rfl); (case ho => rfl); (case h1 => simp [Value.oneCell']); intro w7 hbox hgr; clear Bh; have Bh := Aside0.mk hbox; clear hbox; replace Bl := Aside0.mk (hgr.blkFar Bl.out Nlh.out); replace Bf := Aside0.mk (hgr.blkFar Bf.out Nfh.out); replace GR := Aside0.mk (GR.out.nxtOwn hgr Lh.out rfl rfl rfl rfl); clear hgr)
    | ((with_reducible refine gate_dst (N := 15) rfl ?_); (try (refine gate_guard (by rfl) ?_; dsimp only)); refine ev_row rfl (N := 15) rfl (cs := #[.int .i64 0, .int .i64 1]) (t := 3) (n := 2) ?hr ?_; (case hr => first | (go_simp; done) | (go_simp; rfl)); intro ga hle w8 hbox hgr; have Nla := Aside0.mk (hgr.apart Bl.out hle); have Nfa := Aside0.mk (hgr.apart Bf.out hle); have Nha := Aside0.mk (hgr.apart Bh.out hle); have La := Aside0.mk (GR.out.young hgr rfl hle); clear hle; have Ba := Aside0.mk hbox; clear hbox; replace Bl := Aside0.mk (hgr.blk Bl.out); replace Bf := Aside0.mk (hgr.blk Bf.out); replace Bh := Aside0.mk (hgr.blk Bh.out); replace GR := Aside0.mk (GR.out.nxt hgr rfl rfl rfl rfl); clear hgr)
    | ((with_reducible refine gate_dst (N := 16) rfl ?_); (try (refine gate_guard (by rfl) ?_; dsimp only)); refine ev_row rfl (N := 16) rfl (cs := #[.int .i64 1, .int .i64 2, .int .i64 2]) (t := 3) (n := 3) ?hr ?_; (case hr => first | (go_simp; done) | (go_simp; rfl)); intro gb hle w9 hbox hgr; have Nlb := Aside0.mk (hgr.apart Bl.out hle); have Nfb := Aside0.mk (hgr.apart Bf.out hle); have Nhb := Aside0.mk (hgr.apart Bh.out hle); have Nab := Aside0.mk (hgr.apart Ba.out hle); have Lb := Aside0.mk (GR.out.young hgr rfl hle); clear hle; have Bb := Aside0.mk hbox; clear hbox; replace Bl := Aside0.mk (hgr.blk Bl.out); replace Bf := Aside0.mk (hgr.blk Bf.out); replace Bh := Aside0.mk (hgr.blk Bh.out); replace Ba := Aside0.mk (hgr.blk Ba.out); replace GR := Aside0.mk (GR.out.nxt hgr rfl rfl rfl rfl); clear hgr)
    | ((with_reducible refine gate_dst (N := 17) rfl ?_); (try (refine gate_guard (by rfl) ?_; dsimp only)); refine ev_row rfl (N := 17) rfl (cs := #[.slice none 0 0, .slice none 0 0, .slice (some ⟨ga, 0, none⟩) 2 2, .slice (some ⟨gb, 0, none⟩) 3 3]) (t := 28) (n := 4) ?hr ?_; (case hr => first | (go_simp; done) | (go_simp; rfl)); intro gr hle w10 hbox hgr; have Nlr := Aside0.mk (hgr.apart Bl.out hle); have Nfr := Aside0.mk (hgr.apart Bf.out hle); have Nhr := Aside0.mk (hgr.apart Bh.out hle); have Nar := Aside0.mk (hgr.apart Ba.out hle); have Nbr := Aside0.mk (hgr.apart Bb.out hle); have Lr := Aside0.mk (GR.out.young hgr rfl hle); clear hle; have Br := Aside0.mk hbox; clear hbox; replace Bl := Aside0.mk (hgr.blk Bl.out); replace Bf := Aside0.mk (hgr.blk Bf.out); replace Bh := Aside0.mk (hgr.blk Bh.out); replace Ba := Aside0.mk (hgr.blk Ba.out); replace Bb := Aside0.mk (hgr.blk Bb.out); replace GR := Aside0.mk (GR.out.nxt hgr rfl rfl rfl rfl); clear hgr)
    | (go_at_call 23; (with_reducible refine (aw_uns _ _ _ _ _ Ba.out Bb.out Br.out Bl.out).mono ?_); rintro e w11 ⟨v0, rfl, ho, hb⟩; obtain ⟨Au, cu, rfl⟩ := Kd.R_slice ho; have hgr := Grew.below (row := none) hb; have hc3 := Kd.R_reads' ho; have Du := Aside0.mk hc3.2.1; clear hb ho; replace Bl := Aside0.mk (hgr.blk Bl.out); replace Bf := Aside0.mk (hgr.blk Bf.out); replace Bh := Aside0.mk (hgr.blk Bh.out); replace Ba := Aside0.mk (hgr.blk Ba.out); replace Bb := Aside0.mk (hgr.blk Bb.out); replace Br := Aside0.mk (hgr.blk Br.out); replace GR := Aside0.mk (GR.out.nxt hgr rfl rfl rfl rfl); clear hgr; have Cu := Aside0.mk hc3.2.2; clear hc3)
    | ((with_reducible refine gate_dst (N := 20) rfl ?_); (try (refine gate_guard (by rfl) ?_; dsimp only)); refine ev_load rfl (N := 20) rfl 38 (.tmp 2) rfl (g := gf) (t := 38) (cs := ?_) _ ?hx ?hb Try.underlying38 rfl ?hi ?_; (case hx => rfl); (case hb => exact Bf.out); (case hi => kernel_rfl))
    | ((with_reducible refine gate_dst (N := 26) rfl ?_); (try (refine gate_guard (by rfl) ?_; dsimp only)); refine ev_load rfl (N := 26) rfl 38 (.tmp 3) rfl (g := gh) (t := 38) (cs := ?_) _ ?hx ?hb Try.underlying38 rfl ?hi ?_; (case hx => rfl); (case hb => exact Bh.out); (case hi => kernel_rfl))
    | ((with_reducible refine gate_dst (N := 34) rfl ?_); (try (refine gate_guard (by rfl) ?_; dsimp only)); refine ev_row rfl (N := 34) rfl (cs := #[.int .i64 0, .int .i64 2, .int .i64 3]) (t := 3) (n := 3) ?hr ?_; (case hr => first | (go_simp; done) | (go_simp; rfl)); intro gx hle w12 hbox hgr; have Nlx := Aside0.mk (hgr.apart Bl.out hle); have Nfx := Aside0.mk (hgr.apart Bf.out hle); have Nhx := Aside0.mk (hgr.apart Bh.out hle); have Nax := Aside0.mk (hgr.apart Ba.out hle); have Nbx := Aside0.mk (hgr.apart Bb.out hle); have Nrx := Aside0.mk (hgr.apart Br.out hle); have Lx := Aside0.mk (GR.out.young hgr rfl hle); clear hle; have Bx := Aside0.mk hbox; clear hbox; replace Cu := Aside0.mk (Kd.C_below Cu.out hgr.to_below); replace Bl := Aside0.mk (hgr.blk Bl.out); replace Bf := Aside0.mk (hgr.blk Bf.out); replace Bh := Aside0.mk (hgr.blk Bh.out); replace Ba := Aside0.mk (hgr.blk Ba.out); replace Bb := Aside0.mk (hgr.blk Bb.out); replace Br := Aside0.mk (hgr.blk Br.out); replace GR := Aside0.mk (GR.out.nxt hgr rfl rfl rfl rfl); clear hgr)
    | (go_at_call 15; (with_reducible refine (aw_eq3 _ _ _ _ Cu.out Du.out Bx.out).mono ?_); rintro e w13 ⟨rfl, hb⟩; have hgr := Grew.drawn0 hb; clear hb; clear Cu Du; replace Bl := Aside0.mk (hgr.blk Bl.out); replace Bf := Aside0.mk (hgr.blk Bf.out); replace Bh := Aside0.mk (hgr.blk Bh.out); replace Ba := Aside0.mk (hgr.blk Ba.out); replace Bb := Aside0.mk (hgr.blk Bb.out); replace Br := Aside0.mk (hgr.blk Br.out); replace Bx := Aside0.mk (hgr.blk Bx.out); replace GR := Aside0.mk (GR.out.nxt hgr rfl rfl rfl rfl); clear hgr)
    | (go_at_call 18; (with_reducible refine (aw_act _ _ Bl.out).mono ?_); rintro e w14 ⟨v0, rfl, ho, hb⟩; obtain ⟨Ac, cc, rfl⟩ := Kd.R_slice ho; have hgr := Grew.below (row := none) hb; have hc3 := Kd.R_reads' ho; have Dc := Aside0.mk hc3.2.1; clear hb ho; replace Bl := Aside0.mk (hgr.blk Bl.out); replace Bf := Aside0.mk (hgr.blk Bf.out); replace Bh := Aside0.mk (hgr.blk Bh.out); replace Ba := Aside0.mk (hgr.blk Ba.out); replace Bb := Aside0.mk (hgr.blk Bb.out); replace Br := Aside0.mk (hgr.blk Br.out); replace Bx := Aside0.mk (hgr.blk Bx.out); replace GR := Aside0.mk (GR.out.nxt hgr rfl rfl rfl rfl); clear hgr; have Cc := Aside0.mk hc3.2.2; clear hc3)
    | ((with_reducible refine gate_dst (N := 40) rfl ?_); (try (refine gate_guard (by rfl) ?_; dsimp only)); refine ev_row rfl (N := 40) rfl (cs := #[.int .i64 0]) (t := 3) (n := 1) ?hr ?_; (case hr => first | (go_simp; done) | (go_simp; rfl)); intro gy hle w15 hbox hgr; have Nly := Aside0.mk (hgr.apart Bl.out hle); have Nfy := Aside0.mk (hgr.apart Bf.out hle); have Nhy := Aside0.mk (hgr.apart Bh.out hle); have Nay := Aside0.mk (hgr.apart Ba.out hle); have Nby := Aside0.mk (hgr.apart Bb.out hle); have Nry := Aside0.mk (hgr.apart Br.out hle); have Nxy := Aside0.mk (hgr.apart Bx.out hle); have Ly := Aside0.mk (GR.out.young hgr rfl hle); clear hle; have By := Aside0.mk hbox; clear hbox; replace Cc := Aside0.mk (Kd.C_below Cc.out hgr.to_below); replace Bl := Aside0.mk (hgr.blk Bl.out); replace Bf := Aside0.mk (hgr.blk Bf.out); replace Bh := Aside0.mk (hgr.blk Bh.out); replace Ba := Aside0.mk (hgr.blk Ba.out); replace Bb := Aside0.mk (hgr.blk Bb.out); replace Br := Aside0.mk (hgr.blk Br.out); replace Bx := Aside0.mk (hgr.blk Bx.out); replace GR := Aside0.mk (GR.out.nxt hgr rfl rfl rfl rfl); clear hgr)
    | (go_at_call 15; (with_reducible refine (aw_eq1 _ _ _ _ Cc.out Dc.out By.out).mono ?_); rintro e w16 ⟨rfl, hb⟩; have hgr := Grew.drawn0 hb; clear hb; clear Cc Dc; replace Bl := Aside0.mk (hgr.blk Bl.out); replace Bf := Aside0.mk (hgr.blk Bf.out); replace Bh := Aside0.mk (hgr.blk Bh.out); replace Ba := Aside0.mk (hgr.blk Ba.out); replace Bb := Aside0.mk (hgr.blk Bb.out); replace Br := Aside0.mk (hgr.blk Br.out); replace Bx := Aside0.mk (hgr.blk Bx.out); replace By := Aside0.mk (hgr.blk By.out); replace GR := Aside0.mk (GR.out.nxt hgr rfl rfl rfl rfl); clear hgr)
    | (go_at_call 16; (with_reducible refine (aw_nod _ _ Bl.out).mono ?_); rintro e w17 ⟨v0, rfl, ho, hb⟩; obtain ⟨An, cn, rfl⟩ := Kd.R_slice ho; have hgr := Grew.below (row := none) hb; have hc3 := Kd.R_reads' ho; have Dn := Aside0.mk hc3.2.1; clear hb ho; replace Bl := Aside0.mk (hgr.blk Bl.out); replace Bf := Aside0.mk (hgr.blk Bf.out); replace Bh := Aside0.mk (hgr.blk Bh.out); replace Ba := Aside0.mk (hgr.blk Ba.out); replace Bb := Aside0.mk (hgr.blk Bb.out); replace Br := Aside0.mk (hgr.blk Br.out); replace Bx := Aside0.mk (hgr.blk Bx.out); replace By := Aside0.mk (hgr.blk By.out); replace GR := Aside0.mk (GR.out.nxt hgr rfl rfl rfl rfl); clear hgr; have Cn := Aside0.mk hc3.2.2; clear hc3)
    | ((with_reducible refine gate_dst (N := 46) rfl ?_); (try (refine gate_guard (by rfl) ?_; dsimp only)); refine ev_row rfl (N := 46) rfl (cs := #[.int .i64 0]) (t := 3) (n := 1) ?hr ?_; (case hr => first | (go_simp; done) | (go_simp; rfl)); intro gz hle w18 hbox hgr; have Nlz := Aside0.mk (hgr.apart Bl.out hle); have Nfz := Aside0.mk (hgr.apart Bf.out hle); have Nhz := Aside0.mk (hgr.apart Bh.out hle); have Naz := Aside0.mk (hgr.apart Ba.out hle); have Nbz := Aside0.mk (hgr.apart Bb.out hle); have Nrz := Aside0.mk (hgr.apart Br.out hle); have Nxz := Aside0.mk (hgr.apart Bx.out hle); have Nyz := Aside0.mk (hgr.apart By.out hle); have Lz := Aside0.mk (GR.out.young hgr rfl hle); clear hle; have Bz := Aside0.mk hbox; clear hbox; replace Cn := Aside0.mk (Kd.C_below Cn.out hgr.to_below); replace Bl := Aside0.mk (hgr.blk Bl.out); replace Bf := Aside0.mk (hgr.blk Bf.out); replace Bh := Aside0.mk (hgr.blk Bh.out); replace Ba := Aside0.mk (hgr.blk Ba.out); replace Bb := Aside0.mk (hgr.blk Bb.out); replace Br := Aside0.mk (hgr.blk Br.out); replace Bx := Aside0.mk (hgr.blk Bx.out); replace By := Aside0.mk (hgr.blk By.out); replace GR := Aside0.mk (GR.out.nxt hgr rfl rfl rfl rfl); clear hgr)
    | (go_at_call 15; (with_reducible refine (aw_eq1 _ _ _ _ Cn.out Dn.out Bz.out).mono ?_); rintro e w19 ⟨rfl, hb⟩; have hgr := Grew.drawn0 hb; clear hb; clear Cn Dn; replace Bl := Aside0.mk (hgr.blk Bl.out); replace Bf := Aside0.mk (hgr.blk Bf.out); replace Bh := Aside0.mk (hgr.blk Bh.out); replace Ba := Aside0.mk (hgr.blk Ba.out); replace Bb := Aside0.mk (hgr.blk Bb.out); replace Br := Aside0.mk (hgr.blk Br.out); replace Bx := Aside0.mk (hgr.blk Bx.out); replace By := Aside0.mk (hgr.blk By.out); replace Bz := Aside0.mk (hgr.blk Bz.out); replace GR := Aside0.mk (GR.out.nxt hgr rfl rfl rfl rfl); clear hgr)
    | ((with_reducible refine gate_dst (N := 51) rfl ?_); (try (refine gate_guard (by rfl) ?_; dsimp only)); refine ev_row rfl (N := 51) rfl (cs := #[.int .i64 0, .int .i64 6, .int .i64 5, .int .i64 1, .int .i64 0]) (t := 46) (n := 1) ?hr ?_; (case hr => first | (go_simp; done) | (go_simp; rfl)); intro gm hle w20 hbox hgr; have Nlm := Aside0.mk (hgr.apart Bl.out hle); have Nfm := Aside0.mk (hgr.apart Bf.out hle); have Nhm := Aside0.mk (hgr.apart Bh.out hle); have Nam := Aside0.mk (hgr.apart Ba.out hle); have Nbm := Aside0.mk (hgr.apart Bb.out hle); have Nrm := Aside0.mk (hgr.apart Br.out hle); have Nxm := Aside0.mk (hgr.apart Bx.out hle); have Nym := Aside0.mk (hgr.apart By.out hle); have Nzm := Aside0.mk (hgr.apart Bz.out hle); have Lm := Aside0.mk (GR.out.young hgr rfl hle); clear hle; have Bm := Aside0.mk hbox; clear hbox; replace Bl := Aside0.mk (hgr.blk Bl.out); replace Bf := Aside0.mk (hgr.blk Bf.out); replace Bh := Aside0.mk (hgr.blk Bh.out); replace Ba := Aside0.mk (hgr.blk Ba.out); replace Bb := Aside0.mk (hgr.blk Bb.out); replace Br := Aside0.mk (hgr.blk Br.out); replace Bx := Aside0.mk (hgr.blk Bx.out); replace By := Aside0.mk (hgr.blk By.out); replace Bz := Aside0.mk (hgr.blk Bz.out); replace GR := Aside0.mk (GR.out.nxt hgr rfl rfl rfl rfl); clear hgr)
    | (go_at_call 13; (with_reducible refine (aw_chk _ _ Bm.out).mono ?_); rintro e w21 ⟨rfl, hb⟩; have hgr := Grew.below (row := none) hb; clear hb; replace Bl := Aside0.mk (hgr.blk Bl.out); replace Bf := Aside0.mk (hgr.blk Bf.out); replace Bh := Aside0.mk (hgr.blk Bh.out); replace Ba := Aside0.mk (hgr.blk Ba.out); replace Bb := Aside0.mk (hgr.blk Bb.out); replace Br := Aside0.mk (hgr.blk Br.out); replace Bx := Aside0.mk (hgr.blk Bx.out); replace By := Aside0.mk (hgr.blk By.out); replace Bz := Aside0.mk (hgr.blk Bz.out); replace Bm := Aside0.mk (hgr.blk Bm.out); replace GR := Aside0.mk (GR.out.nxt hgr rfl rfl rfl rfl); clear hgr))
  go_ret
  exact ⟨rfl, GR.out.to_below⟩
end
def timesynclaw55_awake.f : Option (Bool) := some true
theorem timesynclaw55_awake.calls (r : Bool) (w : World) (h : timesynclaw55_awake.f = some r) :
    Calls Try.prog 12 #[] w fun e w' => e = .returned (.bool r) ∧ Below w.heap.size w w' := by
  obtain rfl := Option.some.inj h
  exact timesynclaw55_awake.true_ w

/-! ### timesyncref55_within: function 34 -/
def timesyncref55_within.f (a0 : Int) (a1 : Int) (a2 : Int) : Option (Bool) := if a1 ≤ a0 then (some (decide (a0 ≤ a2))) else (some false)
set_option maxHeartbeats 8000000 in
set_option maxRecDepth 100000 in
theorem timesyncref55_within.calls (a0 : Int) (a1 : Int) (a2 : Int) (r : Bool) (w : World) (h : timesyncref55_within.f a0 a1 a2 = some r) :
    Calls Try.prog 34 #[.int .i64 a0, .int .i64 a1, .int .i64 a2] w fun e w' => e = .returned (.bool r) ∧ Drawn0 w w' := by
  have H : (if a1 ≤ a0 then (some (decide (a0 ≤ a2))) else (some false)) = some r := h
  clear h
  by_cases c4 : a1 ≤ a0
  · rw [if_pos c4] at H
    have c4b0 : decide (a1 ≤ a0) = true := decide_eq_true c4
    clear c4
    obtain rfl := Option.some.inj H
    go_enter Try.func34, Try.ntmps34
    go_wp2
    go_ret
    exact ⟨by first | rfl | (simp; done) | (simp [*]; done), by repeat (first | exact Drawn0.refl _ | apply Drawn0.step)⟩
  · rw [if_neg c4] at H
    have c4b0 : decide (a1 ≤ a0) = false := decide_eq_false c4
    clear c4
    obtain rfl := Option.some.inj H
    go_enter Try.func34, Try.ntmps34
    go_wp2
    go_ret
    exact ⟨by first | rfl | (simp; done) | (simp [*]; done), by repeat (first | exact Drawn0.refl _ | apply Drawn0.step)⟩

/-! ### timesyncref55_fits: function 35 -/
def timesyncref55_fits.j0 : Nat → Int → Int → Bool → Option (Bool)
  | 0, _, _, _ => none
  | k + 1, x1, x5, x6 => if x6 = true then ((timesyncref55_within.f x1 (-1125899906842624) 1125899906842624).bind fun t158 => (some t158)) else (if x5 = 5 then ((timesyncref55_within.f x1 1 15).bind fun t159 => (some t159)) else (if x5 = 6 then ((timesyncref55_within.f x1 0 3).bind fun t160 => (some t160)) else (if x5 = 9 then ((timesyncref55_within.f x1 0 1125899906842624).bind fun t161 => (some t161)) else (some (x1 == 0)))))
def timesyncref55_fits.f (k : Nat) (a0 : Int) (a1 : Int) : Option (Bool) := if a0 = 2 then (timesyncref55_fits.j0 k a1 a0 (a0 == 2)) else (timesyncref55_fits.j0 k a1 a0 (a0 == 3))
theorem timesyncref55_fits.mono_l : ∀ k, (∀ y0 y1 y2, LeO (timesyncref55_fits.j0 k y0 y1 y2) (timesyncref55_fits.j0 (k + 1) y0 y1 y2))
  | 0 => fun _ _ _ r h => by simp [timesyncref55_fits.j0] at h
  | k + 1 => by
    have ih0 := timesyncref55_fits.mono_l k
    · intro y0 y1 y2
      unfold timesyncref55_fits.j0
      repeat' first
      | (with_reducible exact ih0 _ _ _)
      | (with_reducible exact LeO.refl _)
      | (with_reducible exact LeO.none _)
      | (with_reducible refine LeO.ite ?_ ?_)
      | (with_reducible refine LeO.bind ?_ (fun _ => ?_))
      | exact ih0 _ _ _
      | exact LeO.none _
      | refine LeO.ite ?_ ?_
      | refine LeO.bind ?_ (fun _ => ?_)
theorem timesyncref55_fits.mono : ∀ a0 a1 k, LeO (timesyncref55_fits.f k a0 a1) (timesyncref55_fits.f (k + 1) a0 a1) := by
  intro a0 a1 k
  have ih0 := timesyncref55_fits.mono_l k
  unfold timesyncref55_fits.f
  repeat' first
      | (with_reducible exact ih0 _ _ _)
      | (with_reducible exact LeO.refl _)
      | (with_reducible exact LeO.none _)
      | (with_reducible refine LeO.ite ?_ ?_)
      | (with_reducible refine LeO.bind ?_ (fun _ => ?_))
      | exact ih0 _ _ _
      | exact LeO.none _
      | refine LeO.ite ?_ ?_
      | refine LeO.bind ?_ (fun _ => ?_)
set_option maxHeartbeats 8000000 in
set_option maxRecDepth 100000 in
theorem timesyncref55_fits.calls (k : Nat) (a0 : Int) (a1 : Int) (r : Bool) (w : World) (h : timesyncref55_fits.f k a0 a1 = some r) :
    Calls Try.prog 35 #[.int .i64 a0, .int .i64 a1] w fun e w' => e = .returned (.bool r) ∧ Drawn0 w w' := by
  have H : (if a0 = 2 then (timesyncref55_fits.j0 k a1 a0 (a0 == 2)) else (timesyncref55_fits.j0 k a1 a0 (a0 == 3))) = some r := h
  clear h
  have HC3 := Aside0.mk H
  clear H
  go_enter Try.func35, Try.ntmps35
  go_upto_if 6 with (fail)
  go_cut [6] (fun v6 wc => ∃ (kq : Nat) (x6_2 : Bool), v6 = .bool x6_2 ∧ Aside0 (timesyncref55_fits.j0 kq a1 a0 x6_2 = some r) ∧ Aside0 (kq ≤ k) ∧ Drawn0 w wc)
  case first =>
    have H := HC3.out
    clear HC3
    by_cases c4 : a0 = 2
    · rw [if_pos c4] at H
      have c4b0 : (a0 == 2) = true := beq_iff_eq.mpr c4
      have c4b1 : (a0 != 2) = false := bne_eq_false_iff_eq.mpr c4
      clear c4
      (first | rw [c4b0] | (simp only [i64_w, i32_w]; rw [c4b0]) | skip)
      have H' := Aside0.mk H
      clear H
      go_wp2
      go_meet
      case rel => exact ⟨_, ((a0 == 2)), (by first | rfl | (simp; done) | (simp [*]; done)), H', ⟨by first | omega | exact Nat.le_refl _⟩, by repeat (first | exact Drawn0.refl _ | apply Drawn0.step)⟩
    · rw [if_neg c4] at H
      have c4b0 : (a0 == 2) = false := beq_eq_false_iff_ne.mpr c4
      have c4b1 : (a0 != 2) = true := bne_iff_ne.mpr c4
      (first | rw [c4b0] | (simp only [i64_w, i32_w]; rw [c4b0]) | skip)
      have H' := Aside0.mk H
      clear H
      go_wp2
      go_meet
      case rel => exact ⟨_, ((a0 == 3)), (by first | rfl | (simp; done) | (simp [*]; done)), H', ⟨by first | omega | exact Nat.le_refl _⟩, by repeat (first | exact Drawn0.refl _ | apply Drawn0.step)⟩
  case rest =>
    clear HC3
    try clear p2
    try clear c3
    try clear c4
    try clear c4b0
    try clear c4b1
    obtain ⟨kq, x6_2, rfl, HA, HJ2, ⟨mc2, rfl⟩⟩ := hcut
    cases kq with
    | zero => exact absurd HA.out (by simp [timesyncref55_fits.j0])
    | succ kj2 =>
      have H := HA.out
      clear HA
      simp only [timesyncref55_fits.j0] at H
      by_cases c5 : x6_2 = true
      · subst c5
        have H1 : ((timesyncref55_within.f a1 (-1125899906842624) 1125899906842624).bind fun t158 => (some t158)) = some r := by rw [if_pos rfl] at H; exact H
        clear H
        have H := H1
        clear H1
        replace H := Option.bind_eq_some_iff.mp H
        obtain ⟨t158, A60, H⟩ := H
        replace H : (some t158) = some r := H
        have A6 := Aside0.mk A60
        clear A60
        obtain rfl := Option.some.inj H
        go_wp2_with (first | ((with_reducible refine gate_callee (f := 34) rfl ?_); refine goesL_ (some 10) rfl rfl Try.func34 (by kernel_rfl) rfl #[.int .i64 a1, .int .i64 (-1125899906842624), .int .i64 1125899906842624] rfl (by (try simp only [List.map_toArray, List.map_cons, List.map_nil]); first | done | rfl | (simp only [List.length_drop, List.length_take]; rfl)) ?_; (with_reducible refine (timesyncref55_within.calls a1 (-1125899906842624) 1125899906842624 t158 _ A6.out).mono ?_); rintro e w' ⟨rfl, ⟨nd, rfl⟩⟩; refine ⟨_, rfl, ?_⟩))
        go_ret
        exact ⟨by first | rfl | (simp; done) | (simp [*]; done), by repeat (first | exact Drawn0.refl _ | apply Drawn0.step)⟩
      · replace c5 := Bool.eq_false_iff.mpr c5
        subst c5
        have H1 : (if a0 = 5 then ((timesyncref55_within.f a1 1 15).bind fun t159 => (some t159)) else (if a0 = 6 then ((timesyncref55_within.f a1 0 3).bind fun t160 => (some t160)) else (if a0 = 9 then ((timesyncref55_within.f a1 0 1125899906842624).bind fun t161 => (some t161)) else (some (a1 == 0))))) = some r := by rw [if_neg (show ¬ (false = true) by decide)] at H; exact H
        clear H
        have H := H1
        clear H1
        by_cases c7 : a0 = 5
        · rw [if_pos c7] at H
          have c7b0 : (a0 == 5) = true := beq_iff_eq.mpr c7
          have c7b1 : (a0 != 5) = false := bne_eq_false_iff_eq.mpr c7
          clear c7
          replace H := Option.bind_eq_some_iff.mp H
          obtain ⟨t159, A80, H⟩ := H
          replace H : (some t159) = some r := H
          have A8 := Aside0.mk A80
          clear A80
          obtain rfl := Option.some.inj H
          go_wp2_with (first | ((with_reducible refine gate_callee (f := 34) rfl ?_); refine goesL_ (some 14) rfl rfl Try.func34 (by kernel_rfl) rfl #[.int .i64 a1, .int .i64 1, .int .i64 15] rfl (by (try simp only [List.map_toArray, List.map_cons, List.map_nil]); first | done | rfl | (simp only [List.length_drop, List.length_take]; rfl)) ?_; (with_reducible refine (timesyncref55_within.calls a1 1 15 t159 _ A8.out).mono ?_); rintro e w' ⟨rfl, ⟨nd, rfl⟩⟩; refine ⟨_, rfl, ?_⟩))
          go_ret
          exact ⟨by first | rfl | (simp; done) | (simp [*]; done), by repeat (first | exact Drawn0.refl _ | apply Drawn0.step)⟩
        · rw [if_neg c7] at H
          have c7b0 : (a0 == 5) = false := beq_eq_false_iff_ne.mpr c7
          have c7b1 : (a0 != 5) = true := bne_iff_ne.mpr c7
          by_cases c9 : a0 = 6
          · rw [if_pos c9] at H
            have c9b0 : (a0 == 6) = true := beq_iff_eq.mpr c9
            have c9b1 : (a0 != 6) = false := bne_eq_false_iff_eq.mpr c9
            clear c9
            replace H := Option.bind_eq_some_iff.mp H
            obtain ⟨t160, A100, H⟩ := H
            replace H : (some t160) = some r := H
            have A10 := Aside0.mk A100
            clear A100
            obtain rfl := Option.some.inj H
            go_wp2_with (first | ((with_reducible refine gate_callee (f := 34) rfl ?_); refine goesL_ (some 18) rfl rfl Try.func34 (by kernel_rfl) rfl #[.int .i64 a1, .int .i64 0, .int .i64 3] rfl (by (try simp only [List.map_toArray, List.map_cons, List.map_nil]); first | done | rfl | (simp only [List.length_drop, List.length_take]; rfl)) ?_; (with_reducible refine (timesyncref55_within.calls a1 0 3 t160 _ A10.out).mono ?_); rintro e w' ⟨rfl, ⟨nd, rfl⟩⟩; refine ⟨_, rfl, ?_⟩))
            go_ret
            exact ⟨by first | rfl | (simp; done) | (simp [*]; done), by repeat (first | exact Drawn0.refl _ | apply Drawn0.step)⟩
          · rw [if_neg c9] at H
            have c9b0 : (a0 == 6) = false := beq_eq_false_iff_ne.mpr c9
            have c9b1 : (a0 != 6) = true := bne_iff_ne.mpr c9
            by_cases c11 : a0 = 9
            · rw [if_pos c11] at H
              have c11b0 : (a0 == 9) = true := beq_iff_eq.mpr c11
              have c11b1 : (a0 != 9) = false := bne_eq_false_iff_eq.mpr c11
              clear c11
              replace H := Option.bind_eq_some_iff.mp H
              obtain ⟨t161, A120, H⟩ := H
              replace H : (some t161) = some r := H
              have A12 := Aside0.mk A120
              clear A120
              obtain rfl := Option.some.inj H
              go_wp2_with (first | ((with_reducible refine gate_callee (f := 34) rfl ?_); refine goesL_ (some 22) rfl rfl Try.func34 (by kernel_rfl) rfl #[.int .i64 a1, .int .i64 0, .int .i64 1125899906842624] rfl (by (try simp only [List.map_toArray, List.map_cons, List.map_nil]); first | done | rfl | (simp only [List.length_drop, List.length_take]; rfl)) ?_; (with_reducible refine (timesyncref55_within.calls a1 0 1125899906842624 t161 _ A12.out).mono ?_); rintro e w' ⟨rfl, ⟨nd, rfl⟩⟩; refine ⟨_, rfl, ?_⟩))
              go_ret
              exact ⟨by first | rfl | (simp; done) | (simp [*]; done), by repeat (first | exact Drawn0.refl _ | apply Drawn0.step)⟩
            · rw [if_neg c11] at H
              have c11b0 : (a0 == 9) = false := beq_eq_false_iff_ne.mpr c11
              have c11b1 : (a0 != 9) = true := bne_iff_ne.mpr c11
              obtain rfl := Option.some.inj H
              go_wp2
              go_ret
              exact ⟨by first | rfl | (simp; done) | (simp [*]; done), by repeat (first | exact Drawn0.refl _ | apply Drawn0.step)⟩

/-! ### timesyncref55_Check: function 14 -/
mutual
def timesyncref55_Check.l0 : Nat → List (S46) → Int → Option (Int)
  | 0, _, _ => none
  | k + 1, x0, x3 => if x3 < (x0.length : Int) then (if 0 ≤ x3 then ((timesyncref55_within.f ((rd_T46 x0 x3).f0) 0 23).bind fun t164 => (if t164 = true then ((timesyncref55_within.f ((rd_T46 x0 x3).f1) 0 1125899906842624).bind fun t165 => (if t165 = true then ((timesyncref55_within.f ((rd_T46 x0 x3).f2) 0 1125899906842624).bind fun t166 => (timesyncref55_Check.j1 k x0 x3 (!t166) ((rd_T46 x0 x3).f0) ((rd_T46 x0 x3).f1) ((rd_T46 x0 x3).f2) ((rd_T46 x0 x3).f3) ((rd_T46 x0 x3).f4))) else (timesyncref55_Check.j1 k x0 x3 true ((rd_T46 x0 x3).f0) ((rd_T46 x0 x3).f1) ((rd_T46 x0 x3).f2) ((rd_T46 x0 x3).f3) ((rd_T46 x0 x3).f4)))) else (timesyncref55_Check.j1 k x0 x3 true ((rd_T46 x0 x3).f0) ((rd_T46 x0 x3).f1) ((rd_T46 x0 x3).f2) ((rd_T46 x0 x3).f3) ((rd_T46 x0 x3).f4)))) else (none)) else (some 0)
def timesyncref55_Check.j1 : Nat → List (S46) → Int → Bool → Int → Int → Int → Int → Int → Option (Int)
  | 0, _, _, _, _, _, _, _, _ => none
  | k + 1, x0, x3, x33, x164000, x164001, x164002, x164003, x164004 => if x33 = true then (some 3) else (if x164001 > x164002 then (some 12) else ((timesyncref55_within.f x164003 1 9).bind fun t167 => (if t167 = true then ((timesyncref55_fits.f k x164003 x164004).bind fun t168 => (if t168 = true then (timesyncref55_Check.l0 k x0 (wrap64 (x3 + 1))) else (some 3))) else (some 8))))
end
def timesyncref55_Check.f (k : Nat) (l0 : List (S46)) : Option (Int) := if (l0.length : Int) > 32 then (some 6) else (timesyncref55_Check.l0 k l0 0)
theorem timesyncref55_Check.mono_l : ∀ k, (∀ y0 y1, LeO (timesyncref55_Check.l0 k y0 y1) (timesyncref55_Check.l0 (k + 1) y0 y1)) ∧ (∀ y0 y1 y2 y3 y4 y5 y6 y7, LeO (timesyncref55_Check.j1 k y0 y1 y2 y3 y4 y5 y6 y7) (timesyncref55_Check.j1 (k + 1) y0 y1 y2 y3 y4 y5 y6 y7))
  | 0 => ⟨fun _ _ r h => by simp [timesyncref55_Check.l0] at h, fun _ _ _ _ _ _ _ _ r h => by simp [timesyncref55_Check.j1] at h⟩
  | k + 1 => by
    obtain ⟨ih0, ih1⟩ := timesyncref55_Check.mono_l k
    refine ⟨?_, ?_⟩
    · intro y0 y1
      unfold timesyncref55_Check.l0
      repeat' first
      | (with_reducible exact ih0 _ _)
      | (with_reducible exact ih1 _ _ _ _ _ _ _ _)
      | (with_reducible exact timesyncref55_fits.mono _ _ _)
      | (with_reducible exact LeO.refl _)
      | (with_reducible exact LeO.none _)
      | (with_reducible refine LeO.ite ?_ ?_)
      | (with_reducible refine LeO.bind ?_ (fun _ => ?_))
      | exact ih0 _ _
      | exact ih1 _ _ _ _ _ _ _ _
      | exact timesyncref55_fits.mono _ _ _
      | exact LeO.none _
      | refine LeO.ite ?_ ?_
      | refine LeO.bind ?_ (fun _ => ?_)
    · intro y0 y1 y2 y3 y4 y5 y6 y7
      unfold timesyncref55_Check.j1
      repeat' first
      | (with_reducible exact ih0 _ _)
      | (with_reducible exact ih1 _ _ _ _ _ _ _ _)
      | (with_reducible exact timesyncref55_fits.mono _ _ _)
      | (with_reducible exact LeO.refl _)
      | (with_reducible exact LeO.none _)
      | (with_reducible refine LeO.ite ?_ ?_)
      | (with_reducible refine LeO.bind ?_ (fun _ => ?_))
      | exact ih0 _ _
      | exact ih1 _ _ _ _ _ _ _ _
      | exact timesyncref55_fits.mono _ _ _
      | exact LeO.none _
      | refine LeO.ite ?_ ?_
      | refine LeO.bind ?_ (fun _ => ?_)
theorem timesyncref55_Check.mono : ∀ a0 k, LeO (timesyncref55_Check.f k a0) (timesyncref55_Check.f (k + 1) a0) := by
  intro a0 k
  obtain ⟨ih0, ih1⟩ := timesyncref55_Check.mono_l k
  unfold timesyncref55_Check.f
  repeat' first
      | (with_reducible exact ih0 _ _)
      | (with_reducible exact ih1 _ _ _ _ _ _ _ _)
      | (with_reducible exact timesyncref55_fits.mono _ _ _)
      | (with_reducible exact LeO.refl _)
      | (with_reducible exact LeO.none _)
      | (with_reducible refine LeO.ite ?_ ?_)
      | (with_reducible refine LeO.bind ?_ (fun _ => ?_))
      | exact ih0 _ _
      | exact ih1 _ _ _ _ _ _ _ _
      | exact timesyncref55_fits.mono _ _ _
      | exact LeO.none _
      | refine LeO.ite ?_ ?_
      | refine LeO.bind ?_ (fun _ => ?_)
set_option maxHeartbeats 8000000 in
set_option maxRecDepth 100000 in
theorem timesyncref55_Check.calls (k : Nat) (A0 : Option Addr) (c0 : Nat) (l0 : List (S46)) (r : Int) (w : World) (hr0 : Kd.C k46 w A0 l0.length l0) (hc0 : l0.length ≤ c0) (h : timesyncref55_Check.f k l0 = some r) :
    Calls Try.prog 14 #[.slice A0 l0.length c0] w fun e w' => e = .returned (.int .i64 r) ∧ Below w.heap.size w w' := by
  have hu46 := Try.underlying46
  have HR0 := Aside0.mk hr0
  have HC0 := Aside0.mk hc0
  clear hr0 hc0
  have HB := Aside0.mk (Below.refl w.heap.size w)
  have H : (if (l0.length : Int) > 32 then (some 6) else (timesyncref55_Check.l0 k l0 0)) = some r := h
  clear h
  by_cases c2 : (l0.length : Int) > 32
  · rw [if_pos c2] at H
    have c2b0 : decide (32 < (l0.length : Int)) = true := decide_eq_true c2
    have c2b1 : decide (32 < l0.length) = true := decide_eq_true (by omega)
    clear c2
    obtain rfl := Option.some.inj H
    go_enter Try.func14, Try.ntmps14
    go_wp2
    go_ret
    exact ⟨by first | rfl | (simp [errW_none, errW_some] <;> rfl) | (simp [*, errW_none, errW_some] <;> rfl), by repeat (first | (with_reducible first | exact HB.out | apply below_alloc | apply pw_below_drewN | apply below_drew1) | exact HB.out)⟩
  · rw [if_neg c2] at H
    have c2b0 : decide (32 < (l0.length : Int)) = false := decide_eq_false c2
    have c2b1 : decide (32 < l0.length) = false := decide_eq_false (by omega)
    clear c2
    have H' := Aside0.mk H
    clear H
    go_enter Try.func14, Try.ntmps14
    go_wp2
    go_loopg [3] k (fun kq v3 w' => ∃ (x3_1 : Int), v3 = .int .i64 x3_1 ∧ Aside0 (timesyncref55_Check.l0 kq l0 x3_1 = some r) ∧ Aside0 (kq ≤ k) ∧ Aside0 (Below w.heap.size w w'))
    case atStart => exact ⟨(0), (by first | rfl | (simp; done) | (simp [*]; done)), H', ⟨Nat.le_refl _⟩, ⟨by repeat (first | (with_reducible first | exact HB.out | apply below_alloc | apply pw_below_drewN | apply below_drew1) | exact HB.out)⟩⟩
    case round =>
      clear H'
      try clear c1
      try clear c2
      try clear c2b0
      try clear c2b1
      try clear p2
      obtain ⟨x3_1, rfl, HA, HK1, HB⟩ := hrel
      cases gk with
      | zero => exact absurd HA.out (by simp [timesyncref55_Check.l0])
      | succ k1 =>
        have H := HA.out
        clear HA
        simp only [timesyncref55_Check.l0] at H
        by_cases c3 : x3_1 < (l0.length : Int)
        · rw [if_pos c3] at H
          have c3b0 : decide (x3_1 < (l0.length : Int)) = true := decide_eq_true c3
          clear c3
          by_cases c4 : 0 ≤ x3_1
          · rw [if_pos c4] at H
            have c4b0 : decide (0 ≤ x3_1) = true := decide_eq_true c4
            clear c4
            have HC5 := Aside0.mk H
            clear H
            have p162 : 0 ≤ (x3_1 : Int) := of_decide_eq_true (by first | (with_reducible assumption) | assumption)
            have q162 : x3_1 < (l0.length : Int) := of_decide_eq_true (by first | (with_reducible assumption) | assumption)
            obtain ⟨ad162, e162, hx162_0, hx162_1, hx162_2, hx162_3, hx162_4⟩ := at_T46 HR0.out x3_1 p162 q162
            cases e162
            replace hx162_0 := (HB.out.cell (World.block_lt_of_cell? w _ hx162_0)).trans hx162_0
            replace hx162_1 := (HB.out.cell (World.block_lt_of_cell? w _ hx162_1)).trans hx162_1
            replace hx162_2 := (HB.out.cell (World.block_lt_of_cell? w _ hx162_2)).trans hx162_2
            replace hx162_3 := (HB.out.cell (World.block_lt_of_cell? w _ hx162_3)).trans hx162_3
            replace hx162_4 := (HB.out.cell (World.block_lt_of_cell? w _ hx162_4)).trans hx162_4
            replace p162 := eq_true p162
            replace q162 := eq_true q162
            go_upto_region 7 with (first | ((with_reducible refine gate_dst (N := 4) rfl ?_); refine box_event ?hg (N := 4) ?hd (cs := #[.int .i64 0, .int .i64 0, .int .i64 0, .int .i64 0, .int .i64 0]) (t := 46) ?hr ?_; (case hd => rfl); (case hg => rfl); (case hr => first | (go_simp; done) | (go_simp; rfl)); intro gb163 hg w6 hbox hb; have n0_ := Aside0.mk (below_step (by repeat (first | (with_reducible first | exact HB.out | apply below_alloc | apply pw_below_drewN | apply below_drew1) | exact HB.out)) hb); have n1_ := Aside0.mk (hbox); have n2_ := Aside0.mk ((by rw [hg]; exact (below_size (by repeat (first | (with_reducible first | exact HB.out | apply below_alloc | apply pw_below_drewN | apply below_drew1) | exact HB.out))) : w.heap.size ≤ gb163)); have n3_ := Aside0.mk ((by rw [hg]; exact (below_size (by repeat (first | (with_reducible first | exact HB.out | apply below_alloc | apply pw_below_drewN | apply below_drew1) | exact HB.out))) : w.heap.size ≤ gb163)); clear HB; have HB := n0_; have BK163 := n1_; have GW163 := n2_; have GE163 := n3_; clear n0_ n1_ n2_ n3_; clear hb hbox hg; have hcz7_0 : w6.cell? ⟨gb163, 0, none⟩ = some (.int .i64 0) := (blk_cell BK163.out 0).trans rfl; have hcz7_1 : w6.cell? ⟨gb163, 1, none⟩ = some (.int .i64 0) := (blk_cell BK163.out 1).trans rfl; have hcz7_2 : w6.cell? ⟨gb163, 2, none⟩ = some (.int .i64 0) := (blk_cell BK163.out 2).trans rfl; have hcz7_3 : w6.cell? ⟨gb163, 3, none⟩ = some (.int .i64 0) := (blk_cell BK163.out 3).trans rfl; have hcz7_4 : w6.cell? ⟨gb163, 4, none⟩ = some (.int .i64 0) := (blk_cell BK163.out 4).trans rfl; have hfz7_0 := blk_frozen BK163.out 0; have hfz7_1 := blk_frozen BK163.out 1; have hfz7_2 := blk_frozen BK163.out 2; have hfz7_3 := blk_frozen BK163.out 3; have hfz7_4 := blk_frozen BK163.out 4))
            (try simp only [Act.put, List.setIfInBounds_toArray, List.set_cons_zero, List.set_cons_succ])
            go_cut [33] (fun v33 wc => ∃ (kq : Nat) (x33_4 : Bool), v33 = .bool x33_4 ∧ Aside0 (timesyncref55_Check.j1 kq l0 x3_1 x33_4 ((rd_T46 l0 x3_1).f0) ((rd_T46 l0 x3_1).f1) ((rd_T46 l0 x3_1).f2) ((rd_T46 l0 x3_1).f3) ((rd_T46 l0 x3_1).f4) = some r) ∧ Aside0 (kq ≤ k1) ∧ Aside0 (wc.heap[gb163]? = some (.cells #[.int .i64 ((rd_T46 l0 x3_1).f0), .int .i64 ((rd_T46 l0 x3_1).f1), .int .i64 ((rd_T46 l0 x3_1).f2), .int .i64 ((rd_T46 l0 x3_1).f3), .int .i64 ((rd_T46 l0 x3_1).f4)] 46 (0, 0))) ∧ Aside0 (Below w.heap.size w wc))
            case first =>
              have H := HC5.out
              clear HC5
              replace H := Option.bind_eq_some_iff.mp H
              obtain ⟨t164, A80, H⟩ := H
              replace H : (if t164 = true then ((timesyncref55_within.f ((rd_T46 l0 x3_1).f1) 0 1125899906842624).bind fun t165 => (if t165 = true then ((timesyncref55_within.f ((rd_T46 l0 x3_1).f2) 0 1125899906842624).bind fun t166 => (timesyncref55_Check.j1 k1 l0 x3_1 (!t166) ((rd_T46 l0 x3_1).f0) ((rd_T46 l0 x3_1).f1) ((rd_T46 l0 x3_1).f2) ((rd_T46 l0 x3_1).f3) ((rd_T46 l0 x3_1).f4))) else (timesyncref55_Check.j1 k1 l0 x3_1 true ((rd_T46 l0 x3_1).f0) ((rd_T46 l0 x3_1).f1) ((rd_T46 l0 x3_1).f2) ((rd_T46 l0 x3_1).f3) ((rd_T46 l0 x3_1).f4)))) else (timesyncref55_Check.j1 k1 l0 x3_1 true ((rd_T46 l0 x3_1).f0) ((rd_T46 l0 x3_1).f1) ((rd_T46 l0 x3_1).f2) ((rd_T46 l0 x3_1).f3) ((rd_T46 l0 x3_1).f4))) = some r := H
              have A8 := Aside0.mk A80
              clear A80
              by_cases c9 : t164 = true
              · subst c9
                have H1 : ((timesyncref55_within.f ((rd_T46 l0 x3_1).f1) 0 1125899906842624).bind fun t165 => (if t165 = true then ((timesyncref55_within.f ((rd_T46 l0 x3_1).f2) 0 1125899906842624).bind fun t166 => (timesyncref55_Check.j1 k1 l0 x3_1 (!t166) ((rd_T46 l0 x3_1).f0) ((rd_T46 l0 x3_1).f1) ((rd_T46 l0 x3_1).f2) ((rd_T46 l0 x3_1).f3) ((rd_T46 l0 x3_1).f4))) else (timesyncref55_Check.j1 k1 l0 x3_1 true ((rd_T46 l0 x3_1).f0) ((rd_T46 l0 x3_1).f1) ((rd_T46 l0 x3_1).f2) ((rd_T46 l0 x3_1).f3) ((rd_T46 l0 x3_1).f4)))) = some r := by rw [if_pos rfl] at H; exact H
                clear H
                have H := H1
                clear H1
                replace H := Option.bind_eq_some_iff.mp H
                obtain ⟨t165, A100, H⟩ := H
                replace H : (if t165 = true then ((timesyncref55_within.f ((rd_T46 l0 x3_1).f2) 0 1125899906842624).bind fun t166 => (timesyncref55_Check.j1 k1 l0 x3_1 (!t166) ((rd_T46 l0 x3_1).f0) ((rd_T46 l0 x3_1).f1) ((rd_T46 l0 x3_1).f2) ((rd_T46 l0 x3_1).f3) ((rd_T46 l0 x3_1).f4))) else (timesyncref55_Check.j1 k1 l0 x3_1 true ((rd_T46 l0 x3_1).f0) ((rd_T46 l0 x3_1).f1) ((rd_T46 l0 x3_1).f2) ((rd_T46 l0 x3_1).f3) ((rd_T46 l0 x3_1).f4))) = some r := H
                have A10 := Aside0.mk A100
                clear A100
                by_cases c11 : t165 = true
                · subst c11
                  have H1 : ((timesyncref55_within.f ((rd_T46 l0 x3_1).f2) 0 1125899906842624).bind fun t166 => (timesyncref55_Check.j1 k1 l0 x3_1 (!t166) ((rd_T46 l0 x3_1).f0) ((rd_T46 l0 x3_1).f1) ((rd_T46 l0 x3_1).f2) ((rd_T46 l0 x3_1).f3) ((rd_T46 l0 x3_1).f4))) = some r := by rw [if_pos rfl] at H; exact H
                  clear H
                  have H := H1
                  clear H1
                  replace H := Option.bind_eq_some_iff.mp H
                  obtain ⟨t166, A120, H⟩ := H
                  replace H : (timesyncref55_Check.j1 k1 l0 x3_1 (!t166) ((rd_T46 l0 x3_1).f0) ((rd_T46 l0 x3_1).f1) ((rd_T46 l0 x3_1).f2) ((rd_T46 l0 x3_1).f3) ((rd_T46 l0 x3_1).f4)) = some r := H
                  have A12 := Aside0.mk A120
                  clear A120
                  have H' := Aside0.mk H
                  clear H
                  have hcz13_0 : w6.cell? ⟨gb163, 0, none⟩ = some (.int .i64 0) := (blk_cell BK163.out 0).trans rfl
                  have hcz13_1 : w6.cell? ⟨gb163, 1, none⟩ = some (.int .i64 0) := (blk_cell BK163.out 1).trans rfl
                  have hcz13_2 : w6.cell? ⟨gb163, 2, none⟩ = some (.int .i64 0) := (blk_cell BK163.out 2).trans rfl
                  have hcz13_3 : w6.cell? ⟨gb163, 3, none⟩ = some (.int .i64 0) := (blk_cell BK163.out 3).trans rfl
                  have hcz13_4 : w6.cell? ⟨gb163, 4, none⟩ = some (.int .i64 0) := (blk_cell BK163.out 4).trans rfl
                  have hfz13_0 := blk_frozen BK163.out 0
                  have hfz13_1 := blk_frozen BK163.out 1
                  have hfz13_2 := blk_frozen BK163.out 2
                  have hfz13_3 := blk_frozen BK163.out 3
                  have hfz13_4 := blk_frozen BK163.out 4
                  go_wp2_with (first | ((with_reducible refine gate_callee (f := 34) rfl ?_); refine goesL_ (some 20) rfl rfl Try.func34 (by kernel_rfl) rfl #[.int .i64 ((rd_T46 l0 x3_1).f0), .int .i64 0, .int .i64 23] rfl (by (try simp only [List.map_toArray, List.map_cons, List.map_nil]); first | done | rfl | (simp only [List.length_drop, List.length_take]; rfl)) ?_; (with_reducible refine (timesyncref55_within.calls ((rd_T46 l0 x3_1).f0) 0 23 true _ A8.out).mono ?_); rintro e w' ⟨rfl, ⟨nd, rfl⟩⟩; refine ⟨_, rfl, ?_⟩) | (go_at_call 34; (with_reducible refine (timesyncref55_within.calls ((rd_T46 l0 x3_1).f1) 0 1125899906842624 true _ A10.out).mono ?_); rintro e w' ⟨rfl, ⟨nd, rfl⟩⟩) | (go_at_call 34; (with_reducible refine (timesyncref55_within.calls ((rd_T46 l0 x3_1).f2) 0 1125899906842624 t166 _ A12.out).mono ?_); rintro e w' ⟨rfl, ⟨nd, rfl⟩⟩))
                  go_meet
                  case rel => exact ⟨_, (!t166), (by first | rfl | (simp; done) | (simp [*]; done)), H', ⟨by have := HK1.out; first | omega | exact Nat.le_refl _⟩, ⟨by (with_reducible repeat (first | refine blk_drewN ?_ _ | refine blk_drew ?_ | refine blk_alloc ?_ _)); refine blk_put (cs := #[.int .i64 ((rd_T46 l0 x3_1).f0), .int .i64 ((rd_T46 l0 x3_1).f1), .int .i64 ((rd_T46 l0 x3_1).f2), .int .i64 ((rd_T46 l0 x3_1).f3), .int .i64 0]) ?_ 4 _ rfl; (with_reducible repeat (first | refine blk_drewN ?_ _ | refine blk_drew ?_ | refine blk_alloc ?_ _)); refine blk_put (cs := #[.int .i64 ((rd_T46 l0 x3_1).f0), .int .i64 ((rd_T46 l0 x3_1).f1), .int .i64 ((rd_T46 l0 x3_1).f2), .int .i64 0, .int .i64 0]) ?_ 3 _ rfl; (with_reducible repeat (first | refine blk_drewN ?_ _ | refine blk_drew ?_ | refine blk_alloc ?_ _)); refine blk_put (cs := #[.int .i64 ((rd_T46 l0 x3_1).f0), .int .i64 ((rd_T46 l0 x3_1).f1), .int .i64 0, .int .i64 0, .int .i64 0]) ?_ 2 _ rfl; (with_reducible repeat (first | refine blk_drewN ?_ _ | refine blk_drew ?_ | refine blk_alloc ?_ _)); refine blk_put (cs := #[.int .i64 ((rd_T46 l0 x3_1).f0), .int .i64 0, .int .i64 0, .int .i64 0, .int .i64 0]) ?_ 1 _ rfl; (with_reducible repeat (first | refine blk_drewN ?_ _ | refine blk_drew ?_ | refine blk_alloc ?_ _)); refine blk_put (cs := #[.int .i64 0, .int .i64 0, .int .i64 0, .int .i64 0, .int .i64 0]) ?_ 0 _ rfl; (with_reducible repeat (first | refine blk_drewN ?_ _ | refine blk_drew ?_ | refine blk_alloc ?_ _)); exact BK163.out⟩, ⟨by repeat (first | (with_reducible first | exact HB.out | apply below_alloc | apply pw_below_drewN | apply below_drew1 | refine below_set ?_ GE163.out) | exact HB.out)⟩⟩
                · replace c11 := Bool.eq_false_iff.mpr c11
                  subst c11
                  have H1 : (timesyncref55_Check.j1 k1 l0 x3_1 true ((rd_T46 l0 x3_1).f0) ((rd_T46 l0 x3_1).f1) ((rd_T46 l0 x3_1).f2) ((rd_T46 l0 x3_1).f3) ((rd_T46 l0 x3_1).f4)) = some r := by rw [if_neg (show ¬ (false = true) by decide)] at H; exact H
                  clear H
                  have H := H1
                  clear H1
                  have H' := Aside0.mk H
                  clear H
                  have hcz14_0 : w6.cell? ⟨gb163, 0, none⟩ = some (.int .i64 0) := (blk_cell BK163.out 0).trans rfl
                  have hcz14_1 : w6.cell? ⟨gb163, 1, none⟩ = some (.int .i64 0) := (blk_cell BK163.out 1).trans rfl
                  have hcz14_2 : w6.cell? ⟨gb163, 2, none⟩ = some (.int .i64 0) := (blk_cell BK163.out 2).trans rfl
                  have hcz14_3 : w6.cell? ⟨gb163, 3, none⟩ = some (.int .i64 0) := (blk_cell BK163.out 3).trans rfl
                  have hcz14_4 : w6.cell? ⟨gb163, 4, none⟩ = some (.int .i64 0) := (blk_cell BK163.out 4).trans rfl
                  have hfz14_0 := blk_frozen BK163.out 0
                  have hfz14_1 := blk_frozen BK163.out 1
                  have hfz14_2 := blk_frozen BK163.out 2
                  have hfz14_3 := blk_frozen BK163.out 3
                  have hfz14_4 := blk_frozen BK163.out 4
                  go_wp2_with (first | ((with_reducible refine gate_callee (f := 34) rfl ?_); refine goesL_ (some 20) rfl rfl Try.func34 (by kernel_rfl) rfl #[.int .i64 ((rd_T46 l0 x3_1).f0), .int .i64 0, .int .i64 23] rfl (by (try simp only [List.map_toArray, List.map_cons, List.map_nil]); first | done | rfl | (simp only [List.length_drop, List.length_take]; rfl)) ?_; (with_reducible refine (timesyncref55_within.calls ((rd_T46 l0 x3_1).f0) 0 23 true _ A8.out).mono ?_); rintro e w' ⟨rfl, ⟨nd, rfl⟩⟩; refine ⟨_, rfl, ?_⟩) | (go_at_call 34; (with_reducible refine (timesyncref55_within.calls ((rd_T46 l0 x3_1).f1) 0 1125899906842624 false _ A10.out).mono ?_); rintro e w' ⟨rfl, ⟨nd, rfl⟩⟩))
                  go_meet
                  case rel => exact ⟨_, (true), (by first | rfl | (simp; done) | (simp [*]; done)), H', ⟨by have := HK1.out; first | omega | exact Nat.le_refl _⟩, ⟨by (with_reducible repeat (first | refine blk_drewN ?_ _ | refine blk_drew ?_ | refine blk_alloc ?_ _)); refine blk_put (cs := #[.int .i64 ((rd_T46 l0 x3_1).f0), .int .i64 ((rd_T46 l0 x3_1).f1), .int .i64 ((rd_T46 l0 x3_1).f2), .int .i64 ((rd_T46 l0 x3_1).f3), .int .i64 0]) ?_ 4 _ rfl; (with_reducible repeat (first | refine blk_drewN ?_ _ | refine blk_drew ?_ | refine blk_alloc ?_ _)); refine blk_put (cs := #[.int .i64 ((rd_T46 l0 x3_1).f0), .int .i64 ((rd_T46 l0 x3_1).f1), .int .i64 ((rd_T46 l0 x3_1).f2), .int .i64 0, .int .i64 0]) ?_ 3 _ rfl; (with_reducible repeat (first | refine blk_drewN ?_ _ | refine blk_drew ?_ | refine blk_alloc ?_ _)); refine blk_put (cs := #[.int .i64 ((rd_T46 l0 x3_1).f0), .int .i64 ((rd_T46 l0 x3_1).f1), .int .i64 0, .int .i64 0, .int .i64 0]) ?_ 2 _ rfl; (with_reducible repeat (first | refine blk_drewN ?_ _ | refine blk_drew ?_ | refine blk_alloc ?_ _)); refine blk_put (cs := #[.int .i64 ((rd_T46 l0 x3_1).f0), .int .i64 0, .int .i64 0, .int .i64 0, .int .i64 0]) ?_ 1 _ rfl; (with_reducible repeat (first | refine blk_drewN ?_ _ | refine blk_drew ?_ | refine blk_alloc ?_ _)); refine blk_put (cs := #[.int .i64 0, .int .i64 0, .int .i64 0, .int .i64 0, .int .i64 0]) ?_ 0 _ rfl; (with_reducible repeat (first | refine blk_drewN ?_ _ | refine blk_drew ?_ | refine blk_alloc ?_ _)); exact BK163.out⟩, ⟨by repeat (first | (with_reducible first | exact HB.out | apply below_alloc | apply pw_below_drewN | apply below_drew1 | refine below_set ?_ GE163.out) | exact HB.out)⟩⟩
              · replace c9 := Bool.eq_false_iff.mpr c9
                subst c9
                have H1 : (timesyncref55_Check.j1 k1 l0 x3_1 true ((rd_T46 l0 x3_1).f0) ((rd_T46 l0 x3_1).f1) ((rd_T46 l0 x3_1).f2) ((rd_T46 l0 x3_1).f3) ((rd_T46 l0 x3_1).f4)) = some r := by rw [if_neg (show ¬ (false = true) by decide)] at H; exact H
                clear H
                have H := H1
                clear H1
                have H' := Aside0.mk H
                clear H
                have hcz15_0 : w6.cell? ⟨gb163, 0, none⟩ = some (.int .i64 0) := (blk_cell BK163.out 0).trans rfl
                have hcz15_1 : w6.cell? ⟨gb163, 1, none⟩ = some (.int .i64 0) := (blk_cell BK163.out 1).trans rfl
                have hcz15_2 : w6.cell? ⟨gb163, 2, none⟩ = some (.int .i64 0) := (blk_cell BK163.out 2).trans rfl
                have hcz15_3 : w6.cell? ⟨gb163, 3, none⟩ = some (.int .i64 0) := (blk_cell BK163.out 3).trans rfl
                have hcz15_4 : w6.cell? ⟨gb163, 4, none⟩ = some (.int .i64 0) := (blk_cell BK163.out 4).trans rfl
                have hfz15_0 := blk_frozen BK163.out 0
                have hfz15_1 := blk_frozen BK163.out 1
                have hfz15_2 := blk_frozen BK163.out 2
                have hfz15_3 := blk_frozen BK163.out 3
                have hfz15_4 := blk_frozen BK163.out 4
                go_wp2_with (first | ((with_reducible refine gate_callee (f := 34) rfl ?_); refine goesL_ (some 20) rfl rfl Try.func34 (by kernel_rfl) rfl #[.int .i64 ((rd_T46 l0 x3_1).f0), .int .i64 0, .int .i64 23] rfl (by (try simp only [List.map_toArray, List.map_cons, List.map_nil]); first | done | rfl | (simp only [List.length_drop, List.length_take]; rfl)) ?_; (with_reducible refine (timesyncref55_within.calls ((rd_T46 l0 x3_1).f0) 0 23 false _ A8.out).mono ?_); rintro e w' ⟨rfl, ⟨nd, rfl⟩⟩; refine ⟨_, rfl, ?_⟩))
                go_meet
                case rel => exact ⟨_, (true), (by first | rfl | (simp; done) | (simp [*]; done)), H', ⟨by have := HK1.out; first | omega | exact Nat.le_refl _⟩, ⟨by (with_reducible repeat (first | refine blk_drewN ?_ _ | refine blk_drew ?_ | refine blk_alloc ?_ _)); refine blk_put (cs := #[.int .i64 ((rd_T46 l0 x3_1).f0), .int .i64 ((rd_T46 l0 x3_1).f1), .int .i64 ((rd_T46 l0 x3_1).f2), .int .i64 ((rd_T46 l0 x3_1).f3), .int .i64 0]) ?_ 4 _ rfl; (with_reducible repeat (first | refine blk_drewN ?_ _ | refine blk_drew ?_ | refine blk_alloc ?_ _)); refine blk_put (cs := #[.int .i64 ((rd_T46 l0 x3_1).f0), .int .i64 ((rd_T46 l0 x3_1).f1), .int .i64 ((rd_T46 l0 x3_1).f2), .int .i64 0, .int .i64 0]) ?_ 3 _ rfl; (with_reducible repeat (first | refine blk_drewN ?_ _ | refine blk_drew ?_ | refine blk_alloc ?_ _)); refine blk_put (cs := #[.int .i64 ((rd_T46 l0 x3_1).f0), .int .i64 ((rd_T46 l0 x3_1).f1), .int .i64 0, .int .i64 0, .int .i64 0]) ?_ 2 _ rfl; (with_reducible repeat (first | refine blk_drewN ?_ _ | refine blk_drew ?_ | refine blk_alloc ?_ _)); refine blk_put (cs := #[.int .i64 ((rd_T46 l0 x3_1).f0), .int .i64 0, .int .i64 0, .int .i64 0, .int .i64 0]) ?_ 1 _ rfl; (with_reducible repeat (first | refine blk_drewN ?_ _ | refine blk_drew ?_ | refine blk_alloc ?_ _)); refine blk_put (cs := #[.int .i64 0, .int .i64 0, .int .i64 0, .int .i64 0, .int .i64 0]) ?_ 0 _ rfl; (with_reducible repeat (first | refine blk_drewN ?_ _ | refine blk_drew ?_ | refine blk_alloc ?_ _)); exact BK163.out⟩, ⟨by repeat (first | (with_reducible first | exact HB.out | apply below_alloc | apply pw_below_drewN | apply below_drew1 | refine below_set ?_ GE163.out) | exact HB.out)⟩⟩
            case rest =>
              clear HC5
              try clear c1
              try clear p1
              try clear q1
              try clear hx1
              try clear c2
              try clear c2b0
              try clear c2b1
              try clear p2
              try clear c3
              try clear c3b0
              try clear c4
              try clear c4b0
              try clear c9
              try clear c11
              try clear c14
              try clear hcz13_0
              try clear hcz13_1
              try clear hcz13_2
              try clear hcz13_3
              try clear hcz13_4
              try clear hcz14_0
              try clear hcz14_1
              try clear hcz14_2
              try clear hcz14_3
              try clear hcz14_4
              try clear hcz15_0
              try clear hcz15_1
              try clear hcz15_2
              try clear hcz15_3
              try clear hcz15_4
              try clear hcz7_0
              try clear hcz7_1
              try clear hcz7_2
              try clear hcz7_3
              try clear hcz7_4
              try clear hfz13_0
              try clear hfz13_1
              try clear hfz13_2
              try clear hfz13_3
              try clear hfz13_4
              try clear hfz14_0
              try clear hfz14_1
              try clear hfz14_2
              try clear hfz14_3
              try clear hfz14_4
              try clear hfz15_0
              try clear hfz15_1
              try clear hfz15_2
              try clear hfz15_3
              try clear hfz15_4
              try clear hfz7_0
              try clear hfz7_1
              try clear hfz7_2
              try clear hfz7_3
              try clear hfz7_4
              try clear hx162_0
              try clear hx162_1
              try clear hx162_2
              try clear hx162_3
              try clear hx162_4
              try clear p162
              try clear p2
              try clear q162
              obtain ⟨kq, x33_4, rfl, HA, HJ4, BK163, HB⟩ := hcut
              cases kq with
              | zero => exact absurd HA.out (by simp [timesyncref55_Check.j1])
              | succ kj4 =>
                have H := HA.out
                clear HA
                simp only [timesyncref55_Check.j1] at H
                by_cases c16 : x33_4 = true
                · subst c16
                  have H1 : (some 3) = some r := by rw [if_pos rfl] at H; exact H
                  clear H
                  have H := H1
                  clear H1
                  obtain rfl := Option.some.inj H
                  go_wp2
                  go_ret
                  exact ⟨by first | rfl | (simp [errW_none, errW_some] <;> rfl) | (simp [*, errW_none, errW_some] <;> rfl), by repeat (first | (with_reducible first | exact HB.out | apply below_alloc | apply pw_below_drewN | apply below_drew1 | refine below_set ?_ GE163.out) | exact HB.out)⟩
                · replace c16 := Bool.eq_false_iff.mpr c16
                  subst c16
                  have H1 : (if ((rd_T46 l0 x3_1).f1) > ((rd_T46 l0 x3_1).f2) then (some 12) else ((timesyncref55_within.f ((rd_T46 l0 x3_1).f3) 1 9).bind fun t167 => (if t167 = true then ((timesyncref55_fits.f kj4 ((rd_T46 l0 x3_1).f3) ((rd_T46 l0 x3_1).f4)).bind fun t168 => (if t168 = true then (timesyncref55_Check.l0 kj4 l0 (wrap64 (x3_1 + 1))) else (some 3))) else (some 8)))) = some r := by rw [if_neg (show ¬ (false = true) by decide)] at H; exact H
                  clear H
                  have H := H1
                  clear H1
                  by_cases c17 : ((rd_T46 l0 x3_1).f1) > ((rd_T46 l0 x3_1).f2)
                  · rw [if_pos c17] at H
                    have c17b0 : decide (((rd_T46 l0 x3_1).f2) < ((rd_T46 l0 x3_1).f1)) = true := decide_eq_true c17
                    clear c17
                    obtain rfl := Option.some.inj H
                    have hcz18_0 : wc.cell? ⟨gb163, 0, none⟩ = some (.int .i64 ((rd_T46 l0 x3_1).f0)) := (blk_cell BK163.out 0).trans rfl
                    have hcz18_1 : wc.cell? ⟨gb163, 1, none⟩ = some (.int .i64 ((rd_T46 l0 x3_1).f1)) := (blk_cell BK163.out 1).trans rfl
                    have hcz18_2 : wc.cell? ⟨gb163, 2, none⟩ = some (.int .i64 ((rd_T46 l0 x3_1).f2)) := (blk_cell BK163.out 2).trans rfl
                    have hcz18_3 : wc.cell? ⟨gb163, 3, none⟩ = some (.int .i64 ((rd_T46 l0 x3_1).f3)) := (blk_cell BK163.out 3).trans rfl
                    have hcz18_4 : wc.cell? ⟨gb163, 4, none⟩ = some (.int .i64 ((rd_T46 l0 x3_1).f4)) := (blk_cell BK163.out 4).trans rfl
                    have hfz18_0 := blk_frozen BK163.out 0
                    have hfz18_1 := blk_frozen BK163.out 1
                    have hfz18_2 := blk_frozen BK163.out 2
                    have hfz18_3 := blk_frozen BK163.out 3
                    have hfz18_4 := blk_frozen BK163.out 4
                    go_wp2
                    go_ret
                    exact ⟨by first | rfl | (simp [errW_none, errW_some] <;> rfl) | (simp [*, errW_none, errW_some] <;> rfl), by repeat (first | (with_reducible first | exact HB.out | apply below_alloc | apply pw_below_drewN | apply below_drew1 | refine below_set ?_ GE163.out) | exact HB.out)⟩
                  · rw [if_neg c17] at H
                    have c17b0 : decide (((rd_T46 l0 x3_1).f2) < ((rd_T46 l0 x3_1).f1)) = false := decide_eq_false c17
                    clear c17
                    replace H := Option.bind_eq_some_iff.mp H
                    obtain ⟨t167, A190, H⟩ := H
                    replace H : (if t167 = true then ((timesyncref55_fits.f kj4 ((rd_T46 l0 x3_1).f3) ((rd_T46 l0 x3_1).f4)).bind fun t168 => (if t168 = true then (timesyncref55_Check.l0 kj4 l0 (wrap64 (x3_1 + 1))) else (some 3))) else (some 8)) = some r := H
                    have A19 := Aside0.mk A190
                    clear A190
                    by_cases c20 : t167 = true
                    · subst c20
                      have H1 : ((timesyncref55_fits.f kj4 ((rd_T46 l0 x3_1).f3) ((rd_T46 l0 x3_1).f4)).bind fun t168 => (if t168 = true then (timesyncref55_Check.l0 kj4 l0 (wrap64 (x3_1 + 1))) else (some 3))) = some r := by rw [if_pos rfl] at H; exact H
                      clear H
                      have H := H1
                      clear H1
                      replace H := Option.bind_eq_some_iff.mp H
                      obtain ⟨t168, A210, H⟩ := H
                      replace H : (if t168 = true then (timesyncref55_Check.l0 kj4 l0 (wrap64 (x3_1 + 1))) else (some 3)) = some r := H
                      have A21 := Aside0.mk A210
                      clear A210
                      by_cases c22 : t168 = true
                      · subst c22
                        have H1 : (timesyncref55_Check.l0 kj4 l0 (wrap64 (x3_1 + 1))) = some r := by rw [if_pos rfl] at H; exact H
                        clear H
                        have H := H1
                        clear H1
                        have H' := Aside0.mk H
                        clear H
                        have hcz23_0 : wc.cell? ⟨gb163, 0, none⟩ = some (.int .i64 ((rd_T46 l0 x3_1).f0)) := (blk_cell BK163.out 0).trans rfl
                        have hcz23_1 : wc.cell? ⟨gb163, 1, none⟩ = some (.int .i64 ((rd_T46 l0 x3_1).f1)) := (blk_cell BK163.out 1).trans rfl
                        have hcz23_2 : wc.cell? ⟨gb163, 2, none⟩ = some (.int .i64 ((rd_T46 l0 x3_1).f2)) := (blk_cell BK163.out 2).trans rfl
                        have hcz23_3 : wc.cell? ⟨gb163, 3, none⟩ = some (.int .i64 ((rd_T46 l0 x3_1).f3)) := (blk_cell BK163.out 3).trans rfl
                        have hcz23_4 : wc.cell? ⟨gb163, 4, none⟩ = some (.int .i64 ((rd_T46 l0 x3_1).f4)) := (blk_cell BK163.out 4).trans rfl
                        have hfz23_0 := blk_frozen BK163.out 0
                        have hfz23_1 := blk_frozen BK163.out 1
                        have hfz23_2 := blk_frozen BK163.out 2
                        have hfz23_3 := blk_frozen BK163.out 3
                        have hfz23_4 := blk_frozen BK163.out 4
                        go_wp2_with (first | ((with_reducible refine gate_callee (f := 34) rfl ?_); refine goesL_ (some 41) rfl rfl Try.func34 (by kernel_rfl) rfl #[.int .i64 ((rd_T46 l0 x3_1).f3), .int .i64 1, .int .i64 9] rfl (by (try simp only [List.map_toArray, List.map_cons, List.map_nil]); first | done | rfl | (simp only [List.length_drop, List.length_take]; rfl)) ?_; (with_reducible refine (timesyncref55_within.calls ((rd_T46 l0 x3_1).f3) 1 9 true _ A19.out).mono ?_); rintro e w' ⟨rfl, ⟨nd, rfl⟩⟩; refine ⟨_, rfl, ?_⟩) | ((with_reducible refine gate_callee (f := 35) rfl ?_); refine goesL_ (some 47) rfl rfl Try.func35 (by kernel_rfl) rfl #[.int .i64 ((rd_T46 l0 x3_1).f3), .int .i64 ((rd_T46 l0 x3_1).f4)] rfl (by (try simp only [List.map_toArray, List.map_cons, List.map_nil]); first | done | rfl | (simp only [List.length_drop, List.length_take]; rfl)) ?_; (with_reducible refine (timesyncref55_fits.calls kj4 ((rd_T46 l0 x3_1).f3) ((rd_T46 l0 x3_1).f4) true _ A21.out).mono ?_); rintro e w' ⟨rfl, ⟨nd, rfl⟩⟩; refine ⟨_, rfl, ?_⟩))
                        go_roundg kj4
                        case measure => have := HK1.out; have := HJ4.out; omega
                        case rel => exact ⟨(wrap64 (x3_1 + 1)), (by first | rfl | (simp; done) | (simp [*]; done)), H', ⟨by have := HK1.out; have := HJ4.out; omega⟩, ⟨by repeat (first | (with_reducible first | exact HB.out | apply below_alloc | apply pw_below_drewN | apply below_drew1 | refine below_set ?_ GE163.out) | exact HB.out)⟩⟩
                      · replace c22 := Bool.eq_false_iff.mpr c22
                        subst c22
                        have H1 : (some 3) = some r := by rw [if_neg (show ¬ (false = true) by decide)] at H; exact H
                        clear H
                        have H := H1
                        clear H1
                        obtain rfl := Option.some.inj H
                        have hcz24_0 : wc.cell? ⟨gb163, 0, none⟩ = some (.int .i64 ((rd_T46 l0 x3_1).f0)) := (blk_cell BK163.out 0).trans rfl
                        have hcz24_1 : wc.cell? ⟨gb163, 1, none⟩ = some (.int .i64 ((rd_T46 l0 x3_1).f1)) := (blk_cell BK163.out 1).trans rfl
                        have hcz24_2 : wc.cell? ⟨gb163, 2, none⟩ = some (.int .i64 ((rd_T46 l0 x3_1).f2)) := (blk_cell BK163.out 2).trans rfl
                        have hcz24_3 : wc.cell? ⟨gb163, 3, none⟩ = some (.int .i64 ((rd_T46 l0 x3_1).f3)) := (blk_cell BK163.out 3).trans rfl
                        have hcz24_4 : wc.cell? ⟨gb163, 4, none⟩ = some (.int .i64 ((rd_T46 l0 x3_1).f4)) := (blk_cell BK163.out 4).trans rfl
                        have hfz24_0 := blk_frozen BK163.out 0
                        have hfz24_1 := blk_frozen BK163.out 1
                        have hfz24_2 := blk_frozen BK163.out 2
                        have hfz24_3 := blk_frozen BK163.out 3
                        have hfz24_4 := blk_frozen BK163.out 4
                        go_wp2_with (first | ((with_reducible refine gate_callee (f := 34) rfl ?_); refine goesL_ (some 41) rfl rfl Try.func34 (by kernel_rfl) rfl #[.int .i64 ((rd_T46 l0 x3_1).f3), .int .i64 1, .int .i64 9] rfl (by (try simp only [List.map_toArray, List.map_cons, List.map_nil]); first | done | rfl | (simp only [List.length_drop, List.length_take]; rfl)) ?_; (with_reducible refine (timesyncref55_within.calls ((rd_T46 l0 x3_1).f3) 1 9 true _ A19.out).mono ?_); rintro e w' ⟨rfl, ⟨nd, rfl⟩⟩; refine ⟨_, rfl, ?_⟩) | ((with_reducible refine gate_callee (f := 35) rfl ?_); refine goesL_ (some 47) rfl rfl Try.func35 (by kernel_rfl) rfl #[.int .i64 ((rd_T46 l0 x3_1).f3), .int .i64 ((rd_T46 l0 x3_1).f4)] rfl (by (try simp only [List.map_toArray, List.map_cons, List.map_nil]); first | done | rfl | (simp only [List.length_drop, List.length_take]; rfl)) ?_; (with_reducible refine (timesyncref55_fits.calls kj4 ((rd_T46 l0 x3_1).f3) ((rd_T46 l0 x3_1).f4) false _ A21.out).mono ?_); rintro e w' ⟨rfl, ⟨nd, rfl⟩⟩; refine ⟨_, rfl, ?_⟩))
                        go_ret
                        exact ⟨by first | rfl | (simp [errW_none, errW_some] <;> rfl) | (simp [*, errW_none, errW_some] <;> rfl), by repeat (first | (with_reducible first | exact HB.out | apply below_alloc | apply pw_below_drewN | apply below_drew1 | refine below_set ?_ GE163.out) | exact HB.out)⟩
                    · replace c20 := Bool.eq_false_iff.mpr c20
                      subst c20
                      have H1 : (some 8) = some r := by rw [if_neg (show ¬ (false = true) by decide)] at H; exact H
                      clear H
                      have H := H1
                      clear H1
                      obtain rfl := Option.some.inj H
                      have hcz25_0 : wc.cell? ⟨gb163, 0, none⟩ = some (.int .i64 ((rd_T46 l0 x3_1).f0)) := (blk_cell BK163.out 0).trans rfl
                      have hcz25_1 : wc.cell? ⟨gb163, 1, none⟩ = some (.int .i64 ((rd_T46 l0 x3_1).f1)) := (blk_cell BK163.out 1).trans rfl
                      have hcz25_2 : wc.cell? ⟨gb163, 2, none⟩ = some (.int .i64 ((rd_T46 l0 x3_1).f2)) := (blk_cell BK163.out 2).trans rfl
                      have hcz25_3 : wc.cell? ⟨gb163, 3, none⟩ = some (.int .i64 ((rd_T46 l0 x3_1).f3)) := (blk_cell BK163.out 3).trans rfl
                      have hcz25_4 : wc.cell? ⟨gb163, 4, none⟩ = some (.int .i64 ((rd_T46 l0 x3_1).f4)) := (blk_cell BK163.out 4).trans rfl
                      have hfz25_0 := blk_frozen BK163.out 0
                      have hfz25_1 := blk_frozen BK163.out 1
                      have hfz25_2 := blk_frozen BK163.out 2
                      have hfz25_3 := blk_frozen BK163.out 3
                      have hfz25_4 := blk_frozen BK163.out 4
                      go_wp2_with (first | ((with_reducible refine gate_callee (f := 34) rfl ?_); refine goesL_ (some 41) rfl rfl Try.func34 (by kernel_rfl) rfl #[.int .i64 ((rd_T46 l0 x3_1).f3), .int .i64 1, .int .i64 9] rfl (by (try simp only [List.map_toArray, List.map_cons, List.map_nil]); first | done | rfl | (simp only [List.length_drop, List.length_take]; rfl)) ?_; (with_reducible refine (timesyncref55_within.calls ((rd_T46 l0 x3_1).f3) 1 9 false _ A19.out).mono ?_); rintro e w' ⟨rfl, ⟨nd, rfl⟩⟩; refine ⟨_, rfl, ?_⟩))
                      go_ret
                      exact ⟨by first | rfl | (simp [errW_none, errW_some] <;> rfl) | (simp [*, errW_none, errW_some] <;> rfl), by repeat (first | (with_reducible first | exact HB.out | apply below_alloc | apply pw_below_drewN | apply below_drew1 | refine below_set ?_ GE163.out) | exact HB.out)⟩
          · rw [if_neg c4] at H
            exact absurd H (by simp)
        · rw [if_neg c3] at H
          have c3b0 : decide (x3_1 < (l0.length : Int)) = false := decide_eq_false c3
          clear c3
          obtain rfl := Option.some.inj H
          go_wp2
          go_ret
          exact ⟨by first | rfl | (simp [errW_none, errW_some] <;> rfl) | (simp [*, errW_none, errW_some] <;> rfl), by repeat (first | (with_reducible first | exact HB.out | apply below_alloc | apply pw_below_drewN | apply below_drew1) | exact HB.out)⟩

end Go.Proofs.Ytcnckfhibmlioaa.PFa
