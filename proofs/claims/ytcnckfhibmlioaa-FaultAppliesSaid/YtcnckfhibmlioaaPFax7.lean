-- Printed for this claim by this session's turned copy of the print (wip/tools/xprint.sh)
import Derived.Test.YtcnckfhibmlioaaPFax0
import Derived.Test.YtcnckfhibmlioaaPFax3
import Derived.Test.YtcnckfhibmlioaaPFax4
import Derived.Test.YtcnckfhibmlioaaPFax5
import Derived.Test.YtcnckfhibmlioaaPFax6
namespace Go.Proofs.Ytcnckfhibmlioaa.PFa
open Go.RowKit Go.Proofs.YtcnckfhibmlioaaW.PrintWords Go.Proofs.YtcnckfhibmlioaaW.PrintLast Go.Proofs.YtcnckfhibmlioaaW.PrintMore
attribute [local go_sem] max2_int min2_int max_two min_two max_three min_three max_four min_four   -- for this text's walks alone
set_option linter.unusedVariables false
set_option linter.unusedSimpArgs false

/-! ### fault_Apply: function 20 -/
section
open Go.Proofs.Ytcnckfhibmlioaa.Ob
theorem wrap_eq (n : Int) : IntKind.i64.wrap n = wrap64 n := by rw [IntKind.wrap_i64, wrap64]
/-- The reason of a panic of the program's own. -/
def why (c : Int) : List PanicEntry := [{ v := .iface 99 (.int .i64 c), recovered := false }]
theorem must_ok (w : World) : Calls Try.prog 53 #[.int .i64 0] w fun e w' => e = .returned (.tuple #[]) ∧ w = w' := by
  go_enter Try.func53, Try.ntmps53
  go_wp2
  go_end0
  exact ⟨rfl, rfl⟩
theorem must_no (c : Int) (h : c ≠ 0) (w : World) : Calls Try.prog 53 #[.int .i64 c] w fun e w' => e = .panicked (why c) ∧ w = w' := by
  have h1 : (c == 0) = false := beq_eq_false_iff_ne.mpr h
  have h2 : (c != 0) = true := bne_iff_ne.mpr h
  clear h
  go_enter Try.func53, Try.ntmps53
  go_wp2
  exact ⟨rfl, rfl, rfl⟩
theorem run_assert99 (c : Int) (w : World) : (Instr.typeAssert (.iface 99 (.int .i64 c)) 20 99 true).run Try.prog w = .ok (.tuple #[.int .i64 c, .bool true]) w := by
  unfold Instr.typeAssert
  simp only [Sem.run_bind, run_underlying Try.underlying99, Result.andThen_ok]
  rfl
theorem catch_panicking (c : Int) (w : World) :
    CallsD Try.prog 66 #[] (.panicking (why c)) w fun e u' w' => e = .returned (.tuple #[]) ∧ u' = .panicking [{ v := .iface 99 (.int .i64 c), recovered := true }] ∧ w' = w := by
  have ha := run_assert99 c
  refine callsD_of_wpS Try.func66 rfl fun c₀ cs hu => ?_
  apply wpS_seq
  apply wpS_region
  simp [wpOpsS, go_sem, recoverD, hu, Try.ntmps66, Exit.thenS, why]
  apply wpS_seq
  apply wpS_region
  simp [wpOpsS, go_sem, Exit.thenS, Array.replicate]
  refine wpS_cond (t := true) (by simp [Act.eval]) ?_
  simp only [if_true]
  apply wpS_seq
  apply wpS_region
  simp [wpOpsS, go_sem, Exit.thenS, ha]
  apply wpS_seq
  apply wpS_region
  simp [wpOpsS, go_sem, Exit.thenS]
  refine wpS_cond (t := false) (by simp [Act.eval]) ?_
  simp only [Bool.false_eq_true, if_false]
  refine wpS_of_wp (wp_skip ?_)
  simp [bodyPostS, results, Try.results66]
theorem catch_idle (w : World) : CallsD Try.prog 66 #[] .returning w fun e u' w' => e = .returned (.tuple #[]) ∧ u' = .returning ∧ w' = w := by
  refine callsD_of_wpS Try.func66 rfl fun c₀ cs hu => ?_
  apply wpS_seq
  apply wpS_region
  simp [wpOpsS, go_sem, recoverD, hu, Try.ntmps66, Exit.thenS]
  apply wpS_seq
  apply wpS_region
  simp [wpOpsS, go_sem, Exit.thenS, Array.replicate]
  refine wpS_cond (t := false) (by simp [Act.eval]) ?_
  simp only [Bool.false_eq_true, if_false]
  refine wpS_of_wp (wp_skip ?_)
  cases c₀
  simp_all [bodyPostS, results, Try.results66]
theorem try_ret (K : FuncId) (cap : Array Value) (w : World) (R : World → Prop) (hk : ∀ w, (callFunc K cap).run Try.prog w = .ok (.enter K cap) w) (h : Calls Try.prog K cap w fun e w' => e = .returned (.tuple #[]) ∧ R w') : Calls Try.prog 50 #[.func (.func K) #[] cap] w fun e w' => e = .returned (.tuple #[]) ∧ R w' := by
  have HH := Aside0.mk h
  clear h
  go_enter_defers Try.func50, Try.ntmps50
  go_wp2_with fail
  refine HH.out.mono ?_
  rintro e w1 ⟨rfl, hr⟩
  go_wp2_with fail
  refine leaves_cons (f := 66) (args := #[]) (by simp) (by simp [go_sem]) ?_
  refine (catch_idle _).mono ?_
  rintro e u' w'' ⟨rfl, rfl, rfl⟩
  simp [Leaves, settle, results, Try.results50, go_sem]
  exact hr
theorem try_panic (K : FuncId) (cap : Array Value) (w : World) (R : World → Prop) (hk : ∀ w, (callFunc K cap).run Try.prog w = .ok (.enter K cap) w) (c : Int) (h : Calls Try.prog K cap w fun e w' => e = .panicked (why c) ∧ R w') : Calls Try.prog 50 #[.func (.func K) #[] cap] w fun e w' => e = .returned (.tuple #[]) ∧ R w' := by
  have HH := Aside0.mk h
  clear h
  go_enter_defers Try.func50, Try.ntmps50
  go_wp2_with fail
  refine HH.out.mono ?_
  rintro e w1 ⟨rfl, hr⟩
  show bodyPostD Try.prog Try.f50 _ (Exit.panic _) _ _
  refine leaves_cons (f := 66) (args := #[]) (by simp) (by simp [go_sem]) ?_
  refine (catch_panicking c _).mono ?_
  rintro e u' w'' ⟨rfl, rfl, rfl⟩
  simp [Leaves, settle, results, Try.results50, go_sem]
  exact hr
set_option maxHeartbeats 2000000 in
set_option maxRecDepth 100000 in
theorem shift1_ok (k : Nat) (b0 b1 b2 g off : Nat) (s ta by_ t : Int) (cs : Array Value) (w : World) (h0 : Blk w b0 84 #[.pointer (some ⟨g, off, none⟩)]) (h1 : Blk w b1 3 #[.int .i64 ta]) (h2 : Blk w b2 3 #[.int .i64 by_]) (hg : Blk w g 38 cs) (hs : cs[off]? = some (.int .u64 s))
    (ht : stamp_Time.f k s (wrap64 (3900000000000000000 + ta)) = some (t, 0)) (n0 : b0 ≠ g) (n2 : b2 ≠ g) (v : Int) (ho : stamp_Of.f k (wrap64 (t + by_)) = some v) :
    Calls Try.prog 65 #[.pointer (some ⟨b0, 0, none⟩), .pointer (some ⟨b1, 0, none⟩), .pointer (some ⟨b2, 0, none⟩)] w fun e w' => e = .returned (.tuple #[]) ∧ Blk w' g 38 (cs.setIfInBounds off (.int .u64 v)) ∧ Grew w w' (some g) := by
  have q0 := h0.cell 0 (v := .pointer (some ⟨g, off, none⟩)) rfl
  have q1 := h1.cell 0 (v := .int .i64 ta) rfl
  have q2 := h2.cell 0 (v := .int .i64 by_) rfl
  have qs := hg.cell off hs
  have qf := hg.frozen off
  have H0 := Aside0.mk h0
  have H1 := Aside0.mk h1
  have H2 := Aside0.mk h2
  have HG := Aside0.mk hg
  rw [← wrap_eq] at ht
  have HT := Aside0.mk ht
  rw [← wrap_eq] at ho
  have HO := Aside0.mk ho
  have N0 := Aside0.mk n0
  have N2 := Aside0.mk n2
  clear ho n0 n2
  clear h0 h1 h2 hg ht hs
  go_enter Try.func65, Try.ntmps65
  go_wp2_with fail
  go_region_held3 (fun w' => w'.cell? ⟨b0, 0, none⟩ = some (.pointer (some ⟨g, off, none⟩)) ∧ w'.cell? ⟨g, off, none⟩ = some (.int .u64 s) ∧ w'.cell? ⟨b1, 0, none⟩ = some (.int .i64 ta)) (first | (with_reducible exact ⟨q0, qs, q1⟩) | exact ⟨q0, qs, q1⟩) ((go_at_call 26; (with_reducible refine (stamp_Time.calls k s _ t 0 _ HT.out).mono ?_); rintro e w2 ⟨rfl, hb⟩; obtain ⟨nq, rfl⟩ := hb))
  go_wp2_with (go_at_call 53; (with_reducible refine (must_ok _).mono ?_); rintro e w_ ⟨rfl, rfl⟩)
  go_region_held3 (fun w' => w'.cell? ⟨b0, 0, none⟩ = some (.pointer (some ⟨g, off, none⟩)) ∧ w'.cell? ⟨b2, 0, none⟩ = some (.int .i64 by_)) (first | (with_reducible exact ⟨q0, q2⟩) | exact ⟨q0, q2⟩ | exact ⟨(H0.out.far (grew_setCell _ g off _) N0.out).cell 0 rfl, (H2.out.far (grew_setCell _ g off _) N2.out).cell 0 rfl⟩) ((go_at_call 25; (with_reducible refine (stamp_Of.calls k _ v _ HO.out).mono ?_); rintro e w2 ⟨rfl, hb⟩; obtain ⟨nr, rfl⟩ := hb))
  all_goals (go_wp2_with fail)
  all_goals go_end0
  all_goals exact ⟨rfl, (blk_drawn HG.out _).put off _ rfl, (Grew.drew _ _ _).then_row (grew_setCell _ _ _ _)⟩
set_option maxHeartbeats 2000000 in
set_option maxRecDepth 100000 in
theorem shift1_no (k : Nat) (b0 b1 b2 g off : Nat) (s ta by_ t e0 : Int) (cs : Array Value) (w : World) (h0 : Blk w b0 84 #[.pointer (some ⟨g, off, none⟩)]) (h1 : Blk w b1 3 #[.int .i64 ta]) (h2 : Blk w b2 3 #[.int .i64 by_]) (hg : Blk w g 38 cs) (hs : cs[off]? = some (.int .u64 s))
    (ht : stamp_Time.f k s (wrap64 (3900000000000000000 + ta)) = some (t, e0)) (he : e0 ≠ 0) :
    Calls Try.prog 65 #[.pointer (some ⟨b0, 0, none⟩), .pointer (some ⟨b1, 0, none⟩), .pointer (some ⟨b2, 0, none⟩)] w fun e w' => e = .panicked (why e0) ∧ Grew w w' none := by
  have q0 := h0.cell 0 (v := .pointer (some ⟨g, off, none⟩)) rfl
  have q1 := h1.cell 0 (v := .int .i64 ta) rfl
  have q2 := h2.cell 0 (v := .int .i64 by_) rfl
  have qs := hg.cell off hs
  have qf := hg.frozen off
  have H0 := Aside0.mk h0
  have H1 := Aside0.mk h1
  have H2 := Aside0.mk h2
  have HG := Aside0.mk hg
  rw [← wrap_eq] at ht
  have HT := Aside0.mk ht
  have HE := Aside0.mk he
  clear he
  clear h0 h1 h2 hg ht hs
  go_enter Try.func65, Try.ntmps65
  go_wp2_with fail
  go_region_held3 (fun w' => w'.cell? ⟨b0, 0, none⟩ = some (.pointer (some ⟨g, off, none⟩)) ∧ w'.cell? ⟨g, off, none⟩ = some (.int .u64 s) ∧ w'.cell? ⟨b1, 0, none⟩ = some (.int .i64 ta)) (first | (with_reducible exact ⟨q0, qs, q1⟩) | exact ⟨q0, qs, q1⟩) ((go_at_call 26; (with_reducible refine (stamp_Time.calls k s _ t e0 _ HT.out).mono ?_); rintro e w2 ⟨rfl, hb⟩; obtain ⟨nq, rfl⟩ := hb))
  go_wp2_with (go_at_call 53; (with_reducible refine (must_no e0 HE.out _).mono ?_); rintro e w_ ⟨rfl, rfl⟩)
  exact ⟨rfl, rfl, Grew.drew _ _ _⟩
set_option maxHeartbeats 2000000 in
set_option maxRecDepth 100000 in
theorem shift_ok (k : Nat) (g off : Nat) (s ta by_ t : Int) (cs : Array Value) (w : World) (hg : Blk w g 38 cs) (hs : cs[off]? = some (.int .u64 s))
    (ht : stamp_Time.f k s (wrap64 (3900000000000000000 + ta)) = some (t, 0)) (v : Int) (ho : stamp_Of.f k (wrap64 (t + by_)) = some v) :
    Calls Try.prog 49 #[.pointer (some ⟨g, off, none⟩), .int .i64 ta, .int .i64 by_] w fun e w' => e = .returned (.tuple #[]) ∧ Blk w' g 38 (cs.setIfInBounds off (.int .u64 v)) ∧ Grew w w' (some g) := by
  have hmf : ∀ (fn : Fn) (first cap : Array Value) (w : World), (Instr.makeFunc fn first cap).run Try.prog w = .ok (.func fn first cap) w := fun _ _ _ _ => rfl
  have hk : ∀ (b0 b1 b2 : Nat) w, (callFunc 65 #[.pointer (some ⟨b0, 0, none⟩), .pointer (some ⟨b1, 0, none⟩), .pointer (some ⟨b2, 0, none⟩)]).run Try.prog w = .ok (.enter 65 #[.pointer (some ⟨b0, 0, none⟩), .pointer (some ⟨b1, 0, none⟩), .pointer (some ⟨b2, 0, none⟩)]) w := fun _ _ _ _ => by simp [go_sem]
  have HK := Aside0.mk hk
  have HG := Aside0.mk hg
  have HS := Aside0.mk hs
  have HT := Aside0.mk ht
  have GR : Aside0 (Grew w w (some g)) := Aside0.mk (Grew.refl w _)
  have HO := Aside0.mk ho
  clear ho
  clear hg hs ht hk
  go_enter Try.func49, Try.ntmps49
  go_wp2_with (first
    | ((with_reducible refine gate_dst (N := 3) rfl ?_); refine ev_box rfl (N := 3) rfl (cs := #[.pointer (some ⟨g, off, none⟩)]) (t := 84) ?hr ?_; (case hr => first | (go_simp; done) | (go_simp; rfl)); intro b0 hle wb0 hbox hgr; have Nb0 := Aside0.mk (Ne.symm (hgr.apart HG.out hle)); replace HG := Aside0.mk (hgr.blk HG.out); have Hb0 := Aside0.mk hbox; replace GR := Aside0.mk (GR.out.nxt hgr rfl rfl rfl rfl); clear hle hbox hgr)
    | ((with_reducible refine gate_dst (N := 4) rfl ?_); refine ev_box rfl (N := 4) rfl (cs := #[.int .i64 ta]) (t := 3) ?hr ?_; (case hr => first | (go_simp; done) | (go_simp; rfl)); intro b1 hle wb1 hbox hgr; replace Hb0 := Aside0.mk (hgr.blk Hb0.out); have Nb1 := Aside0.mk (Ne.symm (hgr.apart HG.out hle)); replace HG := Aside0.mk (hgr.blk HG.out); have Hb1 := Aside0.mk hbox; replace GR := Aside0.mk (GR.out.nxt hgr rfl rfl rfl rfl); clear hle hbox hgr)
    | ((with_reducible refine gate_dst (N := 5) rfl ?_); refine ev_box rfl (N := 5) rfl (cs := #[.int .i64 by_]) (t := 3) ?hr ?_; (case hr => first | (go_simp; done) | (go_simp; rfl)); intro b2 hle wb2 hbox hgr; replace Hb0 := Aside0.mk (hgr.blk Hb0.out); replace Hb1 := Aside0.mk (hgr.blk Hb1.out); have Nb2 := Aside0.mk (Ne.symm (hgr.apart HG.out hle)); replace HG := Aside0.mk (hgr.blk HG.out); have Hb2 := Aside0.mk hbox; replace GR := Aside0.mk (GR.out.nxt hgr rfl rfl rfl rfl); clear hle hbox hgr)
    | (go_at_call 50; (with_reducible refine (try_ret 65 _ _ (fun w' => Blk w' g 38 (cs.setIfInBounds off (.int .u64 v)) ∧ Grew w w' (some g)) (HK.out _ _ _) ((shift1_ok k b0 b1 b2 g off s ta by_ t cs _ Hb0.out Hb1.out Hb2.out HG.out HS.out HT.out Nb0.out Nb2.out v HO.out).mono fun e w' h => ⟨h.1, h.2.1, GR.out.nxtRow h.2.2 rfl rfl rfl rfl⟩)).mono ?_); rintro e w5 ⟨rfl, hr⟩; have RR := Aside0.mk hr; clear hr))
  go_end0
  exact ⟨rfl, RR.out.1, RR.out.2⟩
set_option maxHeartbeats 2000000 in
set_option maxRecDepth 100000 in
theorem shift_no (k : Nat) (g off : Nat) (s ta by_ t e0 : Int) (cs : Array Value) (w : World) (hg : Blk w g 38 cs) (hs : cs[off]? = some (.int .u64 s))
    (ht : stamp_Time.f k s (wrap64 (3900000000000000000 + ta)) = some (t, e0)) (he : e0 ≠ 0) :
    Calls Try.prog 49 #[.pointer (some ⟨g, off, none⟩), .int .i64 ta, .int .i64 by_] w fun e w' => e = .returned (.tuple #[]) ∧ Blk w' g 38 cs ∧ Grew w w' (some g) := by
  have hmf : ∀ (fn : Fn) (first cap : Array Value) (w : World), (Instr.makeFunc fn first cap).run Try.prog w = .ok (.func fn first cap) w := fun _ _ _ _ => rfl
  have hk : ∀ (b0 b1 b2 : Nat) w, (callFunc 65 #[.pointer (some ⟨b0, 0, none⟩), .pointer (some ⟨b1, 0, none⟩), .pointer (some ⟨b2, 0, none⟩)]).run Try.prog w = .ok (.enter 65 #[.pointer (some ⟨b0, 0, none⟩), .pointer (some ⟨b1, 0, none⟩), .pointer (some ⟨b2, 0, none⟩)]) w := fun _ _ _ _ => by simp [go_sem]
  have HK := Aside0.mk hk
  have HG := Aside0.mk hg
  have HS := Aside0.mk hs
  have HT := Aside0.mk ht
  have GR : Aside0 (Grew w w (some g)) := Aside0.mk (Grew.refl w _)
  have HE := Aside0.mk he
  clear he
  clear hg hs ht hk
  go_enter Try.func49, Try.ntmps49
  go_wp2_with (first
    | ((with_reducible refine gate_dst (N := 3) rfl ?_); refine ev_box rfl (N := 3) rfl (cs := #[.pointer (some ⟨g, off, none⟩)]) (t := 84) ?hr ?_; (case hr => first | (go_simp; done) | (go_simp; rfl)); intro b0 hle wb0 hbox hgr; have Nb0 := Aside0.mk (Ne.symm (hgr.apart HG.out hle)); replace HG := Aside0.mk (hgr.blk HG.out); have Hb0 := Aside0.mk hbox; replace GR := Aside0.mk (GR.out.nxt hgr rfl rfl rfl rfl); clear hle hbox hgr)
    | ((with_reducible refine gate_dst (N := 4) rfl ?_); refine ev_box rfl (N := 4) rfl (cs := #[.int .i64 ta]) (t := 3) ?hr ?_; (case hr => first | (go_simp; done) | (go_simp; rfl)); intro b1 hle wb1 hbox hgr; replace Hb0 := Aside0.mk (hgr.blk Hb0.out); have Nb1 := Aside0.mk (Ne.symm (hgr.apart HG.out hle)); replace HG := Aside0.mk (hgr.blk HG.out); have Hb1 := Aside0.mk hbox; replace GR := Aside0.mk (GR.out.nxt hgr rfl rfl rfl rfl); clear hle hbox hgr)
    | ((with_reducible refine gate_dst (N := 5) rfl ?_); refine ev_box rfl (N := 5) rfl (cs := #[.int .i64 by_]) (t := 3) ?hr ?_; (case hr => first | (go_simp; done) | (go_simp; rfl)); intro b2 hle wb2 hbox hgr; replace Hb0 := Aside0.mk (hgr.blk Hb0.out); replace Hb1 := Aside0.mk (hgr.blk Hb1.out); have Nb2 := Aside0.mk (Ne.symm (hgr.apart HG.out hle)); replace HG := Aside0.mk (hgr.blk HG.out); have Hb2 := Aside0.mk hbox; replace GR := Aside0.mk (GR.out.nxt hgr rfl rfl rfl rfl); clear hle hbox hgr)
    | (go_at_call 50; (with_reducible refine (try_panic 65 _ _ (fun w' => Blk w' g 38 cs ∧ Grew w w' (some g)) (HK.out _ _ _) e0 ((shift1_no k b0 b1 b2 g off s ta by_ t e0 cs _ Hb0.out Hb1.out Hb2.out HG.out HS.out HT.out HE.out).mono fun e w' h => ⟨h.1, HG.out.step h.2, GR.out.nxt h.2 rfl rfl rfl rfl⟩)).mono ?_); rintro e w5 ⟨rfl, hr⟩; have RR := Aside0.mk hr; clear hr))
  go_end0
  exact ⟨rfl, RR.out.1, RR.out.2⟩
/-- A reply as it is sent. -/
structure Fg where
  dr : Bool
  p0 : Int
  p1 : Int
  p2 : Int
  p3 : Int
  p4 : Int
  p5 : Int
  p6 : Int
  p7 : Int
  p8 : Int
  p9 : Int
  p10 : Int
  p11 : Int
  p12 : Int
  lo : Int
  hi : Int
  hd : Int
def Fg.v (x : Fg) : Array Value := #[.bool x.dr, .int .i64 x.p0, .int .i64 x.p1, .int .i64 x.p2, .int .i64 x.p3, .int .i64 x.p4, .int .i64 x.p5, .int .u32 x.p6, .int .u32 x.p7, .int .u32 x.p8, .int .u64 x.p9, .int .u64 x.p10, .int .u64 x.p11, .int .u64 x.p12, .int .i64 x.lo, .int .i64 x.hi, .int .i64 x.hd]
/-- The middle of an interval, moved. -/
def midF (lo hi by_ : Int) : Int := wrap64 (wrap64 (wrap64 (lo / 2 + hi / 2) + bits BinOp.and IntKind.i64 (bits BinOp.and IntKind.i64 lo hi) 1) + by_)
set_option maxHeartbeats 2000000 in
set_option maxRecDepth 100000 in
theorem narrow1_bad1 (b0 b1 g : Nat) (x : Fg) (by_ : Int) (w : World) (h0 : Blk w b0 90 #[.pointer (some ⟨g, 14, none⟩)]) (h1 : Blk w b1 3 #[.int .i64 by_]) (hg : Blk w g 38 x.v) (c : Int) (hc : drift_Check.f x.lo x.hi = some c) (he : c ≠ 0) :
    Calls Try.prog 68 #[.pointer (some ⟨b0, 0, none⟩), .pointer (some ⟨b1, 0, none⟩)] w fun e w' => e = .panicked (why c) ∧ Grew w w' none := by
  have hu35 := Try.underlying35
  have q0 := h0.cell 0 (v := .pointer (some ⟨g, 14, none⟩)) rfl
  have q1 := h1.cell 0 (v := .int .i64 by_) rfl
  have q14 := hg.cell 14 (v := .int .i64 x.lo) rfl
  have q15 := hg.cell 15 (v := .int .i64 x.hi) rfl
  have H0 := Aside0.mk h0
  have H1 := Aside0.mk h1
  have HG := Aside0.mk hg
  have HC := Aside0.mk hc
  have HE := Aside0.mk he
  clear he
  have GR : Aside0 (Grew w w none) := Aside0.mk (Grew.refl w _)
  clear h0 h1 hg hc
  go_enter Try.func68, Try.ntmps68
  go_wp2_with (first
    | (go_at_call 27; (with_reducible refine (drift_Check.calls x.lo x.hi c _ HC.out).mono ?_); rintro e w2 ⟨rfl, hb⟩; have hgr := Grew.below (row := none) hb; clear hb; replace GR := Aside0.mk (GR.out.nxt hgr rfl rfl rfl rfl); replace H0 := Aside0.mk (hgr.blk H0.out); replace H1 := Aside0.mk (hgr.blk H1.out); replace HG := Aside0.mk (hgr.blk HG.out); have q0' := lcell hgr q0; have q1' := lcell hgr q1; have q14' := lcell hgr q14; have q15' := lcell hgr q15; clear q0 q1 q14 q15 hgr)
    | (go_at_call 53; (with_reducible refine (must_no c HE.out _).mono ?_); rintro e w_ ⟨rfl, rfl⟩))
  exact ⟨rfl, rfl, GR.out⟩
set_option maxHeartbeats 2000000 in
set_option maxRecDepth 100000 in
theorem narrow1_bad2 (b0 b1 g : Nat) (x : Fg) (by_ : Int) (w : World) (h0 : Blk w b0 90 #[.pointer (some ⟨g, 14, none⟩)]) (h1 : Blk w b1 3 #[.int .i64 by_]) (hg : Blk w g 38 x.v) (hc : drift_Check.f x.lo x.hi = some 0) (c : Int) (hd : drift_Check.f (midF x.lo x.hi by_) (midF x.lo x.hi by_) = some c) (he : c ≠ 0) :
    Calls Try.prog 68 #[.pointer (some ⟨b0, 0, none⟩), .pointer (some ⟨b1, 0, none⟩)] w fun e w' => e = .panicked (why c) ∧ Grew w w' none := by
  have hu35 := Try.underlying35
  have q0 := h0.cell 0 (v := .pointer (some ⟨g, 14, none⟩)) rfl
  have q1 := h1.cell 0 (v := .int .i64 by_) rfl
  have q14 := hg.cell 14 (v := .int .i64 x.lo) rfl
  have q15 := hg.cell 15 (v := .int .i64 x.hi) rfl
  have H0 := Aside0.mk h0
  have H1 := Aside0.mk h1
  have HG := Aside0.mk hg
  have HC := Aside0.mk hc
  have HE := Aside0.mk he
  clear he
  obtain ⟨m, hm⟩ : ∃ m, m = midF x.lo x.hi by_ := ⟨_, rfl⟩
  rw [← hm] at hd
  have HD := Aside0.mk hd
  unfold midF at hm
  have HM := Aside0.mk hm
  clear hd hm
  have GR : Aside0 (Grew w w none) := Aside0.mk (Grew.refl w _)
  clear h0 h1 hg hc
  go_enter Try.func68, Try.ntmps68
  go_wp2_with (first
    | (go_at_call 27; (with_reducible refine (drift_Check.calls x.lo x.hi 0 _ HC.out).mono ?_); rintro e w2 ⟨rfl, hb⟩; have hgr := Grew.below (row := none) hb; clear hb; replace GR := Aside0.mk (GR.out.nxt hgr rfl rfl rfl rfl); replace H0 := Aside0.mk (hgr.blk H0.out); replace H1 := Aside0.mk (hgr.blk H1.out); replace HG := Aside0.mk (hgr.blk HG.out); have q0' := lcell hgr q0; have q1' := lcell hgr q1; have q14' := lcell hgr q14; have q15' := lcell hgr q15; clear q0 q1 q14 q15 hgr)
    | (go_at_call 53; (with_reducible refine (must_ok _).mono ?_); rintro e w_ ⟨rfl, rfl⟩))
  go_quiet (fail)
  go_wp2_with (first
    | ((with_reducible refine gate_dst (N := 3) rfl ?_); refine ev_box rfl (N := 3) rfl (cs := #[.int .i64 0, .int .i64 0]) (t := 35) ?hr ?_; (case hr => first | (go_simp; done) | (go_simp; rfl)); intro gm hle w3 hbox hgr; have Lm := Aside0.mk (GR.out.young hgr rfl hle); have Ngm := Aside0.mk (hgr.apart (blk_drawn HG.out nq) hle); have N0m := Aside0.mk (hgr.apart (blk_drawn H0.out nq) hle); replace HG := Aside0.mk (hgr.blk (blk_drawn HG.out nq)); replace H0 := Aside0.mk (hgr.blk (blk_drawn H0.out nq)); have Bm := Aside0.mk hbox; replace GR := Aside0.mk (GR.out.nxt hgr rfl rfl rfl rfl); clear hle hbox hgr q0' q1' q14' q15')
    | ((with_reducible refine gate_store (t := 35) (p := 3) (v := .tmp 35) rfl ?_); refine ev_store rfl rfl 35 (.tmp 3) (.tmp 35) rfl (g := gm) (t := 35) (old := ?_) #[.int .i64 m, .int .i64 m] ?hx ?hy ?hb ?hi ?ho ?h1 ?_; (case hx => rfl); (case hy => rw [HM.out]; first | rfl | (go_simp; done) | (go_simp; rfl)); (case hb => exact Bm.out); (case hi => kernel_rfl); (case ho => rfl); (case h1 => simp [Value.oneCell']); intro w4 hbox hgr; clear Bm; have Bm := Aside0.mk hbox; replace HG := Aside0.mk (hgr.blkFar HG.out Ngm.out); replace H0 := Aside0.mk (hgr.blkFar H0.out N0m.out); replace GR := Aside0.mk (GR.out.nxtOwn hgr Lm.out rfl rfl rfl rfl); have m0 := Bm.out.cell 0 (v := .int .i64 m) rfl; have m1 := Bm.out.cell 1 (v := .int .i64 m) rfl; clear hbox hgr)
    | (go_at_call 27; (with_reducible refine (drift_Check.calls m m c _ HD.out).mono ?_); rintro e w5 ⟨rfl, hb⟩; have hgr := Grew.below (row := none) hb; clear hb; replace GR := Aside0.mk (GR.out.nxt hgr rfl rfl rfl rfl); replace H0 := Aside0.mk (hgr.blk H0.out); replace HG := Aside0.mk (hgr.blk HG.out); replace Bm := Aside0.mk (hgr.blk Bm.out); clear m0 m1 hgr; have m0 := Bm.out.cell 0 (v := .int .i64 m) rfl; have m1 := Bm.out.cell 1 (v := .int .i64 m) rfl; have q0 := H0.out.cell 0 (v := .pointer (some ⟨g, 14, none⟩)) rfl)
    | (go_at_call 53; (with_reducible refine (must_no c HE.out _).mono ?_); rintro e w_ ⟨rfl, rfl⟩))
  exact ⟨rfl, rfl, GR.out⟩
set_option maxHeartbeats 2000000 in
set_option maxRecDepth 100000 in
theorem narrow1_ok (b0 b1 g : Nat) (x : Fg) (by_ : Int) (w : World) (h0 : Blk w b0 90 #[.pointer (some ⟨g, 14, none⟩)]) (h1 : Blk w b1 3 #[.int .i64 by_]) (hg : Blk w g 38 x.v) (hc : drift_Check.f x.lo x.hi = some 0) (hd : drift_Check.f (midF x.lo x.hi by_) (midF x.lo x.hi by_) = some 0) :
    Calls Try.prog 68 #[.pointer (some ⟨b0, 0, none⟩), .pointer (some ⟨b1, 0, none⟩)] w fun e w' => e = .returned (.tuple #[]) ∧ Blk w' g 38 ({ x with lo := midF x.lo x.hi by_, hi := midF x.lo x.hi by_ } : Fg).v ∧ Grew w w' (some g) := by
  have hu35 := Try.underlying35
  have q0 := h0.cell 0 (v := .pointer (some ⟨g, 14, none⟩)) rfl
  have q1 := h1.cell 0 (v := .int .i64 by_) rfl
  have q14 := hg.cell 14 (v := .int .i64 x.lo) rfl
  have q15 := hg.cell 15 (v := .int .i64 x.hi) rfl
  have H0 := Aside0.mk h0
  have H1 := Aside0.mk h1
  have HG := Aside0.mk hg
  have HC := Aside0.mk hc
  obtain ⟨m, hm⟩ : ∃ m, m = midF x.lo x.hi by_ := ⟨_, rfl⟩
  rw [← hm] at hd
  have HD := Aside0.mk hd
  unfold midF at hm
  have HM := Aside0.mk hm
  clear hd hm
  have GR : Aside0 (Grew w w (some g)) := Aside0.mk (Grew.refl w _)
  clear h0 h1 hg hc
  go_enter Try.func68, Try.ntmps68
  go_wp2_with (first
    | (go_at_call 27; (with_reducible refine (drift_Check.calls x.lo x.hi 0 _ HC.out).mono ?_); rintro e w2 ⟨rfl, hb⟩; have hgr := Grew.below (row := none) hb; clear hb; replace GR := Aside0.mk (GR.out.nxt hgr rfl rfl rfl rfl); replace H0 := Aside0.mk (hgr.blk H0.out); replace H1 := Aside0.mk (hgr.blk H1.out); replace HG := Aside0.mk (hgr.blk HG.out); have q0' := lcell hgr q0; have q1' := lcell hgr q1; have q14' := lcell hgr q14; have q15' := lcell hgr q15; clear q0 q1 q14 q15 hgr)
    | (go_at_call 53; (with_reducible refine (must_ok _).mono ?_); rintro e w_ ⟨rfl, rfl⟩))
  go_quiet (fail)
  go_wp2_with (first
    | ((with_reducible refine gate_dst (N := 3) rfl ?_); refine ev_box rfl (N := 3) rfl (cs := #[.int .i64 0, .int .i64 0]) (t := 35) ?hr ?_; (case hr => first | (go_simp; done) | (go_simp; rfl)); intro gm hle w3 hbox hgr; have Lm := Aside0.mk (GR.out.young hgr rfl hle); have Ngm := Aside0.mk (hgr.apart (blk_drawn HG.out nq) hle); have N0m := Aside0.mk (hgr.apart (blk_drawn H0.out nq) hle); replace HG := Aside0.mk (hgr.blk (blk_drawn HG.out nq)); replace H0 := Aside0.mk (hgr.blk (blk_drawn H0.out nq)); have Bm := Aside0.mk hbox; replace GR := Aside0.mk (GR.out.nxt hgr rfl rfl rfl rfl); clear hle hbox hgr q0' q1' q14' q15')
    | ((with_reducible refine gate_store (t := 35) (p := 3) (v := .tmp 35) rfl ?_); refine ev_store rfl rfl 35 (.tmp 3) (.tmp 35) rfl (g := gm) (t := 35) (old := ?_) #[.int .i64 m, .int .i64 m] ?hx ?hy ?hb ?hi ?ho ?h1 ?_; (case hx => rfl); (case hy => rw [HM.out]; first | rfl | (go_simp; done) | (go_simp; rfl)); (case hb => exact Bm.out); (case hi => kernel_rfl); (case ho => rfl); (case h1 => simp [Value.oneCell']); intro w4 hbox hgr; clear Bm; have Bm := Aside0.mk hbox; replace HG := Aside0.mk (hgr.blkFar HG.out Ngm.out); replace H0 := Aside0.mk (hgr.blkFar H0.out N0m.out); replace GR := Aside0.mk (GR.out.nxtOwn hgr Lm.out rfl rfl rfl rfl); have m0 := Bm.out.cell 0 (v := .int .i64 m) rfl; have m1 := Bm.out.cell 1 (v := .int .i64 m) rfl; clear hbox hgr)
    | (go_at_call 27; (with_reducible refine (drift_Check.calls m m 0 _ HD.out).mono ?_); rintro e w5 ⟨rfl, hb⟩; have hgr := Grew.below (row := none) hb; clear hb; replace GR := Aside0.mk (GR.out.nxt hgr rfl rfl rfl rfl); replace H0 := Aside0.mk (hgr.blk H0.out); replace HG := Aside0.mk (hgr.blk HG.out); replace Bm := Aside0.mk (hgr.blk Bm.out); clear m0 m1 hgr; have m0 := Bm.out.cell 0 (v := .int .i64 m) rfl; have m1 := Bm.out.cell 1 (v := .int .i64 m) rfl; have q0 := H0.out.cell 0 (v := .pointer (some ⟨g, 14, none⟩)) rfl)
    | (go_at_call 53; (with_reducible refine (must_ok _).mono ?_); rintro e w_ ⟨rfl, rfl⟩)
    | ((with_reducible refine gate_store (t := 35) (p := 41) (v := .tmp 40) rfl ?_); refine ev_put rfl rfl 35 (.tmp 41) (.tmp 40) rfl (g := g) (off := 14) (t := 38) (old := ?_) ({ x with lo := m, hi := m } : Fg).v [.int .i64 m, .int .i64 m] (.agg #[.int .i64 m, .int .i64 m]) ?hx ?hy ?hu ?hb ?hi ?hold ?h1 ?he ?_; (case hx => first | rfl | (go_simp; done) | (go_simp; rfl)); (case hy => first | rfl | (go_simp; done) | (go_simp; rfl)); (case hu => rfl); (case hb => exact HG.out); (case hi => kernel_rfl); (case hold => exact (by decide : 14 + 2 ≤ 17)); (case h1 => simp [Value.oneCell']); (case he => rfl); intro w6 hbox hgr; clear HG; have HG := Aside0.mk hbox; replace GR := Aside0.mk (GR.out.nxtRow hgr rfl rfl rfl rfl); clear hbox hgr))
  go_end0
  have e : m = midF x.lo x.hi by_ := HM.out
  rw [← e]
  exact ⟨rfl, HG.out, GR.out⟩
set_option maxHeartbeats 2000000 in
set_option maxRecDepth 100000 in
theorem narrow_bad1 (g : Nat) (x : Fg) (by_ : Int) (w : World) (hg : Blk w g 38 x.v) (c : Int) (hc : drift_Check.f x.lo x.hi = some c) (he : c ≠ 0) :
    Calls Try.prog 54 #[.pointer (some ⟨g, 14, none⟩), .int .i64 by_] w fun e w' => e = .returned (.tuple #[]) ∧ Blk w' g 38 x.v ∧ Grew w w' (some g) := by
  have hmf : ∀ (fn : Fn) (first cap : Array Value) (w : World), (Instr.makeFunc fn first cap).run Try.prog w = .ok (.func fn first cap) w := fun _ _ _ _ => rfl
  have hk : ∀ (b0 b1 : Nat) w, (callFunc 68 #[.pointer (some ⟨b0, 0, none⟩), .pointer (some ⟨b1, 0, none⟩)]).run Try.prog w = .ok (.enter 68 #[.pointer (some ⟨b0, 0, none⟩), .pointer (some ⟨b1, 0, none⟩)]) w := fun _ _ _ => by simp [go_sem]
  have HK := Aside0.mk hk
  have HG := Aside0.mk hg
  have GR : Aside0 (Grew w w (some g)) := Aside0.mk (Grew.refl w _)
  have Ahc := Aside0.mk hc
  clear hc
  have Ahe := Aside0.mk he
  clear he
  clear hg hk
  go_enter Try.func54, Try.ntmps54
  go_wp2_with (first
    | ((with_reducible refine gate_dst (N := 2) rfl ?_); refine ev_box rfl (N := 2) rfl (cs := #[.pointer (some ⟨g, 14, none⟩)]) (t := 90) ?hr ?_; (case hr => first | (go_simp; done) | (go_simp; rfl)); intro b0 hle wb0 hbox hgr; have Nb0 := Aside0.mk (Ne.symm (hgr.apart HG.out hle)); replace HG := Aside0.mk (hgr.blk HG.out); have Hb0 := Aside0.mk hbox; replace GR := Aside0.mk (GR.out.nxt hgr rfl rfl rfl rfl); clear hle hbox hgr)
    | ((with_reducible refine gate_dst (N := 3) rfl ?_); refine ev_box rfl (N := 3) rfl (cs := #[.int .i64 by_]) (t := 3) ?hr ?_; (case hr => first | (go_simp; done) | (go_simp; rfl)); intro b1 hle wb1 hbox hgr; replace Hb0 := Aside0.mk (hgr.blk Hb0.out); have Nb1 := Aside0.mk (Ne.symm (hgr.apart HG.out hle)); replace HG := Aside0.mk (hgr.blk HG.out); have Hb1 := Aside0.mk hbox; replace GR := Aside0.mk (GR.out.nxt hgr rfl rfl rfl rfl); clear hle hbox hgr)
    | (go_at_call 50; (with_reducible refine (try_panic 68 _ _ (fun w' => Blk w' g 38 x.v ∧ Grew w w' (some g)) (HK.out _ _) c ((narrow1_bad1 b0 b1 g x by_ _ Hb0.out Hb1.out HG.out c Ahc.out Ahe.out).mono fun e w' h => ⟨h.1, HG.out.step h.2, GR.out.nxt h.2 rfl rfl rfl rfl⟩)).mono ?_); rintro e w5 ⟨rfl, hr⟩; have RR := Aside0.mk hr; clear hr))
  go_end0
  exact ⟨rfl, RR.out.1, RR.out.2⟩
set_option maxHeartbeats 2000000 in
set_option maxRecDepth 100000 in
theorem narrow_bad2 (g : Nat) (x : Fg) (by_ : Int) (w : World) (hg : Blk w g 38 x.v) (hc : drift_Check.f x.lo x.hi = some 0) (c : Int) (hd : drift_Check.f (midF x.lo x.hi by_) (midF x.lo x.hi by_) = some c) (he : c ≠ 0) :
    Calls Try.prog 54 #[.pointer (some ⟨g, 14, none⟩), .int .i64 by_] w fun e w' => e = .returned (.tuple #[]) ∧ Blk w' g 38 x.v ∧ Grew w w' (some g) := by
  have hmf : ∀ (fn : Fn) (first cap : Array Value) (w : World), (Instr.makeFunc fn first cap).run Try.prog w = .ok (.func fn first cap) w := fun _ _ _ _ => rfl
  have hk : ∀ (b0 b1 : Nat) w, (callFunc 68 #[.pointer (some ⟨b0, 0, none⟩), .pointer (some ⟨b1, 0, none⟩)]).run Try.prog w = .ok (.enter 68 #[.pointer (some ⟨b0, 0, none⟩), .pointer (some ⟨b1, 0, none⟩)]) w := fun _ _ _ => by simp [go_sem]
  have HK := Aside0.mk hk
  have HG := Aside0.mk hg
  have GR : Aside0 (Grew w w (some g)) := Aside0.mk (Grew.refl w _)
  have Ahc := Aside0.mk hc
  clear hc
  have Ahd := Aside0.mk hd
  clear hd
  have Ahe := Aside0.mk he
  clear he
  clear hg hk
  go_enter Try.func54, Try.ntmps54
  go_wp2_with (first
    | ((with_reducible refine gate_dst (N := 2) rfl ?_); refine ev_box rfl (N := 2) rfl (cs := #[.pointer (some ⟨g, 14, none⟩)]) (t := 90) ?hr ?_; (case hr => first | (go_simp; done) | (go_simp; rfl)); intro b0 hle wb0 hbox hgr; have Nb0 := Aside0.mk (Ne.symm (hgr.apart HG.out hle)); replace HG := Aside0.mk (hgr.blk HG.out); have Hb0 := Aside0.mk hbox; replace GR := Aside0.mk (GR.out.nxt hgr rfl rfl rfl rfl); clear hle hbox hgr)
    | ((with_reducible refine gate_dst (N := 3) rfl ?_); refine ev_box rfl (N := 3) rfl (cs := #[.int .i64 by_]) (t := 3) ?hr ?_; (case hr => first | (go_simp; done) | (go_simp; rfl)); intro b1 hle wb1 hbox hgr; replace Hb0 := Aside0.mk (hgr.blk Hb0.out); have Nb1 := Aside0.mk (Ne.symm (hgr.apart HG.out hle)); replace HG := Aside0.mk (hgr.blk HG.out); have Hb1 := Aside0.mk hbox; replace GR := Aside0.mk (GR.out.nxt hgr rfl rfl rfl rfl); clear hle hbox hgr)
    | (go_at_call 50; (with_reducible refine (try_panic 68 _ _ (fun w' => Blk w' g 38 x.v ∧ Grew w w' (some g)) (HK.out _ _) c ((narrow1_bad2 b0 b1 g x by_ _ Hb0.out Hb1.out HG.out Ahc.out c Ahd.out Ahe.out).mono fun e w' h => ⟨h.1, HG.out.step h.2, GR.out.nxt h.2 rfl rfl rfl rfl⟩)).mono ?_); rintro e w5 ⟨rfl, hr⟩; have RR := Aside0.mk hr; clear hr))
  go_end0
  exact ⟨rfl, RR.out.1, RR.out.2⟩
set_option maxHeartbeats 2000000 in
set_option maxRecDepth 100000 in
theorem narrow_ok (g : Nat) (x : Fg) (by_ : Int) (w : World) (hg : Blk w g 38 x.v) (hc : drift_Check.f x.lo x.hi = some 0) (hd : drift_Check.f (midF x.lo x.hi by_) (midF x.lo x.hi by_) = some 0) :
    Calls Try.prog 54 #[.pointer (some ⟨g, 14, none⟩), .int .i64 by_] w fun e w' => e = .returned (.tuple #[]) ∧ Blk w' g 38 ({ x with lo := midF x.lo x.hi by_, hi := midF x.lo x.hi by_ } : Fg).v ∧ Grew w w' (some g) := by
  have hmf : ∀ (fn : Fn) (first cap : Array Value) (w : World), (Instr.makeFunc fn first cap).run Try.prog w = .ok (.func fn first cap) w := fun _ _ _ _ => rfl
  have hk : ∀ (b0 b1 : Nat) w, (callFunc 68 #[.pointer (some ⟨b0, 0, none⟩), .pointer (some ⟨b1, 0, none⟩)]).run Try.prog w = .ok (.enter 68 #[.pointer (some ⟨b0, 0, none⟩), .pointer (some ⟨b1, 0, none⟩)]) w := fun _ _ _ => by simp [go_sem]
  have HK := Aside0.mk hk
  have HG := Aside0.mk hg
  have GR : Aside0 (Grew w w (some g)) := Aside0.mk (Grew.refl w _)
  have Ahc := Aside0.mk hc
  clear hc
  have Ahd := Aside0.mk hd
  clear hd
  clear hg hk
  go_enter Try.func54, Try.ntmps54
  go_wp2_with (first
    | ((with_reducible refine gate_dst (N := 2) rfl ?_); refine ev_box rfl (N := 2) rfl (cs := #[.pointer (some ⟨g, 14, none⟩)]) (t := 90) ?hr ?_; (case hr => first | (go_simp; done) | (go_simp; rfl)); intro b0 hle wb0 hbox hgr; have Nb0 := Aside0.mk (Ne.symm (hgr.apart HG.out hle)); replace HG := Aside0.mk (hgr.blk HG.out); have Hb0 := Aside0.mk hbox; replace GR := Aside0.mk (GR.out.nxt hgr rfl rfl rfl rfl); clear hle hbox hgr)
    | ((with_reducible refine gate_dst (N := 3) rfl ?_); refine ev_box rfl (N := 3) rfl (cs := #[.int .i64 by_]) (t := 3) ?hr ?_; (case hr => first | (go_simp; done) | (go_simp; rfl)); intro b1 hle wb1 hbox hgr; replace Hb0 := Aside0.mk (hgr.blk Hb0.out); have Nb1 := Aside0.mk (Ne.symm (hgr.apart HG.out hle)); replace HG := Aside0.mk (hgr.blk HG.out); have Hb1 := Aside0.mk hbox; replace GR := Aside0.mk (GR.out.nxt hgr rfl rfl rfl rfl); clear hle hbox hgr)
    | (go_at_call 50; (with_reducible refine (try_ret 68 _ _ (fun w' => Blk w' g 38 ({ x with lo := midF x.lo x.hi by_, hi := midF x.lo x.hi by_ } : Fg).v ∧ Grew w w' (some g)) (HK.out _ _) ((narrow1_ok b0 b1 g x by_ _ Hb0.out Hb1.out HG.out Ahc.out Ahd.out).mono fun e w' h => ⟨h.1, h.2.1, GR.out.nxtRow h.2.2 rfl rfl rfl rfl⟩)).mono ?_); rintro e w5 ⟨rfl, hr⟩; have RR := Aside0.mk hr; clear hr))
  go_end0
  exact ⟨rfl, RR.out.1, RR.out.2⟩
set_option maxHeartbeats 2000000 in
set_option maxRecDepth 100000 in
theorem apply1_no (b0 b1 g : Nat) (x : Fg) (nd fr tw kd vl r1 r2 : Int) (w : World) (h0 : Blk w b0 65 #[.pointer (some ⟨g, 0, none⟩)]) (h1 : Blk w b1 46 #[.int .i64 nd, .int .i64 fr, .int .i64 tw, .int .i64 kd, .int .i64 vl]) (hg : Blk w g 38 x.v) (c : Int) (hs : drift_Shift.f x.lo x.hi vl = some (r1, r2, c)) (he : c ≠ 0) :
    Calls Try.prog 51 #[.pointer (some ⟨b0, 0, none⟩), .pointer (some ⟨b1, 0, none⟩)] w fun e w' => e = .panicked (why c) ∧ Grew w w' none := by
  have hu35 := Try.underlying35
  have hu46 := Try.underlying46
  have hu38 := Try.underlying38
  have q0 := h0.cell 0 (v := .pointer (some ⟨g, 0, none⟩)) rfl
  have q14 := hg.cell 14 (v := .int .i64 x.lo) rfl
  have q15 := hg.cell 15 (v := .int .i64 x.hi) rfl
  have q4 := h1.cell 4 (v := .int .i64 vl) rfl
  have H0 := Aside0.mk h0
  have H1 := Aside0.mk h1
  have HG := Aside0.mk hg
  have HS := Aside0.mk hs
  have HE := Aside0.mk he
  clear h0 h1 hg hs he
  go_enter Try.func51, Try.ntmps51
  go_wp2_with fail
  go_region_held3 (fun w' => w'.cell? ⟨b0, 0, none⟩ = some (.pointer (some ⟨g, 0, none⟩)) ∧ w'.cell? ⟨g, 14, none⟩ = some (.int .i64 x.lo) ∧ w'.cell? ⟨g, 15, none⟩ = some (.int .i64 x.hi) ∧ w'.cell? ⟨b1, 4, none⟩ = some (.int .i64 vl)) (first | ((with_reducible show (World.setCell _ _ _).cell? _ = _ ∧ _); exact ⟨(setsL_far (Nat.ne_of_lt H0.out.lt) [.int .i64 r1, .int .i64 r2] 0 w2 eH0).cell 0 rfl, (setsL_far (Nat.ne_of_lt HG.out.lt) [.int .i64 r1, .int .i64 r2] 0 w2 eHG).cell 14 rfl, (setsL_far (Nat.ne_of_lt HG.out.lt) [.int .i64 r1, .int .i64 r2] 0 w2 eHG).cell 15 rfl, (setsL_far (Nat.ne_of_lt H1.out.lt) [.int .i64 r1, .int .i64 r2] 0 w2 eH1).cell 4 rfl⟩) | (with_reducible exact ⟨q0, q14, q15, q4⟩) | (with_reducible exact ⟨k0, k14, k15, k4⟩) | ((with_reducible show (World.drew _).cell? _ = _ ∧ _); first | exact ⟨q0, q14, q15, q4⟩ | exact ⟨(blk_old H0.out _).cell 0 rfl, (blk_old HG.out _).cell 14 rfl, (blk_old HG.out _).cell 15 rfl, (blk_old H1.out _).cell 4 rfl⟩) | ((with_reducible show (World.alloc _ _).cell? _ = _ ∧ _); first | exact ⟨(blk_old eH0 _).cell 0 rfl, (blk_old eHG _).cell 14 rfl, (blk_old eHG _).cell 15 rfl, (blk_old eH1 _).cell 4 rfl⟩ | exact ⟨(blk_old H0.out _).cell 0 rfl, (blk_old HG.out _).cell 14 rfl, (blk_old HG.out _).cell 15 rfl, (blk_old H1.out _).cell 4 rfl⟩)) (first | ((go_at_call 52; (with_reducible refine (drift_Shift.calls x.lo x.hi vl r1 r2 c _ HS.out).mono ?_); rintro e w2 ⟨rfl, hb⟩); have hgr := Grew.below (row := none) hb; clear hb; have eH0 : Blk w2 b0 65 #[.pointer (some ⟨g, 0, none⟩)] := hgr.blk (by first | exact H0.out | exact blk_drawn H0.out _ | exact blk_old H0.out _ | exact blk_old (blk_drawn H0.out _) _); have eH1 : Blk w2 b1 46 #[.int .i64 nd, .int .i64 fr, .int .i64 tw, .int .i64 kd, .int .i64 vl] := hgr.blk (by first | exact H1.out | exact blk_drawn H1.out _ | exact blk_old H1.out _ | exact blk_old (blk_drawn H1.out _) _); have eHG : Blk w2 g 38 x.v := hgr.blk (by first | exact HG.out | exact blk_drawn HG.out _ | exact blk_old HG.out _ | exact blk_old (blk_drawn HG.out _) _); have k0 := eH0.cell 0 (v := .pointer (some ⟨g, 0, none⟩)) rfl; have k14 := eHG.cell 14 (v := .int .i64 x.lo) rfl; have k15 := eHG.cell 15 (v := .int .i64 x.hi) rfl; have k4 := eH1.cell 4 (v := .int .i64 vl) rfl; have G2 : Grew w w2 none := (by first | exact (Grew.refl w none).nxt hgr rfl rfl rfl rfl | exact (grew_alloc w (.cells #[.int .i64 0, .int .i64 0] 35 (0, 0)) none).nxt hgr rfl rfl rfl rfl); (try (have hx : Blk w2 w.heap.size 35 #[.int .i64 0, .int .i64 0] := hgr.blk (by exact blk_new w _); have cx0 := hx.cell 0 (v := .int .i64 0) rfl; have fx0 := hx.frozen 0; have cx1 := hx.cell 1 (v := .int .i64 0) rfl; have fx1 := hx.frozen 1))))
  all_goals first
    | (have hbh := setsL_full [.int .i64 r1, .int .i64 r2] w2 _ hx rfl; have nH0 := Nat.ne_of_lt H0.out.lt; have bH0 := setsL_far nH0 [.int .i64 r1, .int .i64 r2] 0 w2 eH0; have nH1 := Nat.ne_of_lt H1.out.lt; have bH1 := setsL_far nH1 [.int .i64 r1, .int .i64 r2] 0 w2 eH1; have nHG := Nat.ne_of_lt HG.out.lt; have bHG := setsL_far nHG [.int .i64 r1, .int .i64 r2] 0 w2 eHG; have hgg := setsL_grew (Nat.le_refl _) [.int .i64 r1, .int .i64 r2] 0 w2 G2; simp only [setsL, Nat.reduceAdd] at hbh hgg bH0 bH1 bHG; generalize ((w2.setCell ⟨w.heap.size, 0, none⟩ (.int .i64 r1)).setCell ⟨w.heap.size, 1, none⟩ (.int .i64 r2)) = wz at hbh hgg bH0 bH1 bHG ⊢; generalize w.heap.size = gh at hbh nH0 nH1 nHG ⊢)
    | (have hbh : Blk (w2.alloc (.cells #[.int .i64 r1, .int .i64 r2] 35 (0, 0))) w2.heap.size 35 #[.int .i64 r1, .int .i64 r2] := blk_new w2 _; have nH0 := Nat.ne_of_lt (Blk.lt eH0); have bH0 := blk_old eH0 (.cells #[.int .i64 r1, .int .i64 r2] 35 (0, 0)); have nH1 := Nat.ne_of_lt (Blk.lt eH1); have bH1 := blk_old eH1 (.cells #[.int .i64 r1, .int .i64 r2] 35 (0, 0)); have nHG := Nat.ne_of_lt (Blk.lt eHG); have bHG := blk_old eHG (.cells #[.int .i64 r1, .int .i64 r2] 35 (0, 0)); have hgg : Grew w (w2.alloc (.cells #[.int .i64 r1, .int .i64 r2] 35 (0, 0))) none := G2.then_none (grew_alloc _ _ _); generalize w2.alloc (.cells #[.int .i64 r1, .int .i64 r2] 35 (0, 0)) = wz at hbh hgg bH0 bH1 bHG ⊢; generalize w2.heap.size = gh at hbh nH0 nH1 nHG ⊢)
  all_goals (go_wp2_with (first
    | (go_at_call 53; (with_reducible refine (must_no c HE.out _).mono ?_); rintro e w_ ⟨rfl, rfl⟩)))
  all_goals exact ⟨rfl, rfl, hgg⟩
set_option maxHeartbeats 2000000 in
set_option maxRecDepth 100000 in
theorem apply1_ok (b0 b1 g : Nat) (x : Fg) (nd fr tw kd vl r1 r2 : Int) (w : World) (h0 : Blk w b0 65 #[.pointer (some ⟨g, 0, none⟩)]) (h1 : Blk w b1 46 #[.int .i64 nd, .int .i64 fr, .int .i64 tw, .int .i64 kd, .int .i64 vl]) (hg : Blk w g 38 x.v) (hs : drift_Shift.f x.lo x.hi vl = some (r1, r2, 0)) (n0 : b0 ≠ g) :
    Calls Try.prog 51 #[.pointer (some ⟨b0, 0, none⟩), .pointer (some ⟨b1, 0, none⟩)] w fun e w' => e = .returned (.tuple #[]) ∧ Blk w' g 38 ({ x with lo := r1, hi := r2 } : Fg).v ∧ Grew w w' (some g) := by
  have hu35 := Try.underlying35
  have hu46 := Try.underlying46
  have hu38 := Try.underlying38
  have q0 := h0.cell 0 (v := .pointer (some ⟨g, 0, none⟩)) rfl
  have q14 := hg.cell 14 (v := .int .i64 x.lo) rfl
  have q15 := hg.cell 15 (v := .int .i64 x.hi) rfl
  have q4 := h1.cell 4 (v := .int .i64 vl) rfl
  have H0 := Aside0.mk h0
  have H1 := Aside0.mk h1
  have HG := Aside0.mk hg
  have HS := Aside0.mk hs
  have N0 := Aside0.mk n0
  clear h0 h1 hg hs n0
  go_enter Try.func51, Try.ntmps51
  go_wp2_with fail
  go_region_held3 (fun w' => w'.cell? ⟨b0, 0, none⟩ = some (.pointer (some ⟨g, 0, none⟩)) ∧ w'.cell? ⟨g, 14, none⟩ = some (.int .i64 x.lo) ∧ w'.cell? ⟨g, 15, none⟩ = some (.int .i64 x.hi) ∧ w'.cell? ⟨b1, 4, none⟩ = some (.int .i64 vl)) (first | ((with_reducible show (World.setCell _ _ _).cell? _ = _ ∧ _); exact ⟨(setsL_far (Nat.ne_of_lt H0.out.lt) [.int .i64 r1, .int .i64 r2] 0 w2 eH0).cell 0 rfl, (setsL_far (Nat.ne_of_lt HG.out.lt) [.int .i64 r1, .int .i64 r2] 0 w2 eHG).cell 14 rfl, (setsL_far (Nat.ne_of_lt HG.out.lt) [.int .i64 r1, .int .i64 r2] 0 w2 eHG).cell 15 rfl, (setsL_far (Nat.ne_of_lt H1.out.lt) [.int .i64 r1, .int .i64 r2] 0 w2 eH1).cell 4 rfl⟩) | (with_reducible exact ⟨q0, q14, q15, q4⟩) | (with_reducible exact ⟨k0, k14, k15, k4⟩) | ((with_reducible show (World.drew _).cell? _ = _ ∧ _); first | exact ⟨q0, q14, q15, q4⟩ | exact ⟨(blk_old H0.out _).cell 0 rfl, (blk_old HG.out _).cell 14 rfl, (blk_old HG.out _).cell 15 rfl, (blk_old H1.out _).cell 4 rfl⟩) | ((with_reducible show (World.alloc _ _).cell? _ = _ ∧ _); first | exact ⟨(blk_old eH0 _).cell 0 rfl, (blk_old eHG _).cell 14 rfl, (blk_old eHG _).cell 15 rfl, (blk_old eH1 _).cell 4 rfl⟩ | exact ⟨(blk_old H0.out _).cell 0 rfl, (blk_old HG.out _).cell 14 rfl, (blk_old HG.out _).cell 15 rfl, (blk_old H1.out _).cell 4 rfl⟩)) (first | ((go_at_call 52; (with_reducible refine (drift_Shift.calls x.lo x.hi vl r1 r2 0 _ HS.out).mono ?_); rintro e w2 ⟨rfl, hb⟩); have hgr := Grew.below (row := none) hb; clear hb; have eH0 : Blk w2 b0 65 #[.pointer (some ⟨g, 0, none⟩)] := hgr.blk (by first | exact H0.out | exact blk_drawn H0.out _ | exact blk_old H0.out _ | exact blk_old (blk_drawn H0.out _) _); have eH1 : Blk w2 b1 46 #[.int .i64 nd, .int .i64 fr, .int .i64 tw, .int .i64 kd, .int .i64 vl] := hgr.blk (by first | exact H1.out | exact blk_drawn H1.out _ | exact blk_old H1.out _ | exact blk_old (blk_drawn H1.out _) _); have eHG : Blk w2 g 38 x.v := hgr.blk (by first | exact HG.out | exact blk_drawn HG.out _ | exact blk_old HG.out _ | exact blk_old (blk_drawn HG.out _) _); have k0 := eH0.cell 0 (v := .pointer (some ⟨g, 0, none⟩)) rfl; have k14 := eHG.cell 14 (v := .int .i64 x.lo) rfl; have k15 := eHG.cell 15 (v := .int .i64 x.hi) rfl; have k4 := eH1.cell 4 (v := .int .i64 vl) rfl; have G2 : Grew w w2 none := (by first | exact (Grew.refl w none).nxt hgr rfl rfl rfl rfl | exact (grew_alloc w (.cells #[.int .i64 0, .int .i64 0] 35 (0, 0)) none).nxt hgr rfl rfl rfl rfl); (try (have hx : Blk w2 w.heap.size 35 #[.int .i64 0, .int .i64 0] := hgr.blk (by exact blk_new w _); have cx0 := hx.cell 0 (v := .int .i64 0) rfl; have fx0 := hx.frozen 0; have cx1 := hx.cell 1 (v := .int .i64 0) rfl; have fx1 := hx.frozen 1))))
  all_goals first
    | (have hbh := setsL_full [.int .i64 r1, .int .i64 r2] w2 _ hx rfl; have nH0 := Nat.ne_of_lt H0.out.lt; have bH0 := setsL_far nH0 [.int .i64 r1, .int .i64 r2] 0 w2 eH0; have nH1 := Nat.ne_of_lt H1.out.lt; have bH1 := setsL_far nH1 [.int .i64 r1, .int .i64 r2] 0 w2 eH1; have nHG := Nat.ne_of_lt HG.out.lt; have bHG := setsL_far nHG [.int .i64 r1, .int .i64 r2] 0 w2 eHG; have hgg := setsL_grew (Nat.le_refl _) [.int .i64 r1, .int .i64 r2] 0 w2 G2; simp only [setsL, Nat.reduceAdd] at hbh hgg bH0 bH1 bHG; generalize ((w2.setCell ⟨w.heap.size, 0, none⟩ (.int .i64 r1)).setCell ⟨w.heap.size, 1, none⟩ (.int .i64 r2)) = wz at hbh hgg bH0 bH1 bHG ⊢; generalize w.heap.size = gh at hbh nH0 nH1 nHG ⊢)
    | (have hbh : Blk (w2.alloc (.cells #[.int .i64 r1, .int .i64 r2] 35 (0, 0))) w2.heap.size 35 #[.int .i64 r1, .int .i64 r2] := blk_new w2 _; have nH0 := Nat.ne_of_lt (Blk.lt eH0); have bH0 := blk_old eH0 (.cells #[.int .i64 r1, .int .i64 r2] 35 (0, 0)); have nH1 := Nat.ne_of_lt (Blk.lt eH1); have bH1 := blk_old eH1 (.cells #[.int .i64 r1, .int .i64 r2] 35 (0, 0)); have nHG := Nat.ne_of_lt (Blk.lt eHG); have bHG := blk_old eHG (.cells #[.int .i64 r1, .int .i64 r2] 35 (0, 0)); have hgg : Grew w (w2.alloc (.cells #[.int .i64 r1, .int .i64 r2] 35 (0, 0))) none := G2.then_none (grew_alloc _ _ _); generalize w2.alloc (.cells #[.int .i64 r1, .int .i64 r2] 35 (0, 0)) = wz at hbh hgg bH0 bH1 bHG ⊢; generalize w2.heap.size = gh at hbh nH0 nH1 nHG ⊢)
  all_goals (have z0 := hbh.cell 0 (v := .int .i64 r1) rfl; have z1 := hbh.cell 1 (v := .int .i64 r2) rfl; have zp := bH0.cell 0 (v := .pointer (some ⟨g, 0, none⟩)) rfl)
  all_goals (go_wp2_with (first
    | (go_at_call 53; (with_reducible refine (must_ok _).mono ?_); rintro e w_ ⟨rfl, rfl⟩)
    | ((with_reducible refine gate_store (t := 35) (p := 19) (v := .tmp 17) rfl ?_); refine ev_put rfl rfl 35 (.tmp 19) (.tmp 17) rfl (g := g) (off := 14) (t := 38) (old := ?_) ({ x with lo := r1, hi := r2 } : Fg).v [.int .i64 r1, .int .i64 r2] (.agg #[.int .i64 r1, .int .i64 r2]) ?hx ?hy ?hu ?hb ?hi ?hold ?h1 ?he ?_; (case hx => first | rfl | (go_simp; done) | (go_simp; rfl)); (case hy => first | rfl | (go_simp; done) | (go_simp; rfl)); (case hu => rfl); (case hb => exact bHG); (case hi => kernel_rfl); (case hold => exact (by decide : 14 + 2 ≤ 17)); (case h1 => simp [Value.oneCell']); (case he => rfl); intro w6 hbox hgr; have HG6 := Aside0.mk hbox; have GR6 := Aside0.mk ((show Grew w wz (some g) from ⟨⟨hgg.out.os, hgg.out.tape, hgg.out.output, hgg.out.size, fun k hk _ => hgg.out.block k hk (by simp)⟩⟩).nxtRow hgr rfl rfl rfl rfl); clear hbox hgr)))
  all_goals go_end0
  all_goals exact ⟨rfl, HG6.out, GR6.out⟩
theorem blk_drew1 {w : World} {g : Nat} {t : TypeId} {cs : Array Value} (h : Blk w g t cs) : Blk w.drew g t cs := h
/-- A timestamp, moved (or as it was, if it cannot be). -/
def svF (k : Nat) (s ta by_ : Int) : Option Int := (stamp_Time.f k s (wrap64 (3900000000000000000 + ta))).bind fun te => if te.2 = 0 then stamp_Of.f k (wrap64 (te.1 + by_)) else some s
/-- An interval's error. -/
def chkI (lo hi : Int) : Int := if lo > hi then 3 else if lo < (-8000000000000000000) then 3 else if hi > 8000000000000000000 then 3 else 0
theorem chkI_f (lo hi : Int) : drift_Check.f lo hi = some (chkI lo hi) := by unfold drift_Check.f chkI; (split <;> first | rfl | (split <;> first | rfl | (split <;> rfl)))
def narX (x : Fg) (by_ : Int) : Fg := if chkI x.lo x.hi = 0 ∧ chkI (midF x.lo x.hi by_) (midF x.lo x.hi by_) = 0 then { x with lo := midF x.lo x.hi by_, hi := midF x.lo x.hi by_ } else x
def shiX (x : Fg) (r1 r2 c : Int) : Fg := if c = 0 then { x with lo := r1, hi := r2 } else x
/-- What a fault makes of a reply. -/
def aplF (k : Nat) (x : Fg) (kd vl ta : Int) : Option Fg :=
  if kd = 1 then some { x with dr := true }
  else if kd = 2 then (svF k x.p11 ta vl).bind fun a => (svF k x.p12 ta vl).bind fun b => (drift_Shift.f x.lo x.hi vl).bind fun r => some (shiX { x with p11 := a, p12 := b } r.1 r.2.1 r.2.2)
  else if kd = 3 then some (narX x vl)
  else if kd = 4 then some { x with p0 := 3, p3 := 0 }
  else if kd = 5 then some { x with p3 := vl }
  else if kd = 6 then some { x with p0 := vl }
  else if kd = 7 then some { x with p10 := bits .xor .u64 x.p10 1 }
  else if kd = 8 then (ntpmsg_Code.f k ⟨#[82, 65, 84, 69]⟩).bind fun c => some { x with p0 := 3, p3 := 0, p8 := c.1 }
  else if kd = 9 then some { x with hd := wrap64 (x.hd + vl) }
  else none
theorem svF_mono (k : Nat) (s ta by_ : Int) : LeO (svF k s ta by_) (svF (k + 1) s ta by_) := by
  intro r h
  unfold svF at h ⊢
  obtain ⟨te, h1, h2⟩ := Option.bind_eq_some_iff.mp h
  rw [stamp_Time.mono _ _ k te h1, Option.bind_some]
  by_cases e : te.2 = 0
  · rw [if_pos e] at h2 ⊢; exact stamp_Of.mono _ k r h2
  · rw [if_neg e] at h2 ⊢; exact h2
theorem aplF_mono (k : Nat) (x : Fg) (kd vl ta : Int) : LeO (aplF k x kd vl ta) (aplF (k + 1) x kd vl ta) := by
  intro r h
  unfold aplF at h ⊢
  by_cases e1 : kd = 1
  · rw [if_pos e1] at h ⊢; exact h
  rw [if_neg e1] at h ⊢
  by_cases e2 : kd = 2
  · rw [if_pos e2] at h ⊢
    obtain ⟨a, h1, h⟩ := Option.bind_eq_some_iff.mp h
    obtain ⟨b, h2, h⟩ := Option.bind_eq_some_iff.mp h
    rw [svF_mono k _ _ _ a h1, Option.bind_some, svF_mono k _ _ _ b h2, Option.bind_some]; exact h
  rw [if_neg e2] at h ⊢
  by_cases e3 : kd = 3
  · rw [if_pos e3] at h ⊢; exact h
  rw [if_neg e3] at h ⊢
  by_cases e4 : kd = 4
  · rw [if_pos e4] at h ⊢; exact h
  rw [if_neg e4] at h ⊢
  by_cases e5 : kd = 5
  · rw [if_pos e5] at h ⊢; exact h
  rw [if_neg e5] at h ⊢
  by_cases e6 : kd = 6
  · rw [if_pos e6] at h ⊢; exact h
  rw [if_neg e6] at h ⊢
  by_cases e7 : kd = 7
  · rw [if_pos e7] at h ⊢; exact h
  rw [if_neg e7] at h ⊢
  by_cases e8 : kd = 8
  · rw [if_pos e8] at h ⊢
    obtain ⟨c, h1, h⟩ := Option.bind_eq_some_iff.mp h
    rw [ntpmsg_Code.mono _ k c h1, Option.bind_some]; exact h
  rw [if_neg e8] at h ⊢
  exact h
theorem shift_rec (k : Nat) (g : Nat) (x : Fg) (ta by_ v : Int) (w : World) (hg : Blk w g 38 x.v) (hv : svF k x.p11 ta by_ = some v) :
    Calls Try.prog 49 #[.pointer (some ⟨g, 12, none⟩), .int .i64 ta, .int .i64 by_] w fun e w' => e = .returned (.tuple #[]) ∧ Blk w' g 38 ({ x with p11 := v } : Fg).v ∧ Grew w w' (some g) := by
  unfold svF at hv
  obtain ⟨⟨t, e⟩, h1, h2⟩ := Option.bind_eq_some_iff.mp hv
  by_cases he : e = 0
  · subst he; rw [if_pos rfl] at h2
    exact shift_ok k g 12 x.p11 ta by_ t x.v w hg rfl h1 v h2
  · rw [if_neg he] at h2; cases h2
    exact shift_no k g 12 x.p11 ta by_ t e x.v w hg rfl h1 he
theorem shift_xmt (k : Nat) (g : Nat) (x : Fg) (ta by_ v : Int) (w : World) (hg : Blk w g 38 x.v) (hv : svF k x.p12 ta by_ = some v) :
    Calls Try.prog 49 #[.pointer (some ⟨g, 13, none⟩), .int .i64 ta, .int .i64 by_] w fun e w' => e = .returned (.tuple #[]) ∧ Blk w' g 38 ({ x with p12 := v } : Fg).v ∧ Grew w w' (some g) := by
  unfold svF at hv
  obtain ⟨⟨t, e⟩, h1, h2⟩ := Option.bind_eq_some_iff.mp hv
  by_cases he : e = 0
  · subst he; rw [if_pos rfl] at h2
    exact shift_ok k g 13 x.p12 ta by_ t x.v w hg rfl h1 v h2
  · rw [if_neg he] at h2; cases h2
    exact shift_no k g 13 x.p12 ta by_ t e x.v w hg rfl h1 he
theorem narrow_any (g : Nat) (x : Fg) (by_ : Int) (w : World) (hg : Blk w g 38 x.v) : Calls Try.prog 54 #[.pointer (some ⟨g, 14, none⟩), .int .i64 by_] w fun e w' => e = .returned (.tuple #[]) ∧ Blk w' g 38 (narX x by_).v ∧ Grew w w' (some g) := by
  unfold narX
  by_cases h1 : chkI x.lo x.hi = 0
  · by_cases h2 : chkI (midF x.lo x.hi by_) (midF x.lo x.hi by_) = 0
    · rw [if_pos ⟨h1, h2⟩]; exact narrow_ok g x by_ w hg (by rw [chkI_f, h1]) (by rw [chkI_f, h2])
    · rw [if_neg (fun e => h2 e.2)]; exact narrow_bad2 g x by_ w hg (by rw [chkI_f, h1]) _ (chkI_f _ _) h2
  · rw [if_neg (fun e => h1 e.1)]; exact narrow_bad1 g x by_ w hg _ (chkI_f _ _) h1
/-- The closure that moves the interval, tried. -/
theorem try_shift (b0 b1 g : Nat) (x : Fg) (nd fr tw kd vl r1 r2 c : Int) (w : World) (h0 : Blk w b0 65 #[.pointer (some ⟨g, 0, none⟩)]) (h1 : Blk w b1 46 #[.int .i64 nd, .int .i64 fr, .int .i64 tw, .int .i64 kd, .int .i64 vl]) (hg : Blk w g 38 x.v) (hs : drift_Shift.f x.lo x.hi vl = some (r1, r2, c)) (n0 : b0 ≠ g) :
    Calls Try.prog 50 #[.func (.func 51) #[] #[.pointer (some ⟨b0, 0, none⟩), .pointer (some ⟨b1, 0, none⟩)]] w fun e w' => e = .returned (.tuple #[]) ∧ Blk w' g 38 (shiX x r1 r2 c).v ∧ Grew w w' (some g) := by
  have hk : ∀ w, (callFunc 51 #[.pointer (some ⟨b0, 0, none⟩), .pointer (some ⟨b1, 0, none⟩)]).run Try.prog w = .ok (.enter 51 #[.pointer (some ⟨b0, 0, none⟩), .pointer (some ⟨b1, 0, none⟩)]) w := fun _ => by simp [go_sem]
  unfold shiX
  by_cases hc : c = 0
  · subst hc; rw [if_pos rfl]
    exact try_ret 51 _ w (fun w' => Blk w' g 38 ({ x with lo := r1, hi := r2 } : Fg).v ∧ Grew w w' (some g)) hk (apply1_ok b0 b1 g x nd fr tw kd vl r1 r2 w h0 h1 hg hs n0)
  · rw [if_neg hc]
    exact try_panic 51 _ w (fun w' => Blk w' g 38 x.v ∧ Grew w w' (some g)) hk c ((apply1_no b0 b1 g x nd fr tw kd vl r1 r2 w h0 h1 hg c hs hc).mono fun e w' h => ⟨h.1, hg.step h.2, ⟨⟨h.2.out.os, h.2.out.tape, h.2.out.output, h.2.out.size, fun k hk _ => h.2.out.block k hk (by simp)⟩⟩⟩)
set_option maxHeartbeats 4000000 in
set_option maxRecDepth 100000 in
theorem apply_1 (k g : Nat) (x : Fg) (nd fr tw vl ta : Int) (w : World) (hg : Blk w g 38 x.v) :
    Calls Try.prog 36 #[.pointer (some ⟨g, 0, none⟩), .agg #[.int .i64 nd, .int .i64 fr, .int .i64 tw, .int .i64 1, .int .i64 vl], .int .i64 ta] w fun e w' => e = .returned (.tuple #[]) ∧ Blk w' g 38 ({ x with dr := true } : Fg).v ∧ Grew w w' (some g) := by
  have hu35 := Try.underlying35
  have hu46 := Try.underlying46
  have hu38 := Try.underlying38
  have hu33 := Try.underlying33
  have hmf : ∀ (fn : Fn) (first cap : Array Value) (w : World), (Instr.makeFunc fn first cap).run Try.prog w = .ok (.func fn first cap) w := fun _ _ _ _ => rfl
  have HG := Aside0.mk hg
  have GR : Aside0 (Grew w w (some g)) := Aside0.mk (Grew.refl w _)
  clear hg
  go_enter Try.func36, Try.ntmps36
  go_wp2_with (first
    | ((with_reducible refine gate_dst (N := 3) rfl ?_); refine ev_box rfl (N := 3) rfl (cs := #[.pointer (some ⟨g, 0, none⟩)]) (t := 65) ?hr ?_; (case hr => first | (go_simp; done) | (go_simp; rfl)); intro b0 hle w3 hbox hgr; have N0 := Aside0.mk (Ne.symm (hgr.apart HG.out hle)); have L0 := Aside0.mk (GR.out.young hgr rfl hle); replace HG := Aside0.mk (hgr.blk HG.out); have H0 := Aside0.mk hbox; replace GR := Aside0.mk (GR.out.nxt hgr rfl rfl rfl rfl); clear hle hbox hgr)
    | ((with_reducible refine gate_dst (N := 4) rfl ?_); refine ev_box rfl (N := 4) rfl (cs := #[.int .i64 nd, .int .i64 fr, .int .i64 tw, .int .i64 1, .int .i64 vl]) (t := 46) ?hr ?_; (case hr => first | (go_simp; done) | (go_simp; rfl)); intro b1 hle w4 hbox hgr; have N1 := Aside0.mk (Ne.symm (hgr.apart HG.out hle)); replace HG := Aside0.mk (hgr.blk HG.out); replace H0 := Aside0.mk (hgr.blk H0.out); have H1 := Aside0.mk hbox; replace GR := Aside0.mk (GR.out.nxt hgr rfl rfl rfl rfl); clear hle hbox hgr; have y0 := HG.out.cell 0 (v := .bool x.dr) rfl; have f0 := HG.out.frozen 0; have x3 := H1.out.cell 3 (v := .int .i64 1) rfl; have x4 := H1.out.cell 4 (v := .int .i64 vl) rfl; have x0 := H0.out.cell 0 (v := .pointer (some ⟨g, 0, none⟩)) rfl))
  go_end0
  exact ⟨rfl, (HG.out.put 0 (.bool true) rfl), (GR.out.then_row (grew_setCell _ _ _ _))⟩
set_option maxHeartbeats 4000000 in
set_option maxRecDepth 100000 in
theorem apply_4 (k g : Nat) (x : Fg) (nd fr tw vl ta : Int) (w : World) (hg : Blk w g 38 x.v) :
    Calls Try.prog 36 #[.pointer (some ⟨g, 0, none⟩), .agg #[.int .i64 nd, .int .i64 fr, .int .i64 tw, .int .i64 4, .int .i64 vl], .int .i64 ta] w fun e w' => e = .returned (.tuple #[]) ∧ Blk w' g 38 ({ x with p0 := 3, p3 := 0 } : Fg).v ∧ Grew w w' (some g) := by
  have hu35 := Try.underlying35
  have hu46 := Try.underlying46
  have hu38 := Try.underlying38
  have hu33 := Try.underlying33
  have hmf : ∀ (fn : Fn) (first cap : Array Value) (w : World), (Instr.makeFunc fn first cap).run Try.prog w = .ok (.func fn first cap) w := fun _ _ _ _ => rfl
  have HG := Aside0.mk hg
  have GR : Aside0 (Grew w w (some g)) := Aside0.mk (Grew.refl w _)
  clear hg
  go_enter Try.func36, Try.ntmps36
  go_wp2_with (first
    | ((with_reducible refine gate_dst (N := 3) rfl ?_); refine ev_box rfl (N := 3) rfl (cs := #[.pointer (some ⟨g, 0, none⟩)]) (t := 65) ?hr ?_; (case hr => first | (go_simp; done) | (go_simp; rfl)); intro b0 hle w3 hbox hgr; have N0 := Aside0.mk (Ne.symm (hgr.apart HG.out hle)); have L0 := Aside0.mk (GR.out.young hgr rfl hle); replace HG := Aside0.mk (hgr.blk HG.out); have H0 := Aside0.mk hbox; replace GR := Aside0.mk (GR.out.nxt hgr rfl rfl rfl rfl); clear hle hbox hgr)
    | ((with_reducible refine gate_dst (N := 4) rfl ?_); refine ev_box rfl (N := 4) rfl (cs := #[.int .i64 nd, .int .i64 fr, .int .i64 tw, .int .i64 4, .int .i64 vl]) (t := 46) ?hr ?_; (case hr => first | (go_simp; done) | (go_simp; rfl)); intro b1 hle w4 hbox hgr; have N1 := Aside0.mk (Ne.symm (hgr.apart HG.out hle)); replace HG := Aside0.mk (hgr.blk HG.out); replace H0 := Aside0.mk (hgr.blk H0.out); have H1 := Aside0.mk hbox; replace GR := Aside0.mk (GR.out.nxt hgr rfl rfl rfl rfl); clear hle hbox hgr; have y1 := HG.out.cell 1 (v := .int .i64 x.p0) rfl; have f1 := HG.out.frozen 1; have y4 := HG.out.cell 4 (v := .int .i64 x.p3) rfl; have f4 := HG.out.frozen 4; have x3 := H1.out.cell 3 (v := .int .i64 4) rfl; have x4 := H1.out.cell 4 (v := .int .i64 vl) rfl; have x0 := H0.out.cell 0 (v := .pointer (some ⟨g, 0, none⟩)) rfl))
  go_end0
  exact ⟨rfl, ((HG.out.put 1 (.int .i64 3) rfl).put 4 (.int .i64 0) rfl), ((GR.out.then_row (grew_setCell _ _ _ _)).then_row (grew_setCell _ _ _ _))⟩
set_option maxHeartbeats 4000000 in
set_option maxRecDepth 100000 in
theorem apply_5 (k g : Nat) (x : Fg) (nd fr tw vl ta : Int) (w : World) (hg : Blk w g 38 x.v) :
    Calls Try.prog 36 #[.pointer (some ⟨g, 0, none⟩), .agg #[.int .i64 nd, .int .i64 fr, .int .i64 tw, .int .i64 5, .int .i64 vl], .int .i64 ta] w fun e w' => e = .returned (.tuple #[]) ∧ Blk w' g 38 ({ x with p3 := vl } : Fg).v ∧ Grew w w' (some g) := by
  have hu35 := Try.underlying35
  have hu46 := Try.underlying46
  have hu38 := Try.underlying38
  have hu33 := Try.underlying33
  have hmf : ∀ (fn : Fn) (first cap : Array Value) (w : World), (Instr.makeFunc fn first cap).run Try.prog w = .ok (.func fn first cap) w := fun _ _ _ _ => rfl
  have HG := Aside0.mk hg
  have GR : Aside0 (Grew w w (some g)) := Aside0.mk (Grew.refl w _)
  clear hg
  go_enter Try.func36, Try.ntmps36
  go_wp2_with (first
    | ((with_reducible refine gate_dst (N := 3) rfl ?_); refine ev_box rfl (N := 3) rfl (cs := #[.pointer (some ⟨g, 0, none⟩)]) (t := 65) ?hr ?_; (case hr => first | (go_simp; done) | (go_simp; rfl)); intro b0 hle w3 hbox hgr; have N0 := Aside0.mk (Ne.symm (hgr.apart HG.out hle)); have L0 := Aside0.mk (GR.out.young hgr rfl hle); replace HG := Aside0.mk (hgr.blk HG.out); have H0 := Aside0.mk hbox; replace GR := Aside0.mk (GR.out.nxt hgr rfl rfl rfl rfl); clear hle hbox hgr)
    | ((with_reducible refine gate_dst (N := 4) rfl ?_); refine ev_box rfl (N := 4) rfl (cs := #[.int .i64 nd, .int .i64 fr, .int .i64 tw, .int .i64 5, .int .i64 vl]) (t := 46) ?hr ?_; (case hr => first | (go_simp; done) | (go_simp; rfl)); intro b1 hle w4 hbox hgr; have N1 := Aside0.mk (Ne.symm (hgr.apart HG.out hle)); replace HG := Aside0.mk (hgr.blk HG.out); replace H0 := Aside0.mk (hgr.blk H0.out); have H1 := Aside0.mk hbox; replace GR := Aside0.mk (GR.out.nxt hgr rfl rfl rfl rfl); clear hle hbox hgr; have y4 := HG.out.cell 4 (v := .int .i64 x.p3) rfl; have f4 := HG.out.frozen 4; have x3 := H1.out.cell 3 (v := .int .i64 5) rfl; have x4 := H1.out.cell 4 (v := .int .i64 vl) rfl; have x0 := H0.out.cell 0 (v := .pointer (some ⟨g, 0, none⟩)) rfl))
  go_end0
  exact ⟨rfl, (HG.out.put 4 (.int .i64 vl) rfl), (GR.out.then_row (grew_setCell _ _ _ _))⟩
set_option maxHeartbeats 4000000 in
set_option maxRecDepth 100000 in
theorem apply_6 (k g : Nat) (x : Fg) (nd fr tw vl ta : Int) (w : World) (hg : Blk w g 38 x.v) :
    Calls Try.prog 36 #[.pointer (some ⟨g, 0, none⟩), .agg #[.int .i64 nd, .int .i64 fr, .int .i64 tw, .int .i64 6, .int .i64 vl], .int .i64 ta] w fun e w' => e = .returned (.tuple #[]) ∧ Blk w' g 38 ({ x with p0 := vl } : Fg).v ∧ Grew w w' (some g) := by
  have hu35 := Try.underlying35
  have hu46 := Try.underlying46
  have hu38 := Try.underlying38
  have hu33 := Try.underlying33
  have hmf : ∀ (fn : Fn) (first cap : Array Value) (w : World), (Instr.makeFunc fn first cap).run Try.prog w = .ok (.func fn first cap) w := fun _ _ _ _ => rfl
  have HG := Aside0.mk hg
  have GR : Aside0 (Grew w w (some g)) := Aside0.mk (Grew.refl w _)
  clear hg
  go_enter Try.func36, Try.ntmps36
  go_wp2_with (first
    | ((with_reducible refine gate_dst (N := 3) rfl ?_); refine ev_box rfl (N := 3) rfl (cs := #[.pointer (some ⟨g, 0, none⟩)]) (t := 65) ?hr ?_; (case hr => first | (go_simp; done) | (go_simp; rfl)); intro b0 hle w3 hbox hgr; have N0 := Aside0.mk (Ne.symm (hgr.apart HG.out hle)); have L0 := Aside0.mk (GR.out.young hgr rfl hle); replace HG := Aside0.mk (hgr.blk HG.out); have H0 := Aside0.mk hbox; replace GR := Aside0.mk (GR.out.nxt hgr rfl rfl rfl rfl); clear hle hbox hgr)
    | ((with_reducible refine gate_dst (N := 4) rfl ?_); refine ev_box rfl (N := 4) rfl (cs := #[.int .i64 nd, .int .i64 fr, .int .i64 tw, .int .i64 6, .int .i64 vl]) (t := 46) ?hr ?_; (case hr => first | (go_simp; done) | (go_simp; rfl)); intro b1 hle w4 hbox hgr; have N1 := Aside0.mk (Ne.symm (hgr.apart HG.out hle)); replace HG := Aside0.mk (hgr.blk HG.out); replace H0 := Aside0.mk (hgr.blk H0.out); have H1 := Aside0.mk hbox; replace GR := Aside0.mk (GR.out.nxt hgr rfl rfl rfl rfl); clear hle hbox hgr; have y1 := HG.out.cell 1 (v := .int .i64 x.p0) rfl; have f1 := HG.out.frozen 1; have x3 := H1.out.cell 3 (v := .int .i64 6) rfl; have x4 := H1.out.cell 4 (v := .int .i64 vl) rfl; have x0 := H0.out.cell 0 (v := .pointer (some ⟨g, 0, none⟩)) rfl))
  go_end0
  exact ⟨rfl, (HG.out.put 1 (.int .i64 vl) rfl), (GR.out.then_row (grew_setCell _ _ _ _))⟩
set_option maxHeartbeats 4000000 in
set_option maxRecDepth 100000 in
theorem apply_7 (k g : Nat) (x : Fg) (nd fr tw vl ta : Int) (w : World) (hg : Blk w g 38 x.v) :
    Calls Try.prog 36 #[.pointer (some ⟨g, 0, none⟩), .agg #[.int .i64 nd, .int .i64 fr, .int .i64 tw, .int .i64 7, .int .i64 vl], .int .i64 ta] w fun e w' => e = .returned (.tuple #[]) ∧ Blk w' g 38 ({ x with p10 := bits .xor .u64 x.p10 1 } : Fg).v ∧ Grew w w' (some g) := by
  have hu35 := Try.underlying35
  have hu46 := Try.underlying46
  have hu38 := Try.underlying38
  have hu33 := Try.underlying33
  have hmf : ∀ (fn : Fn) (first cap : Array Value) (w : World), (Instr.makeFunc fn first cap).run Try.prog w = .ok (.func fn first cap) w := fun _ _ _ _ => rfl
  have HG := Aside0.mk hg
  have GR : Aside0 (Grew w w (some g)) := Aside0.mk (Grew.refl w _)
  clear hg
  go_enter Try.func36, Try.ntmps36
  go_wp2_with (first
    | ((with_reducible refine gate_dst (N := 3) rfl ?_); refine ev_box rfl (N := 3) rfl (cs := #[.pointer (some ⟨g, 0, none⟩)]) (t := 65) ?hr ?_; (case hr => first | (go_simp; done) | (go_simp; rfl)); intro b0 hle w3 hbox hgr; have N0 := Aside0.mk (Ne.symm (hgr.apart HG.out hle)); have L0 := Aside0.mk (GR.out.young hgr rfl hle); replace HG := Aside0.mk (hgr.blk HG.out); have H0 := Aside0.mk hbox; replace GR := Aside0.mk (GR.out.nxt hgr rfl rfl rfl rfl); clear hle hbox hgr)
    | ((with_reducible refine gate_dst (N := 4) rfl ?_); refine ev_box rfl (N := 4) rfl (cs := #[.int .i64 nd, .int .i64 fr, .int .i64 tw, .int .i64 7, .int .i64 vl]) (t := 46) ?hr ?_; (case hr => first | (go_simp; done) | (go_simp; rfl)); intro b1 hle w4 hbox hgr; have N1 := Aside0.mk (Ne.symm (hgr.apart HG.out hle)); replace HG := Aside0.mk (hgr.blk HG.out); replace H0 := Aside0.mk (hgr.blk H0.out); have H1 := Aside0.mk hbox; replace GR := Aside0.mk (GR.out.nxt hgr rfl rfl rfl rfl); clear hle hbox hgr; have y11 := HG.out.cell 11 (v := .int .u64 x.p10) rfl; have f11 := HG.out.frozen 11; have x3 := H1.out.cell 3 (v := .int .i64 7) rfl; have x4 := H1.out.cell 4 (v := .int .i64 vl) rfl; have x0 := H0.out.cell 0 (v := .pointer (some ⟨g, 0, none⟩)) rfl))
  go_end0
  exact ⟨rfl, (HG.out.put 11 (.int .u64 (bits .xor .u64 x.p10 1)) rfl), (GR.out.then_row (grew_setCell _ _ _ _))⟩
set_option maxHeartbeats 4000000 in
set_option maxRecDepth 100000 in
theorem apply_8 (k g : Nat) (x : Fg) (nd fr tw vl ta : Int) (w : World) (hg : Blk w g 38 x.v) (c1 c2 : Int) (hc : ntpmsg_Code.f k ⟨#[82, 65, 84, 69]⟩ = some (c1, c2)) :
    Calls Try.prog 36 #[.pointer (some ⟨g, 0, none⟩), .agg #[.int .i64 nd, .int .i64 fr, .int .i64 tw, .int .i64 8, .int .i64 vl], .int .i64 ta] w fun e w' => e = .returned (.tuple #[]) ∧ Blk w' g 38 ({ x with p0 := 3, p3 := 0, p8 := c1 } : Fg).v ∧ Grew w w' (some g) := by
  have hu35 := Try.underlying35
  have hu46 := Try.underlying46
  have hu38 := Try.underlying38
  have hu33 := Try.underlying33
  have hmf : ∀ (fn : Fn) (first cap : Array Value) (w : World), (Instr.makeFunc fn first cap).run Try.prog w = .ok (.func fn first cap) w := fun _ _ _ _ => rfl
  have HG := Aside0.mk hg
  have GR : Aside0 (Grew w w (some g)) := Aside0.mk (Grew.refl w _)
  have HC := Aside0.mk hc
  clear hc
  clear hg
  go_enter Try.func36, Try.ntmps36
  go_wp2_with (first
    | ((with_reducible refine gate_dst (N := 3) rfl ?_); refine ev_box rfl (N := 3) rfl (cs := #[.pointer (some ⟨g, 0, none⟩)]) (t := 65) ?hr ?_; (case hr => first | (go_simp; done) | (go_simp; rfl)); intro b0 hle w3 hbox hgr; have N0 := Aside0.mk (Ne.symm (hgr.apart HG.out hle)); have L0 := Aside0.mk (GR.out.young hgr rfl hle); replace HG := Aside0.mk (hgr.blk HG.out); have H0 := Aside0.mk hbox; replace GR := Aside0.mk (GR.out.nxt hgr rfl rfl rfl rfl); clear hle hbox hgr)
    | ((with_reducible refine gate_dst (N := 4) rfl ?_); refine ev_box rfl (N := 4) rfl (cs := #[.int .i64 nd, .int .i64 fr, .int .i64 tw, .int .i64 8, .int .i64 vl]) (t := 46) ?hr ?_; (case hr => first | (go_simp; done) | (go_simp; rfl)); intro b1 hle w4 hbox hgr; have N1 := Aside0.mk (Ne.symm (hgr.apart HG.out hle)); replace HG := Aside0.mk (hgr.blk HG.out); replace H0 := Aside0.mk (hgr.blk H0.out); have H1 := Aside0.mk hbox; replace GR := Aside0.mk (GR.out.nxt hgr rfl rfl rfl rfl); clear hle hbox hgr; have y1 := HG.out.cell 1 (v := .int .i64 x.p0) rfl; have f1 := HG.out.frozen 1; have y4 := HG.out.cell 4 (v := .int .i64 x.p3) rfl; have f4 := HG.out.frozen 4; have y9 := HG.out.cell 9 (v := .int .u32 x.p8) rfl; have f9 := HG.out.frozen 9; have x3 := H1.out.cell 3 (v := .int .i64 8) rfl; have x4 := H1.out.cell 4 (v := .int .i64 vl) rfl; have x0 := H0.out.cell 0 (v := .pointer (some ⟨g, 0, none⟩)) rfl)
    | (go_at_call 55; (with_reducible refine (ntpmsg_Code.calls k _ c1 c2 _ HC.out).mono ?_); rintro e w5 ⟨rfl, hb⟩; have hgr := Grew.drawn0 hb; clear hb; replace HG := Aside0.mk (hgr.blk HG.out); replace GR := Aside0.mk (GR.out.nxt hgr rfl rfl rfl rfl); clear hgr y1 y4 y9 f1 f4 f9; have y1 := HG.out.cell 1 (v := .int .i64 x.p0) rfl; have f1 := HG.out.frozen 1; have y4 := HG.out.cell 4 (v := .int .i64 x.p3) rfl; have f4 := HG.out.frozen 4; have y9 := HG.out.cell 9 (v := .int .u32 x.p8) rfl; have f9 := HG.out.frozen 9))
  go_end0
  exact ⟨rfl, (((HG.out.put 1 (.int .i64 3) rfl).put 4 (.int .i64 0) rfl).put 9 (.int .u32 c1) rfl), (((GR.out.then_row (grew_setCell _ _ _ _)).then_row (grew_setCell _ _ _ _)).then_row (grew_setCell _ _ _ _))⟩
set_option maxHeartbeats 4000000 in
set_option maxRecDepth 100000 in
theorem apply_9 (k g : Nat) (x : Fg) (nd fr tw vl ta : Int) (w : World) (hg : Blk w g 38 x.v) :
    Calls Try.prog 36 #[.pointer (some ⟨g, 0, none⟩), .agg #[.int .i64 nd, .int .i64 fr, .int .i64 tw, .int .i64 9, .int .i64 vl], .int .i64 ta] w fun e w' => e = .returned (.tuple #[]) ∧ Blk w' g 38 ({ x with hd := wrap64 (x.hd + vl) } : Fg).v ∧ Grew w w' (some g) := by
  have hu35 := Try.underlying35
  have hu46 := Try.underlying46
  have hu38 := Try.underlying38
  have hu33 := Try.underlying33
  have hmf : ∀ (fn : Fn) (first cap : Array Value) (w : World), (Instr.makeFunc fn first cap).run Try.prog w = .ok (.func fn first cap) w := fun _ _ _ _ => rfl
  have HG := Aside0.mk hg
  have GR : Aside0 (Grew w w (some g)) := Aside0.mk (Grew.refl w _)
  clear hg
  go_enter Try.func36, Try.ntmps36
  go_wp2_with (first
    | ((with_reducible refine gate_dst (N := 3) rfl ?_); refine ev_box rfl (N := 3) rfl (cs := #[.pointer (some ⟨g, 0, none⟩)]) (t := 65) ?hr ?_; (case hr => first | (go_simp; done) | (go_simp; rfl)); intro b0 hle w3 hbox hgr; have N0 := Aside0.mk (Ne.symm (hgr.apart HG.out hle)); have L0 := Aside0.mk (GR.out.young hgr rfl hle); replace HG := Aside0.mk (hgr.blk HG.out); have H0 := Aside0.mk hbox; replace GR := Aside0.mk (GR.out.nxt hgr rfl rfl rfl rfl); clear hle hbox hgr)
    | ((with_reducible refine gate_dst (N := 4) rfl ?_); refine ev_box rfl (N := 4) rfl (cs := #[.int .i64 nd, .int .i64 fr, .int .i64 tw, .int .i64 9, .int .i64 vl]) (t := 46) ?hr ?_; (case hr => first | (go_simp; done) | (go_simp; rfl)); intro b1 hle w4 hbox hgr; have N1 := Aside0.mk (Ne.symm (hgr.apart HG.out hle)); replace HG := Aside0.mk (hgr.blk HG.out); replace H0 := Aside0.mk (hgr.blk H0.out); have H1 := Aside0.mk hbox; replace GR := Aside0.mk (GR.out.nxt hgr rfl rfl rfl rfl); clear hle hbox hgr; have y16 := HG.out.cell 16 (v := .int .i64 x.hd) rfl; have f16 := HG.out.frozen 16; have x3 := H1.out.cell 3 (v := .int .i64 9) rfl; have x4 := H1.out.cell 4 (v := .int .i64 vl) rfl; have x0 := H0.out.cell 0 (v := .pointer (some ⟨g, 0, none⟩)) rfl))
  go_region
  all_goals (go_wp2_with fail)
  all_goals go_end0
  all_goals exact ⟨rfl, by rw [← wrap_eq]; exact (Blk.put (w := _) (show Blk _ g 38 x.v from HG.out) 16 _ rfl), by first | exact (GR.out.drawn _).then_row (grew_setCell _ _ _ _) | exact (GR.out.then_none (grew_drew1 _ none)).then_row (grew_setCell _ _ _ _)⟩
set_option maxHeartbeats 4000000 in
set_option maxRecDepth 100000 in
theorem apply_3 (k g : Nat) (x : Fg) (nd fr tw vl ta : Int) (w : World) (hg : Blk w g 38 x.v) :
    Calls Try.prog 36 #[.pointer (some ⟨g, 0, none⟩), .agg #[.int .i64 nd, .int .i64 fr, .int .i64 tw, .int .i64 3, .int .i64 vl], .int .i64 ta] w fun e w' => e = .returned (.tuple #[]) ∧ Blk w' g 38 (narX x vl : Fg).v ∧ Grew w w' (some g) := by
  have hu35 := Try.underlying35
  have hu46 := Try.underlying46
  have hu38 := Try.underlying38
  have hu33 := Try.underlying33
  have hmf : ∀ (fn : Fn) (first cap : Array Value) (w : World), (Instr.makeFunc fn first cap).run Try.prog w = .ok (.func fn first cap) w := fun _ _ _ _ => rfl
  have HG := Aside0.mk hg
  have GR : Aside0 (Grew w w (some g)) := Aside0.mk (Grew.refl w _)
  clear hg
  go_enter Try.func36, Try.ntmps36
  go_wp2_with (first
    | ((with_reducible refine gate_dst (N := 3) rfl ?_); refine ev_box rfl (N := 3) rfl (cs := #[.pointer (some ⟨g, 0, none⟩)]) (t := 65) ?hr ?_; (case hr => first | (go_simp; done) | (go_simp; rfl)); intro b0 hle w3 hbox hgr; have N0 := Aside0.mk (Ne.symm (hgr.apart HG.out hle)); have L0 := Aside0.mk (GR.out.young hgr rfl hle); replace HG := Aside0.mk (hgr.blk HG.out); have H0 := Aside0.mk hbox; replace GR := Aside0.mk (GR.out.nxt hgr rfl rfl rfl rfl); clear hle hbox hgr)
    | ((with_reducible refine gate_dst (N := 4) rfl ?_); refine ev_box rfl (N := 4) rfl (cs := #[.int .i64 nd, .int .i64 fr, .int .i64 tw, .int .i64 3, .int .i64 vl]) (t := 46) ?hr ?_; (case hr => first | (go_simp; done) | (go_simp; rfl)); intro b1 hle w4 hbox hgr; have N1 := Aside0.mk (Ne.symm (hgr.apart HG.out hle)); replace HG := Aside0.mk (hgr.blk HG.out); replace H0 := Aside0.mk (hgr.blk H0.out); have H1 := Aside0.mk hbox; replace GR := Aside0.mk (GR.out.nxt hgr rfl rfl rfl rfl); clear hle hbox hgr; have x3 := H1.out.cell 3 (v := .int .i64 3) rfl; have x4 := H1.out.cell 4 (v := .int .i64 vl) rfl; have x0 := H0.out.cell 0 (v := .pointer (some ⟨g, 0, none⟩)) rfl))
  go_region_held3 (fun w' => w'.cell? ⟨b1, 4, none⟩ = some (.int .i64 vl) ∧ w'.cell? ⟨b0, 0, none⟩ = some (.pointer (some ⟨g, 0, none⟩))) (first | (with_reducible exact ⟨x4, x0⟩) | exact ⟨x4, x0⟩ | (with_reducible exact ⟨z4, z0⟩) | exact ⟨z4, z0⟩) (((go_at_call 54; (with_reducible refine (narrow_any g x vl _ (blk_drew1 HG.out)).mono ?_); rintro e w5 ⟨rfl, hbox, hgr⟩); have HG5 := Aside0.mk hbox; have H05 := Aside0.mk (hgr.blkFar (blk_drew1 H0.out) N0.out); have H15 := Aside0.mk (hgr.blkFar (blk_drew1 H1.out) N1.out); have GR5 := Aside0.mk (GR.out.nxtRow hgr rfl rfl rfl rfl); have z4 := H15.out.cell 4 (v := .int .i64 vl) rfl; have z0 := H05.out.cell 0 (v := .pointer (some ⟨g, 0, none⟩)) rfl; clear hbox hgr))
  all_goals (go_wp2_with fail)
  all_goals go_end0
  all_goals exact ⟨rfl, HG5.out, GR5.out⟩
set_option maxHeartbeats 4000000 in
set_option maxRecDepth 100000 in
theorem apply_2 (k g : Nat) (x : Fg) (nd fr tw vl ta : Int) (w : World) (hg : Blk w g 38 x.v) (a b r1 r2 c : Int) (ha : svF k x.p11 ta vl = some a) (hb : svF k x.p12 ta vl = some b) (hs : drift_Shift.f x.lo x.hi vl = some (r1, r2, c)) :
    Calls Try.prog 36 #[.pointer (some ⟨g, 0, none⟩), .agg #[.int .i64 nd, .int .i64 fr, .int .i64 tw, .int .i64 2, .int .i64 vl], .int .i64 ta] w fun e w' => e = .returned (.tuple #[]) ∧ Blk w' g 38 (shiX { x with p11 := a, p12 := b } r1 r2 c : Fg).v ∧ Grew w w' (some g) := by
  have hu35 := Try.underlying35
  have hu46 := Try.underlying46
  have hu38 := Try.underlying38
  have hu33 := Try.underlying33
  have hmf : ∀ (fn : Fn) (first cap : Array Value) (w : World), (Instr.makeFunc fn first cap).run Try.prog w = .ok (.func fn first cap) w := fun _ _ _ _ => rfl
  have HG := Aside0.mk hg
  have GR : Aside0 (Grew w w (some g)) := Aside0.mk (Grew.refl w _)
  have HA := Aside0.mk ha
  have HB := Aside0.mk hb
  have HS := Aside0.mk hs
  clear ha hb hs
  clear hg
  go_enter Try.func36, Try.ntmps36
  go_wp2_with (first
    | ((with_reducible refine gate_dst (N := 3) rfl ?_); refine ev_box rfl (N := 3) rfl (cs := #[.pointer (some ⟨g, 0, none⟩)]) (t := 65) ?hr ?_; (case hr => first | (go_simp; done) | (go_simp; rfl)); intro b0 hle w3 hbox hgr; have N0 := Aside0.mk (Ne.symm (hgr.apart HG.out hle)); have L0 := Aside0.mk (GR.out.young hgr rfl hle); replace HG := Aside0.mk (hgr.blk HG.out); have H0 := Aside0.mk hbox; replace GR := Aside0.mk (GR.out.nxt hgr rfl rfl rfl rfl); clear hle hbox hgr)
    | ((with_reducible refine gate_dst (N := 4) rfl ?_); refine ev_box rfl (N := 4) rfl (cs := #[.int .i64 nd, .int .i64 fr, .int .i64 tw, .int .i64 2, .int .i64 vl]) (t := 46) ?hr ?_; (case hr => first | (go_simp; done) | (go_simp; rfl)); intro b1 hle w4 hbox hgr; have N1 := Aside0.mk (Ne.symm (hgr.apart HG.out hle)); replace HG := Aside0.mk (hgr.blk HG.out); replace H0 := Aside0.mk (hgr.blk H0.out); have H1 := Aside0.mk hbox; replace GR := Aside0.mk (GR.out.nxt hgr rfl rfl rfl rfl); clear hle hbox hgr; have x3 := H1.out.cell 3 (v := .int .i64 2) rfl; have x4 := H1.out.cell 4 (v := .int .i64 vl) rfl; have x0 := H0.out.cell 0 (v := .pointer (some ⟨g, 0, none⟩)) rfl))
  go_region_held3 (fun w' => w'.cell? ⟨b1, 4, none⟩ = some (.int .i64 vl) ∧ w'.cell? ⟨b0, 0, none⟩ = some (.pointer (some ⟨g, 0, none⟩))) (first | (with_reducible exact ⟨x4, x0⟩) | exact ⟨x4, x0⟩ | (with_reducible exact ⟨z4, z0⟩) | exact ⟨z4, z0⟩) (((go_at_call 49; (with_reducible refine (shift_rec k g x ta vl a _ (blk_drew1 HG.out) HA.out).mono ?_); rintro e w5 ⟨rfl, hbox, hgr⟩); have HG5 := Aside0.mk hbox; have H05 := Aside0.mk (hgr.blkFar (blk_drew1 H0.out) N0.out); have H15 := Aside0.mk (hgr.blkFar (blk_drew1 H1.out) N1.out); have GR5 := Aside0.mk (GR.out.nxtRow hgr rfl rfl rfl rfl); have z4 := H15.out.cell 4 (v := .int .i64 vl) rfl; have z0 := H05.out.cell 0 (v := .pointer (some ⟨g, 0, none⟩)) rfl; clear hbox hgr))
  replace HG := HG5; replace H0 := H05; replace H1 := H15; replace GR := GR5; clear x3 x4 x0 HG5 H05 H15 GR5; have x4 := z4; have x0 := z0; clear z4 z0
  go_wp2_with fail
  go_region_held3 (fun w' => w'.cell? ⟨b1, 4, none⟩ = some (.int .i64 vl) ∧ w'.cell? ⟨b0, 0, none⟩ = some (.pointer (some ⟨g, 0, none⟩))) (first | (with_reducible exact ⟨x4, x0⟩) | exact ⟨x4, x0⟩ | (with_reducible exact ⟨z4, z0⟩) | exact ⟨z4, z0⟩) (((go_at_call 49; (with_reducible refine (shift_xmt k g { x with p11 := a } ta vl b _ (blk_drew1 HG.out) HB.out).mono ?_); rintro e w6 ⟨rfl, hbox, hgr⟩); have HG5 := Aside0.mk hbox; have H05 := Aside0.mk (hgr.blkFar (blk_drew1 H0.out) N0.out); have H15 := Aside0.mk (hgr.blkFar (blk_drew1 H1.out) N1.out); have GR5 := Aside0.mk (GR.out.nxtRow hgr rfl rfl rfl rfl); have z4 := H15.out.cell 4 (v := .int .i64 vl) rfl; have z0 := H05.out.cell 0 (v := .pointer (some ⟨g, 0, none⟩)) rfl; clear hbox hgr))
  replace HG := HG5; replace H0 := H05; replace H1 := H15; replace GR := GR5; clear x4 x0 HG5 H05 H15 GR5; have x4 := z4; have x0 := z0; clear z4 z0
  go_wp2_with fail
  go_wp2_with (go_at_call 50; (with_reducible refine (try_shift b0 b1 g { x with p11 := a, p12 := b } nd fr tw 2 vl r1 r2 c _ H0.out H1.out HG.out HS.out N0.out).mono ?_); rintro e w7 ⟨rfl, hbox, hgr⟩; have HG7 := Aside0.mk hbox; have GR7 := Aside0.mk (GR.out.nxtRow hgr rfl rfl rfl rfl); clear hbox hgr)
  go_end0
  exact ⟨rfl, HG7.out, GR7.out⟩
/-- The indices below m of the active faults. -/
def actT (l : List S46) (nd ta : Int) (j : Nat) : Bool := decide ((rd_T46 l j).f0 = nd) && (decide ((rd_T46 l j).f1 ≤ ta) && decide (ta < (rd_T46 l j).f2))
def actU (l : List S46) (nd ta : Int) (m : Nat) : List Int := ((List.range m).filter (actT l nd ta)).map (fun j : Nat => (j : Int))
theorem actU_yes (l : List S46) (nd ta : Int) (m : Nat) (e : actT l nd ta m = true) : actU l nd ta (m + 1) = actU l nd ta m ++ [(m : Int)] := by
  unfold actU; rw [List.range_succ, List.filter_append, List.map_append]; simp only [List.filter_cons, e, if_true, List.filter_nil, List.map_cons, List.map_nil]
theorem actU_no (l : List S46) (nd ta : Int) (m : Nat) (e : actT l nd ta m = false) : actU l nd ta (m + 1) = actU l nd ta m := by
  unfold actU; rw [List.range_succ, List.filter_append, List.map_append]; simp only [List.filter_cons, e, Bool.false_eq_true, if_false, List.filter_nil, List.map_nil, List.append_nil]
theorem actU_len (l : List S46) (nd ta : Int) (m : Nat) : (actU l nd ta m).length ≤ m := by unfold actU; rw [List.length_map]; exact Nat.le_trans (List.length_filter_le _ _) (by simp)
theorem actU_in (l : List S46) (nd ta : Int) (m : Nat) (i : Int) (h : i ∈ actU l nd ta m) : 0 ≤ i ∧ i < m := by
  unfold actU at h
  obtain ⟨j, hj, rfl⟩ := List.mem_map.mp h
  have := List.mem_range.mp (List.mem_filter.mp hj).1
  omega
theorem act_l0 (l : List S46) (nd ta : Int) (hl : l.length ≤ 32) : ∀ (k i : Nat), i ≤ l.length → (∀ r, fault_Active.l0 k nd ta (actU l nd ta i) l (l.length : Int) (i : Int) = some r → r = actU l nd ta l.length) ∧ (l.length - i < k → fault_Active.l0 k nd ta (actU l nd ta i) l (l.length : Int) (i : Int) = some (actU l nd ta l.length))
  | 0, i, _ => ⟨fun r h => by simp [fault_Active.l0] at h, fun h => by omega⟩
  | k + 1, i, hi => by
    by_cases hlt : (i : Int) < (l.length : Int)
    · have ew : wrap64 ((i : Int) + 1) = ((i + 1 : Nat) : Int) := by rw [w64_in (by omega) (by omega)]; omega
      have ih := act_l0 l nd ta hl k (i + 1) (by omega)
      have hs : fault_Active.l0 (k + 1) nd ta (actU l nd ta i) l (l.length : Int) (i : Int) = fault_Active.l0 k nd ta (actU l nd ta (i + 1)) l (l.length : Int) ((i + 1 : Nat) : Int) := by
        conv => lhs; unfold fault_Active.l0
        rw [if_pos hlt, if_pos (by omega), if_pos hlt, ew]
        have hlen := actU_len l nd ta i
        by_cases h1 : (rd_T46 l i).f0 = nd
        · rw [if_pos h1]
          by_cases h2 : (rd_T46 l i).f1 ≤ ta
          · rw [if_pos h2]
            by_cases h3 : ta < (rd_T46 l i).f2
            · rw [if_pos h3, if_pos (by omega), actU_yes l nd ta i (by unfold actT; rw [decide_eq_true h1, decide_eq_true h2, decide_eq_true h3]; rfl)]
            · rw [if_neg h3, actU_no l nd ta i (by unfold actT; rw [decide_eq_false h3]; simp)]
          · rw [if_neg h2, actU_no l nd ta i (by unfold actT; rw [decide_eq_false h2]; simp)]
        · rw [if_neg h1, actU_no l nd ta i (by unfold actT; rw [decide_eq_false h1]; simp)]
      rw [hs]
      exact ⟨ih.1, fun h => ih.2 (by omega)⟩
    · have hi' : i = l.length := by omega
      subst hi'
      have hs : fault_Active.l0 (k + 1) nd ta (actU l nd ta l.length) l (l.length : Int) (l.length : Int) = some (actU l nd ta l.length) := by
        conv => lhs; unfold fault_Active.l0
        rw [if_neg hlt]
      rw [hs]
      exact ⟨fun r h => (Option.some.inj h).symm, fun _ => rfl⟩
theorem act_len (k : Nat) (l act : List S46) (nd ta : Int) (r : List Int) (h : fault_Active.f k l nd ta = some r) : r.length ≤ 32 := by
  unfold fault_Active.f at h
  obtain ⟨t, h1, h2⟩ := Option.bind_eq_some_iff.mp h
  by_cases ht : t = 0
  · rw [if_pos ht] at h2
    subst ht
    have hl := (chk_in k l h1).1
    have := (act_l0 l nd ta hl k 0 (Nat.zero_le _)).1 r h2
    rw [this]; exact Nat.le_trans (actU_len _ _ _ _) hl
  · rw [if_neg ht] at h2; cases h2; simp
theorem apply_ok (k g : Nat) (x y : Fg) (nd fr tw kd vl ta : Int) (w : World) (hg : Blk w g 38 x.v) (h : aplF k x kd vl ta = some y) :
    Calls Try.prog 36 #[.pointer (some ⟨g, 0, none⟩), .agg #[.int .i64 nd, .int .i64 fr, .int .i64 tw, .int .i64 kd, .int .i64 vl], .int .i64 ta] w fun e w' => e = .returned (.tuple #[]) ∧ Blk w' g 38 y.v ∧ Grew w w' (some g) := by
  unfold aplF at h
  by_cases e1 : kd = 1
  · rw [if_pos e1] at h; cases h; subst e1; exact apply_1 k g x nd fr tw vl ta w hg
  rw [if_neg e1] at h
  by_cases e2 : kd = 2
  · rw [if_pos e2] at h
    obtain ⟨a, h1, h⟩ := Option.bind_eq_some_iff.mp h
    obtain ⟨b, h2, h⟩ := Option.bind_eq_some_iff.mp h
    obtain ⟨⟨r1, r2, c⟩, h3, h⟩ := Option.bind_eq_some_iff.mp h
    cases h; subst e2; exact apply_2 k g x nd fr tw vl ta w hg a b r1 r2 c h1 h2 h3
  rw [if_neg e2] at h
  by_cases e3 : kd = 3
  · rw [if_pos e3] at h; cases h; subst e3; exact apply_3 k g x nd fr tw vl ta w hg
  rw [if_neg e3] at h
  by_cases e4 : kd = 4
  · rw [if_pos e4] at h; cases h; subst e4; exact apply_4 k g x nd fr tw vl ta w hg
  rw [if_neg e4] at h
  by_cases e5 : kd = 5
  · rw [if_pos e5] at h; cases h; subst e5; exact apply_5 k g x nd fr tw vl ta w hg
  rw [if_neg e5] at h
  by_cases e6 : kd = 6
  · rw [if_pos e6] at h; cases h; subst e6; exact apply_6 k g x nd fr tw vl ta w hg
  rw [if_neg e6] at h
  by_cases e7 : kd = 7
  · rw [if_pos e7] at h; cases h; subst e7; exact apply_7 k g x nd fr tw vl ta w hg
  rw [if_neg e7] at h
  by_cases e8 : kd = 8
  · rw [if_pos e8] at h
    obtain ⟨⟨c1, c2⟩, h1, h⟩ := Option.bind_eq_some_iff.mp h
    cases h; subst e8; exact apply_8 k g x nd fr tw vl ta w hg c1 c2 h1
  rw [if_neg e8] at h
  by_cases e9 : kd = 9
  · rw [if_pos e9] at h; cases h; subst e9; exact apply_9 k g x nd fr tw vl ta w hg
  · rw [if_neg e9] at h; cases h
/-- What the active faults make of a reply, one behind the other. -/
def aplL (k : Nat) (l : List S46) (ta : Int) : List Int → Fg → Option Fg
  | [], x => some x
  | i :: r, x => if 0 ≤ i ∧ i < (l.length : Int) then (aplF k x (rd_T46 l i).f3 (rd_T46 l i).f4 ta).bind fun y => aplL k l ta r y else none
theorem aplL_mono (k : Nat) (l : List S46) (ta : Int) : ∀ (is : List Int) (x : Fg), LeO (aplL k l ta is x) (aplL (k + 1) l ta is x)
  | [], x => fun r h => h
  | i :: is, x => by
    intro r h
    unfold aplL at h ⊢
    by_cases e : 0 ≤ i ∧ i < (l.length : Int)
    · rw [if_pos e] at h ⊢
      obtain ⟨y, h1, h2⟩ := Option.bind_eq_some_iff.mp h
      rw [aplF_mono k _ _ _ _ y h1, Option.bind_some]; exact aplL_mono k l ta is y r h2
    · rw [if_neg e] at h; cases h
def applyF (k : Nat) (l : List S46) (nd ta : Int) (x : Fg) : Option Fg := (fault_Active.f k l nd ta).bind fun act => aplL k l ta act x
theorem applyF_mono (k : Nat) (l : List S46) (nd ta : Int) (x : Fg) : LeO (applyF k l nd ta x) (applyF (k + 1) l nd ta x) := by
  intro r h
  unfold applyF at h ⊢
  obtain ⟨y, h1, h2⟩ := Option.bind_eq_some_iff.mp h
  rw [fault_Active.mono _ _ _ k y h1, Option.bind_some]; exact aplL_mono k l ta y x r h2
theorem rdOf_get {act : List Int} (j : Nat) (hj : j < act.length) : rdOf (0 : Int) act (j : Int) = act[j] := by unfold rdOf; rw [Int.toNat_natCast, List.getD_eq_getElem?_getD, List.getElem?_eq_getElem hj]; rfl
set_option maxHeartbeats 4000000 in
set_option maxRecDepth 100000 in
theorem Apply_ok (k : Nat) (A0 : Option Addr) (c0 : Nat) (l : List S46) (nd ta : Int) (p0 p1 p2 p3 p4 p5 p6 p7 p8 p9 p10 p11 p12 lo hi : Int) (y : Fg) (w : World) (hr0 : Kd.C k46 w A0 l.length l) (hc0 : l.length ≤ c0) (h : applyF k l nd ta (⟨false, p0, p1, p2, p3, p4, p5, p6, p7, p8, p9, p10, p11, p12, lo, hi, 0⟩ : Fg) = some y) :
    Calls Try.prog 20 #[.slice A0 l.length c0, .int .i64 nd, .int .i64 ta, .agg #[.int .i64 p0, .int .i64 p1, .int .i64 p2, .int .i64 p3, .int .i64 p4, .int .i64 p5, .int .u32 p6, .int .u32 p7, .int .u32 p8, .int .u64 p9, .int .u64 p10, .int .u64 p11, .int .u64 p12], .agg #[.int .i64 lo, .int .i64 hi]] w fun e w' => e = .returned (.agg y.v) ∧ Below w.heap.size w w' := by
  have hu35 := Try.underlying35
  have hu46 := Try.underlying46
  have hu38 := Try.underlying38
  have hu33 := Try.underlying33
  have HC := Aside0.mk hr0
  have HL := Aside0.mk hc0
  have GR : Aside0 (Grew w w none) := Aside0.mk (Grew.refl w none)
  unfold applyF at h
  obtain ⟨act, h1, h2⟩ := Option.bind_eq_some_iff.mp h
  have HA := Aside0.mk h1
  have HF := Aside0.mk h2
  clear hr0 hc0 h h1 h2
  go_enter Try.func20, Try.ntmps20
  go_wp2_with (first
    | ((with_reducible refine gate_dst (N := 8) rfl ?_); refine ev_box rfl (N := 8) rfl (cs := #[.int .i64 p0, .int .i64 p1, .int .i64 p2, .int .i64 p3, .int .i64 p4, .int .i64 p5, .int .u32 p6, .int .u32 p7, .int .u32 p8, .int .u64 p9, .int .u64 p10, .int .u64 p11, .int .u64 p12]) (t := 33) ?hr ?_; (case hr => first | (go_simp; done) | (go_simp; rfl)); intro gp hle wp hbox hgr; have Lp := Aside0.mk (GR.out.young hgr rfl hle); have Bp := Aside0.mk hbox; replace GR := Aside0.mk (GR.out.nxt hgr rfl rfl rfl rfl); clear hle hbox hgr)
    | ((with_reducible refine gate_dst (N := 9) rfl ?_); refine ev_box rfl (N := 9) rfl (cs := #[.int .i64 lo, .int .i64 hi]) (t := 35) ?hr ?_; (case hr => first | (go_simp; done) | (go_simp; rfl)); intro gi hle wi hbox hgr; have Npi := Aside0.mk (hgr.apart Bp.out hle); replace Bp := Aside0.mk (hgr.blk Bp.out); have Li := Aside0.mk (GR.out.young hgr rfl hle); have Bi := Aside0.mk hbox; replace GR := Aside0.mk (GR.out.nxt hgr rfl rfl rfl rfl); clear hle hbox hgr)
    | ((with_reducible refine gate_dst (N := 10) rfl ?_); refine ev_box rfl (N := 10) rfl (cs := #[.bool false, .int .i64 0, .int .i64 0, .int .i64 0, .int .i64 0, .int .i64 0, .int .i64 0, .int .u32 0, .int .u32 0, .int .u32 0, .int .u64 0, .int .u64 0, .int .u64 0, .int .u64 0, .int .i64 0, .int .i64 0, .int .i64 0]) (t := 38) ?hr ?_; (case hr => first | (go_simp; done) | (go_simp; rfl)); intro gr hle wr hbox hgr; have Npr := Aside0.mk (hgr.apart Bp.out hle); replace Bp := Aside0.mk (hgr.blk Bp.out); have Nir := Aside0.mk (hgr.apart Bi.out hle); replace Bi := Aside0.mk (hgr.blk Bi.out); have Lr := Aside0.mk (GR.out.young hgr rfl hle); have Br := Aside0.mk hbox; replace GR := Aside0.mk (GR.out.nxt hgr rfl rfl rfl rfl); clear hle hbox hgr)
    | ((with_reducible refine gate_dst (N := 11) rfl ?_); refine ev_box rfl (N := 11) rfl (cs := #[.bool false, .int .i64 0, .int .i64 0, .int .i64 0, .int .i64 0, .int .i64 0, .int .i64 0, .int .u32 0, .int .u32 0, .int .u32 0, .int .u64 0, .int .u64 0, .int .u64 0, .int .u64 0, .int .i64 0, .int .i64 0, .int .i64 0]) (t := 38) ?hr ?_; (case hr => first | (go_simp; done) | (go_simp; rfl)); intro gx hle wx hbox hgr; have Npx := Aside0.mk (hgr.apart Bp.out hle); replace Bp := Aside0.mk (hgr.blk Bp.out); have Nix := Aside0.mk (hgr.apart Bi.out hle); replace Bi := Aside0.mk (hgr.blk Bi.out); have Nrx := Aside0.mk (hgr.apart Br.out hle); replace Br := Aside0.mk (hgr.blk Br.out); have Lx := Aside0.mk (GR.out.young hgr rfl hle); have Bx := Aside0.mk hbox; replace GR := Aside0.mk (GR.out.nxt hgr rfl rfl rfl rfl); clear hle hbox hgr)
    | ((with_reducible refine gate_dst (N := 14) rfl ?_); refine ev_load rfl (N := 14) rfl 33 (.tmp 8) rfl (g := gp) (t := 33) (cs := ?_) _ ?hx ?hb Try.underlying33 rfl ?hi ?_; (case hx => rfl); (case hb => exact Bp.out); (case hi => kernel_rfl))
    | ((with_reducible refine gate_dst (N := 15) rfl ?_); refine ev_load rfl (N := 15) rfl 35 (.tmp 9) rfl (g := gi) (t := 35) (cs := ?_) _ ?hx ?hb Try.underlying35 rfl ?hi ?_; (case hx => rfl); (case hb => exact Bi.out); (case hi => kernel_rfl))
    | ((with_reducible refine gate_store (t := 38) (p := 11) (v := .tmp 16) rfl ?_); refine ev_store rfl rfl 38 (.tmp 11) (.tmp 16) rfl (g := gx) (t := 38) (old := ?_) #[.bool false, .int .i64 p0, .int .i64 p1, .int .i64 p2, .int .i64 p3, .int .i64 p4, .int .i64 p5, .int .u32 p6, .int .u32 p7, .int .u32 p8, .int .u64 p9, .int .u64 p10, .int .u64 p11, .int .u64 p12, .int .i64 lo, .int .i64 hi, .int .i64 0] ?hx ?hy ?hb ?hi ?ho ?h1 ?_; (case hx => rfl); (case hy => first | rfl | (go_simp; done) | (go_simp; rfl)); (case hb => exact Bx.out); (case hi => kernel_rfl); (case ho => rfl); (case h1 => simp [Value.oneCell']); intro ws hbox hgr; clear Bx Bp Bi; have Bx : Aside0 (Blk ws gx 38 (⟨false, p0, p1, p2, p3, p4, p5, p6, p7, p8, p9, p10, p11, p12, lo, hi, 0⟩ : Fg).v) := Aside0.mk hbox; replace Br := Aside0.mk (hgr.blkFar Br.out Nrx.out); replace GR := Aside0.mk (GR.out.nxtOwn hgr Lx.out rfl rfl rfl rfl); clear hbox hgr)
    | (go_at_call 18; (with_reducible refine (fault_Active.calls k _ _ l nd ta act _ (Kd.C_below HC.out GR.out.to_below) HL.out HA.out).mono ?_); rintro e wq ⟨v0, rfl, ho, hb⟩; have hgr := Grew.below (row := none) hb; have HO := Aside0.mk (Kd.R_mono (ok' := fun k => k ≠ gx) (Kd.R_bound ho) (fun k hk => Nat.ne_of_gt (Nat.lt_of_lt_of_le Bx.out.lt hk.2.1))); obtain ⟨A1, cp, rfl⟩ := Kd.R_slice ho; replace Br := Aside0.mk (hgr.blk Br.out); replace Bx := Aside0.mk (hgr.blk Bx.out); replace GR := Aside0.mk (GR.out.nxt hgr rfl rfl rfl rfl); clear ho hb hgr))
  obtain ⟨BB, hBB⟩ : ∃ B : Nat, Kd.R (Kd.int .i64) 3 wq B (fun k => k ≠ gx) (.slice A1 act.length cp) act := ⟨_, HO.out⟩
  clear HO
  have HO := Aside0.mk hBB
  clear hBB
  go_loopg [22] act.length (fun kq v22 w' => ∃ (j : Nat) (x : Fg), v22 = .int .i64 (j : Int) ∧ Aside0 (j + kq = act.length) ∧ Aside0 (aplL k l ta (act.drop j) x = some y) ∧ Aside0 (Kd.R (Kd.int .i64) 3 w' BB (fun k => k ≠ gx) (.slice A1 act.length cp) act) ∧ Aside0 (Blk w' gr 38 #[.bool false, .int .i64 0, .int .i64 0, .int .i64 0, .int .i64 0, .int .i64 0, .int .i64 0, .int .u32 0, .int .u32 0, .int .u32 0, .int .u64 0, .int .u64 0, .int .u64 0, .int .u64 0, .int .i64 0, .int .i64 0, .int .i64 0]) ∧ Aside0 (Blk w' gx 38 x.v) ∧ Aside0 (Grew w w' none))
  case atStart => exact ⟨0, (⟨false, p0, p1, p2, p3, p4, p5, p6, p7, p8, p9, p10, p11, p12, lo, hi, 0⟩ : Fg), rfl, ⟨by omega⟩, HF, HO, Br, Bx, GR⟩
  case round =>
    obtain ⟨j, x, rfl, HI, HF, HO, Br, Bx, GR⟩ := hrel
    by_cases hlt : j < act.length
    · obtain ⟨gq, cap, e_, _, _, _, _⟩ := Kd.R_form HO.out (by omega)
      cases e_
      have hq := (Kd.R_celln (0 : Int) HO.out (j : Int) (by omega) (by omega)).1
      rw [Int.toNat_natCast, rdOf_get j hlt] at hq
      have hd := HF.out
      rw [List.drop_eq_getElem_cons hlt] at hd
      obtain ⟨i, hi⟩ : ∃ i, i = act[j] := ⟨_, rfl⟩
      rw [← hi] at hq hd
      unfold aplL at hd
      by_cases hin : 0 ≤ i ∧ i < (l.length : Int)
      · rw [if_pos hin] at hd
        obtain ⟨z, h1, h2⟩ := Option.bind_eq_some_iff.mp hd
        have HZ := Aside0.mk h1
        have HF2 := Aside0.mk h2
        obtain ⟨ad, e_, g0, g1, g2, g3, g4⟩ := at_T46 HC.out i hin.1 hin.2
        cases e_
        replace g0 := lcell GR.out g0
        replace g1 := lcell GR.out g1
        replace g2 := lcell GR.out g2
        replace g3 := lcell GR.out g3
        replace g4 := lcell GR.out g4
        obtain ⟨k1, rfl⟩ : ∃ k1, gk = k1 + 1 := ⟨gk - 1, by have := HI.out; omega⟩
        have c1 : decide ((j : Int) < (act.length : Int)) = true := decide_eq_true (by omega)
        have c2 : decide (j < act.length) = true := decide_eq_true hlt
        have c3 := eq_true hin.1
        have c4 := eq_true hin.2
        have c5 : ((j : Int) < (act.length : Int)) = True := eq_true (by omega)
        have c6 : (j < act.length) = True := eq_true hlt
        have HJ := Aside0.mk hlt
        have LE : Aside0 (act.length ≤ 17592186044416) := ⟨Nat.le_trans (act_len k l l nd ta act HA.out) (by omega)⟩
        clear hd hi hin hlt h1 h2
        go_wp2_with (go_at_call 36; (with_reducible refine (apply_ok k gx x z _ _ _ _ _ ta _ Bx.out HZ.out).mono ?_); rintro e w5 ⟨rfl, hbox, hgr⟩; have Bx5 := Aside0.mk hbox; have HO5 := Aside0.mk (Kd.R_grown HO.out hgr.out (fun k hk e => hk (Option.some.inj e))); have Br5 := Aside0.mk (hgr.blkFar Br.out Nrx.out); have GR5 := Aside0.mk (GR.out.nxtOwn hgr Lx.out rfl rfl rfl rfl); clear hbox hgr)
        go_roundg k1
        case measure => exact Nat.lt_succ_self _
        case rel => exact ⟨j + 1, z, by first | rfl | (rw [w64_in (by omega) (by have := LE.out; have := HJ.out; omega)]; rfl), ⟨by have := HI.out; omega⟩, HF2, HO5, Br5, Bx5, GR5⟩
      · rw [if_neg hin] at hd; cases hd
    · have c1 : decide ((j : Int) < (act.length : Int)) = false := decide_eq_false (by omega)
      have c2 : decide (j < act.length) = false := decide_eq_false hlt
      have hd := HF.out
      rw [List.drop_of_length_le (by omega)] at hd
      cases hd
      clear hlt HF
      go_wp2_with (first
        | ((with_reducible refine gate_dst (N := 33) rfl ?_); refine ev_load rfl (N := 33) rfl 38 (.tmp 11) rfl (g := gx) (t := 38) (cs := ?_) _ ?hx ?hb Try.underlying38 rfl ?hi ?_; (case hx => rfl); (case hb => exact Bx.out); (case hi => kernel_rfl))
        | ((with_reducible refine gate_store (t := 38) (p := 10) (v := .tmp 33) rfl ?_); refine ev_store rfl rfl 38 (.tmp 10) (.tmp 33) rfl (g := gr) (t := 38) (old := ?_) y.v ?hx ?hy ?hb ?hi ?ho ?h1 ?_; (case hx => rfl); (case hy => first | rfl | (go_simp; done) | (go_simp; rfl)); (case hb => exact Br.out); (case hi => kernel_rfl); (case ho => rfl); (case h1 => simp [Fg.v, Value.oneCell']); intro w6 hbox hgr; clear Br; have Br := Aside0.mk hbox; replace GR := Aside0.mk (GR.out.nxtOwn hgr Lr.out rfl rfl rfl rfl); clear hbox hgr))
      refine bodyPost_ret (results_cell_row rfl _ _ gr 38 y.v (0, 0) _ rfl Br.out Try.underlying38 rfl (by kernel_rfl)) rfl ?_
      exact ⟨rfl, GR.out.to_below⟩

end
def fault_Apply.f (k : Nat) (l0 : List (S46)) (a1 : Int) (a2 : Int) (a3_0 a3_1 a3_2 a3_3 a3_4 a3_5 a3_6 a3_7 a3_8 a3_9 a3_10 a3_11 a3_12 : Int) (a4_0 a4_1 : Int) : Option (Bool × Int × Int × Int × Int × Int × Int × Int × Int × Int × Int × Int × Int × Int × Int × Int × Int) := (applyF k l0 a1 a2 (⟨false, a3_0, a3_1, a3_2, a3_3, a3_4, a3_5, a3_6, a3_7, a3_8, a3_9, a3_10, a3_11, a3_12, a4_0, a4_1, 0⟩ : Fg)).map fun x => (x.dr, x.p0, x.p1, x.p2, x.p3, x.p4, x.p5, x.p6, x.p7, x.p8, x.p9, x.p10, x.p11, x.p12, x.lo, x.hi, x.hd)
theorem fault_Apply.mono : ∀ (l0 : List (S46)) (a1 a2 : Int) (a3_0 a3_1 a3_2 a3_3 a3_4 a3_5 a3_6 a3_7 a3_8 a3_9 a3_10 a3_11 a3_12 a4_0 a4_1 : Int) k, LeO (fault_Apply.f k l0 a1 a2 a3_0 a3_1 a3_2 a3_3 a3_4 a3_5 a3_6 a3_7 a3_8 a3_9 a3_10 a3_11 a3_12 a4_0 a4_1) (fault_Apply.f (k + 1) l0 a1 a2 a3_0 a3_1 a3_2 a3_3 a3_4 a3_5 a3_6 a3_7 a3_8 a3_9 a3_10 a3_11 a3_12 a4_0 a4_1) := by
  intro l0 a1 a2 a3_0 a3_1 a3_2 a3_3 a3_4 a3_5 a3_6 a3_7 a3_8 a3_9 a3_10 a3_11 a3_12 a4_0 a4_1 k r h
  unfold fault_Apply.f at h ⊢
  obtain ⟨x, h1, h2⟩ := Option.map_eq_some_iff.mp h
  rw [applyF_mono k _ _ _ _ x h1]
  exact congrArg some h2
theorem fault_Apply.calls (k : Nat) (A0 : Option Addr) (c0 : Nat) (l0 : List (S46)) (a1 : Int) (a2 : Int) (a3_0 a3_1 a3_2 a3_3 a3_4 a3_5 a3_6 a3_7 a3_8 a3_9 a3_10 a3_11 a3_12 : Int) (a4_0 a4_1 : Int) (r1 : Bool) (r2 r3 r4 r5 r6 r7 r8 r9 r10 r11 r12 r13 r14 r15 r16 r17 : Int) (w : World) (hr0 : Kd.C k46 w A0 l0.length l0) (hc0 : l0.length ≤ c0) (h : fault_Apply.f k l0 a1 a2 a3_0 a3_1 a3_2 a3_3 a3_4 a3_5 a3_6 a3_7 a3_8 a3_9 a3_10 a3_11 a3_12 a4_0 a4_1 = some (r1, r2, r3, r4, r5, r6, r7, r8, r9, r10, r11, r12, r13, r14, r15, r16, r17)) :
    Calls Try.prog 20 #[.slice A0 l0.length c0, .int .i64 a1, .int .i64 a2, .agg #[.int .i64 a3_0, .int .i64 a3_1, .int .i64 a3_2, .int .i64 a3_3, .int .i64 a3_4, .int .i64 a3_5, .int .u32 a3_6, .int .u32 a3_7, .int .u32 a3_8, .int .u64 a3_9, .int .u64 a3_10, .int .u64 a3_11, .int .u64 a3_12], .agg #[.int .i64 a4_0, .int .i64 a4_1]] w fun e w' => e = .returned (.agg #[.bool r1, .int .i64 r2, .int .i64 r3, .int .i64 r4, .int .i64 r5, .int .i64 r6, .int .i64 r7, .int .u32 r8, .int .u32 r9, .int .u32 r10, .int .u64 r11, .int .u64 r12, .int .u64 r13, .int .u64 r14, .int .i64 r15, .int .i64 r16, .int .i64 r17]) ∧ Below w.heap.size w w' := by
  unfold fault_Apply.f at h
  obtain ⟨x, h1, h2⟩ := Option.map_eq_some_iff.mp h
  cases h2
  exact Apply_ok k A0 c0 l0 a1 a2 a3_0 a3_1 a3_2 a3_3 a3_4 a3_5 a3_6 a3_7 a3_8 a3_9 a3_10 a3_11 a3_12 a4_0 a4_1 x w hr0 hc0 h1

end Go.Proofs.Ytcnckfhibmlioaa.PFa
