/- New, Pending and Counts of the association, the program and the reference. -/
import Derived.Test.YtohjmfjdopffkaaOb
import Derived.Test.YtohjmfjdopffkaaPAsx
import Derived.WalkSpells
namespace Go.Proofs.Ytohjmfjdopffkaa.As
open Go Go.RowKit Go.Proofs.YtohjmfjdopffkaaW.PrintWords Go.Proofs.YtohjmfjdopffkaaW.PrintLast Go.Proofs.YtohjmfjdopffkaaW.PrintMore Go.Proofs.Ytohjmfjdopffkaa.PAs Go.Proofs.Ytohjmfjdopffkaa.Ob
attribute [local go_sem] max2_int min2_int max_two min_two max_three min_three max_four min_four
set_option linter.unusedVariables false
set_option linter.unusedSimpArgs false
theorem info3 : (Try.prog.info? 3).map (fun i => (i.zero, i.size, i.bytes)) = some (some (.int .i64 0), 1, 8) := by kernel_rfl
set_option maxRecDepth 100000 in
theorem newP_no (v : Int) (h : v < 1 ∨ 4 < v) (w : World) : Calls Try.prog 9 #[.int .i64 v] w fun e w' => e = .returned (.pointer none) ∧ Grew w w' none := by
  rcases h with h | h
  · go_enter Try.func9, Try.ntmps9
    go_wp2
    go_ret
    exact ⟨rfl, Grew.refl _ _⟩
  · have h1 : ¬ v < 1 := by omega
    go_enter Try.func9, Try.ntmps9
    go_wp2
    go_ret
    exact ⟨rfl, Grew.refl _ _⟩
set_option maxRecDepth 100000 in
theorem newP_ok (v : Int) (h1 : 1 ≤ v) (h2 : v ≤ 4) (w : World) : Calls Try.prog 9 #[.int .i64 v] w fun e w' => ∃ g, e = .returned (.pointer (some ⟨g, 0, none⟩)) ∧ w.heap.size ≤ g ∧ Blk w' g 57 #[.int .i64 v, .int .u64 0, .int .i64 0, .bool false, .int .u64 0, .int .i64 0, .int .i64 0, .int .i64 0, .int .i64 0, .int .i64 0, .int .i64 0, .int .i64 0, .int .i64 0] ∧ Grew w w' none := by
  have hu := Try.underlying57
  have h3 : ¬ v < 1 := by omega
  go_enter Try.func9, Try.ntmps9
  go_wp2_with fail
  go_ret
  exact ⟨_, rfl, Nat.le_refl _, blk_new w _, Grew.below (below_alloc (Below.refl _ _) _)⟩
set_option maxRecDepth 100000 in
theorem newR_no (v : Int) (h : v < 1 ∨ 4 < v) (w : World) : Calls Try.prog 10 #[.int .i64 v] w fun e w' => e = .returned (.pointer none) ∧ Grew w w' none := by
  rcases h with h | h
  · go_enter Try.func10, Try.ntmps10
    go_wp2
    go_ret
    exact ⟨rfl, Grew.refl _ _⟩
  · have h1 : ¬ v < 1 := by omega
    go_enter Try.func10, Try.ntmps10
    go_wp2
    go_ret
    exact ⟨rfl, Grew.refl _ _⟩
set_option maxRecDepth 100000 in
theorem newR_ok (v : Int) (h1 : 1 ≤ v) (h2 : v ≤ 4) (w : World) : Calls Try.prog 10 #[.int .i64 v] w fun e w' => ∃ g, e = .returned (.pointer (some ⟨g, 0, none⟩)) ∧ w.heap.size ≤ g ∧ Blk w' g 59 #[.int .i64 v, .bool false, .bool false, .int .i64 0, .int .u64 0, .int .u64 0, .int .i64 0, .int .i64 0, .int .i64 0, .int .i64 0, .int .i64 0, .int .i64 0, .int .i64 0, .int .i64 0] ∧ Grew w w' none := by
  have hu := Try.underlying59
  have h3 : ¬ v < 1 := by omega
  go_enter Try.func10, Try.ntmps10
  go_wp2_with fail
  go_ret
  exact ⟨_, rfl, Nat.le_refl _, blk_new w _, Grew.below (below_alloc (Below.refl _ _) _)⟩
theorem pendP_nil (w : World) : Calls Try.prog 18 #[.pointer none] w fun e w' => e = .returned (.bool false) ∧ Grew w w' none := by
  go_enter Try.func18, Try.ntmps18
  go_wp2
  go_ret
  exact ⟨rfl, Grew.refl _ _⟩
theorem pendP_ok (g : Nat) (b : Bool) (w : World) (cs : Array Value) (hb : Blk w g 57 cs) (hc : cs[3]? = some (.bool b)) : Calls Try.prog 18 #[.pointer (some ⟨g, 0, none⟩)] w fun e w' => e = .returned (.bool b) ∧ Grew w w' none := by
  have hu := Try.underlying57
  have h := hb.cell 3 hc
  clear hb hc
  go_enter Try.func18, Try.ntmps18
  go_wp2
  go_ret
  exact ⟨rfl, Grew.refl _ _⟩
theorem pendR_nil (w : World) : Calls Try.prog 19 #[.pointer none] w fun e w' => e = .returned (.bool false) ∧ Grew w w' none := by
  go_enter Try.func19, Try.ntmps19
  go_wp2
  go_ret
  exact ⟨rfl, Grew.refl _ _⟩
theorem pendR_ok (g : Nat) (b : Bool) (w : World) (cs : Array Value) (hb : Blk w g 59 cs) (hc : cs[2]? = some (.bool b)) : Calls Try.prog 19 #[.pointer (some ⟨g, 0, none⟩)] w fun e w' => e = .returned (.bool b) ∧ Grew w w' none := by
  have hu := Try.underlying59
  have h := hb.cell 2 hc
  clear hb hc
  go_enter Try.func19, Try.ntmps19
  go_wp2
  go_ret
  exact ⟨rfl, Grew.refl _ _⟩
set_option maxRecDepth 100000 in
/-- slices.Clone of eight numbers in the midst of a block. -/
theorem clone_ok (b off : Nat) (zs : List Int) (w : World) (hz : zs.length = 8) (hc : ∀ j, j < 8 → w.cell? ⟨b, off + j, none⟩ = some (.int .i64 (zs.getD j 0))) :
    Calls Try.prog 30 #[.slice (some ⟨b, off, none⟩) 8 8] w fun e w' => ∃ b2 c, e = .returned (.slice (some ⟨b2, 0, none⟩) 8 c) ∧ Kd.C (Kd.int .i64) w' (some ⟨b2, 0, none⟩) 8 zs ∧ (∀ j, j < 8 → w'.cell? ⟨b2, j, none⟩ = some (.int .i64 (zs.getD j 0))) ∧ 8 ≤ c ∧ Below w.heap.size w w' := by
  have q := fun (w : World) (a : Option Addr) (n c n' c' : Nat) => Lib.run_eql_slice_nil (P := Try.prog) w 42 3 a n c n' c' Try.underlying42
  have hu : ∀ w, Sem.run Try.prog (underlying 42) w = .ok (TypeDesc.slice 3) w := run_underlying Try.underlying42
  obtain ⟨i0, hi, hz0, hz1, hz2⟩ := info_parts info3
  have HC := Aside0.mk hc
  have HZ := Aside0.mk hz
  clear hc hz
  go_enter Try.func30, Try.ntmps30
  go_wp2_with (at_builtin; refine wpList_append_own _ rfl _ _ 42 rfl w.heap.size 3 i0 (.int .i64 0) 1 8 Try.underlying42 hi hz0 hz1 hz2 rfl (by decide) _ _ _ rfl (World.ownsRow_made w #[] 0 (Nat.le_refl _) (Nat.zero_le _) rfl) ⟨b, off, none⟩ 8 8 (zs.map (Value.int .i64)) rfl ?qc1 ?qc2 ?qc3 ?qc4 ?qc5 ?qc6 ?_)
  case qc1 => simp [HZ.out]
  case qc2 =>
    intro j u hj
    have hjn : j < zs.length := by
      have := (List.getElem?_eq_some_iff.1 hj).1
      simpa using this
    have e : (⟨b, off, none⟩ : Addr).add j = ⟨b, off + j, none⟩ := Addr.add_mid _ _ _
    rw [e]
    refine Lib.cell?_alloc_some _ ?_
    rw [HC.out j (by have := HZ.out; omega)]
    have e : (zs.map (Value.int .i64))[j]? = some (Value.int .i64 (zs.getD j 0)) := by simp [List.getD, List.getElem?_eq_getElem hjn]
    rw [e] at hj
    exact hj
  case qc3 => intro u hu; obtain ⟨x, _, rfl⟩ := List.mem_map.1 hu; rfl
  case qc4 => unfold maxLen; omega
  case qc5 => omega
  case qc6 => simp
  intro v' w1 hown hgrow hnil
  go_wp2
  go_ret
  have hR : (Kd.int .i64).R 3 w1 w.heap.size (fun _ => True) v' zs := Kd.R_of_own (by simpa [HZ.out, encs] using hown) (fun _ _ => trivial)
  obtain ⟨b2, c, rfl⟩ : ∃ b2 c, v' = .slice (some ⟨b2, 0, none⟩) zs.length c := by
    rcases hown.2 with ⟨he, hn⟩ | ⟨b2, c, cur, he, _⟩
    · exact absurd hn (by simp [List.eq_nil_iff_length_eq_zero, HZ.out])
    · exact ⟨b2, c, by rw [he]; simp [HZ.out]⟩
  obtain ⟨_, hle, hC⟩ := Kd.R_reads' hR
  have hcell : ∀ j, j < 8 → w1.cell? ⟨b2, j, none⟩ = some (.int .i64 (zs.getD j 0)) := fun j hj => (Kd.R_celln (0 : Int) hR (j : Int) (by omega) (by have := HZ.out; omega)).1
  rw [HZ.out] at hle hC ⊢
  exact ⟨b2, c, rfl, hC, hcell, hle, ((Below.refl _ w).alloc (Nat.le_refl _) _).grown hgrow (by simp) (by intro k hk; simp [Value.ownBlock] at hk; omega)⟩
theorem countsP_nil (w : World) : Calls Try.prog 16 #[.pointer none] w fun e w' => e = .returned (.slice none 0 0) ∧ Grew w w' none := by
  go_enter Try.func16, Try.ntmps16
  go_wp2
  go_ret
  exact ⟨rfl, Grew.refl _ _⟩
set_option maxRecDepth 100000 in
theorem countsP_ok (g : Nat) (zs : List Int) (w : World) (hz : zs.length = 8) (hc : ∀ j, j < 8 → w.cell? ⟨g, 5 + j, none⟩ = some (.int .i64 (zs.getD j 0))) :
    Calls Try.prog 16 #[.pointer (some ⟨g, 0, none⟩)] w fun e w' => ∃ b2 c, e = .returned (.slice (some ⟨b2, 0, none⟩) 8 c) ∧ Kd.C (Kd.int .i64) w' (some ⟨b2, 0, none⟩) 8 zs ∧ (∀ j, j < 8 → w'.cell? ⟨b2, j, none⟩ = some (.int .i64 (zs.getD j 0))) ∧ 8 ≤ c ∧ Grew w w' none := by
  have hu := Try.underlying57
  have hu2 := Try.underlying55
  have HC := Aside0.mk hc
  have HZ := Aside0.mk hz
  clear hc hz
  go_enter Try.func16, Try.ntmps16
  go_wp2_with (go_at_call 30; refine (clone_ok g 5 zs _ HZ.out HC.out).mono ?_; rintro e w1 ⟨A, c, rfl, hC, hcell, hle, hb⟩; have HC1 := Aside0.mk hC; have HE := Aside0.mk hcell; have HB := Aside0.mk hb; have HL := Aside0.mk hle; clear hC hb hle hcell)
  go_ret
  exact ⟨A, c, rfl, HC1.out, HE.out, HL.out, Grew.below HB.out⟩
set_option maxRecDepth 100000 in
theorem countsR_ok (g : Nat) (zs : List Int) (w : World) (hz : zs.length = 8) (hc : ∀ j, j < 8 → w.cell? ⟨g, 6 + j, none⟩ = some (.int .i64 (zs.getD j 0))) :
    Calls Try.prog 17 #[.pointer (some ⟨g, 0, none⟩)] w fun e w' => ∃ b2 c, e = .returned (.slice (some ⟨b2, 0, none⟩) 8 c) ∧ Kd.C (Kd.int .i64) w' (some ⟨b2, 0, none⟩) 8 zs ∧ (∀ j, j < 8 → w'.cell? ⟨b2, j, none⟩ = some (.int .i64 (zs.getD j 0))) ∧ 8 ≤ c ∧ Grew w w' none := by
  have q := fun (w : World) (a : Option Addr) (n c n' c' : Nat) => Lib.run_eql_slice_nil (P := Try.prog) w 42 3 a n c n' c' Try.underlying42
  have hu : ∀ w, Sem.run Try.prog (underlying 42) w = .ok (TypeDesc.slice 3) w := run_underlying Try.underlying42
  obtain ⟨i0, hi, hz0, hz1, hz2⟩ := info_parts info3
  have HC := Aside0.mk hc
  have HZ := Aside0.mk hz
  clear hc hz
  have hu3 := Try.underlying59
  have hu4 := Try.underlying55
  go_enter Try.func17, Try.ntmps17
  go_wp2_with (at_builtin; refine wpList_append_own _ rfl _ _ 42 rfl w.heap.size 3 i0 (.int .i64 0) 1 8 Try.underlying42 hi hz0 hz1 hz2 rfl (by decide) _ _ _ rfl (World.ownsRow_made w #[] 0 (Nat.le_refl _) (Nat.zero_le _) rfl) ⟨g, 6, none⟩ 8 8 (zs.map (Value.int .i64)) rfl ?qc1 ?qc2 ?qc3 ?qc4 ?qc5 ?qc6 ?_)
  case qc1 => simp [HZ.out]
  case qc2 =>
    intro j u hj
    have hjn : j < zs.length := by
      have := (List.getElem?_eq_some_iff.1 hj).1
      simpa using this
    have e : (⟨g, 6, none⟩ : Addr).add j = ⟨g, 6 + j, none⟩ := Addr.add_mid _ _ _
    rw [e]
    refine Lib.cell?_alloc_some _ ?_
    rw [HC.out j (by have := HZ.out; omega)]
    have e : (zs.map (Value.int .i64))[j]? = some (Value.int .i64 (zs.getD j 0)) := by simp [List.getD, List.getElem?_eq_getElem hjn]
    rw [e] at hj
    exact hj
  case qc3 => intro u hu; obtain ⟨x, _, rfl⟩ := List.mem_map.1 hu; rfl
  case qc4 => unfold maxLen; omega
  case qc5 => omega
  case qc6 => simp
  intro v' w1 hown hgrow hnil
  go_wp2
  go_ret
  have hR : (Kd.int .i64).R 3 w1 w.heap.size (fun _ => True) v' zs := Kd.R_of_own (by simpa [HZ.out, encs] using hown) (fun _ _ => trivial)
  obtain ⟨b2, c, rfl⟩ : ∃ b2 c, v' = .slice (some ⟨b2, 0, none⟩) zs.length c := by
    rcases hown.2 with ⟨he, hn⟩ | ⟨b2, c, cur, he, _⟩
    · exact absurd hn (by simp [List.eq_nil_iff_length_eq_zero, HZ.out])
    · exact ⟨b2, c, by rw [he]; simp [HZ.out]⟩
  obtain ⟨_, hle, hC⟩ := Kd.R_reads' hR
  have hcell : ∀ j, j < 8 → w1.cell? ⟨b2, j, none⟩ = some (.int .i64 (zs.getD j 0)) := fun j hj => (Kd.R_celln (0 : Int) hR (j : Int) (by omega) (by have := HZ.out; omega)).1
  rw [HZ.out] at hle hC ⊢
  exact ⟨b2, c, rfl, hC, hcell, hle, Grew.below (((Below.refl _ w).alloc (Nat.le_refl _) _).grown hgrow (by simp) (by intro k hk; simp [Value.ownBlock] at hk; omega))⟩
theorem pendP_eq (g : Nat) (b : Bool) (w : World) (cs : Array Value) (hb : Blk w g 57 cs) (hc : cs[3]? = some (.bool b)) : Calls Try.prog 18 #[.pointer (some ⟨g, 0, none⟩)] w fun e w' => e = .returned (.bool b) ∧ w = w' := by
  have hu := Try.underlying57
  have h := hb.cell 3 hc
  clear hb hc
  go_enter Try.func18, Try.ntmps18
  go_wp2
  go_ret
  exact ⟨rfl, rfl⟩
theorem pendR_eq (g : Nat) (b : Bool) (w : World) (cs : Array Value) (hb : Blk w g 59 cs) (hc : cs[2]? = some (.bool b)) : Calls Try.prog 19 #[.pointer (some ⟨g, 0, none⟩)] w fun e w' => e = .returned (.bool b) ∧ w = w' := by
  have hu := Try.underlying59
  have h := hb.cell 2 hc
  clear hb hc
  go_enter Try.func19, Try.ntmps19
  go_wp2
  go_ret
  exact ⟨rfl, rfl⟩
theorem newP_eq (v : Int) (h : v < 1 ∨ 4 < v) (w : World) : Calls Try.prog 9 #[.int .i64 v] w fun e w' => e = .returned (.pointer none) ∧ w = w' := by
  rcases h with h | h
  · go_enter Try.func9, Try.ntmps9
    go_wp2
    go_ret
    exact ⟨rfl, rfl⟩
  · have h1 : ¬ v < 1 := by omega
    go_enter Try.func9, Try.ntmps9
    go_wp2
    go_ret
    exact ⟨rfl, rfl⟩
theorem pendP_nil_eq (w : World) : Calls Try.prog 18 #[.pointer none] w fun e w' => e = .returned (.bool false) ∧ w = w' := by
  go_enter Try.func18, Try.ntmps18
  go_wp2
  go_ret
  exact ⟨rfl, rfl⟩
theorem countsP_nil_eq (w : World) : Calls Try.prog 16 #[.pointer none] w fun e w' => e = .returned (.slice none 0 0) ∧ w = w' := by
  go_enter Try.func16, Try.ntmps16
  go_wp2
  go_ret
  exact ⟨rfl, rfl⟩
end Go.Proofs.Ytohjmfjdopffkaa.As
