/- One state for the two objects (the program's association and the reference's), what Send and Receive make of it, and their contracts by these functions. -/
import Derived.Test.YtohjmfjdopffkaaAsPure
import Derived.Test.YtohjmfjdopffkaaNew
import Derived.Test.YtohjmfjdopffkaaSendP
import Derived.Test.YtohjmfjdopffkaaHeardP
import Derived.Test.YtohjmfjdopffkaaRecvP
namespace Go.Proofs.Ytohjmfjdopffkaa.As
open Go Go.RowKit Go.Proofs.Ytohjmfjdopffkaa.PAs Go.Proofs.Ytohjmfjdopffkaa.Ob Go.Proofs.Ytohjmfjdopffkaa.AsP Go.Proofs.YtohjmfjdopffkaaW.PrintWords Go.Proofs.YtohjmfjdopffkaaW.PrintLast Go.Proofs.YtohjmfjdopffkaaW.PrintMore
set_option linter.unusedVariables false
set_option linter.unusedSimpArgs false

structure S where
  ver : Int
  n : Int
  t : Int
  pd : Bool
  xm : Int
  c0 : Int
  c1 : Int
  c2 : Int
  c3 : Int
  c4 : Int
  c5 : Int
  c6 : Int
  c7 : Int
/-- The program's cells. -/
def S.cP (s : S) : Array Value := #[.int .i64 s.ver, .int .u64 s.n, .int .i64 s.t, .bool s.pd, .int .u64 s.xm, .int .i64 s.c0, .int .i64 s.c1, .int .i64 s.c2, .int .i64 s.c3, .int .i64 s.c4, .int .i64 s.c5, .int .i64 s.c6, .int .i64 s.c7]
/-- The reference's cells. -/
def S.cR (s : S) : Array Value := #[.int .i64 s.ver, .bool (s.n != 0), .bool s.pd, .int .i64 s.t, .int .u64 s.n, .int .u64 s.xm, .int .i64 s.c0, .int .i64 s.c1, .int .i64 s.c2, .int .i64 s.c3, .int .i64 s.c4, .int .i64 s.c5, .int .i64 s.c6, .int .i64 s.c7]
/-- Before the first request nothing is pending. -/
def S.inv (s : S) : Prop := s.n = 0 → s.t = 0 ∧ s.pd = false
/-- A header. -/
structure Np where
  p0 : Int
  p1 : Int
  p2 : Int
  p3 : Int
  p4 : Int
  p5 : Int
  p6 : Int
  p7 : Int
  p8 : Int
  p9 : Int
  p10 : Int
  p11 : Int
  p12 : Int
deriving DecidableEq
def Np.v (p : Np) : Array Value := #[.int .i64 p.p0, .int .i64 p.p1, .int .i64 p.p2, .int .i64 p.p3, .int .i64 p.p4, .int .i64 p.p5, .int .u32 p.p6, .int .u32 p.p7, .int .u32 p.p8, .int .u64 p.p9, .int .u64 p.p10, .int .u64 p.p11, .int .u64 p.p12]
structure Np.ok (p : Np) : Prop where
  ref : 0 ≤ p.p8 ∧ p.p8 ≤ 4294967295
  rcv : 0 ≤ p.p11 ∧ p.p11 ≤ 18446744073709551615
  xmt : 0 ≤ p.p12 ∧ p.p12 ≤ 18446744073709551615
/-- An outcome. -/
structure Hd where
  k : Int
  s : ByteArray
  q1 : Int
  q2 : Int
  q3 : Int
  q4 : Int
def Hd.v (h : Hd) : Array Value := #[.int .i64 h.k, .string h.s, .int .i64 h.q1, .int .i64 h.q2, .int .i64 h.q3, .int .i64 h.q4]
def bare (k : Int) : Hd := ⟨k, ⟨#[]⟩, 0, 0, 0, 0⟩
def acc (t : Int) (p : Np) (now : Int) : Hd :=
  if (kis p.p3 p.p8).2 = true then ⟨4, (kis p.p3 p.p8).1, 0, 0, 0, 0⟩ else
  if syn p.p0 p.p3 = false then bare 5 else
  if (fnd p.p11 now).2 = false then bare 6 else
  if (fnd p.p12 now).2 = false then bare 6 else
  if (fnd p.p12 now).1 < (fnd p.p11 now).1 then bare 6 else ⟨7, ⟨#[]⟩, t, (fnd p.p11 now).1, (fnd p.p12 now).1, now⟩
def out (s : S) (p : Np) (now : Int) : Hd :=
  if chk p.p0 p.p1 p.p2 p.p3 p.p4 p.p5 ≠ 0 then bare 0 else
  if p.p2 ≠ 4 then bare 0 else
  if inb now = false then bare 0 else
  if s.n ≠ 0 ∧ now < s.t then bare 0 else
  if s.pd = false then bare 1 else
  if p.p10 ≠ s.n then bare 2 else
  if p.p12 ≠ 0 ∧ p.p12 = s.xm then bare 3 else acc s.t p now
def S.bump (s : S) (k : Nat) : S := match k with
  | 0 => { s with c0 := wrap64 (s.c0 + 1) }
  | 1 => { s with c1 := wrap64 (s.c1 + 1) }
  | 2 => { s with c2 := wrap64 (s.c2 + 1) }
  | 3 => { s with c3 := wrap64 (s.c3 + 1) }
  | 4 => { s with c4 := wrap64 (s.c4 + 1) }
  | 5 => { s with c5 := wrap64 (s.c5 + 1) }
  | 6 => { s with c6 := wrap64 (s.c6 + 1) }
  | 7 => { s with c7 := wrap64 (s.c7 + 1) }
  | _ => s
def recv (s : S) (p : Np) (now : Int) : Hd × S :=
  (out s p now, if (out s p now).k > 3 then ({ s with pd := false, xm := p.p12 } : S).bump (out s p now).k.toNat else s.bump (out s p now).k.toNat)
def send (s : S) (now nonce : Int) : Int × S :=
  if inb now = false then (3, s) else if nonce = 0 then (2, s) else if nonce = s.n then (10, s) else (0, { s with n := nonce, t := now, pd := true })
def zero31 : Array Value := #[.int .i64 0, .int .i64 0, .int .i64 0, .int .i64 0, .int .i64 0, .int .i64 0, .int .u32 0, .int .u32 0, .int .u32 0, .int .u64 0, .int .u64 0, .int .u64 0, .int .u64 0]
def req31 (ver nonce : Int) : Array Value := #[.int .i64 0, .int .i64 ver, .int .i64 3, .int .i64 0, .int .i64 0, .int .i64 0, .int .u32 0, .int .u32 0, .int .u32 0, .int .u64 0, .int .u64 0, .int .u64 0, .int .u64 nonce]
/-- What Send returns. -/
def sent (s : S) (now nonce : Int) : Value := .tuple #[.agg (if (send s now nonce).1 = 0 then req31 s.ver nonce else zero31), .int .i64 (send s now nonce).1]
theorem grew_some {w w' : World} {row : Option Nat} (h : Grew w w' none) : Grew w w' row := ⟨⟨h.out.os, h.out.tape, h.out.output, h.out.size, fun k hk _ => h.out.block k hk (by simp)⟩⟩
theorem beq_f {a b : Int} (h : a ≠ b) : (a == b) = false := beq_eq_false_iff_ne.mpr h
theorem beq_t {a b : Int} (h : a = b) : (a == b) = true := beq_iff_eq.mpr h
theorem send_inv (s : S) (now nonce : Int) (h : s.inv) : (send s now nonce).2.inv := by
  unfold send
  repeat' split
  all_goals first | exact h | (intro e; exact absurd e (by assumption))

theorem sendP_calls (g : Nat) (w : World) (s : S) (now nonce : Int) (hb : Blk w g 57 s.cP) : Calls Try.prog 12 #[.pointer (some ⟨g, 0, none⟩), .int .i64 now, .int .u64 nonce] w fun e w' =>
    e = .returned (sent s now nonce) ∧ Blk w' g 57 (send s now nonce).2.cP ∧ Grew w w' (some g) := by
  unfold sent send
  by_cases h1 : inb now = false
  · have hin : assoc_inside.f now = some false := by rw [← h1]; exact inside_f now
    rw [if_pos h1]
    exact (sendP_rng g w now nonce s.ver s.n s.t s.pd s.xm s.c0 s.c1 s.c2 s.c3 s.c4 s.c5 s.c6 s.c7 hb hin).mono fun e w' h => ⟨h.1, h.2.1, grew_some h.2.2⟩
  · have hin : assoc_inside.f now = some true := by rw [← (by simpa using h1 : inb now = true)]; exact inside_f now
    rw [if_neg h1]
    by_cases h2 : nonce = 0
    · rw [if_pos h2]
      exact (sendP_zero g w now nonce s.ver s.n s.t s.pd s.xm s.c0 s.c1 s.c2 s.c3 s.c4 s.c5 s.c6 s.c7 hb hin (beq_t h2)).mono fun e w' h => ⟨h.1, h.2.1, grew_some h.2.2⟩
    · rw [if_neg h2]
      by_cases h3 : nonce = s.n
      · rw [if_pos h3]
        exact (sendP_twice g w now nonce s.ver s.n s.t s.pd s.xm s.c0 s.c1 s.c2 s.c3 s.c4 s.c5 s.c6 s.c7 hb hin (beq_f h2) (beq_t h3)).mono fun e w' h => ⟨h.1, h.2.1, grew_some h.2.2⟩
      · rw [if_neg h3]
        exact sendP_ok g w now nonce s.ver s.n s.t s.pd s.xm s.c0 s.c1 s.c2 s.c3 s.c4 s.c5 s.c6 s.c7 hb hin (beq_f h2) (beq_f h3)

theorem heardP_out (g : Nat) (s : S) (p : Np) (now : Int) (hi : s.inv) (ho : p.ok) (W : World) (hb : Blk W g 57 s.cP) : Calls Try.prog 27 #[.pointer (some ⟨g, 0, none⟩), .agg p.v, .int .i64 now] W fun e w' => e = .returned (.agg (out s p now).v) ∧ Grew W w' none := by
  have hck : ntpmsg_Check.f p.p0 p.p1 p.p2 p.p3 p.p4 p.p5 p.p6 p.p7 p.p8 p.p9 p.p10 p.p11 p.p12 = some (chk p.p0 p.p1 p.p2 p.p3 p.p4 p.p5) := check_f p.p0 p.p1 p.p2 p.p3 p.p4 p.p5 p.p6 p.p7 p.p8 p.p9 p.p10 p.p11 p.p12
  unfold out
  by_cases z : s.n = 0
  · have e : s.cP = #[.int .i64 s.ver, .int .u64 0, .int .i64 0, .bool s.pd, .int .u64 s.xm, .int .i64 s.c0, .int .i64 s.c1, .int .i64 s.c2, .int .i64 s.c3, .int .i64 s.c4, .int .i64 s.c5, .int .i64 s.c6, .int .i64 s.c7] := by unfold S.cP; rw [z, (hi z).1]
    rw [e] at hb
    by_cases h1 : chk p.p0 p.p1 p.p2 p.p3 p.p4 p.p5 ≠ 0
    · rw [if_pos h1]; exact heardP_bad1z 40 g W now s.ver s.n s.t s.pd s.xm s.c0 s.c1 s.c2 s.c3 s.c4 s.c5 s.c6 s.c7 p.p0 p.p1 p.p2 p.p3 p.p4 p.p5 p.p6 p.p7 p.p8 p.p9 p.p10 p.p11 p.p12 hb _ hck h1
    rw [if_neg h1]
    rw [(by simpa using h1 : chk p.p0 p.p1 p.p2 p.p3 p.p4 p.p5 = 0)] at hck
    by_cases h2 : p.p2 ≠ 4
    · rw [if_pos h2]; exact heardP_bad2z 40 g W now s.ver s.n s.t s.pd s.xm s.c0 s.c1 s.c2 s.c3 s.c4 s.c5 s.c6 s.c7 p.p0 p.p1 p.p2 p.p3 p.p4 p.p5 p.p6 p.p7 p.p8 p.p9 p.p10 p.p11 p.p12 hb hck h2
    rw [if_neg h2]
    have h2' : p.p2 = 4 := by omega
    by_cases h3 : inb now = false
    · rw [if_pos h3]; exact heardP_bad3z 40 g W now s.ver s.n s.t s.pd s.xm s.c0 s.c1 s.c2 s.c3 s.c4 s.c5 s.c6 s.c7 p.p0 p.p1 p.p2 p.p3 p.p4 p.p5 p.p6 p.p7 p.p8 p.p9 p.p10 p.p11 p.p12 hb hck h2' (h3 ▸ inside_f now)
    rw [if_neg h3, if_neg (fun h => h.1 z), if_pos (hi z).2]
    have hin : assoc_inside.f now = some true := by rw [← (by simpa using h3 : inb now = true)]; exact inside_f now
    rw [(hi z).2] at hb
    exact heardP_nonez 40 g W now s.ver s.n s.t s.pd s.xm s.c0 s.c1 s.c2 s.c3 s.c4 s.c5 s.c6 s.c7 p.p0 p.p1 p.p2 p.p3 p.p4 p.p5 p.p6 p.p7 p.p8 p.p9 p.p10 p.p11 p.p12 hb hck h2' hin
  by_cases h1 : chk p.p0 p.p1 p.p2 p.p3 p.p4 p.p5 ≠ 0
  · rw [if_pos h1]; exact heardP_bad1n 40 g W now s.ver s.n s.t s.pd s.xm s.c0 s.c1 s.c2 s.c3 s.c4 s.c5 s.c6 s.c7 p.p0 p.p1 p.p2 p.p3 p.p4 p.p5 p.p6 p.p7 p.p8 p.p9 p.p10 p.p11 p.p12 hb z _ hck h1
  rw [if_neg h1]
  rw [(by simpa using h1 : chk p.p0 p.p1 p.p2 p.p3 p.p4 p.p5 = 0)] at hck
  by_cases h2 : p.p2 ≠ 4
  · rw [if_pos h2]; exact heardP_bad2n 40 g W now s.ver s.n s.t s.pd s.xm s.c0 s.c1 s.c2 s.c3 s.c4 s.c5 s.c6 s.c7 p.p0 p.p1 p.p2 p.p3 p.p4 p.p5 p.p6 p.p7 p.p8 p.p9 p.p10 p.p11 p.p12 hb z hck h2
  rw [if_neg h2]
  have h2' : p.p2 = 4 := by omega
  by_cases h3 : inb now = false
  · rw [if_pos h3]; exact heardP_bad3n 40 g W now s.ver s.n s.t s.pd s.xm s.c0 s.c1 s.c2 s.c3 s.c4 s.c5 s.c6 s.c7 p.p0 p.p1 p.p2 p.p3 p.p4 p.p5 p.p6 p.p7 p.p8 p.p9 p.p10 p.p11 p.p12 hb z hck h2' (h3 ▸ inside_f now)
  rw [if_neg h3]
  have hI : inb now = true := by simpa using h3
  have hin : assoc_inside.f now = some true := by rw [← hI]; exact inside_f now
  by_cases h4 : now < s.t
  · rw [if_pos ⟨z, h4⟩]; exact heardP_bad4n 40 g W now s.ver s.n s.t s.pd s.xm s.c0 s.c1 s.c2 s.c3 s.c4 s.c5 s.c6 s.c7 p.p0 p.p1 p.p2 p.p3 p.p4 p.p5 p.p6 p.p7 p.p8 p.p9 p.p10 p.p11 p.p12 hb z hck h2' hin h4
  rw [if_neg (fun h => h4 h.2)]
  by_cases h5 : s.pd = false
  · rw [if_pos h5]
    have e : s.cP = #[.int .i64 s.ver, .int .u64 s.n, .int .i64 s.t, .bool false, .int .u64 s.xm, .int .i64 s.c0, .int .i64 s.c1, .int .i64 s.c2, .int .i64 s.c3, .int .i64 s.c4, .int .i64 s.c5, .int .i64 s.c6, .int .i64 s.c7] := by unfold S.cP; rw [h5]
    rw [e] at hb
    exact heardP_nonen 40 g W now s.ver s.n s.t s.pd s.xm s.c0 s.c1 s.c2 s.c3 s.c4 s.c5 s.c6 s.c7 p.p0 p.p1 p.p2 p.p3 p.p4 p.p5 p.p6 p.p7 p.p8 p.p9 p.p10 p.p11 p.p12 hb z hck h2' hin h4
  rw [if_neg h5]
  have e : s.cP = #[.int .i64 s.ver, .int .u64 s.n, .int .i64 s.t, .bool true, .int .u64 s.xm, .int .i64 s.c0, .int .i64 s.c1, .int .i64 s.c2, .int .i64 s.c3, .int .i64 s.c4, .int .i64 s.c5, .int .i64 s.c6, .int .i64 s.c7] := by unfold S.cP; rw [(by simpa using h5 : s.pd = true)]
  rw [e] at hb
  by_cases h6 : p.p10 ≠ s.n
  · rw [if_pos h6]; exact heardP_bogus 40 g W now s.ver s.n s.t s.pd s.xm s.c0 s.c1 s.c2 s.c3 s.c4 s.c5 s.c6 s.c7 p.p0 p.p1 p.p2 p.p3 p.p4 p.p5 p.p6 p.p7 p.p8 p.p9 p.p10 p.p11 p.p12 hb z hck h2' hin h4 h6
  rw [if_neg h6]
  have h6' : p.p10 = s.n := by omega
  have hks : ntpmsg_Kiss.f 40 p.p0 p.p1 p.p2 p.p3 p.p4 p.p5 p.p6 p.p7 p.p8 p.p9 p.p10 p.p11 p.p12 = some ((kis p.p3 p.p8).1, (kis p.p3 p.p8).2) := kiss_f 40 p.p0 p.p1 p.p2 p.p3 p.p4 p.p5 p.p6 p.p7 p.p8 p.p9 p.p10 p.p11 p.p12 ho.ref.1 ho.ref.2 (by omega)
  have hsy : ntpmsg_Synced.f p.p0 p.p1 p.p2 p.p3 p.p4 p.p5 p.p6 p.p7 p.p8 p.p9 p.p10 p.p11 p.p12 = some (syn p.p0 p.p3) := synced_f p.p0 p.p1 p.p2 p.p3 p.p4 p.p5 p.p6 p.p7 p.p8 p.p9 p.p10 p.p11 p.p12
  have hf2 : assoc_found.f 40 p.p11 now = some ((fnd p.p11 now).1, (fnd p.p11 now).2) := found_f 40 p.p11 now ho.rcv.1 ho.rcv.2 hI (by omega)
  have hf3 : assoc_found.f 40 p.p12 now = some ((fnd p.p12 now).1, (fnd p.p12 now).2) := found_f 40 p.p12 now ho.xmt.1 ho.xmt.2 hI (by omega)
  by_cases h7 : p.p12 = 0

  · rw [if_neg (fun h => h.1 h7)]
    unfold acc
    by_cases k1 : (kis p.p3 p.p8).2 = true
    · rw [if_pos k1]; rw [k1] at hks; exact heardP_kissa 40 g W now s.ver s.n s.t s.pd s.xm s.c0 s.c1 s.c2 s.c3 s.c4 s.c5 s.c6 s.c7 p.p0 p.p1 p.p2 p.p3 p.p4 p.p5 p.p6 p.p7 p.p8 p.p9 p.p10 p.p11 p.p12 hb z hck h2' hin h4 h6' h7 _ hks
    rw [if_neg k1]
    have k1' : (kis p.p3 p.p8).2 = false := by simpa using k1
    rw [k1'] at hks
    by_cases k2 : syn p.p0 p.p3 = false
    · rw [if_pos k2]; rw [k2] at hsy; exact heardP_unsynca 40 g W now s.ver s.n s.t s.pd s.xm s.c0 s.c1 s.c2 s.c3 s.c4 s.c5 s.c6 s.c7 p.p0 p.p1 p.p2 p.p3 p.p4 p.p5 p.p6 p.p7 p.p8 p.p9 p.p10 p.p11 p.p12 hb z hck h2' hin h4 h6' h7 _ hks hsy
    rw [if_neg k2]
    rw [(by simpa using k2 : syn p.p0 p.p3 = true)] at hsy
    by_cases k3 : (fnd p.p11 now).2 = false
    · rw [if_pos k3]; rw [k3] at hf2; exact heardP_time1a 40 g W now s.ver s.n s.t s.pd s.xm s.c0 s.c1 s.c2 s.c3 s.c4 s.c5 s.c6 s.c7 p.p0 p.p1 p.p2 p.p3 p.p4 p.p5 p.p6 p.p7 p.p8 p.p9 p.p10 p.p11 p.p12 hb z hck h2' hin h4 h6' h7 _ hks hsy _ _ _ hf2 hf3
    rw [if_neg k3]
    rw [(by simpa using k3 : (fnd p.p11 now).2 = true)] at hf2
    by_cases k4 : (fnd p.p12 now).2 = false
    · rw [if_pos k4]; rw [k4] at hf3; exact heardP_time2a 40 g W now s.ver s.n s.t s.pd s.xm s.c0 s.c1 s.c2 s.c3 s.c4 s.c5 s.c6 s.c7 p.p0 p.p1 p.p2 p.p3 p.p4 p.p5 p.p6 p.p7 p.p8 p.p9 p.p10 p.p11 p.p12 hb z hck h2' hin h4 h6' h7 _ hks hsy _ _ hf2 hf3
    rw [if_neg k4]
    rw [(by simpa using k4 : (fnd p.p12 now).2 = true)] at hf3
    by_cases k5 : (fnd p.p12 now).1 < (fnd p.p11 now).1
    · rw [if_pos k5]; exact heardP_time3a 40 g W now s.ver s.n s.t s.pd s.xm s.c0 s.c1 s.c2 s.c3 s.c4 s.c5 s.c6 s.c7 p.p0 p.p1 p.p2 p.p3 p.p4 p.p5 p.p6 p.p7 p.p8 p.p9 p.p10 p.p11 p.p12 hb z hck h2' hin h4 h6' h7 _ hks hsy _ _ hf2 hf3 k5
    · rw [if_neg k5]; exact heardP_oka 40 g W now s.ver s.n s.t s.pd s.xm s.c0 s.c1 s.c2 s.c3 s.c4 s.c5 s.c6 s.c7 p.p0 p.p1 p.p2 p.p3 p.p4 p.p5 p.p6 p.p7 p.p8 p.p9 p.p10 p.p11 p.p12 hb z hck h2' hin h4 h6' h7 _ hks hsy _ _ hf2 hf3 k5

  by_cases h8 : p.p12 = s.xm
  · rw [if_pos ⟨h7, h8⟩]; exact heardP_dup 40 g W now s.ver s.n s.t s.pd s.xm s.c0 s.c1 s.c2 s.c3 s.c4 s.c5 s.c6 s.c7 p.p0 p.p1 p.p2 p.p3 p.p4 p.p5 p.p6 p.p7 p.p8 p.p9 p.p10 p.p11 p.p12 hb z hck h2' hin h4 h6' h7 h8
  rw [if_neg (fun h => h8 h.2)]
  unfold acc
  by_cases k1 : (kis p.p3 p.p8).2 = true
  · rw [if_pos k1]; rw [k1] at hks; exact heardP_kissb 40 g W now s.ver s.n s.t s.pd s.xm s.c0 s.c1 s.c2 s.c3 s.c4 s.c5 s.c6 s.c7 p.p0 p.p1 p.p2 p.p3 p.p4 p.p5 p.p6 p.p7 p.p8 p.p9 p.p10 p.p11 p.p12 hb z hck h2' hin h4 h6' h7 h8 _ hks
  rw [if_neg k1]
  have k1' : (kis p.p3 p.p8).2 = false := by simpa using k1
  rw [k1'] at hks
  by_cases k2 : syn p.p0 p.p3 = false
  · rw [if_pos k2]; rw [k2] at hsy; exact heardP_unsyncb 40 g W now s.ver s.n s.t s.pd s.xm s.c0 s.c1 s.c2 s.c3 s.c4 s.c5 s.c6 s.c7 p.p0 p.p1 p.p2 p.p3 p.p4 p.p5 p.p6 p.p7 p.p8 p.p9 p.p10 p.p11 p.p12 hb z hck h2' hin h4 h6' h7 h8 _ hks hsy
  rw [if_neg k2]
  rw [(by simpa using k2 : syn p.p0 p.p3 = true)] at hsy
  by_cases k3 : (fnd p.p11 now).2 = false
  · rw [if_pos k3]; rw [k3] at hf2; exact heardP_time1b 40 g W now s.ver s.n s.t s.pd s.xm s.c0 s.c1 s.c2 s.c3 s.c4 s.c5 s.c6 s.c7 p.p0 p.p1 p.p2 p.p3 p.p4 p.p5 p.p6 p.p7 p.p8 p.p9 p.p10 p.p11 p.p12 hb z hck h2' hin h4 h6' h7 h8 _ hks hsy _ _ _ hf2 hf3
  rw [if_neg k3]
  rw [(by simpa using k3 : (fnd p.p11 now).2 = true)] at hf2
  by_cases k4 : (fnd p.p12 now).2 = false
  · rw [if_pos k4]; rw [k4] at hf3; exact heardP_time2b 40 g W now s.ver s.n s.t s.pd s.xm s.c0 s.c1 s.c2 s.c3 s.c4 s.c5 s.c6 s.c7 p.p0 p.p1 p.p2 p.p3 p.p4 p.p5 p.p6 p.p7 p.p8 p.p9 p.p10 p.p11 p.p12 hb z hck h2' hin h4 h6' h7 h8 _ hks hsy _ _ hf2 hf3
  rw [if_neg k4]
  rw [(by simpa using k4 : (fnd p.p12 now).2 = true)] at hf3
  by_cases k5 : (fnd p.p12 now).1 < (fnd p.p11 now).1
  · rw [if_pos k5]; exact heardP_time3b 40 g W now s.ver s.n s.t s.pd s.xm s.c0 s.c1 s.c2 s.c3 s.c4 s.c5 s.c6 s.c7 p.p0 p.p1 p.p2 p.p3 p.p4 p.p5 p.p6 p.p7 p.p8 p.p9 p.p10 p.p11 p.p12 hb z hck h2' hin h4 h6' h7 h8 _ hks hsy _ _ hf2 hf3 k5
  · rw [if_neg k5]; exact heardP_okb 40 g W now s.ver s.n s.t s.pd s.xm s.c0 s.c1 s.c2 s.c3 s.c4 s.c5 s.c6 s.c7 p.p0 p.p1 p.p2 p.p3 p.p4 p.p5 p.p6 p.p7 p.p8 p.p9 p.p10 p.p11 p.p12 hb z hck h2' hin h4 h6' h7 h8 _ hks hsy _ _ hf2 hf3 k5

theorem acc_k (t : Int) (p : Np) (now : Int) : (acc t p now).k = 4 ∨ (acc t p now).k = 5 ∨ (acc t p now).k = 6 ∨ (acc t p now).k = 7 := by
  unfold acc bare
  repeat' split
  all_goals simp
theorem out_k (s : S) (p : Np) (now : Int) : (out s p now).k = 0 ∨ (out s p now).k = 1 ∨ (out s p now).k = 2 ∨ (out s p now).k = 3 ∨ (out s p now).k = 4 ∨ (out s p now).k = 5 ∨ (out s p now).k = 6 ∨ (out s p now).k = 7 := by
  unfold out
  have := acc_k s.t p now
  repeat' split
  all_goals first | (simp [bare]; done) | omega

theorem recvP_calls (g : Nat) (w : World) (s : S) (p : Np) (now : Int) (hi : s.inv) (ho : p.ok) (hb : Blk w g 57 s.cP) : Calls Try.prog 14 #[.pointer (some ⟨g, 0, none⟩), .agg p.v, .int .i64 now] w fun e w' =>
    e = .returned (.agg (recv s p now).1.v) ∧ Blk w' g 57 (recv s p now).2.cP ∧ Grew w w' (some g) := by
  have hh := heardP_out g s p now hi ho
  have hv : ∀ k, (out s p now).k = k → (out s p now).v = #[.int .i64 k, .string (out s p now).s, .int .i64 (out s p now).q1, .int .i64 (out s p now).q2, .int .i64 (out s p now).q3, .int .i64 (out s p now).q4] := fun k e => by unfold Hd.v; rw [e]
  unfold recv
  rcases out_k s p now with h | h | h | h | h | h | h | h
  · rw [h]
    simp only [hv _ h] at hh ⊢
    exact recvP_0 g w now s.ver s.n s.t s.pd s.xm s.c0 s.c1 s.c2 s.c3 s.c4 s.c5 s.c6 s.c7 p.p0 p.p1 p.p2 p.p3 p.p4 p.p5 p.p6 p.p7 p.p8 p.p9 p.p10 p.p11 p.p12 _ _ _ _ _ hb hh
  · rw [h]
    simp only [hv _ h] at hh ⊢
    exact recvP_1 g w now s.ver s.n s.t s.pd s.xm s.c0 s.c1 s.c2 s.c3 s.c4 s.c5 s.c6 s.c7 p.p0 p.p1 p.p2 p.p3 p.p4 p.p5 p.p6 p.p7 p.p8 p.p9 p.p10 p.p11 p.p12 _ _ _ _ _ hb hh
  · rw [h]
    simp only [hv _ h] at hh ⊢
    exact recvP_2 g w now s.ver s.n s.t s.pd s.xm s.c0 s.c1 s.c2 s.c3 s.c4 s.c5 s.c6 s.c7 p.p0 p.p1 p.p2 p.p3 p.p4 p.p5 p.p6 p.p7 p.p8 p.p9 p.p10 p.p11 p.p12 _ _ _ _ _ hb hh
  · rw [h]
    simp only [hv _ h] at hh ⊢
    exact recvP_3 g w now s.ver s.n s.t s.pd s.xm s.c0 s.c1 s.c2 s.c3 s.c4 s.c5 s.c6 s.c7 p.p0 p.p1 p.p2 p.p3 p.p4 p.p5 p.p6 p.p7 p.p8 p.p9 p.p10 p.p11 p.p12 _ _ _ _ _ hb hh
  · rw [h]
    simp only [hv _ h] at hh ⊢
    exact recvP_4 g w now s.ver s.n s.t s.pd s.xm s.c0 s.c1 s.c2 s.c3 s.c4 s.c5 s.c6 s.c7 p.p0 p.p1 p.p2 p.p3 p.p4 p.p5 p.p6 p.p7 p.p8 p.p9 p.p10 p.p11 p.p12 _ _ _ _ _ hb hh
  · rw [h]
    simp only [hv _ h] at hh ⊢
    exact recvP_5 g w now s.ver s.n s.t s.pd s.xm s.c0 s.c1 s.c2 s.c3 s.c4 s.c5 s.c6 s.c7 p.p0 p.p1 p.p2 p.p3 p.p4 p.p5 p.p6 p.p7 p.p8 p.p9 p.p10 p.p11 p.p12 _ _ _ _ _ hb hh
  · rw [h]
    simp only [hv _ h] at hh ⊢
    exact recvP_6 g w now s.ver s.n s.t s.pd s.xm s.c0 s.c1 s.c2 s.c3 s.c4 s.c5 s.c6 s.c7 p.p0 p.p1 p.p2 p.p3 p.p4 p.p5 p.p6 p.p7 p.p8 p.p9 p.p10 p.p11 p.p12 _ _ _ _ _ hb hh
  · rw [h]
    simp only [hv _ h] at hh ⊢
    exact recvP_7 g w now s.ver s.n s.t s.pd s.xm s.c0 s.c1 s.c2 s.c3 s.c4 s.c5 s.c6 s.c7 p.p0 p.p1 p.p2 p.p3 p.p4 p.p5 p.p6 p.p7 p.p8 p.p9 p.p10 p.p11 p.p12 _ _ _ _ _ hb hh
theorem bump_inv (s : S) (k : Nat) (h : s.inv) : (s.bump k).inv := by
  unfold S.bump
  split <;> exact h
theorem recv_inv (s : S) (p : Np) (now : Int) (h : s.inv) : (recv s p now).2.inv := by
  unfold recv
  simp only []
  split
  · exact bump_inv _ _ (fun e => ⟨(h e).1, rfl⟩)
  · exact bump_inv _ _ h

end Go.Proofs.Ytohjmfjdopffkaa.As
