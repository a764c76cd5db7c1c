/-
  No cell of these rows narrows 'for every input' (looked for: loops, veiled, ifaces, maps, wideKeys, modest, calm, conditions, laid).
  DERIVED. THE GIVEN ROWS OF THIS SEAT. 6 by the template 'for every input the law returns true; each argument reads behind the call as it read before'; 0 by the template 'total and deterministic' (their statements: YtohjmfjdopffkaaTotals.lean).
  GIVEN WITH THE SEED: the statements are not yours to turn. If you find one false, say at which input.
  Laid BY PROGRAM, IN A SANDBOX (cutbox-rows.mjs): the forced cells as the released guide's own fill.sh prints them over the translation 8ace642d34e9c66d… (all of the seat's roots in one cut). By AI agents, Wed Nov 11 2026. No macro, syntax, notation, axiom, sorry.
-/
import Derived.Test.YtohjmfjdopffkaaChecked
import GoSem.Claim
import GoSem.ClaimJoined
import GoSem.ClaimMapViews
import Derived.JoinedTies
import Derived.KernelRfl
namespace Go.Proofs.Ytohjmfjdopffkaa
/- THE CELL 'sum', in the pinned program and in every row, IS THE sha256 OF THE DUMP (.gsa) THAT YtohjmfjdopffkaaProg.lean LOADS. Nothing in Lean hashes anything: it is a label: what it is worth is what the hold of that sum in a sandbox is worth. -/
noncomputable def Try.pinned : Pinned := { name := "ytohjmfjdopffkaa", sum := "8ace642d34e9c66d0bd693a274bd87f80237c1ab571390ec4395a7695cb7a042", checked := Try.checked }
namespace Rows
def none {H : Type} : Left H := { results := [], args := [] }

/-- 'timesynclaw31.AssocRuns': WHATEVER THE INPUT: true; the input reads as it did. -/
def assocRunsSpec : ChangeSpec := { name := "assocRuns", fn := fun _ => fun
  | [d1, d2] => { results := [.lit (.bool true)], args := [d1, d2] }
  | _ => none }
def assocRunsRow : OpenClaim := { program := "ytohjmfjdopffkaa", sum := "8ace642d34e9c66d0bd693a274bd87f80237c1ab571390ec4395a7695cb7a042", func := "timesync/timesynclaw31.AssocRuns", spec := "assocRuns", named := ["math/bits.divideError", "math/bits.overflowError"], apart := false }
def AssocRunsSaid : Prop := assocRunsRow.holds Try.pinned (OpenSpec.ofChange assocRunsSpec)

/-- ITS FALSE NEIGHBOUR: 'it returns false'. Refute it at one input. -/
def assocRunsWrong : ChangeSpec := { name := "assocRuns", fn := fun _ => fun
  | [d1, d2] => { results := [.lit (.bool false)], args := [d1, d2] }
  | _ => none }
def AssocRunsWrongFalsely : Prop := assocRunsRow.holds Try.pinned (OpenSpec.ofChange assocRunsWrong)

/-- 'timesynclaw31.AssocOnce': WHATEVER THE INPUT: true; the input reads as it did. -/
def assocOnceSpec : ChangeSpec := { name := "assocOnce", fn := fun _ => fun
  | [d1, d2] => { results := [.lit (.bool true)], args := [d1, d2] }
  | _ => none }
def assocOnceRow : OpenClaim := { program := "ytohjmfjdopffkaa", sum := "8ace642d34e9c66d0bd693a274bd87f80237c1ab571390ec4395a7695cb7a042", func := "timesync/timesynclaw31.AssocOnce", spec := "assocOnce", named := ["math/bits.divideError", "math/bits.overflowError"], apart := false }
def AssocOnceSaid : Prop := assocOnceRow.holds Try.pinned (OpenSpec.ofChange assocOnceSpec)

/-- ITS FALSE NEIGHBOUR: 'it returns false'. Refute it at one input. -/
def assocOnceWrong : ChangeSpec := { name := "assocOnce", fn := fun _ => fun
  | [d1, d2] => { results := [.lit (.bool false)], args := [d1, d2] }
  | _ => none }
def AssocOnceWrongFalsely : Prop := assocOnceRow.holds Try.pinned (OpenSpec.ofChange assocOnceWrong)

/-- 'timesynclaw31.AssocExchange': WHATEVER THE INPUT: true; the input reads as it did. -/
def assocExchangeSpec : ChangeSpec := { name := "assocExchange", fn := fun _ => fun
  | [d1, d2, d3] => { results := [.lit (.bool true)], args := [d1, d2, d3] }
  | _ => none }
def assocExchangeRow : OpenClaim := { program := "ytohjmfjdopffkaa", sum := "8ace642d34e9c66d0bd693a274bd87f80237c1ab571390ec4395a7695cb7a042", func := "timesync/timesynclaw31.AssocExchange", spec := "assocExchange", named := ["math/bits.divideError", "math/bits.overflowError"], apart := false }
def AssocExchangeSaid : Prop := assocExchangeRow.holds Try.pinned (OpenSpec.ofChange assocExchangeSpec)

/-- ITS FALSE NEIGHBOUR: 'it returns false'. Refute it at one input. -/
def assocExchangeWrong : ChangeSpec := { name := "assocExchange", fn := fun _ => fun
  | [d1, d2, d3] => { results := [.lit (.bool false)], args := [d1, d2, d3] }
  | _ => none }
def AssocExchangeWrongFalsely : Prop := assocExchangeRow.holds Try.pinned (OpenSpec.ofChange assocExchangeWrong)

/-- 'timesynclaw31.AssocReplays': WHATEVER THE INPUT: true; the input reads as it did. -/
def assocReplaysSpec : ChangeSpec := { name := "assocReplays", fn := fun _ => fun
  | [d1, d2, d3] => { results := [.lit (.bool true)], args := [d1, d2, d3] }
  | _ => none }
def assocReplaysRow : OpenClaim := { program := "ytohjmfjdopffkaa", sum := "8ace642d34e9c66d0bd693a274bd87f80237c1ab571390ec4395a7695cb7a042", func := "timesync/timesynclaw31.AssocReplays", spec := "assocReplays", named := ["math/bits.divideError", "math/bits.overflowError"], apart := false }
def AssocReplaysSaid : Prop := assocReplaysRow.holds Try.pinned (OpenSpec.ofChange assocReplaysSpec)

/-- ITS FALSE NEIGHBOUR: 'it returns false'. Refute it at one input. -/
def assocReplaysWrong : ChangeSpec := { name := "assocReplays", fn := fun _ => fun
  | [d1, d2, d3] => { results := [.lit (.bool false)], args := [d1, d2, d3] }
  | _ => none }
def AssocReplaysWrongFalsely : Prop := assocReplaysRow.holds Try.pinned (OpenSpec.ofChange assocReplaysWrong)

/-- 'timesynclaw31.AssocInstants': WHATEVER THE INPUT: true; the input reads as it did. -/
def assocInstantsSpec : ChangeSpec := { name := "assocInstants", fn := fun _ => fun
  | [d1, d2, d3] => { results := [.lit (.bool true)], args := [d1, d2, d3] }
  | _ => none }
def assocInstantsRow : OpenClaim := { program := "ytohjmfjdopffkaa", sum := "8ace642d34e9c66d0bd693a274bd87f80237c1ab571390ec4395a7695cb7a042", func := "timesync/timesynclaw31.AssocInstants", spec := "assocInstants", named := ["math/bits.divideError", "math/bits.overflowError"], apart := false }
def AssocInstantsSaid : Prop := assocInstantsRow.holds Try.pinned (OpenSpec.ofChange assocInstantsSpec)

/-- ITS FALSE NEIGHBOUR: 'it returns false'. Refute it at one input. -/
def assocInstantsWrong : ChangeSpec := { name := "assocInstants", fn := fun _ => fun
  | [d1, d2, d3] => { results := [.lit (.bool false)], args := [d1, d2, d3] }
  | _ => none }
def AssocInstantsWrongFalsely : Prop := assocInstantsRow.holds Try.pinned (OpenSpec.ofChange assocInstantsWrong)

/-- 'timesynclaw31.AssocNobody': WHATEVER THE INPUT: true; the input reads as it did. -/
def assocNobodySpec : ChangeSpec := { name := "assocNobody", fn := fun _ => fun
  | [d] => { results := [.lit (.bool true)], args := [d] }
  | _ => none }
def assocNobodyRow : OpenClaim := { program := "ytohjmfjdopffkaa", sum := "8ace642d34e9c66d0bd693a274bd87f80237c1ab571390ec4395a7695cb7a042", func := "timesync/timesynclaw31.AssocNobody", spec := "assocNobody", named := ["math/bits.divideError", "math/bits.overflowError"], apart := false }
def AssocNobodySaid : Prop := assocNobodyRow.holds Try.pinned (OpenSpec.ofChange assocNobodySpec)

/-- ITS FALSE NEIGHBOUR: 'it returns false'. Refute it at one input. -/
def assocNobodyWrong : ChangeSpec := { name := "assocNobody", fn := fun _ => fun
  | [d] => { results := [.lit (.bool false)], args := [d] }
  | _ => none }
def AssocNobodyWrongFalsely : Prop := assocNobodyRow.holds Try.pinned (OpenSpec.ofChange assocNobodyWrong)

/- THE SECOND FORM. 'bulk': how many values and letters a reading holds, each counted each time it is reached (what is shared counts as often as it is met; a slice's spare places count too). A statement '..UptoSaid' is the law's where the arguments, and the package variables that the reading takes, are together of bulk at most 1048576: NARROWER than '..Said'. Prove '..Said' where nothing that the law and all that it calls make is longer than what came in: it says more and counts as full. Else prove '..UptoSaid'. A law counts once. -/
mutual
def uptoBulk {H : Type} : DataW H → Nat
  | .lit (.string bytes) => bytes.length + 1
  | .lit _ => 1
  | .nil => 1
  | .ptr d => uptoBulk d + 1
  | .slice elems spare => uptoBulkAll elems + uptoBulkAll spare + 1
  | .agg parts => uptoBulkAll parts + 1
  | .iface _ d => uptoBulk d + 1
  | .map entries => uptoBulkEntries entries + 1
  | .held _ => 1
def uptoBulkAll {H : Type} : List (DataW H) → Nat
  | [] => 0
  | d :: r => uptoBulk d + uptoBulkAll r
def uptoBulkEntries {H : Type} : List (Lit × DataW H) → Nat
  | [] => 0
  | x :: r => uptoBulkEntry x + uptoBulkEntries r
def uptoBulkEntry {H : Type} : Lit × DataW H → Nat
  | (.string bytes, d) => bytes.length + uptoBulk d + 1
  | (_, d) => uptoBulk d + 1
 end
def uptoSmall : (H : Type) → List (DataW H) → Bool := fun _ ds => decide (uptoBulkAll ds ≤ 1048576)
def OpenSpec.upto (s : _root_.Go.ChangeSpec) : _root_.Go.OpenSpec := { _root_.Go.OpenSpec.ofChange s with cond := some uptoSmall }

/-- 'timesynclaw31.AssocRuns', WHERE WHAT IT READS IS OF BULK AT MOST 1048576: true; the input reads as it did. -/
def assocRunsUptoRow : OpenClaim := { program := "ytohjmfjdopffkaa", sum := "8ace642d34e9c66d0bd693a274bd87f80237c1ab571390ec4395a7695cb7a042", func := "timesync/timesynclaw31.AssocRuns", spec := "assocRuns", named := ["math/bits.divideError", "math/bits.overflowError"], apart := false, narrowed := true }
def AssocRunsUptoSaid : Prop := assocRunsUptoRow.holds Try.pinned (OpenSpec.upto assocRunsSpec)

/-- 'timesynclaw31.AssocOnce', WHERE WHAT IT READS IS OF BULK AT MOST 1048576: true; the input reads as it did. -/
def assocOnceUptoRow : OpenClaim := { program := "ytohjmfjdopffkaa", sum := "8ace642d34e9c66d0bd693a274bd87f80237c1ab571390ec4395a7695cb7a042", func := "timesync/timesynclaw31.AssocOnce", spec := "assocOnce", named := ["math/bits.divideError", "math/bits.overflowError"], apart := false, narrowed := true }
def AssocOnceUptoSaid : Prop := assocOnceUptoRow.holds Try.pinned (OpenSpec.upto assocOnceSpec)

/-- 'timesynclaw31.AssocExchange', WHERE WHAT IT READS IS OF BULK AT MOST 1048576: true; the input reads as it did. -/
def assocExchangeUptoRow : OpenClaim := { program := "ytohjmfjdopffkaa", sum := "8ace642d34e9c66d0bd693a274bd87f80237c1ab571390ec4395a7695cb7a042", func := "timesync/timesynclaw31.AssocExchange", spec := "assocExchange", named := ["math/bits.divideError", "math/bits.overflowError"], apart := false, narrowed := true }
def AssocExchangeUptoSaid : Prop := assocExchangeUptoRow.holds Try.pinned (OpenSpec.upto assocExchangeSpec)

/-- 'timesynclaw31.AssocReplays', WHERE WHAT IT READS IS OF BULK AT MOST 1048576: true; the input reads as it did. -/
def assocReplaysUptoRow : OpenClaim := { program := "ytohjmfjdopffkaa", sum := "8ace642d34e9c66d0bd693a274bd87f80237c1ab571390ec4395a7695cb7a042", func := "timesync/timesynclaw31.AssocReplays", spec := "assocReplays", named := ["math/bits.divideError", "math/bits.overflowError"], apart := false, narrowed := true }
def AssocReplaysUptoSaid : Prop := assocReplaysUptoRow.holds Try.pinned (OpenSpec.upto assocReplaysSpec)

/-- 'timesynclaw31.AssocInstants', WHERE WHAT IT READS IS OF BULK AT MOST 1048576: true; the input reads as it did. -/
def assocInstantsUptoRow : OpenClaim := { program := "ytohjmfjdopffkaa", sum := "8ace642d34e9c66d0bd693a274bd87f80237c1ab571390ec4395a7695cb7a042", func := "timesync/timesynclaw31.AssocInstants", spec := "assocInstants", named := ["math/bits.divideError", "math/bits.overflowError"], apart := false, narrowed := true }
def AssocInstantsUptoSaid : Prop := assocInstantsUptoRow.holds Try.pinned (OpenSpec.upto assocInstantsSpec)

/-- 'timesynclaw31.AssocNobody', WHERE WHAT IT READS IS OF BULK AT MOST 1048576: true; the input reads as it did. -/
def assocNobodyUptoRow : OpenClaim := { program := "ytohjmfjdopffkaa", sum := "8ace642d34e9c66d0bd693a274bd87f80237c1ab571390ec4395a7695cb7a042", func := "timesync/timesynclaw31.AssocNobody", spec := "assocNobody", named := ["math/bits.divideError", "math/bits.overflowError"], apart := false, narrowed := true }
def AssocNobodyUptoSaid : Prop := assocNobodyUptoRow.holds Try.pinned (OpenSpec.upto assocNobodySpec)

end Rows
end Go.Proofs.Ytohjmfjdopffkaa
