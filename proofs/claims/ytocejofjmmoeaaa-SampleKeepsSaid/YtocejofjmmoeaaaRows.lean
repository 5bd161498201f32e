/-
  No cell of these rows narrows 'for every input' (looked for: loops, veiled, ifaces, maps, wideKeys, modest, calm, conditions, laid).
  DERIVED. THE GIVEN ROWS OF THIS SEAT. 9 by the template 'for every input the law returns true; each argument reads behind the call as it read before'; 0 by the template 'total and deterministic' (their statements: YtocejofjmmoeaaaTotals.lean).
  GIVEN WITH THE SEED: the statements are not yours to turn. If you find one false, say at which input.
  Laid BY PROGRAM, IN A SANDBOX (cutbox-rows.mjs): the forced cells as the released guide's own fill.sh prints them over the translation 98a8abab6e934eb8… (all of the seat's roots in one cut). By AI agents, Wed Nov 11 2026. No macro, syntax, notation, axiom, sorry.
-/
import Derived.Test.YtocejofjmmoeaaaChecked
import GoSem.Claim
import GoSem.ClaimJoined
import GoSem.ClaimMapViews
import Derived.JoinedTies
import Derived.KernelRfl
namespace Go.Proofs.Ytocejofjmmoeaaa
/- THE CELL 'sum', in the pinned program and in every row, IS THE sha256 OF THE DUMP (.gsa) THAT YtocejofjmmoeaaaProg.lean LOADS. Nothing in Lean hashes anything: it is a label: what it is worth is what the hold of that sum in a sandbox is worth. -/
noncomputable def Try.pinned : Pinned := { name := "ytocejofjmmoeaaa", sum := "98a8abab6e934eb890430a747e9923d30123b457be94d297b52a722389c2715d", checked := Try.checked }
namespace Rows
def none {H : Type} : Left H := { results := [], args := [] }

/-- 'tutorlaw19.SampleChecks': WHATEVER THE INPUT: true; the input reads as it did. -/
def sampleChecksSpec : ChangeSpec := { name := "sampleChecks", fn := fun _ => fun
  | [d1, d2] => { results := [.lit (.bool true)], args := [d1, d2] }
  | _ => none }
def sampleChecksRow : OpenClaim := { program := "ytocejofjmmoeaaa", sum := "98a8abab6e934eb890430a747e9923d30123b457be94d297b52a722389c2715d", func := "tutor/tutorlaw19.SampleChecks", spec := "sampleChecks", unfollowed := true, recurses := true, apart := false }
def SampleChecksSaid : Prop := sampleChecksRow.holds Try.pinned (OpenSpec.ofChange sampleChecksSpec)

/-- ITS FALSE NEIGHBOUR: 'it returns false'. Refute it at one input. -/
def sampleChecksWrong : ChangeSpec := { name := "sampleChecks", fn := fun _ => fun
  | [d1, d2] => { results := [.lit (.bool false)], args := [d1, d2] }
  | _ => none }
def SampleChecksWrongFalsely : Prop := sampleChecksRow.holds Try.pinned (OpenSpec.ofChange sampleChecksWrong)

/-- 'tutorlaw19.SamplePrefixes': WHATEVER THE INPUT: true; the input reads as it did. -/
def samplePrefixesSpec : ChangeSpec := { name := "samplePrefixes", fn := fun _ => fun
  | [d1, d2] => { results := [.lit (.bool true)], args := [d1, d2] }
  | _ => none }
def samplePrefixesRow : OpenClaim := { program := "ytocejofjmmoeaaa", sum := "98a8abab6e934eb890430a747e9923d30123b457be94d297b52a722389c2715d", func := "tutor/tutorlaw19.SamplePrefixes", spec := "samplePrefixes", unfollowed := true, recurses := true, apart := false }
def SamplePrefixesSaid : Prop := samplePrefixesRow.holds Try.pinned (OpenSpec.ofChange samplePrefixesSpec)

/-- ITS FALSE NEIGHBOUR: 'it returns false'. Refute it at one input. -/
def samplePrefixesWrong : ChangeSpec := { name := "samplePrefixes", fn := fun _ => fun
  | [d1, d2] => { results := [.lit (.bool false)], args := [d1, d2] }
  | _ => none }
def SamplePrefixesWrongFalsely : Prop := samplePrefixesRow.holds Try.pinned (OpenSpec.ofChange samplePrefixesWrong)

/-- 'tutorlaw19.SampleMerges': WHATEVER THE INPUT: true; the input reads as it did. -/
def sampleMergesSpec : ChangeSpec := { name := "sampleMerges", fn := fun _ => fun
  | [d1, d2, d3] => { results := [.lit (.bool true)], args := [d1, d2, d3] }
  | _ => none }
def sampleMergesRow : OpenClaim := { program := "ytocejofjmmoeaaa", sum := "98a8abab6e934eb890430a747e9923d30123b457be94d297b52a722389c2715d", func := "tutor/tutorlaw19.SampleMerges", spec := "sampleMerges", unfollowed := true, recurses := true, apart := false }
def SampleMergesSaid : Prop := sampleMergesRow.holds Try.pinned (OpenSpec.ofChange sampleMergesSpec)

/-- ITS FALSE NEIGHBOUR: 'it returns false'. Refute it at one input. -/
def sampleMergesWrong : ChangeSpec := { name := "sampleMerges", fn := fun _ => fun
  | [d1, d2, d3] => { results := [.lit (.bool false)], args := [d1, d2, d3] }
  | _ => none }
def SampleMergesWrongFalsely : Prop := sampleMergesRow.holds Try.pinned (OpenSpec.ofChange sampleMergesWrong)

/-- 'tutorlaw19.SampleLearns': WHATEVER THE INPUT: true; the input reads as it did. -/
def sampleLearnsSpec : ChangeSpec := { name := "sampleLearns", fn := fun _ => fun
  | [d1, d2] => { results := [.lit (.bool true)], args := [d1, d2] }
  | _ => none }
def sampleLearnsRow : OpenClaim := { program := "ytocejofjmmoeaaa", sum := "98a8abab6e934eb890430a747e9923d30123b457be94d297b52a722389c2715d", func := "tutor/tutorlaw19.SampleLearns", spec := "sampleLearns", unfollowed := true, recurses := true, apart := false }
def SampleLearnsSaid : Prop := sampleLearnsRow.holds Try.pinned (OpenSpec.ofChange sampleLearnsSpec)

/-- ITS FALSE NEIGHBOUR: 'it returns false'. Refute it at one input. -/
def sampleLearnsWrong : ChangeSpec := { name := "sampleLearns", fn := fun _ => fun
  | [d1, d2] => { results := [.lit (.bool false)], args := [d1, d2] }
  | _ => none }
def SampleLearnsWrongFalsely : Prop := sampleLearnsRow.holds Try.pinned (OpenSpec.ofChange sampleLearnsWrong)

/-- 'tutorlaw19.SampleOrders': WHATEVER THE INPUT: true; the input reads as it did. -/
def sampleOrdersSpec : ChangeSpec := { name := "sampleOrders", fn := fun _ => fun
  | [d1, d2, d3] => { results := [.lit (.bool true)], args := [d1, d2, d3] }
  | _ => none }
def sampleOrdersRow : OpenClaim := { program := "ytocejofjmmoeaaa", sum := "98a8abab6e934eb890430a747e9923d30123b457be94d297b52a722389c2715d", func := "tutor/tutorlaw19.SampleOrders", spec := "sampleOrders", unfollowed := true, recurses := true, apart := false }
def SampleOrdersSaid : Prop := sampleOrdersRow.holds Try.pinned (OpenSpec.ofChange sampleOrdersSpec)

/-- ITS FALSE NEIGHBOUR: 'it returns false'. Refute it at one input. -/
def sampleOrdersWrong : ChangeSpec := { name := "sampleOrders", fn := fun _ => fun
  | [d1, d2, d3] => { results := [.lit (.bool false)], args := [d1, d2, d3] }
  | _ => none }
def SampleOrdersWrongFalsely : Prop := sampleOrdersRow.holds Try.pinned (OpenSpec.ofChange sampleOrdersWrong)

/-- 'tutorlaw19.SampleSays': WHATEVER THE INPUT: true; the input reads as it did. -/
def sampleSaysSpec : ChangeSpec := { name := "sampleSays", fn := fun _ => fun
  | [d1, d2] => { results := [.lit (.bool true)], args := [d1, d2] }
  | _ => none }
def sampleSaysRow : OpenClaim := { program := "ytocejofjmmoeaaa", sum := "98a8abab6e934eb890430a747e9923d30123b457be94d297b52a722389c2715d", func := "tutor/tutorlaw19.SampleSays", spec := "sampleSays", unfollowed := true, recurses := true, apart := false }
def SampleSaysSaid : Prop := sampleSaysRow.holds Try.pinned (OpenSpec.ofChange sampleSaysSpec)

/-- ITS FALSE NEIGHBOUR: 'it returns false'. Refute it at one input. -/
def sampleSaysWrong : ChangeSpec := { name := "sampleSays", fn := fun _ => fun
  | [d1, d2] => { results := [.lit (.bool false)], args := [d1, d2] }
  | _ => none }
def SampleSaysWrongFalsely : Prop := sampleSaysRow.holds Try.pinned (OpenSpec.ofChange sampleSaysWrong)

/-- 'tutorlaw19.SampleKeeps': WHATEVER THE INPUT: true; the input reads as it did. -/
def sampleKeepsSpec : ChangeSpec := { name := "sampleKeeps", fn := fun _ => fun
  | [d1, d2, d3, d4] => { results := [.lit (.bool true)], args := [d1, d2, d3, d4] }
  | _ => none }
def sampleKeepsRow : OpenClaim := { program := "ytocejofjmmoeaaa", sum := "98a8abab6e934eb890430a747e9923d30123b457be94d297b52a722389c2715d", func := "tutor/tutorlaw19.SampleKeeps", spec := "sampleKeeps", unfollowed := true, recurses := true, apart := false }
def SampleKeepsSaid : Prop := sampleKeepsRow.holds Try.pinned (OpenSpec.ofChange sampleKeepsSpec)

/-- ITS FALSE NEIGHBOUR: 'it returns false'. Refute it at one input. -/
def sampleKeepsWrong : ChangeSpec := { name := "sampleKeeps", fn := fun _ => fun
  | [d1, d2, d3, d4] => { results := [.lit (.bool false)], args := [d1, d2, d3, d4] }
  | _ => none }
def SampleKeepsWrongFalsely : Prop := sampleKeepsRow.holds Try.pinned (OpenSpec.ofChange sampleKeepsWrong)

/-- 'tutorlaw19.SampleSplits': WHATEVER THE INPUT: true; the input reads as it did. -/
def sampleSplitsSpec : ChangeSpec := { name := "sampleSplits", fn := fun _ => fun
  | [d1, d2, d3] => { results := [.lit (.bool true)], args := [d1, d2, d3] }
  | _ => none }
def sampleSplitsRow : OpenClaim := { program := "ytocejofjmmoeaaa", sum := "98a8abab6e934eb890430a747e9923d30123b457be94d297b52a722389c2715d", func := "tutor/tutorlaw19.SampleSplits", spec := "sampleSplits", unfollowed := true, recurses := true, apart := false }
def SampleSplitsSaid : Prop := sampleSplitsRow.holds Try.pinned (OpenSpec.ofChange sampleSplitsSpec)

/-- ITS FALSE NEIGHBOUR: 'it returns false'. Refute it at one input. -/
def sampleSplitsWrong : ChangeSpec := { name := "sampleSplits", fn := fun _ => fun
  | [d1, d2, d3] => { results := [.lit (.bool false)], args := [d1, d2, d3] }
  | _ => none }
def SampleSplitsWrongFalsely : Prop := sampleSplitsRow.holds Try.pinned (OpenSpec.ofChange sampleSplitsWrong)

/-- 'tutorlaw19.SampleTrue': WHATEVER THE INPUT: true; the input reads as it did. -/
def sampleTrueSpec : ChangeSpec := { name := "sampleTrue", fn := fun _ => fun
  | [d1, d2] => { results := [.lit (.bool true)], args := [d1, d2] }
  | _ => none }
def sampleTrueRow : OpenClaim := { program := "ytocejofjmmoeaaa", sum := "98a8abab6e934eb890430a747e9923d30123b457be94d297b52a722389c2715d", func := "tutor/tutorlaw19.SampleTrue", spec := "sampleTrue", unfollowed := true, recurses := true, apart := false }
def SampleTrueSaid : Prop := sampleTrueRow.holds Try.pinned (OpenSpec.ofChange sampleTrueSpec)

/-- ITS FALSE NEIGHBOUR: 'it returns false'. Refute it at one input. -/
def sampleTrueWrong : ChangeSpec := { name := "sampleTrue", fn := fun _ => fun
  | [d1, d2] => { results := [.lit (.bool false)], args := [d1, d2] }
  | _ => none }
def SampleTrueWrongFalsely : Prop := sampleTrueRow.holds Try.pinned (OpenSpec.ofChange sampleTrueWrong)

/- THE SECOND FORM. 'bulk': how many values and letters a reading holds, each counted each time it is reached (what is shared counts as often as it is met; a slice's spare places count too). A statement '..UptoSaid' is the law's where the arguments, and the package variables that the reading takes, are together of bulk at most 1048576: NARROWER than '..Said'. Prove '..Said' where nothing that the law and all that it calls make is longer than what came in: it says more and counts as full. Else prove '..UptoSaid'. A law counts once. -/
mutual
def uptoBulk {H : Type} : DataW H → Nat
  | .lit (.string bytes) => bytes.length + 1
  | .lit _ => 1
  | .nil => 1
  | .ptr d => uptoBulk d + 1
  | .slice elems spare => uptoBulkAll elems + uptoBulkAll spare + 1
  | .agg parts => uptoBulkAll parts + 1
  | .iface _ d => uptoBulk d + 1
  | .map entries => uptoBulkEntries entries + 1
  | .held _ => 1
def uptoBulkAll {H : Type} : List (DataW H) → Nat
  | [] => 0
  | d :: r => uptoBulk d + uptoBulkAll r
def uptoBulkEntries {H : Type} : List (Lit × DataW H) → Nat
  | [] => 0
  | x :: r => uptoBulkEntry x + uptoBulkEntries r
def uptoBulkEntry {H : Type} : Lit × DataW H → Nat
  | (.string bytes, d) => bytes.length + uptoBulk d + 1
  | (_, d) => uptoBulk d + 1
 end
def uptoSmall : (H : Type) → List (DataW H) → Bool := fun _ ds => decide (uptoBulkAll ds ≤ 1048576)
def OpenSpec.upto (s : _root_.Go.ChangeSpec) : _root_.Go.OpenSpec := { _root_.Go.OpenSpec.ofChange s with cond := some uptoSmall }

/-- 'tutorlaw19.SampleChecks', WHERE WHAT IT READS IS OF BULK AT MOST 1048576: true; the input reads as it did. -/
def sampleChecksUptoRow : OpenClaim := { program := "ytocejofjmmoeaaa", sum := "98a8abab6e934eb890430a747e9923d30123b457be94d297b52a722389c2715d", func := "tutor/tutorlaw19.SampleChecks", spec := "sampleChecks", unfollowed := true, recurses := true, apart := false, narrowed := true }
def SampleChecksUptoSaid : Prop := sampleChecksUptoRow.holds Try.pinned (OpenSpec.upto sampleChecksSpec)

/-- 'tutorlaw19.SamplePrefixes', WHERE WHAT IT READS IS OF BULK AT MOST 1048576: true; the input reads as it did. -/
def samplePrefixesUptoRow : OpenClaim := { program := "ytocejofjmmoeaaa", sum := "98a8abab6e934eb890430a747e9923d30123b457be94d297b52a722389c2715d", func := "tutor/tutorlaw19.SamplePrefixes", spec := "samplePrefixes", unfollowed := true, recurses := true, apart := false, narrowed := true }
def SamplePrefixesUptoSaid : Prop := samplePrefixesUptoRow.holds Try.pinned (OpenSpec.upto samplePrefixesSpec)

/-- 'tutorlaw19.SampleMerges', WHERE WHAT IT READS IS OF BULK AT MOST 1048576: true; the input reads as it did. -/
def sampleMergesUptoRow : OpenClaim := { program := "ytocejofjmmoeaaa", sum := "98a8abab6e934eb890430a747e9923d30123b457be94d297b52a722389c2715d", func := "tutor/tutorlaw19.SampleMerges", spec := "sampleMerges", unfollowed := true, recurses := true, apart := false, narrowed := true }
def SampleMergesUptoSaid : Prop := sampleMergesUptoRow.holds Try.pinned (OpenSpec.upto sampleMergesSpec)

/-- 'tutorlaw19.SampleLearns', WHERE WHAT IT READS IS OF BULK AT MOST 1048576: true; the input reads as it did. -/
def sampleLearnsUptoRow : OpenClaim := { program := "ytocejofjmmoeaaa", sum := "98a8abab6e934eb890430a747e9923d30123b457be94d297b52a722389c2715d", func := "tutor/tutorlaw19.SampleLearns", spec := "sampleLearns", unfollowed := true, recurses := true, apart := false, narrowed := true }
def SampleLearnsUptoSaid : Prop := sampleLearnsUptoRow.holds Try.pinned (OpenSpec.upto sampleLearnsSpec)

/-- 'tutorlaw19.SampleOrders', WHERE WHAT IT READS IS OF BULK AT MOST 1048576: true; the input reads as it did. -/
def sampleOrdersUptoRow : OpenClaim := { program := "ytocejofjmmoeaaa", sum := "98a8abab6e934eb890430a747e9923d30123b457be94d297b52a722389c2715d", func := "tutor/tutorlaw19.SampleOrders", spec := "sampleOrders", unfollowed := true, recurses := true, apart := false, narrowed := true }
def SampleOrdersUptoSaid : Prop := sampleOrdersUptoRow.holds Try.pinned (OpenSpec.upto sampleOrdersSpec)

/-- 'tutorlaw19.SampleSays', WHERE WHAT IT READS IS OF BULK AT MOST 1048576: true; the input reads as it did. -/
def sampleSaysUptoRow : OpenClaim := { program := "ytocejofjmmoeaaa", sum := "98a8abab6e934eb890430a747e9923d30123b457be94d297b52a722389c2715d", func := "tutor/tutorlaw19.SampleSays", spec := "sampleSays", unfollowed := true, recurses := true, apart := false, narrowed := true }
def SampleSaysUptoSaid : Prop := sampleSaysUptoRow.holds Try.pinned (OpenSpec.upto sampleSaysSpec)

/-- 'tutorlaw19.SampleKeeps', WHERE WHAT IT READS IS OF BULK AT MOST 1048576: true; the input reads as it did. -/
def sampleKeepsUptoRow : OpenClaim := { program := "ytocejofjmmoeaaa", sum := "98a8abab6e934eb890430a747e9923d30123b457be94d297b52a722389c2715d", func := "tutor/tutorlaw19.SampleKeeps", spec := "sampleKeeps", unfollowed := true, recurses := true, apart := false, narrowed := true }
def SampleKeepsUptoSaid : Prop := sampleKeepsUptoRow.holds Try.pinned (OpenSpec.upto sampleKeepsSpec)

/-- 'tutorlaw19.SampleSplits', WHERE WHAT IT READS IS OF BULK AT MOST 1048576: true; the input reads as it did. -/
def sampleSplitsUptoRow : OpenClaim := { program := "ytocejofjmmoeaaa", sum := "98a8abab6e934eb890430a747e9923d30123b457be94d297b52a722389c2715d", func := "tutor/tutorlaw19.SampleSplits", spec := "sampleSplits", unfollowed := true, recurses := true, apart := false, narrowed := true }
def SampleSplitsUptoSaid : Prop := sampleSplitsUptoRow.holds Try.pinned (OpenSpec.upto sampleSplitsSpec)

/-- 'tutorlaw19.SampleTrue', WHERE WHAT IT READS IS OF BULK AT MOST 1048576: true; the input reads as it did. -/
def sampleTrueUptoRow : OpenClaim := { program := "ytocejofjmmoeaaa", sum := "98a8abab6e934eb890430a747e9923d30123b457be94d297b52a722389c2715d", func := "tutor/tutorlaw19.SampleTrue", spec := "sampleTrue", unfollowed := true, recurses := true, apart := false, narrowed := true }
def SampleTrueUptoSaid : Prop := sampleTrueUptoRow.holds Try.pinned (OpenSpec.upto sampleTrueSpec)

end Rows
end Go.Proofs.Ytocejofjmmoeaaa
