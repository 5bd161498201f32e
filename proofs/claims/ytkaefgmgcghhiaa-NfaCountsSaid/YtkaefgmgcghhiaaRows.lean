/-
  No cell of these rows narrows 'for every input' (looked for: loops, veiled, ifaces, maps, wideKeys, modest, calm, conditions, laid).
  DERIVED. THE GIVEN ROWS OF THIS SEAT. 10 by the template 'for every input the law returns true; each argument reads behind the call as it read before'; 0 by the template 'total and deterministic' (their statements: YtkaefgmgcghhiaaTotals.lean).
  GIVEN WITH THE SEED: the statements are not yours to turn. If you find one false, say at which input.
  Laid BY PROGRAM, IN A SANDBOX (cutbox-rows.mjs): the forced cells as the released guide's own fill.sh prints them over the translation 03df5e89497a4b3b… (all of the seat's roots in one cut). By AI agents, Wed Nov 11 2026. No macro, syntax, notation, axiom, sorry.
-/
import Derived.Test.YtkaefgmgcghhiaaChecked
import GoSem.Claim
import GoSem.ClaimJoined
import GoSem.ClaimMapViews
import Derived.JoinedTies
import Derived.KernelRfl
namespace Go.Proofs.Ytkaefgmgcghhiaa
/- THE CELL 'sum', in the pinned program and in every row, IS THE sha256 OF THE DUMP (.gsa) THAT YtkaefgmgcghhiaaProg.lean LOADS. Nothing in Lean hashes anything: it is a label: what it is worth is what the hold of that sum in a sandbox is worth. -/
noncomputable def Try.pinned : Pinned := { name := "ytkaefgmgcghhiaa", sum := "03df5e89497a4b3bf6fe271bd111fc9f92b6b12f057bfb15ff1d4e4468d2cd5c", checked := Try.checked }
namespace Rows
def none {H : Type} : Left H := { results := [], args := [] }

/-- 'tutorlaw17.NfaChecks': WHATEVER THE INPUT: true; the input reads as it did. -/
def nfaChecksSpec : ChangeSpec := { name := "nfaChecks", fn := fun _ => fun
  | [d] => { results := [.lit (.bool true)], args := [d] }
  | _ => none }
def nfaChecksRow : OpenClaim := { program := "ytkaefgmgcghhiaa", sum := "03df5e89497a4b3bf6fe271bd111fc9f92b6b12f057bfb15ff1d4e4468d2cd5c", func := "tutor/tutorlaw17.NfaChecks", spec := "nfaChecks", unfollowed := true, recurses := true, plainKeys := false, apart := false }
def NfaChecksSaid : Prop := nfaChecksRow.holds Try.pinned (OpenSpec.ofChange nfaChecksSpec)

/-- ITS FALSE NEIGHBOUR: 'it returns false'. Refute it at one input. -/
def nfaChecksWrong : ChangeSpec := { name := "nfaChecks", fn := fun _ => fun
  | [d] => { results := [.lit (.bool false)], args := [d] }
  | _ => none }
def NfaChecksWrongFalsely : Prop := nfaChecksRow.holds Try.pinned (OpenSpec.ofChange nfaChecksWrong)

/-- 'tutorlaw17.NfaAccepts': WHATEVER THE INPUT: true; the input reads as it did. -/
def nfaAcceptsSpec : ChangeSpec := { name := "nfaAccepts", fn := fun _ => fun
  | [d1, d2] => { results := [.lit (.bool true)], args := [d1, d2] }
  | _ => none }
def nfaAcceptsRow : OpenClaim := { program := "ytkaefgmgcghhiaa", sum := "03df5e89497a4b3bf6fe271bd111fc9f92b6b12f057bfb15ff1d4e4468d2cd5c", func := "tutor/tutorlaw17.NfaAccepts", spec := "nfaAccepts", unfollowed := true, recurses := true, plainKeys := false, apart := false }
def NfaAcceptsSaid : Prop := nfaAcceptsRow.holds Try.pinned (OpenSpec.ofChange nfaAcceptsSpec)

/-- ITS FALSE NEIGHBOUR: 'it returns false'. Refute it at one input. -/
def nfaAcceptsWrong : ChangeSpec := { name := "nfaAccepts", fn := fun _ => fun
  | [d1, d2] => { results := [.lit (.bool false)], args := [d1, d2] }
  | _ => none }
def NfaAcceptsWrongFalsely : Prop := nfaAcceptsRow.holds Try.pinned (OpenSpec.ofChange nfaAcceptsWrong)

/-- 'tutorlaw17.NfaDetermines': WHATEVER THE INPUT: true; the input reads as it did. -/
def nfaDeterminesSpec : ChangeSpec := { name := "nfaDetermines", fn := fun _ => fun
  | [d] => { results := [.lit (.bool true)], args := [d] }
  | _ => none }
def nfaDeterminesRow : OpenClaim := { program := "ytkaefgmgcghhiaa", sum := "03df5e89497a4b3bf6fe271bd111fc9f92b6b12f057bfb15ff1d4e4468d2cd5c", func := "tutor/tutorlaw17.NfaDetermines", spec := "nfaDetermines", unfollowed := true, recurses := true, plainKeys := false, apart := false }
def NfaDeterminesSaid : Prop := nfaDeterminesRow.holds Try.pinned (OpenSpec.ofChange nfaDeterminesSpec)

/-- ITS FALSE NEIGHBOUR: 'it returns false'. Refute it at one input. -/
def nfaDeterminesWrong : ChangeSpec := { name := "nfaDetermines", fn := fun _ => fun
  | [d] => { results := [.lit (.bool false)], args := [d] }
  | _ => none }
def NfaDeterminesWrongFalsely : Prop := nfaDeterminesRow.holds Try.pinned (OpenSpec.ofChange nfaDeterminesWrong)

/-- 'tutorlaw17.NfaTrue': WHATEVER THE INPUT: true; the input reads as it did. -/
def nfaTrueSpec : ChangeSpec := { name := "nfaTrue", fn := fun _ => fun
  | [d1, d2] => { results := [.lit (.bool true)], args := [d1, d2] }
  | _ => none }
def nfaTrueRow : OpenClaim := { program := "ytkaefgmgcghhiaa", sum := "03df5e89497a4b3bf6fe271bd111fc9f92b6b12f057bfb15ff1d4e4468d2cd5c", func := "tutor/tutorlaw17.NfaTrue", spec := "nfaTrue", unfollowed := true, recurses := true, plainKeys := false, apart := false }
def NfaTrueSaid : Prop := nfaTrueRow.holds Try.pinned (OpenSpec.ofChange nfaTrueSpec)

/-- ITS FALSE NEIGHBOUR: 'it returns false'. Refute it at one input. -/
def nfaTrueWrong : ChangeSpec := { name := "nfaTrue", fn := fun _ => fun
  | [d1, d2] => { results := [.lit (.bool false)], args := [d1, d2] }
  | _ => none }
def NfaTrueWrongFalsely : Prop := nfaTrueRow.holds Try.pinned (OpenSpec.ofChange nfaTrueWrong)

/-- 'tutorlaw17.NfaMeets': WHATEVER THE INPUT: true; the input reads as it did. -/
def nfaMeetsSpec : ChangeSpec := { name := "nfaMeets", fn := fun _ => fun
  | [d1, d2, d3] => { results := [.lit (.bool true)], args := [d1, d2, d3] }
  | _ => none }
def nfaMeetsRow : OpenClaim := { program := "ytkaefgmgcghhiaa", sum := "03df5e89497a4b3bf6fe271bd111fc9f92b6b12f057bfb15ff1d4e4468d2cd5c", func := "tutor/tutorlaw17.NfaMeets", spec := "nfaMeets", unfollowed := true, recurses := true, plainKeys := false, apart := false }
def NfaMeetsSaid : Prop := nfaMeetsRow.holds Try.pinned (OpenSpec.ofChange nfaMeetsSpec)

/-- ITS FALSE NEIGHBOUR: 'it returns false'. Refute it at one input. -/
def nfaMeetsWrong : ChangeSpec := { name := "nfaMeets", fn := fun _ => fun
  | [d1, d2, d3] => { results := [.lit (.bool false)], args := [d1, d2, d3] }
  | _ => none }
def NfaMeetsWrongFalsely : Prop := nfaMeetsRow.holds Try.pinned (OpenSpec.ofChange nfaMeetsWrong)

/-- 'tutorlaw17.NfaSays': WHATEVER THE INPUT: true; the input reads as it did. -/
def nfaSaysSpec : ChangeSpec := { name := "nfaSays", fn := fun _ => fun
  | [d1, d2, d3, d4] => { results := [.lit (.bool true)], args := [d1, d2, d3, d4] }
  | _ => none }
def nfaSaysRow : OpenClaim := { program := "ytkaefgmgcghhiaa", sum := "03df5e89497a4b3bf6fe271bd111fc9f92b6b12f057bfb15ff1d4e4468d2cd5c", func := "tutor/tutorlaw17.NfaSays", spec := "nfaSays", unfollowed := true, recurses := true, plainKeys := false, apart := false }
def NfaSaysSaid : Prop := nfaSaysRow.holds Try.pinned (OpenSpec.ofChange nfaSaysSpec)

/-- ITS FALSE NEIGHBOUR: 'it returns false'. Refute it at one input. -/
def nfaSaysWrong : ChangeSpec := { name := "nfaSays", fn := fun _ => fun
  | [d1, d2, d3, d4] => { results := [.lit (.bool false)], args := [d1, d2, d3, d4] }
  | _ => none }
def NfaSaysWrongFalsely : Prop := nfaSaysRow.holds Try.pinned (OpenSpec.ofChange nfaSaysWrong)

/-- 'tutorlaw17.NfaTurns': WHATEVER THE INPUT: true; the input reads as it did. -/
def nfaTurnsSpec : ChangeSpec := { name := "nfaTurns", fn := fun _ => fun
  | [d1, d2] => { results := [.lit (.bool true)], args := [d1, d2] }
  | _ => none }
def nfaTurnsRow : OpenClaim := { program := "ytkaefgmgcghhiaa", sum := "03df5e89497a4b3bf6fe271bd111fc9f92b6b12f057bfb15ff1d4e4468d2cd5c", func := "tutor/tutorlaw17.NfaTurns", spec := "nfaTurns", unfollowed := true, recurses := true, plainKeys := false, apart := false }
def NfaTurnsSaid : Prop := nfaTurnsRow.holds Try.pinned (OpenSpec.ofChange nfaTurnsSpec)

/-- ITS FALSE NEIGHBOUR: 'it returns false'. Refute it at one input. -/
def nfaTurnsWrong : ChangeSpec := { name := "nfaTurns", fn := fun _ => fun
  | [d1, d2] => { results := [.lit (.bool false)], args := [d1, d2] }
  | _ => none }
def NfaTurnsWrongFalsely : Prop := nfaTurnsRow.holds Try.pinned (OpenSpec.ofChange nfaTurnsWrong)

/-- 'tutorlaw17.NfaHolds': WHATEVER THE INPUT: true; the input reads as it did. -/
def nfaHoldsSpec : ChangeSpec := { name := "nfaHolds", fn := fun _ => fun
  | [d1, d2] => { results := [.lit (.bool true)], args := [d1, d2] }
  | _ => none }
def nfaHoldsRow : OpenClaim := { program := "ytkaefgmgcghhiaa", sum := "03df5e89497a4b3bf6fe271bd111fc9f92b6b12f057bfb15ff1d4e4468d2cd5c", func := "tutor/tutorlaw17.NfaHolds", spec := "nfaHolds", unfollowed := true, recurses := true, plainKeys := false, apart := false }
def NfaHoldsSaid : Prop := nfaHoldsRow.holds Try.pinned (OpenSpec.ofChange nfaHoldsSpec)

/-- ITS FALSE NEIGHBOUR: 'it returns false'. Refute it at one input. -/
def nfaHoldsWrong : ChangeSpec := { name := "nfaHolds", fn := fun _ => fun
  | [d1, d2] => { results := [.lit (.bool false)], args := [d1, d2] }
  | _ => none }
def NfaHoldsWrongFalsely : Prop := nfaHoldsRow.holds Try.pinned (OpenSpec.ofChange nfaHoldsWrong)

/-- 'tutorlaw17.NfaCounts': WHATEVER THE INPUT: true; the input reads as it did. -/
def nfaCountsSpec : ChangeSpec := { name := "nfaCounts", fn := fun _ => fun
  | [d1, d2] => { results := [.lit (.bool true)], args := [d1, d2] }
  | _ => none }
def nfaCountsRow : OpenClaim := { program := "ytkaefgmgcghhiaa", sum := "03df5e89497a4b3bf6fe271bd111fc9f92b6b12f057bfb15ff1d4e4468d2cd5c", func := "tutor/tutorlaw17.NfaCounts", spec := "nfaCounts", unfollowed := true, recurses := true, plainKeys := false, apart := false }
def NfaCountsSaid : Prop := nfaCountsRow.holds Try.pinned (OpenSpec.ofChange nfaCountsSpec)

/-- ITS FALSE NEIGHBOUR: 'it returns false'. Refute it at one input. -/
def nfaCountsWrong : ChangeSpec := { name := "nfaCounts", fn := fun _ => fun
  | [d1, d2] => { results := [.lit (.bool false)], args := [d1, d2] }
  | _ => none }
def NfaCountsWrongFalsely : Prop := nfaCountsRow.holds Try.pinned (OpenSpec.ofChange nfaCountsWrong)

/-- 'tutorlaw17.NfaMakes': WHATEVER THE INPUT: true; the input reads as it did. -/
def nfaMakesSpec : ChangeSpec := { name := "nfaMakes", fn := fun _ => fun
  | [d1, d2, d3] => { results := [.lit (.bool true)], args := [d1, d2, d3] }
  | _ => none }
def nfaMakesRow : OpenClaim := { program := "ytkaefgmgcghhiaa", sum := "03df5e89497a4b3bf6fe271bd111fc9f92b6b12f057bfb15ff1d4e4468d2cd5c", func := "tutor/tutorlaw17.NfaMakes", spec := "nfaMakes", unfollowed := true, recurses := true, plainKeys := false, apart := false }
def NfaMakesSaid : Prop := nfaMakesRow.holds Try.pinned (OpenSpec.ofChange nfaMakesSpec)

/-- ITS FALSE NEIGHBOUR: 'it returns false'. Refute it at one input. -/
def nfaMakesWrong : ChangeSpec := { name := "nfaMakes", fn := fun _ => fun
  | [d1, d2, d3] => { results := [.lit (.bool false)], args := [d1, d2, d3] }
  | _ => none }
def NfaMakesWrongFalsely : Prop := nfaMakesRow.holds Try.pinned (OpenSpec.ofChange nfaMakesWrong)

/- THE SECOND FORM. 'bulk': how many values and letters a reading holds, each counted each time it is reached (what is shared counts as often as it is met; a slice's spare places count too). A statement '..UptoSaid' is the law's where the arguments, and the package variables that the reading takes, are together of bulk at most 1048576: NARROWER than '..Said'. Prove '..Said' where nothing that the law and all that it calls make is longer than what came in: it says more and counts as full. Else prove '..UptoSaid'. A law counts once. -/
mutual
def uptoBulk {H : Type} : DataW H → Nat
  | .lit (.string bytes) => bytes.length + 1
  | .lit _ => 1
  | .nil => 1
  | .ptr d => uptoBulk d + 1
  | .slice elems spare => uptoBulkAll elems + uptoBulkAll spare + 1
  | .agg parts => uptoBulkAll parts + 1
  | .iface _ d => uptoBulk d + 1
  | .map entries => uptoBulkEntries entries + 1
  | .held _ => 1
def uptoBulkAll {H : Type} : List (DataW H) → Nat
  | [] => 0
  | d :: r => uptoBulk d + uptoBulkAll r
def uptoBulkEntries {H : Type} : List (Lit × DataW H) → Nat
  | [] => 0
  | x :: r => uptoBulkEntry x + uptoBulkEntries r
def uptoBulkEntry {H : Type} : Lit × DataW H → Nat
  | (.string bytes, d) => bytes.length + uptoBulk d + 1
  | (_, d) => uptoBulk d + 1
 end
def uptoSmall : (H : Type) → List (DataW H) → Bool := fun _ ds => decide (uptoBulkAll ds ≤ 1048576)
def OpenSpec.upto (s : _root_.Go.ChangeSpec) : _root_.Go.OpenSpec := { _root_.Go.OpenSpec.ofChange s with cond := some uptoSmall }

/-- 'tutorlaw17.NfaChecks', WHERE WHAT IT READS IS OF BULK AT MOST 1048576: true; the input reads as it did. -/
def nfaChecksUptoRow : OpenClaim := { program := "ytkaefgmgcghhiaa", sum := "03df5e89497a4b3bf6fe271bd111fc9f92b6b12f057bfb15ff1d4e4468d2cd5c", func := "tutor/tutorlaw17.NfaChecks", spec := "nfaChecks", unfollowed := true, recurses := true, plainKeys := false, apart := false, narrowed := true }
def NfaChecksUptoSaid : Prop := nfaChecksUptoRow.holds Try.pinned (OpenSpec.upto nfaChecksSpec)

/-- 'tutorlaw17.NfaAccepts', WHERE WHAT IT READS IS OF BULK AT MOST 1048576: true; the input reads as it did. -/
def nfaAcceptsUptoRow : OpenClaim := { program := "ytkaefgmgcghhiaa", sum := "03df5e89497a4b3bf6fe271bd111fc9f92b6b12f057bfb15ff1d4e4468d2cd5c", func := "tutor/tutorlaw17.NfaAccepts", spec := "nfaAccepts", unfollowed := true, recurses := true, plainKeys := false, apart := false, narrowed := true }
def NfaAcceptsUptoSaid : Prop := nfaAcceptsUptoRow.holds Try.pinned (OpenSpec.upto nfaAcceptsSpec)

/-- 'tutorlaw17.NfaDetermines', WHERE WHAT IT READS IS OF BULK AT MOST 1048576: true; the input reads as it did. -/
def nfaDeterminesUptoRow : OpenClaim := { program := "ytkaefgmgcghhiaa", sum := "03df5e89497a4b3bf6fe271bd111fc9f92b6b12f057bfb15ff1d4e4468d2cd5c", func := "tutor/tutorlaw17.NfaDetermines", spec := "nfaDetermines", unfollowed := true, recurses := true, plainKeys := false, apart := false, narrowed := true }
def NfaDeterminesUptoSaid : Prop := nfaDeterminesUptoRow.holds Try.pinned (OpenSpec.upto nfaDeterminesSpec)

/-- 'tutorlaw17.NfaTrue', WHERE WHAT IT READS IS OF BULK AT MOST 1048576: true; the input reads as it did. -/
def nfaTrueUptoRow : OpenClaim := { program := "ytkaefgmgcghhiaa", sum := "03df5e89497a4b3bf6fe271bd111fc9f92b6b12f057bfb15ff1d4e4468d2cd5c", func := "tutor/tutorlaw17.NfaTrue", spec := "nfaTrue", unfollowed := true, recurses := true, plainKeys := false, apart := false, narrowed := true }
def NfaTrueUptoSaid : Prop := nfaTrueUptoRow.holds Try.pinned (OpenSpec.upto nfaTrueSpec)

/-- 'tutorlaw17.NfaMeets', WHERE WHAT IT READS IS OF BULK AT MOST 1048576: true; the input reads as it did. -/
def nfaMeetsUptoRow : OpenClaim := { program := "ytkaefgmgcghhiaa", sum := "03df5e89497a4b3bf6fe271bd111fc9f92b6b12f057bfb15ff1d4e4468d2cd5c", func := "tutor/tutorlaw17.NfaMeets", spec := "nfaMeets", unfollowed := true, recurses := true, plainKeys := false, apart := false, narrowed := true }
def NfaMeetsUptoSaid : Prop := nfaMeetsUptoRow.holds Try.pinned (OpenSpec.upto nfaMeetsSpec)

/-- 'tutorlaw17.NfaSays', WHERE WHAT IT READS IS OF BULK AT MOST 1048576: true; the input reads as it did. -/
def nfaSaysUptoRow : OpenClaim := { program := "ytkaefgmgcghhiaa", sum := "03df5e89497a4b3bf6fe271bd111fc9f92b6b12f057bfb15ff1d4e4468d2cd5c", func := "tutor/tutorlaw17.NfaSays", spec := "nfaSays", unfollowed := true, recurses := true, plainKeys := false, apart := false, narrowed := true }
def NfaSaysUptoSaid : Prop := nfaSaysUptoRow.holds Try.pinned (OpenSpec.upto nfaSaysSpec)

/-- 'tutorlaw17.NfaTurns', WHERE WHAT IT READS IS OF BULK AT MOST 1048576: true; the input reads as it did. -/
def nfaTurnsUptoRow : OpenClaim := { program := "ytkaefgmgcghhiaa", sum := "03df5e89497a4b3bf6fe271bd111fc9f92b6b12f057bfb15ff1d4e4468d2cd5c", func := "tutor/tutorlaw17.NfaTurns", spec := "nfaTurns", unfollowed := true, recurses := true, plainKeys := false, apart := false, narrowed := true }
def NfaTurnsUptoSaid : Prop := nfaTurnsUptoRow.holds Try.pinned (OpenSpec.upto nfaTurnsSpec)

/-- 'tutorlaw17.NfaHolds', WHERE WHAT IT READS IS OF BULK AT MOST 1048576: true; the input reads as it did. -/
def nfaHoldsUptoRow : OpenClaim := { program := "ytkaefgmgcghhiaa", sum := "03df5e89497a4b3bf6fe271bd111fc9f92b6b12f057bfb15ff1d4e4468d2cd5c", func := "tutor/tutorlaw17.NfaHolds", spec := "nfaHolds", unfollowed := true, recurses := true, plainKeys := false, apart := false, narrowed := true }
def NfaHoldsUptoSaid : Prop := nfaHoldsUptoRow.holds Try.pinned (OpenSpec.upto nfaHoldsSpec)

/-- 'tutorlaw17.NfaCounts', WHERE WHAT IT READS IS OF BULK AT MOST 1048576: true; the input reads as it did. -/
def nfaCountsUptoRow : OpenClaim := { program := "ytkaefgmgcghhiaa", sum := "03df5e89497a4b3bf6fe271bd111fc9f92b6b12f057bfb15ff1d4e4468d2cd5c", func := "tutor/tutorlaw17.NfaCounts", spec := "nfaCounts", unfollowed := true, recurses := true, plainKeys := false, apart := false, narrowed := true }
def NfaCountsUptoSaid : Prop := nfaCountsUptoRow.holds Try.pinned (OpenSpec.upto nfaCountsSpec)

/-- 'tutorlaw17.NfaMakes', WHERE WHAT IT READS IS OF BULK AT MOST 1048576: true; the input reads as it did. -/
def nfaMakesUptoRow : OpenClaim := { program := "ytkaefgmgcghhiaa", sum := "03df5e89497a4b3bf6fe271bd111fc9f92b6b12f057bfb15ff1d4e4468d2cd5c", func := "tutor/tutorlaw17.NfaMakes", spec := "nfaMakes", unfollowed := true, recurses := true, plainKeys := false, apart := false, narrowed := true }
def NfaMakesUptoSaid : Prop := nfaMakesUptoRow.holds Try.pinned (OpenSpec.upto nfaMakesSpec)

end Rows
end Go.Proofs.Ytkaefgmgcghhiaa
