/-
  No cell of these rows narrows 'for every input' (looked for: loops, veiled, ifaces, maps, wideKeys, modest, calm, conditions, laid).
  DERIVED. THE GIVEN ROWS OF THIS SEAT. 5 by the template 'for every input the law returns true; each argument reads behind the call as it read before'; 0 by the template 'total and deterministic' (their statements: YtdalpaobkmoomaaTotals.lean).
  GIVEN WITH THE SEED: the statements are not yours to turn. If you find one false, say at which input.
  Laid BY PROGRAM, IN A SANDBOX (cutbox-rows.mjs): the forced cells as the released guide's own fill.sh prints them over the translation e3edb5e44084f5d4… (all of the seat's roots in one cut). By AI agents, Wed Nov 11 2026. No macro, syntax, notation, axiom, sorry.
-/
import Derived.Test.YtdalpaobkmoomaaChecked
import GoSem.Claim
import GoSem.ClaimJoined
import GoSem.ClaimMapViews
import Derived.JoinedTies
import Derived.KernelRfl
namespace Go.Proofs.Ytdalpaobkmoomaa
/- THE CELL 'sum', in the pinned program and in every row, IS THE sha256 OF THE DUMP (.gsa) THAT YtdalpaobkmoomaaProg.lean LOADS. Nothing in Lean hashes anything: it is a label: what it is worth is what the hold of that sum in a sandbox is worth. -/
noncomputable def Try.pinned : Pinned := { name := "ytdalpaobkmoomaa", sum := "e3edb5e44084f5d481e947c932ca487ebd4be84751d293737bddca37b7f067a7", checked := Try.checked }
namespace Rows
def none {H : Type} : Left H := { results := [], args := [] }

/-- 'tutorlaw06.BlockOwn': WHATEVER THE INPUT: true; the input reads as it did. -/
def blockOwnSpec : ChangeSpec := { name := "blockOwn", fn := fun _ => fun
  | [d1, d2] => { results := [.lit (.bool true)], args := [d1, d2] }
  | _ => none }
def blockOwnRow : OpenClaim := { program := "ytdalpaobkmoomaa", sum := "e3edb5e44084f5d481e947c932ca487ebd4be84751d293737bddca37b7f067a7", func := "tutor/tutorlaw06.BlockOwn", spec := "blockOwn", recurses := true, apart := false }
def BlockOwnSaid : Prop := blockOwnRow.holds Try.pinned (OpenSpec.ofChange blockOwnSpec)

/-- ITS FALSE NEIGHBOUR: 'it returns false'. Refute it at one input. -/
def blockOwnWrong : ChangeSpec := { name := "blockOwn", fn := fun _ => fun
  | [d1, d2] => { results := [.lit (.bool false)], args := [d1, d2] }
  | _ => none }
def BlockOwnWrongFalsely : Prop := blockOwnRow.holds Try.pinned (OpenSpec.ofChange blockOwnWrong)

/-- 'tutorlaw06.BlockPlays': WHATEVER THE INPUT: true; the input reads as it did. -/
def blockPlaysSpec : ChangeSpec := { name := "blockPlays", fn := fun _ => fun
  | [d1, d2, d3, d4] => { results := [.lit (.bool true)], args := [d1, d2, d3, d4] }
  | _ => none }
def blockPlaysRow : OpenClaim := { program := "ytdalpaobkmoomaa", sum := "e3edb5e44084f5d481e947c932ca487ebd4be84751d293737bddca37b7f067a7", func := "tutor/tutorlaw06.BlockPlays", spec := "blockPlays", recurses := true, apart := false }
def BlockPlaysSaid : Prop := blockPlaysRow.holds Try.pinned (OpenSpec.ofChange blockPlaysSpec)

/-- ITS FALSE NEIGHBOUR: 'it returns false'. Refute it at one input. -/
def blockPlaysWrong : ChangeSpec := { name := "blockPlays", fn := fun _ => fun
  | [d1, d2, d3, d4] => { results := [.lit (.bool false)], args := [d1, d2, d3, d4] }
  | _ => none }
def BlockPlaysWrongFalsely : Prop := blockPlaysRow.holds Try.pinned (OpenSpec.ofChange blockPlaysWrong)

/-- 'tutorlaw06.BlockNils': WHATEVER THE INPUT: true; the input reads as it did. -/
def blockNilsSpec : ChangeSpec := { name := "blockNils", fn := fun _ => fun
  | [d1, d2] => { results := [.lit (.bool true)], args := [d1, d2] }
  | _ => none }
def blockNilsRow : OpenClaim := { program := "ytdalpaobkmoomaa", sum := "e3edb5e44084f5d481e947c932ca487ebd4be84751d293737bddca37b7f067a7", func := "tutor/tutorlaw06.BlockNils", spec := "blockNils", recurses := true, apart := false }
def BlockNilsSaid : Prop := blockNilsRow.holds Try.pinned (OpenSpec.ofChange blockNilsSpec)

/-- ITS FALSE NEIGHBOUR: 'it returns false'. Refute it at one input. -/
def blockNilsWrong : ChangeSpec := { name := "blockNils", fn := fun _ => fun
  | [d1, d2] => { results := [.lit (.bool false)], args := [d1, d2] }
  | _ => none }
def BlockNilsWrongFalsely : Prop := blockNilsRow.holds Try.pinned (OpenSpec.ofChange blockNilsWrong)

/-- 'tutorlaw06.BlockRefines': WHATEVER THE INPUT: true; the input reads as it did. -/
def blockRefinesSpec : ChangeSpec := { name := "blockRefines", fn := fun _ => fun
  | [d1, d2, d3, d4] => { results := [.lit (.bool true)], args := [d1, d2, d3, d4] }
  | _ => none }
def blockRefinesRow : OpenClaim := { program := "ytdalpaobkmoomaa", sum := "e3edb5e44084f5d481e947c932ca487ebd4be84751d293737bddca37b7f067a7", func := "tutor/tutorlaw06.BlockRefines", spec := "blockRefines", recurses := true, apart := false }
def BlockRefinesSaid : Prop := blockRefinesRow.holds Try.pinned (OpenSpec.ofChange blockRefinesSpec)

/-- ITS FALSE NEIGHBOUR: 'it returns false'. Refute it at one input. -/
def blockRefinesWrong : ChangeSpec := { name := "blockRefines", fn := fun _ => fun
  | [d1, d2, d3, d4] => { results := [.lit (.bool false)], args := [d1, d2, d3, d4] }
  | _ => none }
def BlockRefinesWrongFalsely : Prop := blockRefinesRow.holds Try.pinned (OpenSpec.ofChange blockRefinesWrong)

/-- 'tutorlaw06.BlockHopcrofts': WHATEVER THE INPUT: true; the input reads as it did. -/
def blockHopcroftsSpec : ChangeSpec := { name := "blockHopcrofts", fn := fun _ => fun
  | [d] => { results := [.lit (.bool true)], args := [d] }
  | _ => none }
def blockHopcroftsRow : OpenClaim := { program := "ytdalpaobkmoomaa", sum := "e3edb5e44084f5d481e947c932ca487ebd4be84751d293737bddca37b7f067a7", func := "tutor/tutorlaw06.BlockHopcrofts", spec := "blockHopcrofts", recurses := true, apart := false }
def BlockHopcroftsSaid : Prop := blockHopcroftsRow.holds Try.pinned (OpenSpec.ofChange blockHopcroftsSpec)

/-- ITS FALSE NEIGHBOUR: 'it returns false'. Refute it at one input. -/
def blockHopcroftsWrong : ChangeSpec := { name := "blockHopcrofts", fn := fun _ => fun
  | [d] => { results := [.lit (.bool false)], args := [d] }
  | _ => none }
def BlockHopcroftsWrongFalsely : Prop := blockHopcroftsRow.holds Try.pinned (OpenSpec.ofChange blockHopcroftsWrong)

/- THE SECOND FORM. 'bulk': how many values and letters a reading holds, each counted each time it is reached (what is shared counts as often as it is met; a slice's spare places count too). A statement '..UptoSaid' is the law's where the arguments, and the package variables that the reading takes, are together of bulk at most 1048576: NARROWER than '..Said'. Prove '..Said' where nothing that the law and all that it calls make is longer than what came in: it says more and counts as full. Else prove '..UptoSaid'. A law counts once. -/
mutual
def uptoBulk {H : Type} : DataW H → Nat
  | .lit (.string bytes) => bytes.length + 1
  | .lit _ => 1
  | .nil => 1
  | .ptr d => uptoBulk d + 1
  | .slice elems spare => uptoBulkAll elems + uptoBulkAll spare + 1
  | .agg parts => uptoBulkAll parts + 1
  | .iface _ d => uptoBulk d + 1
  | .map entries => uptoBulkEntries entries + 1
  | .held _ => 1
def uptoBulkAll {H : Type} : List (DataW H) → Nat
  | [] => 0
  | d :: r => uptoBulk d + uptoBulkAll r
def uptoBulkEntries {H : Type} : List (Lit × DataW H) → Nat
  | [] => 0
  | x :: r => uptoBulkEntry x + uptoBulkEntries r
def uptoBulkEntry {H : Type} : Lit × DataW H → Nat
  | (.string bytes, d) => bytes.length + uptoBulk d + 1
  | (_, d) => uptoBulk d + 1
 end
def uptoSmall : (H : Type) → List (DataW H) → Bool := fun _ ds => decide (uptoBulkAll ds ≤ 1048576)
def OpenSpec.upto (s : _root_.Go.ChangeSpec) : _root_.Go.OpenSpec := { _root_.Go.OpenSpec.ofChange s with cond := some uptoSmall }

/-- 'tutorlaw06.BlockOwn', WHERE WHAT IT READS IS OF BULK AT MOST 1048576: true; the input reads as it did. -/
def blockOwnUptoRow : OpenClaim := { program := "ytdalpaobkmoomaa", sum := "e3edb5e44084f5d481e947c932ca487ebd4be84751d293737bddca37b7f067a7", func := "tutor/tutorlaw06.BlockOwn", spec := "blockOwn", recurses := true, apart := false, narrowed := true }
def BlockOwnUptoSaid : Prop := blockOwnUptoRow.holds Try.pinned (OpenSpec.upto blockOwnSpec)

/-- 'tutorlaw06.BlockPlays', WHERE WHAT IT READS IS OF BULK AT MOST 1048576: true; the input reads as it did. -/
def blockPlaysUptoRow : OpenClaim := { program := "ytdalpaobkmoomaa", sum := "e3edb5e44084f5d481e947c932ca487ebd4be84751d293737bddca37b7f067a7", func := "tutor/tutorlaw06.BlockPlays", spec := "blockPlays", recurses := true, apart := false, narrowed := true }
def BlockPlaysUptoSaid : Prop := blockPlaysUptoRow.holds Try.pinned (OpenSpec.upto blockPlaysSpec)

/-- 'tutorlaw06.BlockNils', WHERE WHAT IT READS IS OF BULK AT MOST 1048576: true; the input reads as it did. -/
def blockNilsUptoRow : OpenClaim := { program := "ytdalpaobkmoomaa", sum := "e3edb5e44084f5d481e947c932ca487ebd4be84751d293737bddca37b7f067a7", func := "tutor/tutorlaw06.BlockNils", spec := "blockNils", recurses := true, apart := false, narrowed := true }
def BlockNilsUptoSaid : Prop := blockNilsUptoRow.holds Try.pinned (OpenSpec.upto blockNilsSpec)

/-- 'tutorlaw06.BlockRefines', WHERE WHAT IT READS IS OF BULK AT MOST 1048576: true; the input reads as it did. -/
def blockRefinesUptoRow : OpenClaim := { program := "ytdalpaobkmoomaa", sum := "e3edb5e44084f5d481e947c932ca487ebd4be84751d293737bddca37b7f067a7", func := "tutor/tutorlaw06.BlockRefines", spec := "blockRefines", recurses := true, apart := false, narrowed := true }
def BlockRefinesUptoSaid : Prop := blockRefinesUptoRow.holds Try.pinned (OpenSpec.upto blockRefinesSpec)

/-- 'tutorlaw06.BlockHopcrofts', WHERE WHAT IT READS IS OF BULK AT MOST 1048576: true; the input reads as it did. -/
def blockHopcroftsUptoRow : OpenClaim := { program := "ytdalpaobkmoomaa", sum := "e3edb5e44084f5d481e947c932ca487ebd4be84751d293737bddca37b7f067a7", func := "tutor/tutorlaw06.BlockHopcrofts", spec := "blockHopcrofts", recurses := true, apart := false, narrowed := true }
def BlockHopcroftsUptoSaid : Prop := blockHopcroftsUptoRow.holds Try.pinned (OpenSpec.upto blockHopcroftsSpec)

end Rows
end Go.Proofs.Ytdalpaobkmoomaa
