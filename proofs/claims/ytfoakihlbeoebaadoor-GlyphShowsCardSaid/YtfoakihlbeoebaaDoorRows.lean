/-
  NARROWER THAN 'FOR EVERY INPUT', by the rows' own cells (each row's printed sentence says how): GlyphParses: laid · GlyphShows: laid · GlyphDefaults: laid · GlyphBack: laid · GlyphWhole: laid.
  DERIVED. THE GIVEN ROWS OF THIS SEAT. 5 by the template 'for every input the law returns true; each argument reads behind the call as it read before'; 0 by the template 'total and deterministic' (their statements: YtfoakihlbeoebaaDoorTotals.lean).
  GIVEN WITH THE SEED: the statements are not yours to turn. If you find one false, say at which input.
  Laid BY PROGRAM, IN A SANDBOX (cutbox-rows.mjs): the forced cells as the released guide's own fill.sh prints them over the translation 3b384312317cab2d… (all of the seat's roots in one cut). By AI agents, Wed Nov 11 2026. No macro, syntax, notation, axiom, sorry.
-/
import Derived.Test.YtfoakihlbeoebaaDoorChecked
import GoSem.PinnedTables
import GoSem.Claim
import GoSem.ClaimJoined
import GoSem.ClaimMapViews
import Derived.JoinedTies
import Derived.KernelRfl
namespace Go.Proofs.YtfoakihlbeoebaaDoor
/- THE CELL 'sum', in the pinned program and in every row, IS THE sha256 OF THE DUMP (.gsa) THAT YtfoakihlbeoebaaDoorProg.lean LOADS. Nothing in Lean hashes anything: it is a label: what it is worth is what the hold of that sum in a sandbox is worth. -/
noncomputable def Tryd.pinned : Pinned := { name := "ytfoakihlbeoebaadoor", sum := "3b384312317cab2dcae724fcc247112acfea5606b3c1e91ebf99d4797cfb972c", checked := Tryd.checked }
namespace Rows
def none {H : Type} : Left H := { results := [], args := [] }

/- WHAT THE LISTED PACKAGE-LEVEL VARIABLES READ AS WHEN THE CALL BEGINS. Each datum BY PROGRAM (the guide's laid-datum.mjs) off the statement by which the dump's own 'gosem.cut.vars' lays the variable. In a bare row this is a premise. The card (YtfoakihlbeoebaaDoorCards.lean) ties it to the program's text. -/
def laid_unicode_utf8_acceptRanges {H : Type} : DataW H := .agg [.agg [.lit (.int .u8 128), .lit (.int .u8 191)], .agg [.lit (.int .u8 160), .lit (.int .u8 191)], .agg [.lit (.int .u8 128), .lit (.int .u8 159)], .agg [.lit (.int .u8 144), .lit (.int .u8 191)], .agg [.lit (.int .u8 128), .lit (.int .u8 143)], .agg [.lit (.int .u8 0), .lit (.int .u8 0)], .agg [.lit (.int .u8 0), .lit (.int .u8 0)], .agg [.lit (.int .u8 0), .lit (.int .u8 0)], .agg [.lit (.int .u8 0), .lit (.int .u8 0)], .agg [.lit (.int .u8 0), .lit (.int .u8 0)], .agg [.lit (.int .u8 0), .lit (.int .u8 0)], .agg [.lit (.int .u8 0), .lit (.int .u8 0)], .agg [.lit (.int .u8 0), .lit (.int .u8 0)], .agg [.lit (.int .u8 0), .lit (.int .u8 0)], .agg [.lit (.int .u8 0), .lit (.int .u8 0)], .agg [.lit (.int .u8 0), .lit (.int .u8 0)]]
/-- One of Go's own tables, pinned by name: the form's constant. -/
def laid_unicode_utf8_first : DataW Unit := Go.Pinned.utf8First

/-- 'tutorlaw02.GlyphParses': WHATEVER THE INPUT: true; the input reads as it did. -/
def glyphParsesSpec : ChangeSpec := { name := "glyphParses", fn := fun _ => fun
  | [d] => { results := [.lit (.bool true)], args := [d] }
  | _ => none }
def glyphParsesRow : OpenClaim := { program := "ytfoakihlbeoebaadoor", sum := "3b384312317cab2dcae724fcc247112acfea5606b3c1e91ebf99d4797cfb972c", func := "tutor/tutorlaw02.GlyphParses", spec := "glyphParses", named := ["unicode/utf8.first", "unicode/utf8.acceptRanges"], apart := false, laid := [("unicode/utf8.acceptRanges", laid_unicode_utf8_acceptRanges), ("unicode/utf8.first", laid_unicode_utf8_first)] }
def GlyphParsesSaid : Prop := glyphParsesRow.holds Tryd.pinned (OpenSpec.ofChange glyphParsesSpec)

/-- ITS FALSE NEIGHBOUR: 'it returns false'. Refute it at one input. -/
def glyphParsesWrong : ChangeSpec := { name := "glyphParses", fn := fun _ => fun
  | [d] => { results := [.lit (.bool false)], args := [d] }
  | _ => none }
def GlyphParsesWrongFalsely : Prop := glyphParsesRow.holds Tryd.pinned (OpenSpec.ofChange glyphParsesWrong)

/-- 'tutorlaw02.GlyphShows': WHATEVER THE INPUT: true; the input reads as it did. -/
def glyphShowsSpec : ChangeSpec := { name := "glyphShows", fn := fun _ => fun
  | [d1, d2] => { results := [.lit (.bool true)], args := [d1, d2] }
  | _ => none }
def glyphShowsRow : OpenClaim := { program := "ytfoakihlbeoebaadoor", sum := "3b384312317cab2dcae724fcc247112acfea5606b3c1e91ebf99d4797cfb972c", func := "tutor/tutorlaw02.GlyphShows", spec := "glyphShows", named := ["unicode/utf8.first", "unicode/utf8.acceptRanges"], apart := false, laid := [("unicode/utf8.acceptRanges", laid_unicode_utf8_acceptRanges), ("unicode/utf8.first", laid_unicode_utf8_first)] }
def GlyphShowsSaid : Prop := glyphShowsRow.holds Tryd.pinned (OpenSpec.ofChange glyphShowsSpec)

/-- ITS FALSE NEIGHBOUR: 'it returns false'. Refute it at one input. -/
def glyphShowsWrong : ChangeSpec := { name := "glyphShows", fn := fun _ => fun
  | [d1, d2] => { results := [.lit (.bool false)], args := [d1, d2] }
  | _ => none }
def GlyphShowsWrongFalsely : Prop := glyphShowsRow.holds Tryd.pinned (OpenSpec.ofChange glyphShowsWrong)

/-- 'tutorlaw02.GlyphDefaults': WHATEVER THE INPUT: true; the input reads as it did. -/
def glyphDefaultsSpec : ChangeSpec := { name := "glyphDefaults", fn := fun _ => fun
  | [d] => { results := [.lit (.bool true)], args := [d] }
  | _ => none }
def glyphDefaultsRow : OpenClaim := { program := "ytfoakihlbeoebaadoor", sum := "3b384312317cab2dcae724fcc247112acfea5606b3c1e91ebf99d4797cfb972c", func := "tutor/tutorlaw02.GlyphDefaults", spec := "glyphDefaults", named := ["unicode/utf8.first", "unicode/utf8.acceptRanges"], apart := false, laid := [("unicode/utf8.acceptRanges", laid_unicode_utf8_acceptRanges), ("unicode/utf8.first", laid_unicode_utf8_first)] }
def GlyphDefaultsSaid : Prop := glyphDefaultsRow.holds Tryd.pinned (OpenSpec.ofChange glyphDefaultsSpec)

/-- ITS FALSE NEIGHBOUR: 'it returns false'. Refute it at one input. -/
def glyphDefaultsWrong : ChangeSpec := { name := "glyphDefaults", fn := fun _ => fun
  | [d] => { results := [.lit (.bool false)], args := [d] }
  | _ => none }
def GlyphDefaultsWrongFalsely : Prop := glyphDefaultsRow.holds Tryd.pinned (OpenSpec.ofChange glyphDefaultsWrong)

/-- 'tutorlaw02.GlyphBack': WHATEVER THE INPUT: true; the input reads as it did. -/
def glyphBackSpec : ChangeSpec := { name := "glyphBack", fn := fun _ => fun
  | [d1, d2, d3] => { results := [.lit (.bool true)], args := [d1, d2, d3] }
  | _ => none }
def glyphBackRow : OpenClaim := { program := "ytfoakihlbeoebaadoor", sum := "3b384312317cab2dcae724fcc247112acfea5606b3c1e91ebf99d4797cfb972c", func := "tutor/tutorlaw02.GlyphBack", spec := "glyphBack", named := ["unicode/utf8.first", "unicode/utf8.acceptRanges"], apart := false, laid := [("unicode/utf8.acceptRanges", laid_unicode_utf8_acceptRanges), ("unicode/utf8.first", laid_unicode_utf8_first)] }
def GlyphBackSaid : Prop := glyphBackRow.holds Tryd.pinned (OpenSpec.ofChange glyphBackSpec)

/-- ITS FALSE NEIGHBOUR: 'it returns false'. Refute it at one input. -/
def glyphBackWrong : ChangeSpec := { name := "glyphBack", fn := fun _ => fun
  | [d1, d2, d3] => { results := [.lit (.bool false)], args := [d1, d2, d3] }
  | _ => none }
def GlyphBackWrongFalsely : Prop := glyphBackRow.holds Tryd.pinned (OpenSpec.ofChange glyphBackWrong)

/-- 'tutorlaw02.GlyphWhole': WHATEVER THE INPUT: true; the input reads as it did. -/
def glyphWholeSpec : ChangeSpec := { name := "glyphWhole", fn := fun _ => fun
  | [d1, d2] => { results := [.lit (.bool true)], args := [d1, d2] }
  | _ => none }
def glyphWholeRow : OpenClaim := { program := "ytfoakihlbeoebaadoor", sum := "3b384312317cab2dcae724fcc247112acfea5606b3c1e91ebf99d4797cfb972c", func := "tutor/tutorlaw02.GlyphWhole", spec := "glyphWhole", named := ["unicode/utf8.first", "unicode/utf8.acceptRanges"], apart := false, laid := [("unicode/utf8.acceptRanges", laid_unicode_utf8_acceptRanges), ("unicode/utf8.first", laid_unicode_utf8_first)] }
def GlyphWholeSaid : Prop := glyphWholeRow.holds Tryd.pinned (OpenSpec.ofChange glyphWholeSpec)

/-- ITS FALSE NEIGHBOUR: 'it returns false'. Refute it at one input. -/
def glyphWholeWrong : ChangeSpec := { name := "glyphWhole", fn := fun _ => fun
  | [d1, d2] => { results := [.lit (.bool false)], args := [d1, d2] }
  | _ => none }
def GlyphWholeWrongFalsely : Prop := glyphWholeRow.holds Tryd.pinned (OpenSpec.ofChange glyphWholeWrong)

/- THE SECOND FORM. 'bulk': how many values and letters a reading holds, each counted each time it is reached (what is shared counts as often as it is met; a slice's spare places count too). A statement '..UptoSaid' is the law's where the arguments, and the package variables that the reading takes, are together of bulk at most 1048576: NARROWER than '..Said'. Prove '..Said' where nothing that the law and all that it calls make is longer than what came in: it says more and counts as full. Else prove '..UptoSaid'. A law counts once. -/
mutual
def uptoBulk {H : Type} : DataW H → Nat
  | .lit (.string bytes) => bytes.length + 1
  | .lit _ => 1
  | .nil => 1
  | .ptr d => uptoBulk d + 1
  | .slice elems spare => uptoBulkAll elems + uptoBulkAll spare + 1
  | .agg parts => uptoBulkAll parts + 1
  | .iface _ d => uptoBulk d + 1
  | .map entries => uptoBulkEntries entries + 1
  | .held _ => 1
def uptoBulkAll {H : Type} : List (DataW H) → Nat
  | [] => 0
  | d :: r => uptoBulk d + uptoBulkAll r
def uptoBulkEntries {H : Type} : List (Lit × DataW H) → Nat
  | [] => 0
  | x :: r => uptoBulkEntry x + uptoBulkEntries r
def uptoBulkEntry {H : Type} : Lit × DataW H → Nat
  | (.string bytes, d) => bytes.length + uptoBulk d + 1
  | (_, d) => uptoBulk d + 1
 end
def uptoSmall : (H : Type) → List (DataW H) → Bool := fun _ ds => decide (uptoBulkAll ds ≤ 1048576)
def OpenSpec.upto (s : _root_.Go.ChangeSpec) : _root_.Go.OpenSpec := { _root_.Go.OpenSpec.ofChange s with cond := some uptoSmall }

/-- 'tutorlaw02.GlyphParses', WHERE WHAT IT READS IS OF BULK AT MOST 1048576: true; the input reads as it did. -/
def glyphParsesUptoRow : OpenClaim := { program := "ytfoakihlbeoebaadoor", sum := "3b384312317cab2dcae724fcc247112acfea5606b3c1e91ebf99d4797cfb972c", func := "tutor/tutorlaw02.GlyphParses", spec := "glyphParses", named := ["unicode/utf8.first", "unicode/utf8.acceptRanges"], apart := false, laid := [("unicode/utf8.acceptRanges", laid_unicode_utf8_acceptRanges), ("unicode/utf8.first", laid_unicode_utf8_first)], narrowed := true }
def GlyphParsesUptoSaid : Prop := glyphParsesUptoRow.holds Tryd.pinned (OpenSpec.upto glyphParsesSpec)

/-- 'tutorlaw02.GlyphShows', WHERE WHAT IT READS IS OF BULK AT MOST 1048576: true; the input reads as it did. -/
def glyphShowsUptoRow : OpenClaim := { program := "ytfoakihlbeoebaadoor", sum := "3b384312317cab2dcae724fcc247112acfea5606b3c1e91ebf99d4797cfb972c", func := "tutor/tutorlaw02.GlyphShows", spec := "glyphShows", named := ["unicode/utf8.first", "unicode/utf8.acceptRanges"], apart := false, laid := [("unicode/utf8.acceptRanges", laid_unicode_utf8_acceptRanges), ("unicode/utf8.first", laid_unicode_utf8_first)], narrowed := true }
def GlyphShowsUptoSaid : Prop := glyphShowsUptoRow.holds Tryd.pinned (OpenSpec.upto glyphShowsSpec)

/-- 'tutorlaw02.GlyphDefaults', WHERE WHAT IT READS IS OF BULK AT MOST 1048576: true; the input reads as it did. -/
def glyphDefaultsUptoRow : OpenClaim := { program := "ytfoakihlbeoebaadoor", sum := "3b384312317cab2dcae724fcc247112acfea5606b3c1e91ebf99d4797cfb972c", func := "tutor/tutorlaw02.GlyphDefaults", spec := "glyphDefaults", named := ["unicode/utf8.first", "unicode/utf8.acceptRanges"], apart := false, laid := [("unicode/utf8.acceptRanges", laid_unicode_utf8_acceptRanges), ("unicode/utf8.first", laid_unicode_utf8_first)], narrowed := true }
def GlyphDefaultsUptoSaid : Prop := glyphDefaultsUptoRow.holds Tryd.pinned (OpenSpec.upto glyphDefaultsSpec)

/-- 'tutorlaw02.GlyphBack', WHERE WHAT IT READS IS OF BULK AT MOST 1048576: true; the input reads as it did. -/
def glyphBackUptoRow : OpenClaim := { program := "ytfoakihlbeoebaadoor", sum := "3b384312317cab2dcae724fcc247112acfea5606b3c1e91ebf99d4797cfb972c", func := "tutor/tutorlaw02.GlyphBack", spec := "glyphBack", named := ["unicode/utf8.first", "unicode/utf8.acceptRanges"], apart := false, laid := [("unicode/utf8.acceptRanges", laid_unicode_utf8_acceptRanges), ("unicode/utf8.first", laid_unicode_utf8_first)], narrowed := true }
def GlyphBackUptoSaid : Prop := glyphBackUptoRow.holds Tryd.pinned (OpenSpec.upto glyphBackSpec)

/-- 'tutorlaw02.GlyphWhole', WHERE WHAT IT READS IS OF BULK AT MOST 1048576: true; the input reads as it did. -/
def glyphWholeUptoRow : OpenClaim := { program := "ytfoakihlbeoebaadoor", sum := "3b384312317cab2dcae724fcc247112acfea5606b3c1e91ebf99d4797cfb972c", func := "tutor/tutorlaw02.GlyphWhole", spec := "glyphWhole", named := ["unicode/utf8.first", "unicode/utf8.acceptRanges"], apart := false, laid := [("unicode/utf8.acceptRanges", laid_unicode_utf8_acceptRanges), ("unicode/utf8.first", laid_unicode_utf8_first)], narrowed := true }
def GlyphWholeUptoSaid : Prop := glyphWholeUptoRow.holds Tryd.pinned (OpenSpec.upto glyphWholeSpec)

end Rows
end Go.Proofs.YtfoakihlbeoebaaDoor
