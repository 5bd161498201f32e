/-
  No cell of these rows narrows 'for every input' (looked for: loops, veiled, ifaces, maps, wideKeys, modest, calm, conditions, laid).
  DERIVED. THE GIVEN ROWS OF THIS SEAT. 6 by the template 'for every input the law returns true; each argument reads behind the call as it read before'; 0 by the template 'total and deterministic' (their statements: YtdijkhamebkfjaaTotals.lean).
  GIVEN WITH THE SEED: the statements are not yours to turn. If you find one false, say at which input.
  Laid BY PROGRAM, IN A SANDBOX (cutbox-rows.mjs): the forced cells as the released guide's own fill.sh prints them over the translation c68e568f2c06d40c… (all of the seat's roots in one cut). By AI agents, Wed Nov 11 2026. No macro, syntax, notation, axiom, sorry.
-/
import Derived.Test.YtdijkhamebkfjaaChecked
import GoSem.Claim
import GoSem.ClaimJoined
import GoSem.ClaimMapViews
import Derived.JoinedTies
import Derived.KernelRfl
namespace Go.Proofs.Ytdijkhamebkfjaa
/- THE CELL 'sum', in the pinned program and in every row, IS THE sha256 OF THE DUMP (.gsa) THAT YtdijkhamebkfjaaProg.lean LOADS. Nothing in Lean hashes anything: it is a label: what it is worth is what the hold of that sum in a sandbox is worth. -/
noncomputable def Try.pinned : Pinned := { name := "ytdijkhamebkfjaa", sum := "c68e568f2c06d40c5d99f72b0e94224915a33edeb7567fae30419325b850ba8f", checked := Try.checked }
namespace Rows
def none {H : Type} : Left H := { results := [], args := [] }

/-- 'tutorlaw11.CacheTrue': WHATEVER THE INPUT: true; the input reads as it did. -/
def cacheTrueSpec : ChangeSpec := { name := "cacheTrue", fn := fun _ => fun
  | [d1, d2, d3] => { results := [.lit (.bool true)], args := [d1, d2, d3] }
  | _ => none }
def cacheTrueRow : OpenClaim := { program := "ytdijkhamebkfjaa", sum := "c68e568f2c06d40c5d99f72b0e94224915a33edeb7567fae30419325b850ba8f", func := "tutor/tutorlaw11.CacheTrue", spec := "cacheTrue", unfollowed := true, recurses := true, apart := false }
def CacheTrueSaid : Prop := cacheTrueRow.holds Try.pinned (OpenSpec.ofChange cacheTrueSpec)

/-- ITS FALSE NEIGHBOUR: 'it returns false'. Refute it at one input. -/
def cacheTrueWrong : ChangeSpec := { name := "cacheTrue", fn := fun _ => fun
  | [d1, d2, d3] => { results := [.lit (.bool false)], args := [d1, d2, d3] }
  | _ => none }
def CacheTrueWrongFalsely : Prop := cacheTrueRow.holds Try.pinned (OpenSpec.ofChange cacheTrueWrong)

/-- 'tutorlaw11.CacheBegins': WHATEVER THE INPUT: true; the input reads as it did. -/
def cacheBeginsSpec : ChangeSpec := { name := "cacheBegins", fn := fun _ => fun
  | [d1, d2, d3, d4] => { results := [.lit (.bool true)], args := [d1, d2, d3, d4] }
  | _ => none }
def cacheBeginsRow : OpenClaim := { program := "ytdijkhamebkfjaa", sum := "c68e568f2c06d40c5d99f72b0e94224915a33edeb7567fae30419325b850ba8f", func := "tutor/tutorlaw11.CacheBegins", spec := "cacheBegins", unfollowed := true, recurses := true, apart := false }
def CacheBeginsSaid : Prop := cacheBeginsRow.holds Try.pinned (OpenSpec.ofChange cacheBeginsSpec)

/-- ITS FALSE NEIGHBOUR: 'it returns false'. Refute it at one input. -/
def cacheBeginsWrong : ChangeSpec := { name := "cacheBegins", fn := fun _ => fun
  | [d1, d2, d3, d4] => { results := [.lit (.bool false)], args := [d1, d2, d3, d4] }
  | _ => none }
def CacheBeginsWrongFalsely : Prop := cacheBeginsRow.holds Try.pinned (OpenSpec.ofChange cacheBeginsWrong)

/-- 'tutorlaw11.CacheOwn': WHATEVER THE INPUT: true; the input reads as it did. -/
def cacheOwnSpec : ChangeSpec := { name := "cacheOwn", fn := fun _ => fun
  | [d1, d2, d3] => { results := [.lit (.bool true)], args := [d1, d2, d3] }
  | _ => none }
def cacheOwnRow : OpenClaim := { program := "ytdijkhamebkfjaa", sum := "c68e568f2c06d40c5d99f72b0e94224915a33edeb7567fae30419325b850ba8f", func := "tutor/tutorlaw11.CacheOwn", spec := "cacheOwn", unfollowed := true, recurses := true, apart := false }
def CacheOwnSaid : Prop := cacheOwnRow.holds Try.pinned (OpenSpec.ofChange cacheOwnSpec)

/-- ITS FALSE NEIGHBOUR: 'it returns false'. Refute it at one input. -/
def cacheOwnWrong : ChangeSpec := { name := "cacheOwn", fn := fun _ => fun
  | [d1, d2, d3] => { results := [.lit (.bool false)], args := [d1, d2, d3] }
  | _ => none }
def CacheOwnWrongFalsely : Prop := cacheOwnRow.holds Try.pinned (OpenSpec.ofChange cacheOwnWrong)

/-- 'tutorlaw11.CachePlays': WHATEVER THE INPUT: true; the input reads as it did. -/
def cachePlaysSpec : ChangeSpec := { name := "cachePlays", fn := fun _ => fun
  | [d1, d2, d3, d4, d5] => { results := [.lit (.bool true)], args := [d1, d2, d3, d4, d5] }
  | _ => none }
def cachePlaysRow : OpenClaim := { program := "ytdijkhamebkfjaa", sum := "c68e568f2c06d40c5d99f72b0e94224915a33edeb7567fae30419325b850ba8f", func := "tutor/tutorlaw11.CachePlays", spec := "cachePlays", unfollowed := true, recurses := true, apart := false }
def CachePlaysSaid : Prop := cachePlaysRow.holds Try.pinned (OpenSpec.ofChange cachePlaysSpec)

/-- ITS FALSE NEIGHBOUR: 'it returns false'. Refute it at one input. -/
def cachePlaysWrong : ChangeSpec := { name := "cachePlays", fn := fun _ => fun
  | [d1, d2, d3, d4, d5] => { results := [.lit (.bool false)], args := [d1, d2, d3, d4, d5] }
  | _ => none }
def CachePlaysWrongFalsely : Prop := cachePlaysRow.holds Try.pinned (OpenSpec.ofChange cachePlaysWrong)

/-- 'tutorlaw11.CacheNils': WHATEVER THE INPUT: true; the input reads as it did. -/
def cacheNilsSpec : ChangeSpec := { name := "cacheNils", fn := fun _ => fun
  | [d1, d2] => { results := [.lit (.bool true)], args := [d1, d2] }
  | _ => none }
def cacheNilsRow : OpenClaim := { program := "ytdijkhamebkfjaa", sum := "c68e568f2c06d40c5d99f72b0e94224915a33edeb7567fae30419325b850ba8f", func := "tutor/tutorlaw11.CacheNils", spec := "cacheNils", unfollowed := true, recurses := true, apart := false }
def CacheNilsSaid : Prop := cacheNilsRow.holds Try.pinned (OpenSpec.ofChange cacheNilsSpec)

/-- ITS FALSE NEIGHBOUR: 'it returns false'. Refute it at one input. -/
def cacheNilsWrong : ChangeSpec := { name := "cacheNils", fn := fun _ => fun
  | [d1, d2] => { results := [.lit (.bool false)], args := [d1, d2] }
  | _ => none }
def CacheNilsWrongFalsely : Prop := cacheNilsRow.holds Try.pinned (OpenSpec.ofChange cacheNilsWrong)

/-- 'tutorlaw11.CacheKeeps': WHATEVER THE INPUT: true; the input reads as it did. -/
def cacheKeepsSpec : ChangeSpec := { name := "cacheKeeps", fn := fun _ => fun
  | [d1, d2, d3, d4, d5] => { results := [.lit (.bool true)], args := [d1, d2, d3, d4, d5] }
  | _ => none }
def cacheKeepsRow : OpenClaim := { program := "ytdijkhamebkfjaa", sum := "c68e568f2c06d40c5d99f72b0e94224915a33edeb7567fae30419325b850ba8f", func := "tutor/tutorlaw11.CacheKeeps", spec := "cacheKeeps", unfollowed := true, recurses := true, apart := false }
def CacheKeepsSaid : Prop := cacheKeepsRow.holds Try.pinned (OpenSpec.ofChange cacheKeepsSpec)

/-- ITS FALSE NEIGHBOUR: 'it returns false'. Refute it at one input. -/
def cacheKeepsWrong : ChangeSpec := { name := "cacheKeeps", fn := fun _ => fun
  | [d1, d2, d3, d4, d5] => { results := [.lit (.bool false)], args := [d1, d2, d3, d4, d5] }
  | _ => none }
def CacheKeepsWrongFalsely : Prop := cacheKeepsRow.holds Try.pinned (OpenSpec.ofChange cacheKeepsWrong)

/- THE SECOND FORM. 'bulk': how many values and letters a reading holds, each counted each time it is reached (what is shared counts as often as it is met; a slice's spare places count too). A statement '..UptoSaid' is the law's where the arguments, and the package variables that the reading takes, are together of bulk at most 1048576: NARROWER than '..Said'. Prove '..Said' where nothing that the law and all that it calls make is longer than what came in: it says more and counts as full. Else prove '..UptoSaid'. A law counts once. -/
mutual
def uptoBulk {H : Type} : DataW H → Nat
  | .lit (.string bytes) => bytes.length + 1
  | .lit _ => 1
  | .nil => 1
  | .ptr d => uptoBulk d + 1
  | .slice elems spare => uptoBulkAll elems + uptoBulkAll spare + 1
  | .agg parts => uptoBulkAll parts + 1
  | .iface _ d => uptoBulk d + 1
  | .map entries => uptoBulkEntries entries + 1
  | .held _ => 1
def uptoBulkAll {H : Type} : List (DataW H) → Nat
  | [] => 0
  | d :: r => uptoBulk d + uptoBulkAll r
def uptoBulkEntries {H : Type} : List (Lit × DataW H) → Nat
  | [] => 0
  | x :: r => uptoBulkEntry x + uptoBulkEntries r
def uptoBulkEntry {H : Type} : Lit × DataW H → Nat
  | (.string bytes, d) => bytes.length + uptoBulk d + 1
  | (_, d) => uptoBulk d + 1
 end
def uptoSmall : (H : Type) → List (DataW H) → Bool := fun _ ds => decide (uptoBulkAll ds ≤ 1048576)
def OpenSpec.upto (s : _root_.Go.ChangeSpec) : _root_.Go.OpenSpec := { _root_.Go.OpenSpec.ofChange s with cond := some uptoSmall }

/-- 'tutorlaw11.CacheTrue', WHERE WHAT IT READS IS OF BULK AT MOST 1048576: true; the input reads as it did. -/
def cacheTrueUptoRow : OpenClaim := { program := "ytdijkhamebkfjaa", sum := "c68e568f2c06d40c5d99f72b0e94224915a33edeb7567fae30419325b850ba8f", func := "tutor/tutorlaw11.CacheTrue", spec := "cacheTrue", unfollowed := true, recurses := true, apart := false, narrowed := true }
def CacheTrueUptoSaid : Prop := cacheTrueUptoRow.holds Try.pinned (OpenSpec.upto cacheTrueSpec)

/-- 'tutorlaw11.CacheBegins', WHERE WHAT IT READS IS OF BULK AT MOST 1048576: true; the input reads as it did. -/
def cacheBeginsUptoRow : OpenClaim := { program := "ytdijkhamebkfjaa", sum := "c68e568f2c06d40c5d99f72b0e94224915a33edeb7567fae30419325b850ba8f", func := "tutor/tutorlaw11.CacheBegins", spec := "cacheBegins", unfollowed := true, recurses := true, apart := false, narrowed := true }
def CacheBeginsUptoSaid : Prop := cacheBeginsUptoRow.holds Try.pinned (OpenSpec.upto cacheBeginsSpec)

/-- 'tutorlaw11.CacheOwn', WHERE WHAT IT READS IS OF BULK AT MOST 1048576: true; the input reads as it did. -/
def cacheOwnUptoRow : OpenClaim := { program := "ytdijkhamebkfjaa", sum := "c68e568f2c06d40c5d99f72b0e94224915a33edeb7567fae30419325b850ba8f", func := "tutor/tutorlaw11.CacheOwn", spec := "cacheOwn", unfollowed := true, recurses := true, apart := false, narrowed := true }
def CacheOwnUptoSaid : Prop := cacheOwnUptoRow.holds Try.pinned (OpenSpec.upto cacheOwnSpec)

/-- 'tutorlaw11.CachePlays', WHERE WHAT IT READS IS OF BULK AT MOST 1048576: true; the input reads as it did. -/
def cachePlaysUptoRow : OpenClaim := { program := "ytdijkhamebkfjaa", sum := "c68e568f2c06d40c5d99f72b0e94224915a33edeb7567fae30419325b850ba8f", func := "tutor/tutorlaw11.CachePlays", spec := "cachePlays", unfollowed := true, recurses := true, apart := false, narrowed := true }
def CachePlaysUptoSaid : Prop := cachePlaysUptoRow.holds Try.pinned (OpenSpec.upto cachePlaysSpec)

/-- 'tutorlaw11.CacheNils', WHERE WHAT IT READS IS OF BULK AT MOST 1048576: true; the input reads as it did. -/
def cacheNilsUptoRow : OpenClaim := { program := "ytdijkhamebkfjaa", sum := "c68e568f2c06d40c5d99f72b0e94224915a33edeb7567fae30419325b850ba8f", func := "tutor/tutorlaw11.CacheNils", spec := "cacheNils", unfollowed := true, recurses := true, apart := false, narrowed := true }
def CacheNilsUptoSaid : Prop := cacheNilsUptoRow.holds Try.pinned (OpenSpec.upto cacheNilsSpec)

/-- 'tutorlaw11.CacheKeeps', WHERE WHAT IT READS IS OF BULK AT MOST 1048576: true; the input reads as it did. -/
def cacheKeepsUptoRow : OpenClaim := { program := "ytdijkhamebkfjaa", sum := "c68e568f2c06d40c5d99f72b0e94224915a33edeb7567fae30419325b850ba8f", func := "tutor/tutorlaw11.CacheKeeps", spec := "cacheKeeps", unfollowed := true, recurses := true, apart := false, narrowed := true }
def CacheKeepsUptoSaid : Prop := cacheKeepsUptoRow.holds Try.pinned (OpenSpec.upto cacheKeepsSpec)

end Rows
end Go.Proofs.Ytdijkhamebkfjaa
