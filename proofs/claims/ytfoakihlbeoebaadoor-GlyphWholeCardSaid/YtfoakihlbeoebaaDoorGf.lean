/- The contracts of glyph.Parse and glyph.Read in the form in which their callers take them. -/
import Derived.Test.YtfoakihlbeoebaaDoorGe
namespace Go.Proofs.YtfoakihlbeoebaaDoor.X
open Go.RowKit Go.Proofs.YtfoakihlbeoebaaDoorW.PrintWords Go.Proofs.YtfoakihlbeoebaaDoorW.PrintLast Go.Proofs.YtfoakihlbeoebaaDoorW.PrintMore
def glyph_Parse.f (a0 : ByteArray) : Option (List Int × Int × Int) := if a0.size ≤ 140737488351232 then glyph_Parse.g a0 else none
theorem glyph_Parse.calls (a0 : ByteArray) (r1 : List Int) (r2 r3 : Int) (w : World) (h : glyph_Parse.f a0 = some (r1, r2, r3)) (hT : TabsOr a0 w) :
    Calls Tryd.prog 9 #[.string a0] w fun e w' => ∃ v0_ : Value, e = .returned (.tuple #[v0_, .int .i64 r2, .int .i64 r3]) ∧ Kd.R (Kd.int .i32) 21 w' w.heap.size (fun _ => True) v0_ r1 ∧ Below w.heap.size w w' := by
  unfold glyph_Parse.f at h
  split at h
  · exact Parse_walk a0 r1 r2 r3 w ‹_› h hT
  · cases h
def glyph_Read.f (l0 : List Int) (a1 : ByteArray) : Option (List Int × Int × Int) := if a1.size ≤ 140737488351232 then (if l0.length ≤ 140737488351232 then glyph_Read.g l0 a1 else none) else none
theorem glyph_Read.calls (A0 : Option Addr) (c0 : Nat) (l0 : List Int) (a1 : ByteArray) (r1 : List Int) (r2 r3 : Int) (w : World) (hr0 : Kd.C (Kd.int .i32) w A0 l0.length l0) (hc0 : l0.length ≤ c0) (h : glyph_Read.f l0 a1 = some (r1, r2, r3)) (hT : TabsOr a1 w) :
    Calls Tryd.prog 19 #[.slice A0 l0.length c0, .string a1] w fun e w' => ∃ v0_ : Value, e = .returned (.tuple #[v0_, .int .i64 r2, .int .i64 r3]) ∧ Kd.R (Kd.int .i64) 3 w' w.heap.size (fun _ => True) v0_ r1 ∧ Below w.heap.size w w' := by
  unfold glyph_Read.f at h
  split at h
  · split at h
    · exact Read_walk A0 c0 l0 a1 r1 r2 r3 w hr0 hc0 ‹_› ‹_› h hT
    · cases h
  · cases h
end Go.Proofs.YtfoakihlbeoebaaDoor.X
