/-
  DERIVED. GIVEN WITH THE SEED: THE CARDS: each row of YtfoakihlbeoebaaDoorRows.lean that lists a variable, with what it lists TIED to the program's text (the seventh form; the later family's looks); each row that meets fmt, with fmt's text TOLD by the authors' own Lean function (tested against real Go, not proved from fmt's source: count such statements apart). THE CARD IS WHAT COUNTS. Prove the row's statement (the work); the ties are given (YtfoakihlbeoebaaDoorTie.lean); close each card by the builder's one call (the guide's Derived/Test/ToyasCard.lean, 'card_holds'). Laid BY PROGRAM, IN A SANDBOX (cutbox-door.mjs). By AI agents, Wed Nov 11 2026. No macro, syntax, notation, axiom, sorry.
-/
import Derived.Test.YtfoakihlbeoebaaDoorRows
import GoSem.ClaimSeven
namespace Go.Proofs.YtfoakihlbeoebaaDoor
namespace Rows

/-- THE TIED CARD OF 'tutorlaw02.GlyphParses'. -/
def glyphParsesCard : Claim7 := { stood := { row := glyphParsesRow, standIns := [], harness := (true, "3dda7e24bd458db7661da4eb3ba5c623de54d17eef6c8cdc2f68f4ca52c9c384"), looks := false }, kinds := [], alts := [], laidByText := true, laidKinds := [.data, .pinned], laidTests := true, laidLooks := .later }
def GlyphParsesCardSaid : Prop := Claim7.holds Tryd.pinned (.plain (OpenSpec.ofChange glyphParsesSpec)) glyphParsesCard

/-- THE TIED CARD OF 'tutorlaw02.GlyphShows'. -/
def glyphShowsCard : Claim7 := { stood := { row := glyphShowsRow, standIns := [], harness := (true, "3dda7e24bd458db7661da4eb3ba5c623de54d17eef6c8cdc2f68f4ca52c9c384"), looks := false }, kinds := [], alts := [], laidByText := true, laidKinds := [.data, .pinned], laidTests := true, laidLooks := .later }
def GlyphShowsCardSaid : Prop := Claim7.holds Tryd.pinned (.plain (OpenSpec.ofChange glyphShowsSpec)) glyphShowsCard

/-- THE TIED CARD OF 'tutorlaw02.GlyphDefaults'. -/
def glyphDefaultsCard : Claim7 := { stood := { row := glyphDefaultsRow, standIns := [], harness := (true, "3dda7e24bd458db7661da4eb3ba5c623de54d17eef6c8cdc2f68f4ca52c9c384"), looks := false }, kinds := [], alts := [], laidByText := true, laidKinds := [.data, .pinned], laidTests := true, laidLooks := .later }
def GlyphDefaultsCardSaid : Prop := Claim7.holds Tryd.pinned (.plain (OpenSpec.ofChange glyphDefaultsSpec)) glyphDefaultsCard

/-- THE TIED CARD OF 'tutorlaw02.GlyphBack'. -/
def glyphBackCard : Claim7 := { stood := { row := glyphBackRow, standIns := [], harness := (true, "3dda7e24bd458db7661da4eb3ba5c623de54d17eef6c8cdc2f68f4ca52c9c384"), looks := false }, kinds := [], alts := [], laidByText := true, laidKinds := [.data, .pinned], laidTests := true, laidLooks := .later }
def GlyphBackCardSaid : Prop := Claim7.holds Tryd.pinned (.plain (OpenSpec.ofChange glyphBackSpec)) glyphBackCard

/-- THE TIED CARD OF 'tutorlaw02.GlyphWhole'. -/
def glyphWholeCard : Claim7 := { stood := { row := glyphWholeRow, standIns := [], harness := (true, "3dda7e24bd458db7661da4eb3ba5c623de54d17eef6c8cdc2f68f4ca52c9c384"), looks := false }, kinds := [], alts := [], laidByText := true, laidKinds := [.data, .pinned], laidTests := true, laidLooks := .later }
def GlyphWholeCardSaid : Prop := Claim7.holds Tryd.pinned (.plain (OpenSpec.ofChange glyphWholeSpec)) glyphWholeCard

/-- THE SECOND FORM's CARD OF 'tutorlaw02.GlyphParses'. -/
def glyphParsesUptoCard : Claim7 := { stood := { row := glyphParsesUptoRow, standIns := [], harness := (true, "3dda7e24bd458db7661da4eb3ba5c623de54d17eef6c8cdc2f68f4ca52c9c384"), looks := false }, kinds := [], alts := [], laidByText := true, laidKinds := [.data, .pinned], laidTests := true, laidLooks := .later }
def GlyphParsesUptoCardSaid : Prop := Claim7.holds Tryd.pinned (.plain (OpenSpec.upto glyphParsesSpec)) glyphParsesUptoCard

/-- THE SECOND FORM's CARD OF 'tutorlaw02.GlyphShows'. -/
def glyphShowsUptoCard : Claim7 := { stood := { row := glyphShowsUptoRow, standIns := [], harness := (true, "3dda7e24bd458db7661da4eb3ba5c623de54d17eef6c8cdc2f68f4ca52c9c384"), looks := false }, kinds := [], alts := [], laidByText := true, laidKinds := [.data, .pinned], laidTests := true, laidLooks := .later }
def GlyphShowsUptoCardSaid : Prop := Claim7.holds Tryd.pinned (.plain (OpenSpec.upto glyphShowsSpec)) glyphShowsUptoCard

/-- THE SECOND FORM's CARD OF 'tutorlaw02.GlyphDefaults'. -/
def glyphDefaultsUptoCard : Claim7 := { stood := { row := glyphDefaultsUptoRow, standIns := [], harness := (true, "3dda7e24bd458db7661da4eb3ba5c623de54d17eef6c8cdc2f68f4ca52c9c384"), looks := false }, kinds := [], alts := [], laidByText := true, laidKinds := [.data, .pinned], laidTests := true, laidLooks := .later }
def GlyphDefaultsUptoCardSaid : Prop := Claim7.holds Tryd.pinned (.plain (OpenSpec.upto glyphDefaultsSpec)) glyphDefaultsUptoCard

/-- THE SECOND FORM's CARD OF 'tutorlaw02.GlyphBack'. -/
def glyphBackUptoCard : Claim7 := { stood := { row := glyphBackUptoRow, standIns := [], harness := (true, "3dda7e24bd458db7661da4eb3ba5c623de54d17eef6c8cdc2f68f4ca52c9c384"), looks := false }, kinds := [], alts := [], laidByText := true, laidKinds := [.data, .pinned], laidTests := true, laidLooks := .later }
def GlyphBackUptoCardSaid : Prop := Claim7.holds Tryd.pinned (.plain (OpenSpec.upto glyphBackSpec)) glyphBackUptoCard

/-- THE SECOND FORM's CARD OF 'tutorlaw02.GlyphWhole'. -/
def glyphWholeUptoCard : Claim7 := { stood := { row := glyphWholeUptoRow, standIns := [], harness := (true, "3dda7e24bd458db7661da4eb3ba5c623de54d17eef6c8cdc2f68f4ca52c9c384"), looks := false }, kinds := [], alts := [], laidByText := true, laidKinds := [.data, .pinned], laidTests := true, laidLooks := .later }
def GlyphWholeUptoCardSaid : Prop := Claim7.holds Tryd.pinned (.plain (OpenSpec.upto glyphWholeSpec)) glyphWholeUptoCard
end Rows
end Go.Proofs.YtfoakihlbeoebaaDoor
