/- Contract of glyph.broken: it tells whether bytes that are no rune begin at a place. -/
import Derived.Test.YtfoakihlbeoebaaDoorX0
import Derived.Test.YtfoakihlbeoebaaDoorShelf
import Derived.Outline
namespace Go.Proofs.YtfoakihlbeoebaaDoor.X
open Go.RowKit Go.Proofs.YtfoakihlbeoebaaDoorW.PrintWords Go.Proofs.YtfoakihlbeoebaaDoorW.PrintLast Go.Proofs.YtfoakihlbeoebaaDoorW.PrintMore
theorem broken_no (s : ByteArray) (i c : Int) (w : World) (hc : (c != 65533) = true) :
    Calls Tryd.prog 21 #[.string s, .int .i64 i, .int .i32 c] w fun e w' => e = .returned (.bool false) ∧ w = w' := by
  go_enter Tryd.func21, Tryd.ntmps21
  go_wp2
  go_ret
  exact ⟨rfl, rfl⟩
theorem broken_yes (s : ByteArray) (i c : Int) (w : World) (hc : (c != 65533) = false) (h0 : 0 ≤ i) (h1 : i ≤ s.size) (hs : s.size ≤ 9223372036854775807) (hT : Lib.Utf8Tabs 0 1 w) :
    Calls Tryd.prog 21 #[.string s, .int .i64 i, .int .i32 c] w fun e w' => e = .returned (.bool (decide (((Lib.decodeGo (s.extract i.toNat s.size)).2 : Int) < 3))) ∧ Below w.heap.size w w' := by
  obtain ⟨K, hK⟩ : ∃ K, (Lib.decodeGo (s.extract i.toNat s.size)).2 = K := ⟨_, rfl⟩
  obtain ⟨R, hR⟩ : ∃ K, (Lib.decodeGo (s.extract i.toNat s.size)).1 = K := ⟨_, rfl⟩
  have cS := Tryd.utf8_DecodeRuneInString (s.extract i.toNat s.size) w hT
  rw [hK, hR] at cS
  rw [hK]
  clear hK hR
  go_enter Tryd.func21, Tryd.ntmps21
  go_wp2_with fail
  refine cS.mono ?_
  rintro e w' ⟨rfl, hb⟩
  go_wp2
  go_ret
  exact ⟨rfl, hb⟩
end Go.Proofs.YtfoakihlbeoebaaDoor.X
