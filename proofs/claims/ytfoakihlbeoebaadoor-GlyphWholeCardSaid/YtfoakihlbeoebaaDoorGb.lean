/- Contract of glyph.Parse: what the loop over the runes of a text tells. -/
import Derived.Test.YtfoakihlbeoebaaDoorGa
import Derived.Test.YtfoakihlbeoebaaDoorXf22
import Derived.Lib.RuneCountTail
import Derived.Lib.OthersKept
import Derived.WalkSmall
namespace Go.Proofs.YtfoakihlbeoebaaDoor.X
open Go.RowKit Go.Proofs.YtfoakihlbeoebaaDoorW.PrintWords Go.Proofs.YtfoakihlbeoebaaDoorW.PrintLast Go.Proofs.YtfoakihlbeoebaaDoorW.PrintMore
/-- The rune at a place, and its width. -/
def runeAt (s : ByteArray) (p : Nat) : Int := ((Utf8.decode s p).1 : Int)
def wideAt (s : ByteArray) (p : Nat) : Nat := (Utf8.decode s p).2
def brokenAt (s : ByteArray) (p : Nat) : Bool := (runeAt s p == 65533) && decide ((wideAt s p : Int) < 3)
def glyph_Parse.go (s : ByteArray) : Nat → Nat → List Int → Option (List Int × Int × Int)
  | 0, _, _ => none
  | k + 1, p, l => if p < s.size then
      (if runeAt s p < 33 then some ([], 20, (p : Int)) else if runeAt s p = 127 then some ([], 20, (p : Int)) else if brokenAt s p then some ([], 20, (p : Int))
       else if l.contains (runeAt s p) then some ([], 21, (p : Int)) else if l.length = 64 then some ([], 3, (p : Int))
       else glyph_Parse.go s k (p + wideAt s p) (l ++ [runeAt s p]))
    else some (l, 0, (s.size : Int))
def glyph_Parse.g (s : ByteArray) : Option (List Int × Int × Int) := if s.size = 0 then some ([], 4, 0) else glyph_Parse.go s (s.size + 1) 0 []

theorem width_pos (s : ByteArray) (pos : Nat) (h : pos < s.size) : 1 ≤ wideAt s pos := by
  unfold wideAt
  by_cases ha : (s[pos]'h).toNat < 128
  · rw [decode_ascii s pos h ha]
    exact Nat.le_refl _
  · exact (decode_high s pos h (by omega)).2

theorem decodeGo_at (s : ByteArray) (pos : Nat) (h : pos < s.size) : Lib.decodeGo (s.extract pos s.size) = Utf8.decode s pos := by
  have h1 := Lib.tail_decode s pos 0
  rw [Nat.add_zero] at h1
  rw [← h1]
  unfold Lib.decodeGo
  rw [if_neg]
  simp only [ByteArray.size_extract]
  omega
/-- The tables of the library are read only where a text has U+FFFD or what is no rune. -/
def NoErr (s : ByteArray) : Prop := ∀ p, p < s.size → runeAt s p ≠ 65533
instance (s : ByteArray) : Decidable (NoErr s) := inferInstanceAs (Decidable (∀ p, p < s.size → runeAt s p ≠ 65533))
def TabsOr (s : ByteArray) (w : World) : Prop := NoErr s ∨ Lib.Utf8Tabs 0 1 w
theorem TabsOr.lit {s : ByteArray} {w : World} (h : NoErr s) : TabsOr s w := .inl h
theorem TabsOr.tab {s : ByteArray} {w : World} (h : Lib.Utf8Tabs 0 1 w) : TabsOr s w := .inr h
theorem TabsOr.below {s : ByteArray} {w w' : World} (h : TabsOr s w) (hb : Below w.heap.size w w') : TabsOr s w' := h.imp id (fun h => Utf8Tabs_below h hb)
/-- broken, at a place of the text. -/
theorem broken_at (s : ByteArray) (p : Nat) (w : World) (hp : p < s.size) (hs : s.size ≤ 9223372036854775807) (hT : TabsOr s w) :
    Calls Tryd.prog 21 #[.string s, .int .i64 p, .int .i32 (runeAt s p)] w fun e w' => e = .returned (.bool (brokenAt s p)) ∧ Below w.heap.size w w' := by
  by_cases hc : runeAt s p = 65533
  · have h := broken_yes s p (runeAt s p) w (by simp [hc]) (by omega) (by omega) hs (hT.resolve_left (fun hn => hn p hp hc))
    rw [Int.toNat_natCast, decodeGo_at s p hp] at h
    refine h.mono ?_
    rintro e w' ⟨rfl, hb⟩
    exact ⟨by unfold brokenAt wideAt; rw [hc]; rfl, hb⟩
  · refine (broken_no s p (runeAt s p) w (by simp [hc])).mono ?_
    rintro e w' ⟨rfl, rfl⟩
    exact ⟨by simp [brokenAt, hc], Below.refl _ _⟩

theorem slices_Index_ev (l : List Int) (c : Int) (hl : l.length ≤ 9223372036854775806) : ∀ d i, i + d = l.length → ∀ k, d < k →
    slices_Index_rune_rune.l0 k l c (l.length : Int) (i : Int) = some (((l.drop i).findIdx? (· == c)).elim (-1) (fun j => ((i + j : Nat) : Int))) := by
  intro d
  induction d with
  | zero =>
    intro i hi k hk
    obtain ⟨k, rfl⟩ : ∃ m, k = m + 1 := ⟨k - 1, by omega⟩
    simp only [slices_Index_rune_rune.l0]
    rw [if_neg (by omega), List.drop_of_length_le (by omega)]
    rfl
  | succ d ih =>
    intro i hi k hk
    obtain ⟨k, rfl⟩ : ∃ m, k = m + 1 := ⟨k - 1, by omega⟩
    simp only [slices_Index_rune_rune.l0]
    rw [if_pos (by omega), if_pos (by omega), if_pos (by omega)]
    have hd : l.drop i = l[i]'(by omega) :: l.drop (i + 1) := (List.drop_eq_getElem_cons (by omega))
    have hr : rd l i = l[i]'(by omega) := by simp [rd, List.getD_eq_getElem?_getD, List.getElem?_eq_getElem (show i < l.length by omega)]
    rw [hd, hr, List.findIdx?_cons]
    by_cases h : c = l[i]'(by omega)
    · rw [if_pos h, if_pos (by simp [h])]; rfl
    · rw [if_neg h, if_neg (by simpa using fun e => h e.symm)]
      have hw : wrap64 ((i : Int) + 1) = ((i + 1 : Nat) : Int) := by unfold wrap64; omega
      rw [hw, ih (i + 1) (by omega) k (by omega)]
      cases (l.drop (i + 1)).findIdx? (· == c) with
      | none => rfl
      | some j => simp only [Option.map_some, Option.elim_some]; congr 2; omega
theorem slices_Contains_ev (l : List Int) (c : Int) (hl : l.length ≤ 9223372036854775806) : slices_Contains_rune_rune.f (l.length + 1) l c = some (l.contains c) := by
  unfold slices_Contains_rune_rune.f slices_Index_rune_rune.f
  have h := slices_Index_ev l c hl l.length 0 (by omega) (l.length + 1) (by omega)
  rw [show ((0 : Nat) : Int) = 0 from rfl] at h
  rw [h]
  simp only [Option.bind_some, List.drop_zero]
  congr 1
  cases hf : l.findIdx? (· == c) with
  | none =>
    rw [List.findIdx?_eq_none_iff] at hf
    have : l.contains c = false := by
      rw [← Bool.not_eq_true, List.contains_iff_mem]
      intro hm
      have := hf c hm
      simp at this
    rw [this]; rfl
  | some j =>
    have hj := List.findIdx?_eq_some_iff_getElem.1 hf
    obtain ⟨hlt, he, _⟩ := hj
    have : l.contains c = true := by
      rw [List.contains_iff_mem]
      have := eq_of_beq he
      rw [← this]
      exact List.getElem_mem _
    rw [this]
    simp only [Option.elim_some, decide_eq_true_eq, ge_iff_le]
    omega
end Go.Proofs.YtfoakihlbeoebaaDoor.X
