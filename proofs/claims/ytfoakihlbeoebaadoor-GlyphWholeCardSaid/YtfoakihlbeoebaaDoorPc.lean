/- Plain law: the document's Parse tells what glyph.Parse tells. -/
import Derived.Test.YtfoakihlbeoebaaDoorXf3
import Derived.Test.YtfoakihlbeoebaaDoorPb
import Derived.Test.YtfoakihlbeoebaaDoorPa
namespace Go.Proofs.YtfoakihlbeoebaaDoor.X
open Go.RowKit Go.Proofs.YtfoakihlbeoebaaDoorW.PrintWords Go.Proofs.YtfoakihlbeoebaaDoorW.PrintLast
theorem rd_at (l : List Int) (i : Nat) (h : i < l.length) : rd l (i : Int) = l[i] := by
  simp [rd, List.getD_eq_getElem?_getD, List.getElem?_eq_getElem h]
theorem place_ev (l : List Int) (c : Int) (hl : l.length ≤ 9223372036854775806) : ∀ d i, i + d = l.length → ∀ k, d < k →
    tutorref02_place.l0 k l c (i : Int) = some (((l.drop i).findIdx? (· == c)).elim (-1) (fun j => ((i + j : Nat) : Int))) := by
  intro d
  induction d with
  | zero =>
    intro i hi k hk
    obtain ⟨k, rfl⟩ : ∃ m, k = m + 1 := ⟨k - 1, by omega⟩
    simp only [tutorref02_place.l0]
    rw [if_neg (by omega), List.drop_of_length_le (by omega)]
    rfl
  | succ d ih =>
    intro i hi k hk
    obtain ⟨k, rfl⟩ : ∃ m, k = m + 1 := ⟨k - 1, by omega⟩
    simp only [tutorref02_place.l0]
    rw [if_pos (by omega), if_pos (by omega)]
    have hd : l.drop i = l[i]'(by omega) :: l.drop (i + 1) := (List.drop_eq_getElem_cons (by omega))
    rw [hd, rd_at l i (by omega), List.findIdx?_cons]
    by_cases h : l[i]'(by omega) = c
    · rw [if_pos h, if_pos (by simp [h])]; rfl
    · rw [if_neg h, if_neg (by simpa using h)]
      have hw : wrap64 ((i : Int) + 1) = ((i + 1 : Nat) : Int) := by unfold wrap64; omega
      rw [hw, ih (i + 1) (by omega) k (by omega)]
      cases (l.drop (i + 1)).findIdx? (· == c) with
      | none => rfl
      | some j => simp only [Option.map_some, Option.elim_some]; congr 2; omega
theorem place_all (k : Nat) (l : List Int) (c : Int) (hl : l.length ≤ 9223372036854775806) (hk : l.length < k) : tutorref02_place.f k l c = some (idxOf l c) := by
  unfold tutorref02_place.f
  have h := place_ev l c hl l.length 0 (by omega) k hk
  rw [show ((0 : Nat) : Int) = 0 from rfl] at h
  rw [h]
  simp only [List.drop_zero, Nat.zero_add]
  rfl
theorem idxOf_contains (l : List Int) (c : Int) : idxOf l c ≥ 0 ↔ l.contains c = true := by
  unfold idxOf
  cases hf : l.findIdx? (· == c) with
  | none =>
    rw [List.findIdx?_eq_none_iff] at hf
    simp only [Option.elim_none]
    constructor
    · intro h; omega
    · intro h
      rw [List.contains_iff_mem] at h
      have := hf c h
      simp at this
  | some j =>
    obtain ⟨hlt, he, _⟩ := List.findIdx?_eq_some_iff_getElem.1 hf
    simp only [Option.elim_some]
    constructor
    · intro _
      rw [List.contains_iff_mem, ← eq_of_beq he]
      exact List.getElem_mem _
    · intro _; omega
theorem Same_refl (l : List Int) (hl : l.length ≤ 9223372036854775806) : ∀ d i, i + d = l.length → ∀ k, d < k → tutorref02_Same.l0 k l l (i : Int) = some true := by
  intro d
  induction d with
  | zero =>
    intro i hi k hk
    obtain ⟨k, rfl⟩ : ∃ m, k = m + 1 := ⟨k - 1, by omega⟩
    simp only [tutorref02_Same.l0]
    rw [if_neg (by omega)]
  | succ d ih =>
    intro i hi k hk
    obtain ⟨k, rfl⟩ : ∃ m, k = m + 1 := ⟨k - 1, by omega⟩
    simp only [tutorref02_Same.l0]
    rw [if_pos (by omega), if_pos (by omega), if_pos (by omega), if_pos trivial]
    have hw : wrap64 ((i : Int) + 1) = ((i + 1 : Nat) : Int) := by unfold wrap64; omega
    rw [hw, ih (i + 1) (by omega) k (by omega)]
theorem Same_self (k : Nat) (l : List Int) (hl : l.length ≤ 9223372036854775806) (hk : l.length < k) : tutorref02_Same.f k l l = some true := by
  unfold tutorref02_Same.f
  rw [if_pos rfl]
  exact Same_refl l hl l.length 0 (by omega) k hk
theorem wide_le (s : ByteArray) (p : Nat) (h : p < s.size) : p + wideAt s p ≤ s.size ∧ wideAt s p ≤ 4 := by
  unfold wideAt
  rw [Lib.decode_at]
  unfold Lib.decodeN
  repeat' split
  all_goals (simp only []; omega)
/-- glyph.Parse always tells something; what it lists is no longer than the alphabet. -/
theorem go_total (s : ByteArray) : ∀ kq p l, s.size < p + kq → p ≤ s.size → l.length ≤ 64 → ∃ r, glyph_Parse.go s kq p l = some r ∧ r.1.length ≤ 64 := by
  intro kq
  induction kq with
  | zero => 
    intro p l h hp hl
    omega
  | succ kq ih =>
    intro p l h hps hl
    simp only [glyph_Parse.go]
    by_cases hp : p < s.size
    · rw [if_pos hp]
      have := width_pos s p hp
      repeat' split
      all_goals first | exact ⟨_, rfl, by simp⟩ | skip
      exact ih _ _ (by omega) (wide_le s p hp).1 (by simp; omega)
    · rw [if_neg hp]
      exact ⟨_, rfl, hl⟩
theorem Parse_ref (s : ByteArray) (hs : (s.size : Int) ≤ 140737488351232) : ∀ kq p l r, p ≤ s.size → l.length ≤ 64 → glyph_Parse.go s kq p l = some r → ∀ K, 2 * kq + 80 ≤ K → tutorref02_Parse.l0 K s l (p : Int) = some r := by
  intro kq
  induction kq with
  | zero => intro p l r _ _ h; simp [glyph_Parse.go] at h
  | succ kq ih =>
    intro p l r hps hl h K hK
    obtain ⟨K, rfl⟩ : ∃ m, K = m + 2 := ⟨K - 2, by omega⟩
    simp only [glyph_Parse.go] at h
    rw [show K + 2 = (K + 1) + 1 from rfl]
    simp only [tutorref02_Parse.l0]
    by_cases hp : p < s.size
    · rw [if_pos hp] at h
      rw [if_pos (by omega)]
      obtain ⟨K7, hK7⟩ : ∃ m, K + 1 = m + 7 := ⟨K - 6, by omega⟩
      have hA := At_all K7 s p hs hp
      rw [← hK7] at hA
      rw [hA]
      simp only [Option.bind_some]
      have hw := width_pos s p hp
      unfold atR
      by_cases hb : brokenAt s p = true
      · rw [if_pos hb, if_pos rfl]
        simp only [tutorref02_Parse.j1]
        rw [if_pos trivial]
        rw [← h]
        repeat' split
        all_goals first | rfl | (exfalso; simp_all; done)
      · rw [if_neg hb, if_neg (by show ¬ ((wideAt s p : Int) = 0); omega)]
        rw [if_neg hb] at h
        simp only []
        by_cases c1 : runeAt s p < 33
        · rw [if_pos c1] at h
          rw [if_pos c1]
          simp only [tutorref02_Parse.j1]
          rw [if_pos trivial, ← h]
        · rw [if_neg c1] at h
          rw [if_neg c1]
          by_cases c2 : runeAt s p = 127
          · rw [if_pos c2] at h
            simp only [tutorref02_Parse.j1]
            rw [if_pos (by simp [c2]), ← h]
          · rw [if_neg c2] at h
            simp only [tutorref02_Parse.j1]
            rw [if_neg (by simpa using c2), place_all K l _ (by omega) (by omega)]
            simp only [Option.bind_some]
            by_cases c3 : l.contains (runeAt s p) = true
            · rw [if_pos c3] at h
              rw [if_pos ((idxOf_contains _ _).2 c3), ← h]
            · rw [if_neg c3] at h
              rw [if_neg (fun hh => c3 ((idxOf_contains _ _).1 hh))]
              by_cases c4 : l.length = 64
              · rw [if_pos c4] at h
                rw [if_pos (by omega), ← h]
              · rw [if_neg c4] at h
                rw [if_neg (by omega), if_pos (by omega)]
                have hwd := wide_le s p hp
                rw [wrap64_id (by omega) (by omega)]
                have := ih (p + wideAt s p) (l ++ [runeAt s p]) r hwd.1 (by simp; omega) h K (by omega)
                rw [← this]
                rfl
    · rw [if_neg hp] at h
      rw [if_neg (by omega), ← h]
theorem GlyphParses_pure (s : ByteArray) (hs : s.size ≤ 140737488351232) : ∃ k, tutorlaw02_GlyphParses.f k s = some true := by
  refine ⟨2 * s.size + 100, ?_⟩
  unfold tutorlaw02_GlyphParses.f
  rw [live_ev _ (by omega)]
  by_cases h : (s.size : Int) > 20000
  · rw [if_pos h]; rfl
  · rw [if_neg h]
    have hP : ∃ r, glyph_Parse.f s = some r ∧ tutorref02_Parse.f (2 * s.size + 100) s = some r ∧ r.1.length ≤ 64 := by
      unfold glyph_Parse.f
      rw [if_pos hs]
      unfold glyph_Parse.g tutorref02_Parse.f
      by_cases h0 : s.size = 0
      · exact ⟨_, by rw [if_pos h0], by rw [if_pos (by omega)], by simp⟩
      · rw [if_neg h0, if_neg (by omega)]
        obtain ⟨r, hr, hl⟩ := go_total s (s.size + 1) 0 [] (by omega) (by omega) (by simp)
        exact ⟨r, hr, Parse_ref s (by omega) (s.size + 1) 0 [] r (by omega) (by simp) hr _ (by omega), hl⟩
    obtain ⟨r, h1, h2, h3⟩ := hP
    rw [h1, h2]
    simp only [Option.bind_some]
    rw [Same_self _ _ (by omega) (by omega)]
    simp only [Option.bind_some, if_true]
    unfold tutorlaw02_num.f
    simp only [Option.bind_some, if_true]
theorem GlyphParses_walk (s : ByteArray) (w : World) (hs : s.size ≤ 140737488351232) (hT : Lib.Utf8Tabs 0 1 w) : Calls Tryd.prog 3 #[.string s] w fun e w' => e = .returned (.bool true) ∧ Below w.heap.size w w' := by
  obtain ⟨k, h⟩ := GlyphParses_pure s hs
  exact tutorlaw02_GlyphParses.calls k s true w ⟨hT⟩ h
end Go.Proofs.YtfoakihlbeoebaaDoor.X
