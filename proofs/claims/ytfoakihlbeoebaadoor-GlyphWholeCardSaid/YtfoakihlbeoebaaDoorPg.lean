/- Plain law: the names of a text, each in its place, are the text; by the names that are given each symbol has one of its own. -/
import Derived.Test.YtfoakihlbeoebaaDoorXf7
import Derived.Test.YtfoakihlbeoebaaDoorPd
namespace Go.Proofs.YtfoakihlbeoebaaDoor.X
open Go.RowKit Go.Proofs.YtfoakihlbeoebaaDoorW.PrintWords Go.Proofs.YtfoakihlbeoebaaDoorW.PrintLast
theorem whole_small : (List.range 65).all (fun n => n == 0 || tutorlaw02_GlyphWhole.j1 300 (n : Int) == some true) = true := by decide +kernel
theorem whole_j1_300 (a0 : Int) : tutorlaw02_GlyphWhole.j1 300 a0 = some true := by
  by_cases h : 1 ≤ a0 ∧ a0 ≤ 64
  · have h1 := List.all_eq_true.1 whole_small a0.toNat (by simp; omega)
    have h2 : ((a0.toNat : Nat) : Int) = a0 := by omega
    rw [h2] at h1
    have h3 : (a0.toNat == 0) = false := by simp; omega
    rw [h3, Bool.false_or] at h1
    exact eq_of_beq h1
  · have hd : ∀ k, glyph_Default.f (k + 1) a0 = some [] := by
      intro k
      unfold glyph_Default.f
      by_cases h1 : a0 < 1
      · rw [if_pos h1]; rfl
      · rw [if_neg h1, decide_eq_true (by omega)]; rfl
    rw [show (300 : Nat) = 299 + 1 from rfl]
    simp only [tutorlaw02_GlyphWhole.j1]
    rw [show (299 : Nat) = 298 + 1 from rfl, hd, live_ev _ (by omega)]
    simp only [Option.bind_some]
    rw [if_pos (by simp)]
    by_cases h1 : a0 < 1
    · rw [if_pos h1]
    · rw [if_neg h1, if_pos (by omega)]
theorem whole_j1 (k : Nat) (a0 : Int) (hk : 300 ≤ k) : tutorlaw02_GlyphWhole.j1 k a0 = some true :=
  at_rounds (g := fun k => tutorlaw02_GlyphWhole.j1 k a0) (fun k => (tutorlaw02_GlyphWhole.mono_l k).1 a0) hk (whole_j1_300 a0)
/-- The runes that Parse lists are the text's. -/
theorem Parse_spells (s : ByteArray) : ∀ kq p l r, p ≤ s.size → glyph_Parse.go s kq p l = some r → r.2.1 = 0 →
    ∃ l', r.1 = l ++ l' ∧ (l'.flatMap Lib.encodeRuneZ).map byteOf = s.data.toList.drop p := by
  intro kq
  induction kq with
  | zero => intro p l r _ h; simp [glyph_Parse.go] at h
  | succ kq ih =>
    intro p l r hps h he
    simp only [glyph_Parse.go] at h
    split at h
    · rename_i hp
      split at h
      · obtain rfl := Option.some.inj h; simp at he
      · split at h
        · obtain rfl := Option.some.inj h; simp at he
        · split at h
          · obtain rfl := Option.some.inj h; simp at he
          · rename_i hb
            split at h
            · obtain rfl := Option.some.inj h; simp at he
            · split at h
              · obtain rfl := Option.some.inj h; simp at he
              · have hwl := wide_le s p hp
                obtain ⟨l', h1, h2⟩ := ih _ _ _ hwl.1 h he
                refine ⟨runeAt s p :: l', by rw [h1]; simp, ?_⟩
                rw [List.flatMap_cons, List.map_append, h2, encode_at s p hp hb, ← List.drop_drop, List.take_append_drop]
    · rename_i hp
      obtain rfl := Option.some.inj h
      refine ⟨[], by simp, ?_⟩
      rw [List.drop_of_length_le (by rw [← Lib.size_eq]; omega)]
      rfl
theorem Show_full (l0 : List Int) (hv : ∀ c ∈ l0, Lib.validRune c = true) : ∀ (w A : List Int), (∀ x ∈ w, 0 ≤ x ∧ x < (l0.length : Int)) → glyph_Show.go l0 w A = (strOfNums (A ++ encs_of l0 w), 0) := by
  intro w
  induction w with
  | nil => intro A _; simp [glyph_Show.go, encs_of]
  | cons x r ih =>
    intro A hx
    obtain ⟨x0, x1⟩ := hx x (by simp)
    have hm : rd l0 x ∈ l0 := by
      have : x = ((x.toNat : Nat) : Int) := by omega
      rw [this, rd_at l0 x.toNat (by omega)]
      exact List.getElem_mem _
    simp only [glyph_Show.go]
    rw [if_neg (by omega), if_neg (by omega), if_pos (hv _ hm), ih _ (fun y hy => hx y (by simp [hy]))]
    simp [encs_of, List.append_assoc]
def upTo (i : Nat) : List Int := (List.range i).map fun (j : Nat) => (j : Int)
theorem upTo_succ (i : Nat) : upTo (i + 1) = upTo i ++ [(i : Int)] := by unfold upTo; rw [List.range_succ, List.map_append]; rfl
theorem encs_upTo (l : List Int) : ∀ i, i ≤ l.length → encs_of l (upTo i) = (l.take i).flatMap Lib.encodeRuneZ := by
  intro i
  induction i with
  | zero => intro _; rfl
  | succ i ih =>
    intro hi
    rw [upTo_succ]
    have h1 : encs_of l (upTo i ++ [(i : Int)]) = encs_of l (upTo i) ++ Lib.encodeRuneZ (rd l i) := by simp [encs_of]
    have h2 : l.take (i + 1) = l.take i ++ [l[i]'(by omega)] := by rw [List.take_add_one, List.getElem?_eq_getElem (by omega)]; rfl
    rw [h1, ih (by omega), rd_at l i (by omega), h2, List.flatMap_append]
    simp
theorem whole_l0 (s : ByteArray) (a1 : Int) (n : List Int) (hnl : n.length ≤ 64) (hv : ∀ c ∈ n, Lib.validRune c = true) (hsp : (n.flatMap Lib.encodeRuneZ).map byteOf = s.data.toList) :
    ∀ d i, i + d = n.length → ∀ K, d + 400 ≤ K → tutorlaw02_GlyphWhole.l0 K s a1 n (upTo i) (i : Int) = some true := by
  intro d
  induction d with
  | zero =>
    intro i hi K hK
    obtain ⟨K, rfl⟩ : ∃ m, K = m + 1 := ⟨K - 1, by omega⟩
    simp only [tutorlaw02_GlyphWhole.l0]
    rw [if_neg (by omega)]
    have hlen : (upTo i).length = i := by simp [upTo]
    have hS : glyph_Show.f n (upTo i) = some (s, 0) := by
      unfold glyph_Show.f
      rw [if_pos (by omega), Show_full n hv (upTo i) [] (by intro x hx; simp [upTo] at hx; omega), List.nil_append, encs_upTo n i (by omega), List.take_of_length_le (by omega), strOf_of _ s hsp]
    rw [hS]
    simp only [Option.bind_some, num_f, if_true]
    rw [if_neg (by omega), whole_j1 K a1 (by omega)]
  | succ d ih =>
    intro i hi K hK
    obtain ⟨K, rfl⟩ : ∃ m, K = m + 1 := ⟨K - 1, by omega⟩
    simp only [tutorlaw02_GlyphWhole.l0]
    have hlen : (upTo i).length = i := by simp [upTo]
    rw [if_pos (by omega), if_pos (by omega), wrap64_id (by omega) (by omega), ← upTo_succ]
    have := ih (i + 1) (by omega) K (by omega)
    rw [← this]
    rfl
theorem GlyphWhole_pure (s : ByteArray) (a1 : Int) (hs : s.size ≤ 140737488351232) : tutorlaw02_GlyphWhole.f 1000 s a1 = some true := by
  unfold tutorlaw02_GlyphWhole.f
  rw [live_ev _ (by omega)]
  by_cases h : (s.size : Int) > 20000
  · rw [if_pos h]; rfl
  · rw [if_neg h, whole_j1 _ a1 (by omega)]
    by_cases h0 : s.size = 0
    · have : glyph_Parse.f s = some ([], 4, 0) := by unfold glyph_Parse.f glyph_Parse.g; rw [if_pos hs, if_pos h0]
      rw [this]
      rfl
    · obtain ⟨r, hr, hl⟩ := go_total s (s.size + 1) 0 [] (by omega) (by omega) (by simp)
      have : glyph_Parse.f s = some r := by unfold glyph_Parse.f glyph_Parse.g; rw [if_pos hs, if_neg h0]; exact hr
      rw [this]
      simp only [Option.bind_some, num_f]
      by_cases he : r.2.1 = 0
      · rw [if_pos he]
        obtain ⟨l', h1, h2⟩ := Parse_spells s _ _ _ _ (by omega) hr he
        rw [List.nil_append] at h1
        rw [← h1, List.drop_zero] at h2
        rcases Parse_names s _ _ _ _ (by simp) (by simp) hr with ⟨_, _, hv⟩ | ⟨hne, _⟩
        · exact whole_l0 s a1 r.1 hl hv h2 r.1.length 0 (by omega) 1000 (by omega)
        · exact absurd he hne
      · rw [if_neg he]
theorem GlyphWhole_walk (s : ByteArray) (a1 : Int) (w : World) (hs : s.size ≤ 140737488351232) (hT : Lib.Utf8Tabs 0 1 w) : Calls Tryd.prog 7 #[.string s, .int .i64 a1] w fun e w' => e = .returned (.bool true) ∧ Below w.heap.size w w' :=
  tutorlaw02_GlyphWhole.calls 1000 s a1 true w ⟨hT⟩ (GlyphWhole_pure s a1 hs)
end Go.Proofs.YtfoakihlbeoebaaDoor.X
