/- Plain law: by names that Parse tells, what is read is shown again, and a word that is shown is read as it was. -/
import Derived.Test.YtfoakihlbeoebaaDoorXf6
import Derived.Test.YtfoakihlbeoebaaDoorPc
import Derived.Lib.MapLaws
namespace Go.Proofs.YtfoakihlbeoebaaDoor.X
open Go.RowKit Go.Proofs.YtfoakihlbeoebaaDoorW.PrintWords Go.Proofs.YtfoakihlbeoebaaDoorW.PrintLast
def byteOf (n : Int) : UInt8 := UInt8.ofNat n.toNat
theorem strOf_list (A : List Int) : (strOfNums A).data.toList = A.map byteOf := rfl
theorem strOf_of (A : List Int) (s : ByteArray) (h : A.map byteOf = s.data.toList) : strOfNums A = s := by
  cases s with
  | mk d =>
    have : (A.map byteOf).toArray = d := by rw [h]
    unfold strOfNums
    rw [← this]
    rfl
theorem encode_bytes (c : Int) : (Lib.encodeRuneZ c).map byteOf = Lib.encodeRune c := rfl
theorem runeAt_shape (s : ByteArray) (p : Nat) : Lib.validRune (runeAt s p) = true := by
  unfold Lib.validRune runeAt
  rw [Lib.decode_N]
  have k0 := (s.data.toList.getD p 0).toNat_lt
  have k1 := (s.data.toList.getD (p + 1) 0).toNat_lt
  have k2 := (s.data.toList.getD (p + 2) 0).toNat_lt
  have k3 := (s.data.toList.getD (p + 3) 0).toNat_lt
  apply decide_eq_true
  rcases Lib.decodeN_shape (s.data.toList.length - p) (s.data.toList.getD p 0).toNat (s.data.toList.getD (p + 1) 0).toNat (s.data.toList.getD (p + 2) 0).toNat (s.data.toList.getD (p + 3) 0).toNat with ⟨c, e⟩ | ⟨c1, c2, c3, cv, e⟩ | ⟨c1, c2, c3, c4, cv, cs, e⟩ | ⟨c1, c2, c3, c4, c5, cv, cw, e⟩ | e
  all_goals rw [e]
  all_goals simp only []
  all_goals omega
theorem encode_at (s : ByteArray) (p : Nat) (hp : p < s.size) (hb : ¬ brokenAt s p = true) : (Lib.encodeRuneZ (runeAt s p)).map byteOf = (s.data.toList.drop p).take (wideAt s p) := by
  rw [encode_bytes]
  unfold runeAt wideAt
  rw [← Lib.decodeL_drop]
  refine Lib.encode_decode _ ?_ ?_
  · intro h
    have := congrArg List.length h
    rw [List.length_drop, ← Lib.size_eq] at this
    simp at this
    omega
  · rw [Lib.decodeL_drop]
    rintro ⟨h1, h2⟩
    refine hb ?_
    unfold brokenAt runeAt wideAt
    rw [h1, h2]
    rfl
theorem decode_encode (c : Int) (hv : Lib.validRune c = true) (l : List UInt8) : Lib.decodeL ((Lib.encodeRuneZ c).map byteOf ++ l) = (c.toNat, (Lib.encodeRuneZ c).length) := by
  have hr := of_decide_eq_true hv
  have tb : ∀ z : Int, 0 ≤ z → z < 256 → (byteOf z).toNat = z.toNat := by
    intro z h0 h1
    show z.toNat % 256 = z.toNat
    omega
  rw [Lib.decodeL_N]
  by_cases h1 : c ≤ 127
  · rw [Lib.encodeRuneZ_one (by omega) h1]
    simp only [List.map_cons, List.map_nil, List.cons_append, List.nil_append, List.getD_cons_zero, List.length_cons, List.length_nil]
    rw [tb c (by omega) (by omega)]
    unfold Lib.decodeN
    rw [if_pos (by omega)]
  · by_cases h2 : c ≤ 2047
    · rw [Lib.encodeRuneZ_two (by omega) h2]
      simp only [List.map_cons, List.map_nil, List.cons_append, List.nil_append, List.getD_cons_zero, List.getD_cons_succ, List.length_cons, List.length_nil]
      rw [tb (192 + c / 64) (by omega) (by omega), tb (128 + c % 64) (by omega) (by omega)]
      unfold Lib.decodeN
      rw [if_neg (by omega), if_pos ⟨by omega, by omega, by omega⟩, if_pos (by omega)]
      congr 1
      omega
    · by_cases h3 : c ≤ 65535
      · rw [Lib.encodeRuneZ_three (by omega)]
        simp only [List.map_cons, List.map_nil, List.cons_append, List.nil_append, List.getD_cons_zero, List.getD_cons_succ, List.length_cons, List.length_nil]
        rw [tb (224 + c / 4096) (by omega) (by omega), tb (128 + c / 64 % 64) (by omega) (by omega), tb (128 + c % 64) (by omega) (by omega)]
        unfold Lib.decodeN
        rw [if_neg (by omega), if_neg (by omega), if_pos ⟨by omega, ⟨by omega, by omega⟩, by omega, by omega⟩, if_pos (by omega)]
        congr 1
        omega
      · rw [Lib.encodeRuneZ_four (by omega) (by omega)]
        simp only [List.map_cons, List.map_nil, List.cons_append, List.nil_append, List.getD_cons_zero, List.getD_cons_succ, List.length_cons, List.length_nil]
        rw [tb (240 + c / 262144) (by omega) (by omega), tb (128 + c / 4096 % 64) (by omega) (by omega), tb (128 + c / 64 % 64) (by omega) (by omega), tb (128 + c % 64) (by omega) (by omega)]
        unfold Lib.decodeN
        rw [if_neg (by omega), if_neg (by omega), if_neg (by omega), if_pos ⟨by omega, ⟨by omega, by omega⟩, ⟨by omega, by omega⟩, by omega, by omega⟩, if_pos (by omega)]
        congr 1
        omega
theorem idxOf_get (l : List Int) (c : Int) (h : ¬ idxOf l c < 0) : 0 ≤ idxOf l c ∧ idxOf l c < l.length ∧ rd l (idxOf l c) = c := by
  unfold idxOf at h ⊢
  cases hf : l.findIdx? (· == c) with
  | none => rw [hf] at h; simp at h
  | some j =>
    obtain ⟨hlt, he, _⟩ := List.findIdx?_eq_some_iff_getElem.1 hf
    simp only [Option.elim_some]
    exact ⟨by omega, by omega, by rw [rd_at l j hlt]; exact eq_of_beq he⟩
theorem idxOf_nodup (l : List Int) (hn : l.Nodup) (i : Nat) (hi : i < l.length) : idxOf l l[i] = (i : Int) := by
  unfold idxOf
  have : l.findIdx? (· == l[i]) = some i := by
    rw [List.findIdx?_eq_some_iff_getElem]
    refine ⟨hi, by simp, fun j hj => ?_⟩
    simp only [beq_iff_eq, Bool.not_eq_true]
    intro he
    exact List.pairwise_iff_getElem.1 hn j i (by omega) hi hj he
  rw [this]
  rfl
/-- Read, then Show. -/
theorem Read_Show (l0 : List Int) (s : ByteArray) : ∀ kq p acc w at_, p ≤ s.size → glyph_Read.go l0 s kq p acc = some (w, 0, at_) →
    ∃ w', w = acc ++ w' ∧ ∀ A : List Int, A.map byteOf = s.data.toList.take p → glyph_Show.go l0 w' A = (s, 0) := by
  intro kq
  induction kq with
  | zero => intro p acc w at_ _ h; simp [glyph_Read.go] at h
  | succ kq ih =>
    intro p acc w at_ hps h
    simp only [glyph_Read.go] at h
    by_cases hp : p < s.size
    · rw [if_pos hp] at h
      by_cases c1 : acc.length = 4096
      · rw [if_pos c1] at h; simp at h
      · rw [if_neg c1] at h
        by_cases c2 : idxOf l0 (runeAt s p) < 0
        · rw [if_pos c2] at h; simp at h
        · rw [if_neg c2] at h
          by_cases c3 : brokenAt s p = true
          · rw [if_pos c3] at h; simp at h
          · rw [if_neg c3] at h
            have hwl := wide_le s p hp
            obtain ⟨w', hw', hA⟩ := ih _ _ _ _ hwl.1 h
            refine ⟨idxOf l0 (runeAt s p) :: w', by rw [hw']; simp, fun A hAp => ?_⟩
            obtain ⟨g0, g1, g2⟩ := idxOf_get l0 (runeAt s p) c2
            simp only [glyph_Show.go]
            rw [if_neg (by omega), if_neg (by omega), g2, if_pos (runeAt_shape s p)]
            apply hA
            rw [List.map_append, hAp, encode_at s p hp c3, List.take_add]
    · rw [if_neg hp] at h
      simp only [Option.some.injEq, Prod.mk.injEq] at h
      obtain ⟨rfl, _, _⟩ := h
      refine ⟨[], by simp, fun A hAp => ?_⟩
      simp only [glyph_Show.go]
      rw [strOf_of A s (by rw [hAp, List.take_of_length_le (by rw [← Lib.size_eq]; omega)])]
def encs_of (l0 w : List Int) : List Int := w.flatMap fun x => Lib.encodeRuneZ (rd l0 x)
/-- What Show tells. -/
theorem Show_tells (l0 : List Int) (hv : ∀ c ∈ l0, Lib.validRune c = true) : ∀ w A, (glyph_Show.go l0 w A = (⟨#[]⟩, 10)) ∨
    (glyph_Show.go l0 w A = (strOfNums (A ++ encs_of l0 w), 0) ∧ ∀ x ∈ w, 0 ≤ x ∧ x < l0.length) := by
  intro w
  induction w with
  | nil => intro A; exact .inr ⟨by simp [glyph_Show.go, encs_of], by simp⟩
  | cons x r ih =>
    intro A
    simp only [glyph_Show.go]
    by_cases h1 : x < 0
    · rw [if_pos h1]; exact .inl rfl
    · rw [if_neg h1]
      by_cases h2 : x ≥ (l0.length : Int)
      · rw [if_pos h2]; exact .inl rfl
      · rw [if_neg h2]
        have hm : rd l0 x ∈ l0 := by
          have : x = ((x.toNat : Nat) : Int) := by omega
          rw [this, rd_at l0 x.toNat (by omega)]
          exact List.getElem_mem _
        rw [if_pos (hv _ hm)]
        rcases ih (A ++ Lib.encodeRuneZ (rd l0 x)) with h | ⟨h, h'⟩
        · exact .inl h
        · refine .inr ⟨by rw [h]; simp [encs_of, List.append_assoc], ?_⟩
          intro y hy
          rcases List.mem_cons.1 hy with rfl | hy
          · omega
          · exact h' y hy
theorem enc_pos (c : Int) : 1 ≤ (Lib.encodeRuneZ c).length := by
  unfold Lib.encodeRuneZ
  repeat' split
  all_goals simp
/-- Show, then Read. -/
theorem Show_Read (l0 : List Int) (hv : ∀ c ∈ l0, Lib.validRune c = true) (hn : l0.Nodup) (w : List Int) (hx : ∀ x ∈ w, 0 ≤ x ∧ x < l0.length) (hw : w.length ≤ 4096) (u : ByteArray) (hu : u.data.toList = (encs_of l0 w).map byteOf) :
    ∀ w2 w1, w = w1 ++ w2 → ∀ kq, u.size < (encs_of l0 w1).length + kq → glyph_Read.go l0 u kq (encs_of l0 w1).length w1 = some (w, 0, (u.size : Int)) := by
  have hsz : u.size = (encs_of l0 w).length := by rw [Lib.size_eq, hu, List.length_map]
  intro w2
  induction w2 with
  | nil =>
    intro w1 he kq hk
    rw [List.append_nil] at he
    subst he
    obtain ⟨kq, rfl⟩ : ∃ m, kq = m + 1 := ⟨kq - 1, by omega⟩
    simp only [glyph_Read.go]
    rw [if_neg (by omega)]
  | cons x w2 ih =>
    intro w1 he kq hk
    have hxm : x ∈ w := by rw [he]; simp
    obtain ⟨x0, x1⟩ := hx x hxm
    have hxn : x = ((x.toNat : Nat) : Int) := by omega
    have hrd : rd l0 x = l0[x.toNat]'(by omega) := by have h := rd_at l0 x.toNat (by omega); rw [← hxn] at h; exact h
    have hval := hv (rd l0 x) (by rw [hrd]; exact List.getElem_mem _)
    have hpos := enc_pos (rd l0 x)
    have hsplit : encs_of l0 w = encs_of l0 w1 ++ (Lib.encodeRuneZ (rd l0 x) ++ encs_of l0 w2) := by rw [he]; simp [encs_of]
    have hplt : (encs_of l0 w1).length < u.size := by rw [hsz, hsplit]; simp; omega
    have hdrop : u.data.toList.drop (encs_of l0 w1).length = (Lib.encodeRuneZ (rd l0 x)).map byteOf ++ (encs_of l0 w2).map byteOf := by
      rw [hu, hsplit, List.map_append, List.map_append, List.drop_left' (by simp)]
    have hdec : Utf8.decode u (encs_of l0 w1).length = ((rd l0 x).toNat, (Lib.encodeRuneZ (rd l0 x)).length) := by
      rw [← Lib.decodeL_drop, hdrop, decode_encode _ hval]
    have hv0 := (valid_range hval).1
    have hra : runeAt u (encs_of l0 w1).length = rd l0 x := by unfold runeAt; rw [hdec]; show ((rd l0 x).toNat : Int) = rd l0 x; omega
    have hwa : wideAt u (encs_of l0 w1).length = (Lib.encodeRuneZ (rd l0 x)).length := by unfold wideAt; rw [hdec]
    have hbr : brokenAt u (encs_of l0 w1).length = false := by
      unfold brokenAt
      rw [hra, hwa]
      by_cases hc : rd l0 x = 65533
      · rw [hc]; rfl
      · have : (rd l0 x == 65533) = false := by simpa using hc
        rw [this]; rfl
    obtain ⟨kq, rfl⟩ : ∃ m, kq = m + 1 := ⟨kq - 1, by omega⟩
    simp only [glyph_Read.go]
    have hl : w1.length < 4096 := by have := congrArg List.length he; simp at this; omega
    have hix : idxOf l0 (rd l0 x) = x := by rw [hrd, idxOf_nodup l0 hn x.toNat (by omega)]; omega
    rw [if_pos hplt, if_neg (by omega), hra, hix, if_neg (by omega), hbr, if_neg (by simp), hwa]
    have hnext : (encs_of l0 (w1 ++ [x])).length = (encs_of l0 w1).length + (Lib.encodeRuneZ (rd l0 x)).length := by simp [encs_of]
    rw [← hnext]
    exact ih (w1 ++ [x]) (by rw [he]; simp) kq (by omega)
/-- What Parse tells where it tells no error: runes, each once. -/
theorem Parse_names (s : ByteArray) : ∀ kq p l r, l.Nodup → (∀ c ∈ l, Lib.validRune c = true) → glyph_Parse.go s kq p l = some r →
    (r.2.1 = 0 ∧ r.1.Nodup ∧ ∀ c ∈ r.1, Lib.validRune c = true) ∨ (r.2.1 ≠ 0 ∧ r.1 = []) := by
  intro kq
  induction kq with
  | zero => intro p l r _ _ h; simp [glyph_Parse.go] at h
  | succ kq ih =>
    intro p l r hn hv h
    simp only [glyph_Parse.go] at h
    split at h
    · split at h
      · obtain rfl := Option.some.inj h; exact .inr ⟨by simp, rfl⟩
      · split at h
        · obtain rfl := Option.some.inj h; exact .inr ⟨by simp, rfl⟩
        · split at h
          · obtain rfl := Option.some.inj h; exact .inr ⟨by simp, rfl⟩
          · split at h
            · obtain rfl := Option.some.inj h; exact .inr ⟨by simp, rfl⟩
            · rename_i hc
              split at h
              · obtain rfl := Option.some.inj h; exact .inr ⟨by simp, rfl⟩
              · refine ih _ _ _ ?_ ?_ h
                · rw [List.nodup_append]
                  refine ⟨hn, by simp, ?_⟩
                  intro a ha b hb
                  rw [List.mem_singleton] at hb
                  subst hb
                  rintro rfl
                  exact hc (List.contains_iff_mem.2 ha)
                · intro c hc2
                  rcases List.mem_append.1 hc2 with h1 | h1
                  · exact hv c h1
                  · rw [List.mem_singleton] at h1
                    subst h1
                    exact runeAt_shape s p
    · obtain rfl := Option.some.inj h
      exact .inl ⟨rfl, hn, hv⟩
theorem Read_total (l0 : List Int) (s : ByteArray) : ∀ kq p l, s.size < p + kq → p ≤ s.size → l.length ≤ 4096 → ∃ r, glyph_Read.go l0 s kq p l = some r ∧ r.1.length ≤ 4096 := by
  intro kq
  induction kq with
  | zero => intro p l h hp hl; omega
  | succ kq ih =>
    intro p l h hps hl
    simp only [glyph_Read.go]
    by_cases hp : p < s.size
    · rw [if_pos hp]
      have := width_pos s p hp
      repeat' split
      all_goals first | exact ⟨_, rfl, by simp⟩ | skip
      exact ih _ _ (by omega) (wide_le s p hp).1 (by simp; omega)
    · rw [if_neg hp]
      exact ⟨_, rfl, hl⟩
theorem Same1_refl (l : List Int) (hl : l.length ≤ 9223372036854775806) : ∀ d i, i + d = l.length → ∀ k, d < k → tutorref01_Same.l0 k l l (i : Int) = some true := by
  intro d
  induction d with
  | zero =>
    intro i hi k hk
    obtain ⟨k, rfl⟩ : ∃ m, k = m + 1 := ⟨k - 1, by omega⟩
    simp only [tutorref01_Same.l0]
    rw [if_neg (by omega)]
  | succ d ih =>
    intro i hi k hk
    obtain ⟨k, rfl⟩ : ∃ m, k = m + 1 := ⟨k - 1, by omega⟩
    simp only [tutorref01_Same.l0]
    rw [if_pos (by omega), if_pos (by omega), if_pos (by omega), if_pos trivial]
    have hw : wrap64 ((i : Int) + 1) = ((i + 1 : Nat) : Int) := by unfold wrap64; omega
    rw [hw, ih (i + 1) (by omega) k (by omega)]
theorem Same1_self (k : Nat) (l : List Int) (hl : l.length ≤ 9223372036854775806) (hk : l.length < k) : tutorref01_Same.f k l l = some true := by
  unfold tutorref01_Same.f
  rw [if_pos rfl]
  exact Same1_refl l hl l.length 0 (by omega) k hk
theorem encs_len (l0 w : List Int) : (encs_of l0 w).length ≤ 4 * w.length := by
  induction w with
  | nil => simp [encs_of]
  | cons x r ih =>
    have := encode_len (rd l0 x)
    have e : encs_of l0 (x :: r) = Lib.encodeRuneZ (rd l0 x) ++ encs_of l0 r := by simp [encs_of]
    rw [e, List.length_append, List.length_cons]
    omega
theorem num_f (e : Int) : tutorlaw02_num.f e = some e := rfl
theorem back_j1 (k : Nat) (hk : 5000 ≤ k) (l2 n : List Int) (hl2 : l2.length ≤ 2000) (hn : n.Nodup) (hnl : n.length ≤ 64) (hv : ∀ c ∈ n, Lib.validRune c = true) : tutorlaw02_GlyphBack.j1 k l2 n = some true := by
  obtain ⟨k, rfl⟩ : ∃ m, k = m + 1 := ⟨k - 1, by omega⟩
  simp only [tutorlaw02_GlyphBack.j1, num_f, Option.bind_some]
  have hS : glyph_Show.f n l2 = some (glyph_Show.go n l2 []) := by unfold glyph_Show.f; rw [if_pos (by omega)]
  rw [hS]
  simp only [Option.bind_some]
  rw [live_ev k (by omega)]
  rcases Show_tells n hv l2 [] with h | ⟨h, hx⟩
  · rw [h]
    rw [if_neg (by decide), if_pos (by rw [Lib.toList_data]), if_pos rfl]
    rfl
  · rw [h]
    simp only [List.nil_append, if_true]
    have hul : (strOfNums (encs_of n l2)).size = (encs_of n l2).length := strOfNums_size _
    have hle := encs_len n l2
    have hR := Show_Read n hv hn l2 hx (by omega) (strOfNums (encs_of n l2)) rfl l2 [] rfl ((strOfNums (encs_of n l2)).size + 1) (by simp [encs_of])
    have hRf : glyph_Read.f n (strOfNums (encs_of n l2)) = some (l2, 0, ((strOfNums (encs_of n l2)).size : Int)) := by
      unfold glyph_Read.f
      rw [if_pos (by omega), if_pos (by omega)]
      exact hR
    rw [hRf]
    simp only [Option.bind_some, if_true]
    rw [Same1_self k l2 (by omega) (by omega)]
    simp only [Option.bind_some, if_true]
theorem GlyphBack_pure (s t : ByteArray) (l2 : List Int) (hs : s.size ≤ 140737488351232) (ht : t.size ≤ 140737488351232) : ∃ k, tutorlaw02_GlyphBack.f k s t l2 = some true := by
  refine ⟨6000, ?_⟩
  have hlive : tutorlaw02_GlyphBack.j0 6000 s t l2 true = some true := by
    rw [show (6000 : Nat) = 5999 + 1 from rfl]
    simp only [tutorlaw02_GlyphBack.j0]
    rw [if_pos trivial, live_ev 5999 (by omega)]
    rfl
  unfold tutorlaw02_GlyphBack.f
  by_cases c1 : (s.size : Int) > 20000
  · rw [if_pos c1, hlive]
  · rw [if_neg c1]
    by_cases c2 : (t.size : Int) > 20000
    · rw [if_pos c2, hlive]
    · rw [if_neg c2]
      by_cases c3 : (l2.length : Int) > 2000
      · rw [decide_eq_true c3, hlive]
      · rw [decide_eq_false c3, show (6000 : Nat) = 5999 + 1 from rfl]
        simp only [tutorlaw02_GlyphBack.j0, num_f, Option.bind_some]
        rw [if_neg (by simp), live_ev 5999 (by omega)]
        have hP : ∃ r, glyph_Parse.f s = some r ∧ r.1.length ≤ 64 ∧ ((r.2.1 = 0 ∧ r.1.Nodup ∧ ∀ c ∈ r.1, Lib.validRune c = true) ∨ (r.2.1 ≠ 0 ∧ r.1 = [])) := by
          unfold glyph_Parse.f
          rw [if_pos hs]
          unfold glyph_Parse.g
          by_cases h0 : s.size = 0
          · exact ⟨_, by rw [if_pos h0], by simp, .inr ⟨by simp, rfl⟩⟩
          · rw [if_neg h0]
            obtain ⟨r, hr, hl⟩ := go_total s (s.size + 1) 0 [] (by omega) (by omega) (by simp)
            exact ⟨r, hr, hl, Parse_names s _ _ _ r (by simp) (by simp) hr⟩
        obtain ⟨r, h1, hl, h2⟩ := hP
        rw [h1]
        simp only [Option.bind_some]
        rcases h2 with ⟨h0, hn, hv⟩ | ⟨h0, h3⟩
        · rw [if_pos h0]
          have hj := back_j1 5999 (by omega) l2 r.1 (by omega) hn hl hv
          rw [hj]
          have hR : ∃ q, glyph_Read.f r.1 t = some q ∧ q.1.length ≤ 4096 ∧ (q.2.1 = 0 → glyph_Show.f r.1 q.1 = some (t, 0)) := by
            unfold glyph_Read.f
            rw [if_pos ht, if_pos (by omega)]
            unfold glyph_Read.g
            obtain ⟨q, hq, hql⟩ := Read_total r.1 t (t.size + 1) 0 [] (by omega) (by omega) (by simp)
            refine ⟨q, hq, hql, fun he => ?_⟩
            unfold glyph_Show.f
            rw [if_pos (by omega)]
            obtain ⟨q1, q2, q3⟩ := q
            simp only at he
            subst he
            obtain ⟨w', hw', hA⟩ := Read_Show r.1 t _ _ _ _ _ (by omega) hq
            rw [List.nil_append] at hw'
            simp only []
            rw [hw', hA [] rfl]
          obtain ⟨q, hq1, _, hq2⟩ := hR
          rw [hq1]
          simp only [Option.bind_some]
          by_cases he : q.2.1 = 0
          · rw [if_pos he, hq2 he]
            simp only [Option.bind_some, if_true]
          · rw [if_neg he]
        · rw [if_neg h0, h3]
          rfl
theorem GlyphBack_walk (s t : ByteArray) (A : Option Addr) (len cap : Nat) (z : List Int) (w : World) (hs : s.size ≤ 140737488351232) (ht : t.size ≤ 140737488351232)
    (w2 : (A = none ∧ len = 0 ∧ cap = 0 ∧ z = []) ∨ ∃ x, A = some x ∧ len ≤ cap ∧ cap ≤ maxLen ∧ z.length = cap ∧ (∀ i, i < z.length → w.cell? (x.add i) = some (.int .i64 (z.getD i 0))) ∧ ∀ n ∈ z, (Lit.int .i64 n).wf = true) (hT : Lib.Utf8Tabs 0 1 w) :
    Calls Tryd.prog 6 #[.string s, .string t, .slice A len cap] w fun e w' => e = .returned (.bool true) ∧ Below w.heap.size w w' := by
  obtain ⟨l2, rfl, hr2, hm2, hw2, hc2⟩ := ReadsInt.ofRowC w2
  obtain ⟨k, h⟩ := GlyphBack_pure s t l2 hs ht
  exact tutorlaw02_GlyphBack.calls k s t _ _ l2 true w ⟨hT⟩ (Kd.C_of_reads (d := (0 : Int)) (h1 := fun _ => rfl) hr2) hc2 h
end Go.Proofs.YtfoakihlbeoebaaDoor.X
