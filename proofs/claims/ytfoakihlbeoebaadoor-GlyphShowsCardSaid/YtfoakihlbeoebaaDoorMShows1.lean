/- Texts of the statement Shows, one behind the other: Go functions as Lean functions, the machine's calls, the plain law. -/
import Derived.Test.YtfoakihlbeoebaaDoorMShows0
import Derived.Lib.MapLaws
import Derived.WalkSpells
import Derived.Test.YtfoakihlbeoebaaDoorWSized
/- Plain facts: the document's decoder of runes tells what the model's own decoder tells. -/
namespace Go.Proofs.YtfoakihlbeoebaaDoor.X
open Go.RowKit Go.Proofs.YtfoakihlbeoebaaDoorW.PrintWords Go.Proofs.YtfoakihlbeoebaaDoorW.PrintLast
theorem wrap64_id {x : Int} (h0 : -9223372036854775808 ≤ x) (h1 : x ≤ 9223372036854775807) : wrap64 x = x := by unfold wrap64; omega
theorem wrap32_id {x : Int} (h0 : -2147483648 ≤ x) (h1 : x ≤ 2147483647) : wrap32 x = x := by unfold wrap32; omega
theorem bt_get (s : ByteArray) (p : Nat) (h : p < s.size) : bt s (p : Int) = ((s.get! p).toNat : Int) := by
  unfold bt
  rw [dif_pos (by simpa using h)]
  simp [ByteArray.get!, getElem!_pos, h]
  rfl
/-- A step over one more byte. -/
theorem At_step (k : Nat) (s : ByteArray) (p : Int) (n v least i : Int) (hs : (s.size : Int) ≤ 140737488351232) (hp : 0 ≤ p) (hn : 0 ≤ n ∧ n ≤ 4) (hv : 0 ≤ v ∧ v ≤ 10000000) (h0 : p ≤ i) (h1 : i < p + n) (h2 : i < s.size) :
    tutorref02_At.l0 (k + 1) s p n v least i = (if bt s i < 128 then some (0, 0) else if bt s i ≥ 192 then some (0, 0) else tutorref02_At.l0 k s p n (v * 64 + bt s i - 128) least (i + 1)) := by
  have hb := bt_range s i
  simp only [tutorref02_At.l0]
  rw [wrap64_id (x := p + n) (by omega) (by omega), if_pos h1, if_pos (by omega), if_pos h2, wrap64_id (x := bt s i) (by omega) (by omega), wrap64_id (x := v * 64) (by omega) (by omega), wrap64_id (x := v * 64 + bt s i) (by omega) (by omega), wrap64_id (x := v * 64 + bt s i - 128) (by omega) (by omega), wrap64_id (x := i + 1) (by omega) (by omega)]
theorem At_end (k : Nat) (s : ByteArray) (p : Int) (n v least : Int) (hs : (s.size : Int) ≤ 140737488351232) (hp : 0 ≤ p ∧ p ≤ s.size) (hn : 0 ≤ n ∧ n ≤ 4) (hv : 0 ≤ v ∧ v ≤ 10000000) :
    tutorref02_At.l0 (k + 1) s p n v least (p + n) = (if v < least ∨ v > 1114111 ∨ (v ≥ 55296 ∧ v ≤ 57343) then some (0, 0) else some (v, n)) := by
  simp only [tutorref02_At.l0]
  rw [wrap64_id (x := p + n) (by omega) (by omega), if_neg (by omega), wrap32_id (x := v) (by omega) (by omega)]
  by_cases h1 : v < least
  · rw [if_pos h1, if_pos (.inl h1)]
  · rw [if_neg h1]
    by_cases h2 : v > 1114111
    · rw [if_pos h2, if_pos (.inr (.inl h2))]
    · rw [if_neg h2]
      by_cases h3 : v ≥ 55296
      · rw [if_pos h3]
        by_cases h4 : v ≤ 57343
        · rw [if_pos h4, if_pos (.inr (.inr ⟨h3, h4⟩))]
        · rw [if_neg h4, if_neg (by omega)]
      · rw [if_neg h3, if_neg (by omega)]
/-- What the document's At tells. -/
def atR (s : ByteArray) (p : Nat) : Int × Int := if brokenAt s p then (0, 0) else (runeAt s p, (wideAt s p : Int))
theorem At_two (k : Nat) (s : ByteArray) (p : Nat) (v : Int) (hs : (s.size : Int) ≤ 140737488351232) (hp : p < s.size) (hv : 0 ≤ v ∧ v ≤ 100) :
    tutorref02_At.j2 (k + 5) s p 2 v 128 = (if (s.size : Int) - p < 2 then some (0, 0) else if bt s (p + 1) < 128 then some (0, 0) else if bt s (p + 1) ≥ 192 then some (0, 0) else
      if v * 64 + bt s (p + 1) - 128 < 128 then some (0, 0) else some (v * 64 + bt s (p + 1) - 128, 2)) := by
  simp only [tutorref02_At.j2]
  rw [wrap64_id (x := (s.size : Int) - p) (by omega) (by omega), wrap64_id (x := (p : Int) + 1) (by omega) (by omega)]
  by_cases h : (s.size : Int) - p < 2
  · rw [if_pos h, if_pos h]
  · rw [if_neg h, if_neg h, At_step (k + 3) s p 2 v 128 (p + 1) hs (by omega) (by omega) (by omega) (by omega) (by omega) (by omega)]
    have hb := bt_range s (p + 1)
    generalize bt s (p + 1) = y at hb
    split
    · rfl
    · split
      · rfl
      · rw [show (p : Int) + 1 + 1 = p + 2 by omega, At_end (k + 2) s p 2 _ 128 hs (by omega) (by omega) (by omega)]
        by_cases h1 : v * 64 + y - 128 < 128
        · rw [if_pos (.inl h1), if_pos h1]
        · rw [if_neg (by omega), if_neg h1]
theorem At_three (k : Nat) (s : ByteArray) (p : Nat) (v : Int) (hs : (s.size : Int) ≤ 140737488351232) (hp : p < s.size) (hv : 0 ≤ v ∧ v ≤ 100) :
    tutorref02_At.j2 (k + 5) s p 3 v 2048 = (if (s.size : Int) - p < 3 then some (0, 0) else if bt s (p + 1) < 128 then some (0, 0) else if bt s (p + 1) ≥ 192 then some (0, 0) else
      if bt s (p + 2) < 128 then some (0, 0) else if bt s (p + 2) ≥ 192 then some (0, 0) else
      if (v * 64 + bt s (p + 1) - 128) * 64 + bt s (p + 2) - 128 < 2048 ∨ (v * 64 + bt s (p + 1) - 128) * 64 + bt s (p + 2) - 128 > 1114111 ∨ ((v * 64 + bt s (p + 1) - 128) * 64 + bt s (p + 2) - 128 ≥ 55296 ∧ (v * 64 + bt s (p + 1) - 128) * 64 + bt s (p + 2) - 128 ≤ 57343) then some (0, 0) else some ((v * 64 + bt s (p + 1) - 128) * 64 + bt s (p + 2) - 128, 3)) := by
  simp only [tutorref02_At.j2]
  rw [wrap64_id (x := (s.size : Int) - p) (by omega) (by omega), wrap64_id (x := (p : Int) + 1) (by omega) (by omega)]
  by_cases h : (s.size : Int) - p < 3
  · rw [if_pos h, if_pos h]
  · rw [if_neg h, if_neg h, At_step (k + 3) s p 3 v 2048 (p + 1) hs (by omega) (by omega) (by omega) (by omega) (by omega) (by omega)]
    have hb := bt_range s (p + 1)
    generalize bt s (p + 1) = y at hb
    split
    · rfl
    · split
      · rfl
      · rw [show (p : Int) + 1 + 1 = p + 2 by omega, At_step (k + 2) s p 3 _ 2048 (p + 2) hs (by omega) (by omega) (by omega) (by omega) (by omega) (by omega)]
        have hb2 := bt_range s (p + 2)
        generalize bt s (p + 2) = z at hb2
        split
        · rfl
        · split
          · rfl
          · rw [show (p : Int) + 2 + 1 = p + 3 by omega, At_end (k + 1) s p 3 _ 2048 hs (by omega) (by omega) (by omega)]
theorem At_four (k : Nat) (s : ByteArray) (p : Nat) (v : Int) (hs : (s.size : Int) ≤ 140737488351232) (hp : p < s.size) (hv : 0 ≤ v ∧ v ≤ 7) :
    tutorref02_At.j2 (k + 5) s p 4 v 65536 = (if (s.size : Int) - p < 4 then some (0, 0) else if bt s (p + 1) < 128 then some (0, 0) else if bt s (p + 1) ≥ 192 then some (0, 0) else
      if bt s (p + 2) < 128 then some (0, 0) else if bt s (p + 2) ≥ 192 then some (0, 0) else if bt s (p + 3) < 128 then some (0, 0) else if bt s (p + 3) ≥ 192 then some (0, 0) else
      if ((v * 64 + bt s (p + 1) - 128) * 64 + bt s (p + 2) - 128) * 64 + bt s (p + 3) - 128 < 65536 ∨ ((v * 64 + bt s (p + 1) - 128) * 64 + bt s (p + 2) - 128) * 64 + bt s (p + 3) - 128 > 1114111 ∨ (((v * 64 + bt s (p + 1) - 128) * 64 + bt s (p + 2) - 128) * 64 + bt s (p + 3) - 128 ≥ 55296 ∧ ((v * 64 + bt s (p + 1) - 128) * 64 + bt s (p + 2) - 128) * 64 + bt s (p + 3) - 128 ≤ 57343) then some (0, 0) else some (((v * 64 + bt s (p + 1) - 128) * 64 + bt s (p + 2) - 128) * 64 + bt s (p + 3) - 128, 4)) := by
  simp only [tutorref02_At.j2]
  rw [wrap64_id (x := (s.size : Int) - p) (by omega) (by omega), wrap64_id (x := (p : Int) + 1) (by omega) (by omega)]
  by_cases h : (s.size : Int) - p < 4
  · rw [if_pos h, if_pos h]
  · rw [if_neg h, if_neg h, At_step (k + 3) s p 4 v 65536 (p + 1) hs (by omega) (by omega) (by omega) (by omega) (by omega) (by omega)]
    have hb := bt_range s (p + 1)
    generalize bt s (p + 1) = y at hb
    split
    · rfl
    · split
      · rfl
      · rw [show (p : Int) + 1 + 1 = p + 2 by omega, At_step (k + 2) s p 4 _ 65536 (p + 2) hs (by omega) (by omega) (by omega) (by omega) (by omega) (by omega)]
        have hb2 := bt_range s (p + 2)
        generalize bt s (p + 2) = z at hb2
        split
        · rfl
        · split
          · rfl
          · rw [show (p : Int) + 2 + 1 = p + 3 by omega, At_step (k + 1) s p 4 _ 65536 (p + 3) hs (by omega) (by omega) (by omega) (by omega) (by omega) (by omega)]
            have hb3 := bt_range s (p + 3)
            generalize bt s (p + 3) = u at hb3
            split
            · rfl
            · split
              · rfl
              · rw [show (p : Int) + 3 + 1 = p + 4 by omega, At_end k s p 4 _ 65536 hs (by omega) (by omega) (by omega)]
theorem j0_eq (k : Nat) (x0 : ByteArray) (x1 x6 : Int) (b : Bool) : tutorref02_At.j0 (k + 1) x0 x1 x6 b = if b = true then (tutorref02_At.j2 k x0 x1 2 (wrap64 (x6 - 192)) 128) else (if x6 ≥ 224 then (tutorref02_At.j1 k x0 x1 x6 (decide (x6 < 240))) else (tutorref02_At.j1 k x0 x1 x6 false)) := by
  simp only [tutorref02_At.j0]
theorem j1_eq (k : Nat) (x0 : ByteArray) (x1 x6 : Int) (b : Bool) : tutorref02_At.j1 (k + 1) x0 x1 x6 b = if b = true then (tutorref02_At.j2 k x0 x1 3 (wrap64 (x6 - 224)) 2048) else (if x6 ≥ 240 then (if x6 < 248 then (tutorref02_At.j2 k x0 x1 4 (wrap64 (x6 - 240)) 65536) else (some (0, 0))) else (some (0, 0))) := by
  simp only [tutorref02_At.j1]
set_option maxHeartbeats 1000000 in
theorem At_all (k : Nat) (s : ByteArray) (p : Nat) (hs : (s.size : Int) ≤ 140737488351232) (hp : p < s.size) : tutorref02_At.f (k + 7) s p = some (atR s p) := by
  have hb0 := bt_get s p hp
  have hb1 : p + 1 < s.size → bt s ((p : Int) + 1) = ((s.get! (p + 1)).toNat : Int) := fun h => by rw [← bt_get s (p + 1) h]; rfl
  have hb2 : p + 2 < s.size → bt s ((p : Int) + 2) = ((s.get! (p + 2)).toNat : Int) := fun h => by rw [← bt_get s (p + 2) h]; rfl
  have hb3 : p + 3 < s.size → bt s ((p : Int) + 3) = ((s.get! (p + 3)).toNat : Int) := fun h => by rw [← bt_get s (p + 3) h]; rfl
  have r0 := (s.get! p).toNat_lt
  have r1 := (s.get! (p + 1)).toNat_lt
  have r2 := (s.get! (p + 2)).toNat_lt
  have r3 := (s.get! (p + 3)).toNat_lt
  have hdec := Lib.decode_at s p
  unfold atR brokenAt runeAt wideAt
  rw [hdec]
  have e2 := fun v hv => At_two (k + 1) s p v hs hp hv
  have e3 := fun v hv => At_three k s p v hs hp hv
  have e3' := fun v hv => At_three (k) s p v hs hp hv
  have e4 := fun v hv => At_four k s p v hs hp hv
  unfold tutorref02_At.f
  rw [if_pos (by omega), if_pos (by omega), hb0]
  generalize (s.get! p).toNat = b0 at *
  generalize (s.get! (p + 1)).toNat = b1 at *
  generalize (s.get! (p + 2)).toNat = b2 at *
  generalize (s.get! (p + 3)).toNat = b3 at *
  clear hdec
  rw [wrap64_id (x := (b0 : Int)) (by omega) (by omega)]
  by_cases c1 : b0 < 128
  · rw [if_pos (by omega), wrap32_id (by omega) (by omega)]
    have : Lib.decodeN (s.size - p) b0 b1 b2 b3 = (b0, 1) := by unfold Lib.decodeN; rw [if_pos c1]
    rw [this]
    have h : ((b0 : Int) == 65533) = false := by simp; omega
    simp [h]
  · rw [if_neg (by omega)]
    by_cases c2 : b0 < 192
    · rw [if_neg (by omega)]
      have : Lib.decodeN (s.size - p) b0 b1 b2 b3 = (65533, 1) := by
        unfold Lib.decodeN
        rw [if_neg c1, if_neg (by omega), if_neg (by omega), if_neg (by omega)]
      rw [this]
      rw [j0_eq, if_neg (by simp), if_neg (by omega), j1_eq, if_neg (by simp), if_neg (by omega)]
      rfl
    · rw [if_pos (by omega)]
      by_cases c3 : b0 < 224
      · rw [decide_eq_true (by omega), j0_eq, if_pos rfl, wrap64_id (by omega) (by omega), e2 _ (by omega)]
        clear e2 e3 e4
        by_cases n1 : p + 1 < s.size
        · rw [if_neg (by omega), hb1 n1]
          by_cases m1 : b1 / 64 = 2
          · rw [if_neg (by omega), if_neg (by omega)]
            by_cases v1 : b0 % 32 * 64 + b1 % 64 ≥ 128
            · have : Lib.decodeN (s.size - p) b0 b1 b2 b3 = (b0 % 32 * 64 + b1 % 64, 2) := by
                unfold Lib.decodeN
                rw [if_neg c1, if_pos ⟨by omega, by omega, m1⟩, if_pos v1]
              rw [this, if_neg (by omega)]
              have h : (((b0 % 32 * 64 + b1 % 64 : Nat) : Int) == 65533) = false := by simp; omega
              simp only [h, Bool.false_and, Bool.false_eq_true, if_false]
              congr 2
              omega
            · have : Lib.decodeN (s.size - p) b0 b1 b2 b3 = (65533, 1) := by
                unfold Lib.decodeN
                rw [if_neg c1, if_pos ⟨by omega, by omega, m1⟩, if_neg v1]
              rw [this, if_pos (by omega)]
              rfl
          · have : Lib.decodeN (s.size - p) b0 b1 b2 b3 = (65533, 1) := by
              unfold Lib.decodeN
              rw [if_neg c1, if_neg (by omega), if_neg (by omega), if_neg (by omega)]
            rw [this]
            by_cases m2 : b1 < 128
            · rw [if_pos (by omega)]; rfl
            · rw [if_neg (by omega), if_pos (by omega)]; rfl
        · have : Lib.decodeN (s.size - p) b0 b1 b2 b3 = (65533, 1) := by
            unfold Lib.decodeN
            rw [if_neg c1, if_neg (by omega), if_neg (by omega), if_neg (by omega)]
          rw [this, if_pos (by omega)]; rfl
      · rw [decide_eq_false (by omega), j0_eq, if_neg (by simp), if_pos (by omega)]
        by_cases c4 : b0 < 240
        · rw [decide_eq_true (by omega), j1_eq, if_pos rfl, wrap64_id (by omega) (by omega), e3' _ (by omega)]
          clear e2 e3 e4 e3'
          by_cases n2 : p + 2 < s.size
          · rw [if_neg (by omega), hb1 (by omega), hb2 n2]
            by_cases m1 : b1 / 64 = 2
            · rw [if_neg (by omega), if_neg (by omega)]
              by_cases m2 : b2 / 64 = 2
              · rw [if_neg (by omega), if_neg (by omega)]
                by_cases v1 : b0 % 16 * 4096 + b1 % 64 * 64 + b2 % 64 ≥ 2048 ∧ (b0 % 16 * 4096 + b1 % 64 * 64 + b2 % 64 < 55296 ∨ (57344 ≤ b0 % 16 * 4096 + b1 % 64 * 64 + b2 % 64 ∧ b0 % 16 * 4096 + b1 % 64 * 64 + b2 % 64 ≤ 1114111))
                · have : Lib.decodeN (s.size - p) b0 b1 b2 b3 = (b0 % 16 * 4096 + b1 % 64 * 64 + b2 % 64, 3) := by
                    unfold Lib.decodeN
                    rw [if_neg c1, if_neg (by omega), if_pos ⟨by omega, ⟨by omega, m1⟩, by omega, m2⟩, if_pos v1]
                  rw [this, if_neg (by omega)]
                  have h : ((((b0 % 16 * 4096 + b1 % 64 * 64 + b2 % 64 : Nat), 3).2 : Int)) = 3 := rfl
                  simp only [Bool.and_eq_true, decide_eq_true_eq]
                  rw [if_neg (by intro hh; exact absurd hh.2 (by decide))]
                  congr 2
                  omega
                · have : Lib.decodeN (s.size - p) b0 b1 b2 b3 = (65533, 1) := by
                    unfold Lib.decodeN
                    rw [if_neg c1, if_neg (by omega), if_pos ⟨by omega, ⟨by omega, m1⟩, by omega, m2⟩, if_neg v1]
                  rw [this, if_pos (by omega)]
                  rfl
              · have : Lib.decodeN (s.size - p) b0 b1 b2 b3 = (65533, 1) := by
                  unfold Lib.decodeN
                  rw [if_neg c1, if_neg (by omega), if_neg (by omega), if_neg (by omega)]
                rw [this]
                by_cases m3 : b2 < 128
                · rw [if_pos (by omega)]; rfl
                · rw [if_neg (by omega), if_pos (by omega)]; rfl
            · have : Lib.decodeN (s.size - p) b0 b1 b2 b3 = (65533, 1) := by
                unfold Lib.decodeN
                rw [if_neg c1, if_neg (by omega), if_neg (by omega), if_neg (by omega)]
              rw [this]
              by_cases m3 : b1 < 128
              · rw [if_pos (by omega)]; rfl
              · rw [if_neg (by omega), if_pos (by omega)]; rfl
          · have : Lib.decodeN (s.size - p) b0 b1 b2 b3 = (65533, 1) := by
              unfold Lib.decodeN
              rw [if_neg c1, if_neg (by omega), if_neg (by omega), if_neg (by omega)]
            rw [this, if_pos (by omega)]; rfl
        · rw [decide_eq_false (by omega), j1_eq, if_neg (by simp), if_pos (by omega)]
          by_cases c5 : b0 < 248
          · rw [if_pos (by omega), wrap64_id (by omega) (by omega), e4 _ (by omega)]
            clear e2 e3 e4 e3'
            by_cases n3 : p + 3 < s.size
            · rw [if_neg (by omega), hb1 (by omega), hb2 (by omega), hb3 n3]
              by_cases m1 : b1 / 64 = 2
              · rw [if_neg (by omega), if_neg (by omega)]
                by_cases m2 : b2 / 64 = 2
                · rw [if_neg (by omega), if_neg (by omega)]
                  by_cases m3 : b3 / 64 = 2
                  · rw [if_neg (by omega), if_neg (by omega)]
                    by_cases v1 : b0 % 8 * 262144 + b1 % 64 * 4096 + b2 % 64 * 64 + b3 % 64 ≥ 65536 ∧ (b0 % 8 * 262144 + b1 % 64 * 4096 + b2 % 64 * 64 + b3 % 64 < 55296 ∨ (57344 ≤ b0 % 8 * 262144 + b1 % 64 * 4096 + b2 % 64 * 64 + b3 % 64 ∧ b0 % 8 * 262144 + b1 % 64 * 4096 + b2 % 64 * 64 + b3 % 64 ≤ 1114111))
                    · have : Lib.decodeN (s.size - p) b0 b1 b2 b3 = (b0 % 8 * 262144 + b1 % 64 * 4096 + b2 % 64 * 64 + b3 % 64, 4) := by
                        unfold Lib.decodeN
                        rw [if_neg c1, if_neg (by omega), if_neg (by omega), if_pos ⟨by omega, ⟨by omega, m1⟩, ⟨by omega, m2⟩, by omega, m3⟩, if_pos v1]
                      rw [this, if_neg (by omega)]
                      simp only [Bool.and_eq_true, decide_eq_true_eq]
                      rw [if_neg (by intro hh; exact absurd hh.2 (by decide))]
                      congr 2
                      omega
                    · have : Lib.decodeN (s.size - p) b0 b1 b2 b3 = (65533, 1) := by
                        unfold Lib.decodeN
                        rw [if_neg c1, if_neg (by omega), if_neg (by omega), if_pos ⟨by omega, ⟨by omega, m1⟩, ⟨by omega, m2⟩, by omega, m3⟩, if_neg v1]
                      rw [this, if_pos (by omega)]
                      rfl
                  · have : Lib.decodeN (s.size - p) b0 b1 b2 b3 = (65533, 1) := by
                      unfold Lib.decodeN
                      rw [if_neg c1, if_neg (by omega), if_neg (by omega), if_neg (by omega)]
                    rw [this]
                    by_cases m4 : b3 < 128
                    · rw [if_pos (by omega)]; rfl
                    · rw [if_neg (by omega), if_pos (by omega)]; rfl
                · have : Lib.decodeN (s.size - p) b0 b1 b2 b3 = (65533, 1) := by
                    unfold Lib.decodeN
                    rw [if_neg c1, if_neg (by omega), if_neg (by omega), if_neg (by omega)]
                  rw [this]
                  by_cases m4 : b2 < 128
                  · rw [if_pos (by omega)]; rfl
                  · rw [if_neg (by omega), if_pos (by omega)]; rfl
              · have : Lib.decodeN (s.size - p) b0 b1 b2 b3 = (65533, 1) := by
                  unfold Lib.decodeN
                  rw [if_neg c1, if_neg (by omega), if_neg (by omega), if_neg (by omega)]
                rw [this]
                by_cases m4 : b1 < 128
                · rw [if_pos (by omega)]; rfl
                · rw [if_neg (by omega), if_pos (by omega)]; rfl
            · have : Lib.decodeN (s.size - p) b0 b1 b2 b3 = (65533, 1) := by
                unfold Lib.decodeN
                rw [if_neg c1, if_neg (by omega), if_neg (by omega), if_neg (by omega)]
              rw [this, if_pos (by omega)]; rfl
          · rw [if_neg (by omega)]
            have : Lib.decodeN (s.size - p) b0 b1 b2 b3 = (65533, 1) := by
              unfold Lib.decodeN
              rw [if_neg c1, if_neg (by omega), if_neg (by omega), if_neg (by omega)]
            rw [this]; rfl
end Go.Proofs.YtfoakihlbeoebaaDoor.X

/- Printed by a program of this session (wip/xprint.py) over the translation: Go functions as Lean functions, and that the machine's calls come to them. -/
namespace Go.Proofs.YtfoakihlbeoebaaDoor.X
open Go.RowKit Go.Proofs.YtfoakihlbeoebaaDoorW.PrintWords Go.Proofs.YtfoakihlbeoebaaDoorW.PrintLast Go.Proofs.YtfoakihlbeoebaaDoorW.PrintMore
attribute [local go_sem] max2_int min2_int max_two min_two max_three min_three max_four min_four   -- for this text's walks alone
set_option linter.unusedVariables false
set_option linter.unusedSimpArgs false

/-! ### tutorref02_Default: function 18 -/
mutual
def tutorref02_Default.j0 : Nat → Int → Bool → Option (List Int)
  | 0, _, _ => none
  | k + 1, x0, x11 => if x11 = true then (some ([] : List Int)) else (tutorref02_Default.l0 k x0 (⟨#[97, 98, 99, 100, 101, 102, 103, 104, 105, 106, 107, 108, 109, 110, 111, 112, 113, 114, 115, 116, 117, 118, 119, 120, 121, 122, 65, 66, 67, 68, 69, 70, 71, 72, 73, 74, 75, 76, 77, 78, 79, 80, 81, 82, 83, 84, 85, 86, 87, 88, 89, 90, 48, 49, 50, 51, 52, 53, 54, 55, 56, 57, 45, 95]⟩ : ByteArray) ([] : List Int) 0)
def tutorref02_Default.l0 : Nat → Int → ByteArray → List Int → Int → Option (List Int)
  | 0, _, _, _, _ => none
  | k + 1, x0, x3, x4, x5 => if x5 < x0 then (if 0 ≤ x5 then (if x5 < (x3.size : Int) then (if x4.length < 35184372088832 then (tutorref02_Default.l0 k x0 x3 (x4 ++ [wrap32 (bt x3 x5)]) (wrap64 (x5 + 1))) else (none)) else (none)) else (none)) else (some x4)
end
def tutorref02_Default.f (k : Nat) (a0 : Int) : Option (List Int) := if a0 < 1 then (tutorref02_Default.j0 k a0 true) else (tutorref02_Default.j0 k a0 (decide (a0 > 64)))
theorem tutorref02_Default.mono_l : ∀ k, (∀ y0 y1, LeO (tutorref02_Default.j0 k y0 y1) (tutorref02_Default.j0 (k + 1) y0 y1)) ∧ (∀ y0 y1 y2 y3, LeO (tutorref02_Default.l0 k y0 y1 y2 y3) (tutorref02_Default.l0 (k + 1) y0 y1 y2 y3))
  | 0 => ⟨fun _ _ r h => by simp [tutorref02_Default.j0] at h, fun _ _ _ _ r h => by simp [tutorref02_Default.l0] at h⟩
  | k + 1 => by
    obtain ⟨ih0, ih1⟩ := tutorref02_Default.mono_l k
    refine ⟨?_, ?_⟩
    · intro y0 y1
      unfold tutorref02_Default.j0
      repeat' first
      | (with_reducible exact ih0 _ _)
      | (with_reducible exact ih1 _ _ _ _)
      | (with_reducible exact LeO.refl _)
      | (with_reducible exact LeO.none _)
      | (with_reducible refine LeO.ite ?_ ?_)
      | (with_reducible refine LeO.bind ?_ (fun _ => ?_))
      | exact ih0 _ _
      | exact ih1 _ _ _ _
      | exact LeO.none _
      | refine LeO.ite ?_ ?_
      | refine LeO.bind ?_ (fun _ => ?_)
    · intro y0 y1 y2 y3
      unfold tutorref02_Default.l0
      repeat' first
      | (with_reducible exact ih0 _ _)
      | (with_reducible exact ih1 _ _ _ _)
      | (with_reducible exact LeO.refl _)
      | (with_reducible exact LeO.none _)
      | (with_reducible refine LeO.ite ?_ ?_)
      | (with_reducible refine LeO.bind ?_ (fun _ => ?_))
      | exact ih0 _ _
      | exact ih1 _ _ _ _
      | exact LeO.none _
      | refine LeO.ite ?_ ?_
      | refine LeO.bind ?_ (fun _ => ?_)
theorem tutorref02_Default.mono : ∀ a0 k, LeO (tutorref02_Default.f k a0) (tutorref02_Default.f (k + 1) a0) := by
  intro a0 k
  obtain ⟨ih0, ih1⟩ := tutorref02_Default.mono_l k
  unfold tutorref02_Default.f
  repeat' first
      | (with_reducible exact ih0 _ _)
      | (with_reducible exact ih1 _ _ _ _)
      | (with_reducible exact LeO.refl _)
      | (with_reducible exact LeO.none _)
      | (with_reducible refine LeO.ite ?_ ?_)
      | (with_reducible refine LeO.bind ?_ (fun _ => ?_))
      | exact ih0 _ _
      | exact ih1 _ _ _ _
      | exact LeO.none _
      | refine LeO.ite ?_ ?_
      | refine LeO.bind ?_ (fun _ => ?_)
set_option maxHeartbeats 8000000 in
set_option maxRecDepth 100000 in
theorem tutorref02_Default.calls (k : Nat) (a0 : Int) (r : List Int) (w : World) (h : tutorref02_Default.f k a0 = some r) :
    Calls Tryd.prog 18 #[.int .i64 a0] w fun e w' => ∃ v0_ : Value, e = .returned (v0_) ∧ Kd.R (Kd.int .i32) 21 w' w.heap.size (fun _ => True) v0_ r ∧ Below w.heap.size w w' := by
  have HB := Aside0.mk (Below.refl w.heap.size w)
  have H : (if a0 < 1 then (tutorref02_Default.j0 k a0 true) else (tutorref02_Default.j0 k a0 (decide (a0 > 64)))) = some r := h
  clear h
  have HC2 := Aside0.mk H
  clear H
  go_enter Tryd.func18, Tryd.ntmps18
  go_upto_region 1 with (fail)
  go_cut [11] (fun v11 wc => ∃ (kq : Nat) (x11_1 : Bool), v11 = .bool x11_1 ∧ Aside0 (tutorref02_Default.j0 kq a0 x11_1 = some r) ∧ Aside0 (kq ≤ k) ∧ Aside0 (Below w.heap.size w wc))
  case first =>
    have H := HC2.out
    clear HC2
    by_cases c3 : a0 < 1
    · rw [if_pos c3] at H
      have c3b0 : decide (a0 < 1) = true := decide_eq_true c3
      clear c3
      (first | rw [c3b0] | (simp only [i64_w, i32_w]; rw [c3b0]) | skip)
      have H' := Aside0.mk H
      clear H
      go_wp2
      go_meet
      case rel => exact ⟨_, (true), (by first | rfl | (simp; done) | (simp [*]; done)), H', ⟨by first | omega | exact Nat.le_refl _⟩, ⟨by repeat (first | (with_reducible first | exact HB.out | apply below_alloc | apply pw_below_drewN | apply below_drew1) | exact HB.out)⟩⟩
    · rw [if_neg c3] at H
      have c3b0 : decide (a0 < 1) = false := decide_eq_false c3
      clear c3
      (first | rw [c3b0] | (simp only [i64_w, i32_w]; rw [c3b0]) | skip)
      have H' := Aside0.mk H
      clear H
      go_wp2
      go_meet
      case rel => exact ⟨_, (decide (a0 > 64)), (by first | rfl | (simp; done) | (simp [*]; done)), H', ⟨by first | omega | exact Nat.le_refl _⟩, ⟨by repeat (first | (with_reducible first | exact HB.out | apply below_alloc | apply pw_below_drewN | apply below_drew1) | exact HB.out)⟩⟩
  case rest =>
    clear HC2
    try clear c1
    try clear p2
    try clear c3
    try clear c3b0
    obtain ⟨kq, x11_1, rfl, HA, HJ1, HB⟩ := hcut
    cases kq with
    | zero => exact absurd HA.out (by simp [tutorref02_Default.j0])
    | succ kj1 =>
      have H := HA.out
      clear HA
      simp only [tutorref02_Default.j0] at H
      by_cases c4 : x11_1 = true
      · subst c4
        have H1 : (some ([] : List Int)) = some r := by rw [if_pos rfl] at H; exact H
        clear H
        have H := H1
        clear H1
        obtain rfl := Option.some.inj H
        go_wp2
        go_ret
        exact ⟨_, by first | rfl | (simp [errW_none, errW_some] <;> rfl) | (simp [*, errW_none, errW_some] <;> rfl), by first | exact Kd.R_nil _ _ _ _ _ | exact Kd.N_nil _ _ _ _ _ | exact Kd.V_nil _ _ _ _ _ | exact Kd.Q_nil _ _ _ _ _ | exact Kd.S_nil _ _ _ _ _, by repeat (first | (with_reducible first | exact HB.out | apply below_alloc | apply pw_below_drewN | apply below_drew1) | exact HB.out)⟩
      · replace c4 := Bool.eq_false_iff.mpr c4
        subst c4
        have H1 : (tutorref02_Default.l0 kj1 a0 (⟨#[97, 98, 99, 100, 101, 102, 103, 104, 105, 106, 107, 108, 109, 110, 111, 112, 113, 114, 115, 116, 117, 118, 119, 120, 121, 122, 65, 66, 67, 68, 69, 70, 71, 72, 73, 74, 75, 76, 77, 78, 79, 80, 81, 82, 83, 84, 85, 86, 87, 88, 89, 90, 48, 49, 50, 51, 52, 53, 54, 55, 56, 57, 45, 95]⟩ : ByteArray) ([] : List Int) 0) = some r := by rw [if_neg (show ¬ (false = true) by decide)] at H; exact H
        clear H
        have H := H1
        clear H1
        have H' := Aside0.mk H
        clear H
        go_wp2
        go_loopg [4, 5] kj1 (fun kq v4 v5 w' => ∃ (x4_2 : List Int) (x5_2 : Int), v5 = .int .i64 x5_2 ∧ Aside0 (tutorref02_Default.l0 kq a0 (⟨#[97, 98, 99, 100, 101, 102, 103, 104, 105, 106, 107, 108, 109, 110, 111, 112, 113, 114, 115, 116, 117, 118, 119, 120, 121, 122, 65, 66, 67, 68, 69, 70, 71, 72, 73, 74, 75, 76, 77, 78, 79, 80, 81, 82, 83, 84, 85, 86, 87, 88, 89, 90, 48, 49, 50, 51, 52, 53, 54, 55, 56, 57, 45, 95]⟩ : ByteArray) x4_2 x5_2 = some r) ∧ Aside0 (kq ≤ kj1) ∧ Aside0 (Kd.R (Kd.int .i32) 21 w' w.heap.size (fun _ => True) v4 x4_2) ∧ Aside0 (Below w.heap.size w w'))
        case atStart => exact ⟨(([] : List Int)), (0), (by first | rfl | (simp; done) | (simp [*]; done)), H', ⟨Nat.le_refl _⟩, ⟨by first | exact Kd.R_nil _ _ _ _ _ | exact Kd.N_nil _ _ _ _ _ | exact Kd.V_nil _ _ _ _ _ | exact Kd.Q_nil _ _ _ _ _ | exact Kd.S_nil _ _ _ _ _⟩, ⟨by repeat (first | (with_reducible first | exact HB.out | apply below_alloc | apply pw_below_drewN | apply below_drew1) | exact HB.out)⟩⟩
        case round =>
          clear H'
          try clear c1
          try clear p2
          try clear c3
          try clear c3b0
          try clear c4
          try clear p2
          obtain ⟨x4_2, x5_2, rfl, HA, HK2, HO_4, HB⟩ := hrel
          cases gk with
          | zero => exact absurd HA.out (by simp [tutorref02_Default.l0])
          | succ k2 =>
            have H := HA.out
            clear HA
            simp only [tutorref02_Default.l0] at H
            by_cases c5 : x5_2 < a0
            · rw [if_pos c5] at H
              have c5b0 : decide (x5_2 < a0) = true := decide_eq_true c5
              clear c5
              by_cases c6 : 0 ≤ x5_2
              · rw [if_pos c6] at H
                have c6b0 : decide (0 ≤ x5_2) = true := decide_eq_true c6
                clear c6
                by_cases c7 : x5_2 < ((⟨#[97, 98, 99, 100, 101, 102, 103, 104, 105, 106, 107, 108, 109, 110, 111, 112, 113, 114, 115, 116, 117, 118, 119, 120, 121, 122, 65, 66, 67, 68, 69, 70, 71, 72, 73, 74, 75, 76, 77, 78, 79, 80, 81, 82, 83, 84, 85, 86, 87, 88, 89, 90, 48, 49, 50, 51, 52, 53, 54, 55, 56, 57, 45, 95]⟩ : ByteArray).size : Int)
                · rw [if_pos c7] at H
                  have c7b0 : decide (x5_2 < ((⟨#[97, 98, 99, 100, 101, 102, 103, 104, 105, 106, 107, 108, 109, 110, 111, 112, 113, 114, 115, 116, 117, 118, 119, 120, 121, 122, 65, 66, 67, 68, 69, 70, 71, 72, 73, 74, 75, 76, 77, 78, 79, 80, 81, 82, 83, 84, 85, 86, 87, 88, 89, 90, 48, 49, 50, 51, 52, 53, 54, 55, 56, 57, 45, 95]⟩ : ByteArray).size : Int)) = true := decide_eq_true c7
                  clear c7
                  by_cases c9 : x4_2.length < 35184372088832
                  · rw [if_pos c9] at H
                    have LMc9 := Aside0.mk c9
                    clear c9
                    obtain ⟨y269, hy269⟩ : ∃ y_ : List Int, y_ = (x4_2 ++ [wrap32 (bt (⟨#[97, 98, 99, 100, 101, 102, 103, 104, 105, 106, 107, 108, 109, 110, 111, 112, 113, 114, 115, 116, 117, 118, 119, 120, 121, 122, 65, 66, 67, 68, 69, 70, 71, 72, 73, 74, 75, 76, 77, 78, 79, 80, 81, 82, 83, 84, 85, 86, 87, 88, 89, 90, 48, 49, 50, 51, 52, 53, 54, 55, 56, 57, 45, 95]⟩ : ByteArray) x5_2)]) := ⟨_, rfl⟩
                    replace H : (tutorref02_Default.l0 k2 a0 (⟨#[97, 98, 99, 100, 101, 102, 103, 104, 105, 106, 107, 108, 109, 110, 111, 112, 113, 114, 115, 116, 117, 118, 119, 120, 121, 122, 65, 66, 67, 68, 69, 70, 71, 72, 73, 74, 75, 76, 77, 78, 79, 80, 81, 82, 83, 84, 85, 86, 87, 88, 89, 90, 48, 49, 50, 51, 52, 53, 54, 55, 56, 57, 45, 95]⟩ : ByteArray) y269 (wrap64 (x5_2 + 1))) = some r := by first | (rw [hy269]; with_reducible exact H) | (have H2_ := (Option.bind_some _ _).symm.trans H; rw [hy269]; with_reducible exact H2_) | (have H2_ := (Option.bind_some _ _).symm.trans H; with_reducible exact H2_) | with_reducible exact H | (rw [hy269]; exact H) | exact H
                    have Ny269 := Aside0.mk hy269
                    clear hy269
                    have H' := Aside0.mk H
                    clear H
                    have p8 : 0 ≤ (x5_2 : Int) := of_decide_eq_true (by first | (with_reducible assumption) | assumption)
                    have q8 : x5_2 < (64 : Int) := of_decide_eq_true (by first | (with_reducible assumption) | assumption)
                    have hx8 := bt_at (⟨#[97, 98, 99, 100, 101, 102, 103, 104, 105, 106, 107, 108, 109, 110, 111, 112, 113, 114, 115, 116, 117, 118, 119, 120, 121, 122, 65, 66, 67, 68, 69, 70, 71, 72, 73, 74, 75, 76, 77, 78, 79, 80, 81, 82, 83, 84, 85, 86, 87, 88, 89, 90, 48, 49, 50, 51, 52, 53, 54, 55, 56, 57, 45, 95]⟩ : ByteArray) x5_2
                    replace p8 := eq_true p8
                    replace q8 := eq_true q8
                    go_wp2_with (first | ((with_reducible refine gate_builtin (b := .append) (xs := #[.tmp 17, .tmp 22]) rfl ?_); at_builtin; refine Kd.R_append (Kd.int .i32) (w0 := w) w.heap.size rfl (.tmp 17) (.tmp 22) 23 21 (.int .i32 0) 4 rfl Tryd.underlying23 info21 rfl (by decide) (by omega) u4 x4_2 (wrap32 (bt (⟨#[97, 98, 99, 100, 101, 102, 103, 104, 105, 106, 107, 108, 109, 110, 111, 112, 113, 114, 115, 116, 117, 118, 119, 120, 121, 122, 65, 66, 67, 68, 69, 70, 71, 72, 73, 74, 75, 76, 77, 78, 79, 80, 81, 82, 83, 84, 85, 86, 87, 88, 89, 90, 48, 49, 50, 51, 52, 53, 54, 55, 56, 57, 45, 95]⟩ : ByteArray) x5_2)) [.int .i32 (wrap32 (bt (⟨#[97, 98, 99, 100, 101, 102, 103, 104, 105, 106, 107, 108, 109, 110, 111, 112, 113, 114, 115, 116, 117, 118, 119, 120, 121, 122, 65, 66, 67, 68, 69, 70, 71, 72, 73, 74, 75, 76, 77, 78, 79, 80, 81, 82, 83, 84, 85, 86, 87, 88, 89, 90, 48, 49, 50, 51, 52, 53, 54, 55, 56, 57, 45, 95]⟩ : ByteArray) x5_2))] (fun _ => True) (fun _ => False) rfl rfl ?aP (fun _ hk => hk.elim) ?aF ?aO ?aB ?aS ?aL ?_; (case aP => exact rfl); (case aB => exact (by repeat (first | (with_reducible first | exact HB.out | apply below_alloc | apply pw_below_drewN | apply below_drew1) | exact HB.out))); (case aF => exact (fun _ _ => trivial)); (case aO => exact (by (with_reducible repeat (first | apply Kd.R_alloc | apply Kd.R_drewN | apply Kd.R_drew)); exact HO_4.out)); (case aS => exact (below_size (by repeat (first | (with_reducible first | exact HB.out | apply below_alloc | apply pw_below_drewN | apply below_drew1) | exact HB.out)))); (case aL => have := LMc9.out; omega); intro v270 w10 ho hb hg hat; rw [← Ny269.out] at ho; have n0_ := Aside0.mk (hb); have n1_ := Aside0.mk (ho); clear HB; clear HO_4; have HB := n0_; have HO271 := n1_; clear n0_ n1_; clear ho hb hg hat))
                    go_roundg k2
                    case measure => have := HJ1.out; have := HK2.out; omega
                    case rel => exact ⟨(y269), (wrap64 (x5_2 + 1)), (by first | rfl | (simp; done) | (simp [*]; done)), H', ⟨by have := HJ1.out; have := HK2.out; omega⟩, ⟨by (with_reducible repeat (first | apply Kd.R_alloc | apply Kd.R_drewN | apply Kd.R_drew)); exact HO271.out⟩, ⟨by repeat (first | (with_reducible first | exact HB.out | apply below_alloc | apply pw_below_drewN | apply below_drew1) | exact HB.out)⟩⟩
                  · rw [if_neg c9] at H
                    exact absurd H (by simp)
                · rw [if_neg c7] at H
                  exact absurd H (by simp)
              · rw [if_neg c6] at H
                exact absurd H (by simp)
            · rw [if_neg c5] at H
              have c5b0 : decide (x5_2 < a0) = false := decide_eq_false c5
              clear c5
              obtain rfl := Option.some.inj H
              go_wp2
              go_ret
              exact ⟨_, by first | rfl | (simp [errW_none, errW_some] <;> rfl) | (simp [*, errW_none, errW_some] <;> rfl), by (with_reducible repeat (first | apply Kd.R_alloc | apply Kd.R_drewN | apply Kd.R_drew)); exact HO_4.out, by repeat (first | (with_reducible first | exact HB.out | apply below_alloc | apply pw_below_drewN | apply below_drew1) | exact HB.out)⟩

end Go.Proofs.YtfoakihlbeoebaaDoor.X

/- Printed by a program of this session (wip/xprint.py) over the translation: Go functions as Lean functions, and that the machine's calls come to them. -/
namespace Go.Proofs.YtfoakihlbeoebaaDoor.X
open Go.RowKit Go.Proofs.YtfoakihlbeoebaaDoorW.PrintWords Go.Proofs.YtfoakihlbeoebaaDoorW.PrintLast Go.Proofs.YtfoakihlbeoebaaDoorW.PrintMore
attribute [local go_sem] max2_int min2_int max_two min_two max_three min_three max_four min_four   -- for this text's walks alone
set_option linter.unusedVariables false
set_option linter.unusedSimpArgs false

/-! ### tutorlaw02_GlyphDefaults: function 5 -/
def tutorlaw02_GlyphDefaults.l0 : Nat → Int → List Int → Int → Option (Bool)
  | 0, _, _, _ => none
  | k + 1, x0, x3, x4 => if x4 < (x3.length : Int) then (if 0 ≤ x4 then (tutorlaw02_GlyphDefaults.l0 k x0 (x3.set (x4 : Int).toNat 0) (wrap64 (x4 + 1))) else (none)) else ((glyph_Default.f k x0).bind fun t280 => ((tutorref02_Default.f k x0).bind fun t283 => ((tutorref02_Same.f k t280 t283).bind fun t286 => (if t286 = true then ((tutorlaw02_live.f k).bind fun t287 => (some t287)) else (some false)))))
def tutorlaw02_GlyphDefaults.f (k : Nat) (a0 : Int) : Option (Bool) := (glyph_Default.f k a0).bind fun t272 => ((tutorref02_Default.f k a0).bind fun t275 => ((tutorref02_Same.f k t272 t275).bind fun t278 => (if t278 = true then (tutorlaw02_GlyphDefaults.l0 k a0 t272 0) else (some false))))
theorem tutorlaw02_GlyphDefaults.mono_l : ∀ k, (∀ y0 y1 y2, LeO (tutorlaw02_GlyphDefaults.l0 k y0 y1 y2) (tutorlaw02_GlyphDefaults.l0 (k + 1) y0 y1 y2))
  | 0 => fun _ _ _ r h => by simp [tutorlaw02_GlyphDefaults.l0] at h
  | k + 1 => by
    have ih0 := tutorlaw02_GlyphDefaults.mono_l k
    · intro y0 y1 y2
      unfold tutorlaw02_GlyphDefaults.l0
      repeat' first
      | (with_reducible exact ih0 _ _ _)
      | (with_reducible exact glyph_Default.mono _ _)
      | (with_reducible exact tutorlaw02_live.mono _)
      | (with_reducible exact tutorref02_Default.mono _ _)
      | (with_reducible exact tutorref02_Same.mono _ _ _)
      | (with_reducible exact LeO.refl _)
      | (with_reducible exact LeO.none _)
      | (with_reducible refine LeO.ite ?_ ?_)
      | (with_reducible refine LeO.bind ?_ (fun _ => ?_))
      | exact ih0 _ _ _
      | exact glyph_Default.mono _ _
      | exact tutorlaw02_live.mono _
      | exact tutorref02_Default.mono _ _
      | exact tutorref02_Same.mono _ _ _
      | exact LeO.none _
      | refine LeO.ite ?_ ?_
      | refine LeO.bind ?_ (fun _ => ?_)
theorem tutorlaw02_GlyphDefaults.mono : ∀ a0 k, LeO (tutorlaw02_GlyphDefaults.f k a0) (tutorlaw02_GlyphDefaults.f (k + 1) a0) := by
  intro a0 k
  have ih0 := tutorlaw02_GlyphDefaults.mono_l k
  unfold tutorlaw02_GlyphDefaults.f
  repeat' first
      | (with_reducible exact ih0 _ _ _)
      | (with_reducible exact glyph_Default.mono _ _)
      | (with_reducible exact tutorlaw02_live.mono _)
      | (with_reducible exact tutorref02_Default.mono _ _)
      | (with_reducible exact tutorref02_Same.mono _ _ _)
      | (with_reducible exact LeO.refl _)
      | (with_reducible exact LeO.none _)
      | (with_reducible refine LeO.ite ?_ ?_)
      | (with_reducible refine LeO.bind ?_ (fun _ => ?_))
      | exact ih0 _ _ _
      | exact glyph_Default.mono _ _
      | exact tutorlaw02_live.mono _
      | exact tutorref02_Default.mono _ _
      | exact tutorref02_Same.mono _ _ _
      | exact LeO.none _
      | refine LeO.ite ?_ ?_
      | refine LeO.bind ?_ (fun _ => ?_)
set_option maxHeartbeats 8000000 in
set_option maxRecDepth 100000 in
theorem tutorlaw02_GlyphDefaults.calls (k : Nat) (a0 : Int) (r : Bool) (w : World) (h : tutorlaw02_GlyphDefaults.f k a0 = some r) :
    Calls Tryd.prog 5 #[.int .i64 a0] w fun e w' => e = .returned (.bool r) ∧ Below w.heap.size w w' := by
  have HB := Aside0.mk (Below.refl w.heap.size w)
  have H : ((glyph_Default.f k a0).bind fun t272 => ((tutorref02_Default.f k a0).bind fun t275 => ((tutorref02_Same.f k t272 t275).bind fun t278 => (if t278 = true then (tutorlaw02_GlyphDefaults.l0 k a0 t272 0) else (some false))))) = some r := h
  clear h
  replace H := Option.bind_eq_some_iff.mp H
  obtain ⟨t272, A20, H⟩ := H
  replace H : ((tutorref02_Default.f k a0).bind fun t275 => ((tutorref02_Same.f k t272 t275).bind fun t278 => (if t278 = true then (tutorlaw02_GlyphDefaults.l0 k a0 t272 0) else (some false)))) = some r := H
  have A2 := Aside0.mk A20
  clear A20
  replace H := Option.bind_eq_some_iff.mp H
  obtain ⟨t275, A30, H⟩ := H
  replace H : ((tutorref02_Same.f k t272 t275).bind fun t278 => (if t278 = true then (tutorlaw02_GlyphDefaults.l0 k a0 t272 0) else (some false))) = some r := H
  have A3 := Aside0.mk A30
  clear A30
  replace H := Option.bind_eq_some_iff.mp H
  obtain ⟨t278, A40, H⟩ := H
  replace H : (if t278 = true then (tutorlaw02_GlyphDefaults.l0 k a0 t272 0) else (some false)) = some r := H
  have A4 := Aside0.mk A40
  clear A40
  by_cases c5 : t278 = true
  · subst c5
    have H1 : (tutorlaw02_GlyphDefaults.l0 k a0 t272 0) = some r := by rw [if_pos rfl] at H; exact H
    clear H
    have H := H1
    clear H1
    have H' := Aside0.mk H
    clear H
    go_enter Tryd.func5, Tryd.ntmps5
    go_wp2_with (first | ((with_reducible refine gate_callee (f := 17) rfl ?_); refine goesL_ (some 6) rfl rfl Tryd.func17 (by kernel_rfl) rfl #[.int .i64 a0] rfl (by (try simp only [List.map_toArray, List.map_cons, List.map_nil]); first | done | rfl | (simp only [List.length_drop, List.length_take]; rfl)) ?_; (with_reducible refine (glyph_Default.calls k a0 t272 _ A2.out).mono ?_); rintro e w6 ⟨v273, rfl, ho0, hb⟩; refine ⟨_, rfl, ?_⟩; have n0_ := Aside0.mk (Kd.R_lower ho0 (below_size (by repeat (first | (with_reducible first | exact HB.out | apply below_alloc | apply pw_below_drewN | apply below_drew1) | exact HB.out)))); have n1_ := Aside0.mk (below_step (by repeat (first | (with_reducible first | exact HB.out | apply below_alloc | apply pw_below_drewN | apply below_drew1) | exact HB.out)) hb); clear HB; have HO274 := n0_; have HB := n1_; clear n0_ n1_; (try clear hb); (try clear hb2); (try clear hk); (try clear hi); (try clear ho0)) | ((with_reducible refine gate_callee (f := 18) rfl ?_); refine goesL_ (some 9) rfl rfl Tryd.func18 (by kernel_rfl) rfl #[.int .i64 a0] rfl (by (try simp only [List.map_toArray, List.map_cons, List.map_nil]); first | done | rfl | (simp only [List.length_drop, List.length_take]; rfl)) ?_; (with_reducible refine (tutorref02_Default.calls k a0 t275 _ A3.out).mono ?_); rintro e w7 ⟨v276, rfl, ho0, hb⟩; refine ⟨_, rfl, ?_⟩; have n0_ := Aside0.mk (Kd.R_elder' (by (with_reducible repeat (first | apply Kd.R_alloc | apply Kd.R_drewN | apply Kd.R_drew)); exact HO274.out) (Kd.R_base ho0) hb); have n1_ := Aside0.mk (Kd.R_lower (Kd.R_new' ho0 (Kd.R_lt (by (with_reducible repeat (first | apply Kd.R_alloc | apply Kd.R_drewN | apply Kd.R_drew)); exact HO274.out))) (below_size (by repeat (first | (with_reducible first | exact HB.out | apply below_alloc | apply pw_below_drewN | apply below_drew1) | exact HB.out)))); have n2_ := Aside0.mk (below_step (by repeat (first | (with_reducible first | exact HB.out | apply below_alloc | apply pw_below_drewN | apply below_drew1) | exact HB.out)) hb); clear HO274; clear HB; have HO274 := n0_; have HO277 := n1_; have HB := n2_; clear n0_ n1_ n2_; (try clear hb); (try clear hb2); (try clear hk); (try clear hi); (try clear ho0); obtain ⟨Ao8, co8, eo8⟩ := Kd.R_slice HO274.out; subst eo8; obtain ⟨Ao9, co9, eo9⟩ := Kd.R_slice HO277.out; subst eo9) | ((with_reducible refine gate_callee (f := 11) rfl ?_); refine goesL_ (some 10) rfl rfl Tryd.func11 (by kernel_rfl) rfl #[.slice Ao8 t272.length co8, .slice Ao9 t275.length co9] rfl (by (try simp only [List.map_toArray, List.map_cons, List.map_nil]); first | done | rfl | (simp only [List.length_drop, List.length_take]; rfl)) ?_; (with_reducible refine (tutorref02_Same.calls k _ _ t272 _ _ t275 true _ ?side1 ?side2 ?side3 ?side4 A4.out).mono ?_); (case side1 => repeat (first | exact (Kd.R_reads' HO274.out).2.2 | (with_reducible refine Kd.C_alloc ?_ _) | (with_reducible refine Kd.C_drewN ?_ _) | (with_reducible refine Kd.C_drew ?_))); (case side2 => exact (Kd.R_reads' HO274.out).2.1); (case side3 => repeat (first | exact (Kd.R_reads' HO277.out).2.2 | (with_reducible refine Kd.C_alloc ?_ _) | (with_reducible refine Kd.C_drewN ?_ _) | (with_reducible refine Kd.C_drew ?_))); (case side4 => exact (Kd.R_reads' HO277.out).2.1); rintro e w' ⟨rfl, ⟨nd, rfl⟩⟩; refine ⟨_, rfl, ?_⟩))
    go_loopg [4] k (fun kq v4 w' => ∃ (x3_1 : List Int) (x4_1 : Int), v4 = .int .i64 x4_1 ∧ Aside0 (tutorlaw02_GlyphDefaults.l0 kq a0 x3_1 x4_1 = some r) ∧ Aside0 (kq ≤ k) ∧ Aside0 (Kd.R (Kd.int .i32) 21 w' w.heap.size (fun _ => True) (.slice Ao8 t272.length co8) x3_1) ∧ Aside0 (Below w.heap.size w w'))
    case atStart => exact ⟨(t272), (0), (by first | rfl | (simp; done) | (simp [*]; done)), H', ⟨Nat.le_refl _⟩, ⟨by (with_reducible repeat (first | apply Kd.R_alloc | apply Kd.R_drewN | apply Kd.R_drew)); exact Kd.R_mono HO274.out (fun _ hk => trivial)⟩, ⟨by repeat (first | (with_reducible first | exact HB.out | apply below_alloc | apply pw_below_drewN | apply below_drew1) | exact HB.out)⟩⟩
    case round =>
      clear H'
      try clear c1
      try clear p2
      try clear c5
      obtain ⟨x3_1, x4_1, rfl, HA, HK1, HO_3, HB⟩ := hrel
      have hl3_1 := (Kd.R_reads' HO_3.out).1
      rw [hl3_1] at HO_3
      (try simp only [hl3_1])
      cases gk with
      | zero => exact absurd HA.out (by simp [tutorlaw02_GlyphDefaults.l0])
      | succ k1 =>
        have H := HA.out
        clear HA
        simp only [tutorlaw02_GlyphDefaults.l0] at H
        by_cases c10 : x4_1 < (x3_1.length : Int)
        · rw [if_pos c10] at H
          have c10b0 : decide (x4_1 < (x3_1.length : Int)) = true := decide_eq_true c10
          clear c10
          by_cases c11 : 0 ≤ x4_1
          · rw [if_pos c11] at H
            have c11b0 : decide (0 ≤ x4_1) = true := decide_eq_true c11
            clear c11
            obtain ⟨y279, hy279⟩ : ∃ y_ : List Int, y_ = (x3_1.set (x4_1 : Int).toNat 0) := ⟨_, rfl⟩
            replace H : (tutorlaw02_GlyphDefaults.l0 k1 a0 y279 (wrap64 (x4_1 + 1))) = some r := by first | (rw [hy279]; with_reducible exact H) | (have H2_ := (Option.bind_some _ _).symm.trans H; rw [hy279]; with_reducible exact H2_) | (have H2_ := (Option.bind_some _ _).symm.trans H; with_reducible exact H2_) | with_reducible exact H | (rw [hy279]; exact H) | exact H
            have Ny279 := Aside0.mk hy279
            clear hy279
            have H' := Aside0.mk H
            clear H
            have p12 : 0 ≤ (x4_1 : Int) := of_decide_eq_true (by first | (with_reducible assumption) | assumption)
            have q12 : (x4_1 : Int) < ((x3_1.length : Int) : Int) := of_decide_eq_true (by first | (with_reducible assumption) | assumption)
            obtain ⟨go12, co12, eo12, gb12, gl12, cl12, HG12⟩ := Kd.R_form HO_3.out (by omega)
            (first | cases eo12 | (injection eo12 with ea_ en_ ec_; (first | subst ea_ | (injection ea_ with ea_; subst ea_)); subst ec_; clear en_))
            have GB12 := Aside0.mk gb12
            have GG12 := Aside0.mk HG12
            clear gb12 gl12 HG12
            obtain ⟨hx12_0, hf12_0⟩ := Kd.R_celln 0 HO_3.out (x4_1 : Int) p12 q12
            replace p12 := eq_true p12
            replace q12 := eq_true q12
            have HP13 := Kd.R_putg HO_3.out (x4_1 : Int) 0
            go_wp2_with (first | ((with_reducible refine gate_store (t := 21) (p := 20) rfl ?_); refine store_event (t := 21) (p := 20) (v := ?vo_w14) (w1 := (wr.setCell ⟨go12, (x4_1 : Int).toNat, none⟩ (.int .i32 0))) ?hg ?ho ?hn ?hr ?_; (case ho => rfl); (case hg => rfl); (case hn => rfl); (case hr => first | (go_simp; done) | (go_simp; rfl)); intro w14 hw; have hg : wr.grownBy w14 (some go12) := (by rw [hw]; exact HP13.2); have hp_ : Kd.R (Kd.int .i32) 21 w14 w.heap.size (fun _ => True) (.slice (some ⟨go12, 0, none⟩) x3_1.length co8) y279 := (by rw [hw, Ny279.out]; exact HP13.1); clear HP13; have n0_ := Aside0.mk (hp_); have n1_ := Aside0.mk ((by rw [hw]; exact below_set (HB.out) GB12.out : Below w.heap.size w w14)); clear HO_3; clear HB; have HO_3 := n0_; have HB := n1_; clear n0_ n1_; clear hg hw hp_))
            (try simp only [← hl3_1])
            go_roundg k1
            case measure => have := HK1.out; omega
            case rel => exact ⟨(y279), (wrap64 (x4_1 + 1)), (by first | rfl | (simp; done) | (simp [*]; done)), H', ⟨by have := HK1.out; omega⟩, ⟨by (try simp only [hl3_1]); (with_reducible repeat (first | apply Kd.R_alloc | apply Kd.R_drewN | apply Kd.R_drew)); exact HO_3.out⟩, ⟨by repeat (first | (with_reducible first | exact HB.out | apply below_alloc | apply pw_below_drewN | apply below_drew1) | exact HB.out)⟩⟩
          · rw [if_neg c11] at H
            exact absurd H (by simp)
        · rw [if_neg c10] at H
          have c10b0 : decide (x4_1 < (x3_1.length : Int)) = false := decide_eq_false c10
          clear c10
          replace H := Option.bind_eq_some_iff.mp H
          obtain ⟨t280, A150, H⟩ := H
          replace H : ((tutorref02_Default.f k1 a0).bind fun t283 => ((tutorref02_Same.f k1 t280 t283).bind fun t286 => (if t286 = true then ((tutorlaw02_live.f k1).bind fun t287 => (some t287)) else (some false)))) = some r := H
          have A15 := Aside0.mk A150
          clear A150
          replace H := Option.bind_eq_some_iff.mp H
          obtain ⟨t283, A160, H⟩ := H
          replace H : ((tutorref02_Same.f k1 t280 t283).bind fun t286 => (if t286 = true then ((tutorlaw02_live.f k1).bind fun t287 => (some t287)) else (some false))) = some r := H
          have A16 := Aside0.mk A160
          clear A160
          replace H := Option.bind_eq_some_iff.mp H
          obtain ⟨t286, A170, H⟩ := H
          replace H : (if t286 = true then ((tutorlaw02_live.f k1).bind fun t287 => (some t287)) else (some false)) = some r := H
          have A17 := Aside0.mk A170
          clear A170
          by_cases c18 : t286 = true
          · subst c18
            have H1 : ((tutorlaw02_live.f k1).bind fun t287 => (some t287)) = some r := by rw [if_pos rfl] at H; exact H
            clear H
            have H := H1
            clear H1
            replace H := Option.bind_eq_some_iff.mp H
            obtain ⟨t287, A190, H⟩ := H
            replace H : (some t287) = some r := H
            have A19 := Aside0.mk A190
            clear A190
            obtain rfl := Option.some.inj H
            go_wp2_with (first | ((with_reducible refine gate_callee (f := 17) rfl ?_); refine goesL_ (some 22) rfl rfl Tryd.func17 (by kernel_rfl) rfl #[.int .i64 a0] rfl (by (try simp only [List.map_toArray, List.map_cons, List.map_nil]); first | done | rfl | (simp only [List.length_drop, List.length_take]; rfl)) ?_; (with_reducible refine (glyph_Default.calls k1 a0 t280 _ A15.out).mono ?_); rintro e w20 ⟨v281, rfl, ho0, hb⟩; refine ⟨_, rfl, ?_⟩; have n0_ := Aside0.mk (Kd.R_elder' (by (with_reducible repeat (first | apply Kd.R_alloc | apply Kd.R_drewN | apply Kd.R_drew)); exact HO_3.out) (Kd.R_base ho0) hb); have n1_ := Aside0.mk (Kd.R_lower (Kd.R_new' ho0 (Kd.R_lt (by (with_reducible repeat (first | apply Kd.R_alloc | apply Kd.R_drewN | apply Kd.R_drew)); exact HO_3.out))) (below_size (by repeat (first | (with_reducible first | exact HB.out | apply below_alloc | apply pw_below_drewN | apply below_drew1) | exact HB.out)))); have n2_ := Aside0.mk (below_step (by repeat (first | (with_reducible first | exact HB.out | apply below_alloc | apply pw_below_drewN | apply below_drew1) | exact HB.out)) hb); clear HO_3; clear HB; have HO_3 := n0_; have HO282 := n1_; have HB := n2_; clear n0_ n1_ n2_; (try clear hb); (try clear hb2); (try clear hk); (try clear hi); (try clear ho0)) | ((with_reducible refine gate_callee (f := 18) rfl ?_); refine goesL_ (some 24) rfl rfl Tryd.func18 (by kernel_rfl) rfl #[.int .i64 a0] rfl (by (try simp only [List.map_toArray, List.map_cons, List.map_nil]); first | done | rfl | (simp only [List.length_drop, List.length_take]; rfl)) ?_; (with_reducible refine (tutorref02_Default.calls k1 a0 t283 _ A16.out).mono ?_); rintro e w21 ⟨v284, rfl, ho0, hb⟩; refine ⟨_, rfl, ?_⟩; have n0_ := Aside0.mk (Kd.R_elder' (by (with_reducible repeat (first | apply Kd.R_alloc | apply Kd.R_drewN | apply Kd.R_drew)); exact HO_3.out) (Kd.R_base ho0) hb); have n1_ := Aside0.mk (Kd.R_elder' (by (with_reducible repeat (first | apply Kd.R_alloc | apply Kd.R_drewN | apply Kd.R_drew)); exact HO282.out) (Kd.R_base ho0) hb); have n2_ := Aside0.mk (Kd.R_lower (Kd.R_new' (Kd.R_new' ho0 (Kd.R_lt (by (with_reducible repeat (first | apply Kd.R_alloc | apply Kd.R_drewN | apply Kd.R_drew)); exact HO_3.out))) (Kd.R_lt (by (with_reducible repeat (first | apply Kd.R_alloc | apply Kd.R_drewN | apply Kd.R_drew)); exact HO282.out))) (below_size (by repeat (first | (with_reducible first | exact HB.out | apply below_alloc | apply pw_below_drewN | apply below_drew1) | exact HB.out)))); have n3_ := Aside0.mk (below_step (by repeat (first | (with_reducible first | exact HB.out | apply below_alloc | apply pw_below_drewN | apply below_drew1) | exact HB.out)) hb); clear HO_3; clear HO282; clear HB; have HO_3 := n0_; have HO282 := n1_; have HO285 := n2_; have HB := n3_; clear n0_ n1_ n2_ n3_; (try clear hb); (try clear hb2); (try clear hk); (try clear hi); (try clear ho0); obtain ⟨Ao22, co22, eo22⟩ := Kd.R_slice HO282.out; subst eo22; obtain ⟨Ao23, co23, eo23⟩ := Kd.R_slice HO285.out; subst eo23) | ((with_reducible refine gate_callee (f := 11) rfl ?_); refine goesL_ (some 25) rfl rfl Tryd.func11 (by kernel_rfl) rfl #[.slice Ao22 t280.length co22, .slice Ao23 t283.length co23] rfl (by (try simp only [List.map_toArray, List.map_cons, List.map_nil]); first | done | rfl | (simp only [List.length_drop, List.length_take]; rfl)) ?_; (with_reducible refine (tutorref02_Same.calls k1 _ _ t280 _ _ t283 true _ ?side1 ?side2 ?side3 ?side4 A17.out).mono ?_); (case side1 => repeat (first | exact (Kd.R_reads' HO282.out).2.2 | (with_reducible refine Kd.C_alloc ?_ _) | (with_reducible refine Kd.C_drewN ?_ _) | (with_reducible refine Kd.C_drew ?_))); (case side2 => exact (Kd.R_reads' HO282.out).2.1); (case side3 => repeat (first | exact (Kd.R_reads' HO285.out).2.2 | (with_reducible refine Kd.C_alloc ?_ _) | (with_reducible refine Kd.C_drewN ?_ _) | (with_reducible refine Kd.C_drew ?_))); (case side4 => exact (Kd.R_reads' HO285.out).2.1); rintro e w' ⟨rfl, ⟨nd, rfl⟩⟩; refine ⟨_, rfl, ?_⟩) | (go_at_call 8; (with_reducible refine (tutorlaw02_live.calls k1  t287 _ A19.out).mono ?_); rintro e w24 ⟨rfl, hb⟩; have n0_ := Aside0.mk (Kd.R_below (by (with_reducible repeat (first | apply Kd.R_alloc | apply Kd.R_drewN | apply Kd.R_drew)); exact HO_3.out) hb); have n1_ := Aside0.mk (Kd.R_below (by (with_reducible repeat (first | apply Kd.R_alloc | apply Kd.R_drewN | apply Kd.R_drew)); exact HO282.out) hb); have n2_ := Aside0.mk (Kd.R_below (by (with_reducible repeat (first | apply Kd.R_alloc | apply Kd.R_drewN | apply Kd.R_drew)); exact HO285.out) hb); have n3_ := Aside0.mk (below_step (by repeat (first | (with_reducible first | exact HB.out | apply below_alloc | apply pw_below_drewN | apply below_drew1) | exact HB.out)) hb); clear HO_3; clear HO282; clear HO285; clear HB; have HO_3 := n0_; have HO282 := n1_; have HO285 := n2_; have HB := n3_; clear n0_ n1_ n2_ n3_; (try clear hb); (try clear hb2); (try clear hk); (try clear hi)))
            go_ret
            exact ⟨by first | rfl | (simp [errW_none, errW_some] <;> rfl) | (simp [*, errW_none, errW_some] <;> rfl), by repeat (first | (with_reducible first | exact HB.out | apply below_alloc | apply pw_below_drewN | apply below_drew1) | exact HB.out)⟩
          · replace c18 := Bool.eq_false_iff.mpr c18
            subst c18
            have H1 : (some false) = some r := by rw [if_neg (show ¬ (false = true) by decide)] at H; exact H
            clear H
            have H := H1
            clear H1
            obtain rfl := Option.some.inj H
            go_wp2_with (first | ((with_reducible refine gate_callee (f := 17) rfl ?_); refine goesL_ (some 22) rfl rfl Tryd.func17 (by kernel_rfl) rfl #[.int .i64 a0] rfl (by (try simp only [List.map_toArray, List.map_cons, List.map_nil]); first | done | rfl | (simp only [List.length_drop, List.length_take]; rfl)) ?_; (with_reducible refine (glyph_Default.calls k1 a0 t280 _ A15.out).mono ?_); rintro e w25 ⟨v281, rfl, ho0, hb⟩; refine ⟨_, rfl, ?_⟩; have n0_ := Aside0.mk (Kd.R_elder' (by (with_reducible repeat (first | apply Kd.R_alloc | apply Kd.R_drewN | apply Kd.R_drew)); exact HO_3.out) (Kd.R_base ho0) hb); have n1_ := Aside0.mk (Kd.R_lower (Kd.R_new' ho0 (Kd.R_lt (by (with_reducible repeat (first | apply Kd.R_alloc | apply Kd.R_drewN | apply Kd.R_drew)); exact HO_3.out))) (below_size (by repeat (first | (with_reducible first | exact HB.out | apply below_alloc | apply pw_below_drewN | apply below_drew1) | exact HB.out)))); have n2_ := Aside0.mk (below_step (by repeat (first | (with_reducible first | exact HB.out | apply below_alloc | apply pw_below_drewN | apply below_drew1) | exact HB.out)) hb); clear HO_3; clear HB; have HO_3 := n0_; have HO282 := n1_; have HB := n2_; clear n0_ n1_ n2_; (try clear hb); (try clear hb2); (try clear hk); (try clear hi); (try clear ho0)) | ((with_reducible refine gate_callee (f := 18) rfl ?_); refine goesL_ (some 24) rfl rfl Tryd.func18 (by kernel_rfl) rfl #[.int .i64 a0] rfl (by (try simp only [List.map_toArray, List.map_cons, List.map_nil]); first | done | rfl | (simp only [List.length_drop, List.length_take]; rfl)) ?_; (with_reducible refine (tutorref02_Default.calls k1 a0 t283 _ A16.out).mono ?_); rintro e w26 ⟨v284, rfl, ho0, hb⟩; refine ⟨_, rfl, ?_⟩; have n0_ := Aside0.mk (Kd.R_elder' (by (with_reducible repeat (first | apply Kd.R_alloc | apply Kd.R_drewN | apply Kd.R_drew)); exact HO_3.out) (Kd.R_base ho0) hb); have n1_ := Aside0.mk (Kd.R_elder' (by (with_reducible repeat (first | apply Kd.R_alloc | apply Kd.R_drewN | apply Kd.R_drew)); exact HO282.out) (Kd.R_base ho0) hb); have n2_ := Aside0.mk (Kd.R_lower (Kd.R_new' (Kd.R_new' ho0 (Kd.R_lt (by (with_reducible repeat (first | apply Kd.R_alloc | apply Kd.R_drewN | apply Kd.R_drew)); exact HO_3.out))) (Kd.R_lt (by (with_reducible repeat (first | apply Kd.R_alloc | apply Kd.R_drewN | apply Kd.R_drew)); exact HO282.out))) (below_size (by repeat (first | (with_reducible first | exact HB.out | apply below_alloc | apply pw_below_drewN | apply below_drew1) | exact HB.out)))); have n3_ := Aside0.mk (below_step (by repeat (first | (with_reducible first | exact HB.out | apply below_alloc | apply pw_below_drewN | apply below_drew1) | exact HB.out)) hb); clear HO_3; clear HO282; clear HB; have HO_3 := n0_; have HO282 := n1_; have HO285 := n2_; have HB := n3_; clear n0_ n1_ n2_ n3_; (try clear hb); (try clear hb2); (try clear hk); (try clear hi); (try clear ho0); obtain ⟨Ao27, co27, eo27⟩ := Kd.R_slice HO282.out; subst eo27; obtain ⟨Ao28, co28, eo28⟩ := Kd.R_slice HO285.out; subst eo28) | ((with_reducible refine gate_callee (f := 11) rfl ?_); refine goesL_ (some 25) rfl rfl Tryd.func11 (by kernel_rfl) rfl #[.slice Ao27 t280.length co27, .slice Ao28 t283.length co28] rfl (by (try simp only [List.map_toArray, List.map_cons, List.map_nil]); first | done | rfl | (simp only [List.length_drop, List.length_take]; rfl)) ?_; (with_reducible refine (tutorref02_Same.calls k1 _ _ t280 _ _ t283 false _ ?side1 ?side2 ?side3 ?side4 A17.out).mono ?_); (case side1 => repeat (first | exact (Kd.R_reads' HO282.out).2.2 | (with_reducible refine Kd.C_alloc ?_ _) | (with_reducible refine Kd.C_drewN ?_ _) | (with_reducible refine Kd.C_drew ?_))); (case side2 => exact (Kd.R_reads' HO282.out).2.1); (case side3 => repeat (first | exact (Kd.R_reads' HO285.out).2.2 | (with_reducible refine Kd.C_alloc ?_ _) | (with_reducible refine Kd.C_drewN ?_ _) | (with_reducible refine Kd.C_drew ?_))); (case side4 => exact (Kd.R_reads' HO285.out).2.1); rintro e w' ⟨rfl, ⟨nd, rfl⟩⟩; refine ⟨_, rfl, ?_⟩))
            go_ret
            exact ⟨by first | rfl | (simp [errW_none, errW_some] <;> rfl) | (simp [*, errW_none, errW_some] <;> rfl), by repeat (first | (with_reducible first | exact HB.out | apply below_alloc | apply pw_below_drewN | apply below_drew1) | exact HB.out)⟩
  · replace c5 := Bool.eq_false_iff.mpr c5
    subst c5
    have H1 : (some false) = some r := by rw [if_neg (show ¬ (false = true) by decide)] at H; exact H
    clear H
    have H := H1
    clear H1
    obtain rfl := Option.some.inj H
    go_enter Tryd.func5, Tryd.ntmps5
    go_wp2_with (first | ((with_reducible refine gate_callee (f := 17) rfl ?_); refine goesL_ (some 6) rfl rfl Tryd.func17 (by kernel_rfl) rfl #[.int .i64 a0] rfl (by (try simp only [List.map_toArray, List.map_cons, List.map_nil]); first | done | rfl | (simp only [List.length_drop, List.length_take]; rfl)) ?_; (with_reducible refine (glyph_Default.calls k a0 t272 _ A2.out).mono ?_); rintro e w29 ⟨v273, rfl, ho0, hb⟩; refine ⟨_, rfl, ?_⟩; have n0_ := Aside0.mk (Kd.R_lower ho0 (below_size (by repeat (first | (with_reducible first | exact HB.out | apply below_alloc | apply pw_below_drewN | apply below_drew1) | exact HB.out)))); have n1_ := Aside0.mk (below_step (by repeat (first | (with_reducible first | exact HB.out | apply below_alloc | apply pw_below_drewN | apply below_drew1) | exact HB.out)) hb); clear HB; have HO274 := n0_; have HB := n1_; clear n0_ n1_; (try clear hb); (try clear hb2); (try clear hk); (try clear hi); (try clear ho0)) | ((with_reducible refine gate_callee (f := 18) rfl ?_); refine goesL_ (some 9) rfl rfl Tryd.func18 (by kernel_rfl) rfl #[.int .i64 a0] rfl (by (try simp only [List.map_toArray, List.map_cons, List.map_nil]); first | done | rfl | (simp only [List.length_drop, List.length_take]; rfl)) ?_; (with_reducible refine (tutorref02_Default.calls k a0 t275 _ A3.out).mono ?_); rintro e w30 ⟨v276, rfl, ho0, hb⟩; refine ⟨_, rfl, ?_⟩; have n0_ := Aside0.mk (Kd.R_elder' (by (with_reducible repeat (first | apply Kd.R_alloc | apply Kd.R_drewN | apply Kd.R_drew)); exact HO274.out) (Kd.R_base ho0) hb); have n1_ := Aside0.mk (Kd.R_lower (Kd.R_new' ho0 (Kd.R_lt (by (with_reducible repeat (first | apply Kd.R_alloc | apply Kd.R_drewN | apply Kd.R_drew)); exact HO274.out))) (below_size (by repeat (first | (with_reducible first | exact HB.out | apply below_alloc | apply pw_below_drewN | apply below_drew1) | exact HB.out)))); have n2_ := Aside0.mk (below_step (by repeat (first | (with_reducible first | exact HB.out | apply below_alloc | apply pw_below_drewN | apply below_drew1) | exact HB.out)) hb); clear HO274; clear HB; have HO274 := n0_; have HO277 := n1_; have HB := n2_; clear n0_ n1_ n2_; (try clear hb); (try clear hb2); (try clear hk); (try clear hi); (try clear ho0); obtain ⟨Ao31, co31, eo31⟩ := Kd.R_slice HO274.out; subst eo31; obtain ⟨Ao32, co32, eo32⟩ := Kd.R_slice HO277.out; subst eo32) | ((with_reducible refine gate_callee (f := 11) rfl ?_); refine goesL_ (some 10) rfl rfl Tryd.func11 (by kernel_rfl) rfl #[.slice Ao31 t272.length co31, .slice Ao32 t275.length co32] rfl (by (try simp only [List.map_toArray, List.map_cons, List.map_nil]); first | done | rfl | (simp only [List.length_drop, List.length_take]; rfl)) ?_; (with_reducible refine (tutorref02_Same.calls k _ _ t272 _ _ t275 false _ ?side1 ?side2 ?side3 ?side4 A4.out).mono ?_); (case side1 => repeat (first | exact (Kd.R_reads' HO274.out).2.2 | (with_reducible refine Kd.C_alloc ?_ _) | (with_reducible refine Kd.C_drewN ?_ _) | (with_reducible refine Kd.C_drew ?_))); (case side2 => exact (Kd.R_reads' HO274.out).2.1); (case side3 => repeat (first | exact (Kd.R_reads' HO277.out).2.2 | (with_reducible refine Kd.C_alloc ?_ _) | (with_reducible refine Kd.C_drewN ?_ _) | (with_reducible refine Kd.C_drew ?_))); (case side4 => exact (Kd.R_reads' HO277.out).2.1); rintro e w' ⟨rfl, ⟨nd, rfl⟩⟩; refine ⟨_, rfl, ?_⟩))
    go_ret
    exact ⟨by first | rfl | (simp [errW_none, errW_some] <;> rfl) | (simp [*, errW_none, errW_some] <;> rfl), by repeat (first | (with_reducible first | exact HB.out | apply below_alloc | apply pw_below_drewN | apply below_drew1) | exact HB.out)⟩

/-- THE ONE PURE STATEMENT of tutorlaw02_GlyphDefaults: yours. -/
def tutorlaw02_GlyphDefaults.Pure : Prop := ∀ (a0 : Int), (Lit.int .i64 a0).wf = true → ∃ k, tutorlaw02_GlyphDefaults.f k a0 = some true
theorem tutorlaw02_GlyphDefaults.walk (P : tutorlaw02_GlyphDefaults.Pure) (a0 : Int) (w : World) (w0 : (Lit.int .i64 a0).wf = true) :
    Calls Tryd.prog 5 #[.int .i64 a0] w fun e w' => e = .returned (.bool true) ∧ Below w.heap.size w w' := by
  obtain ⟨k, h⟩ := P a0 w0
  refine (tutorlaw02_GlyphDefaults.calls k a0 true w h).mono ?_
  rintro e w' ⟨rfl, hd⟩
  exact ⟨rfl, hd⟩

end Go.Proofs.YtfoakihlbeoebaaDoor.X

/- Plain facts on the functions that layer 2's statements reach. -/
namespace Go.Proofs.YtfoakihlbeoebaaDoor.X
open Go.RowKit Go.Proofs.YtfoakihlbeoebaaDoorW.PrintWords Go.Proofs.YtfoakihlbeoebaaDoorW.PrintLast
theorem live_at : tutorlaw02_live.f 10 = some true := by decide +kernel
theorem live_ev (k : Nat) (hk : 10 ≤ k) : tutorlaw02_live.f k = some true := at_rounds (g := fun k => tutorlaw02_live.f k) (fun k => tutorlaw02_live.mono k) hk live_at
theorem defaults_small : (List.range 65).all (fun n => n == 0 || tutorlaw02_GlyphDefaults.f 200 (n : Int) == some true) = true := by decide +kernel
theorem GlyphDefaults_pure (a0 : Int) : tutorlaw02_GlyphDefaults.f 200 a0 = some true := by
  by_cases h : 1 ≤ a0 ∧ a0 ≤ 64
  · have h1 := List.all_eq_true.1 defaults_small a0.toNat (by simp; omega)
    have h2 : ((a0.toNat : Nat) : Int) = a0 := by omega
    rw [h2] at h1
    have h3 : (a0.toNat == 0) = false := by simp; omega
    rw [h3, Bool.false_or] at h1
    exact eq_of_beq h1
  · have hd : ∀ k, glyph_Default.f (k + 1) a0 = some [] := by
      intro k
      unfold glyph_Default.f
      by_cases h1 : a0 < 1
      · rw [if_pos h1]; rfl
      · rw [if_neg h1, decide_eq_true (by omega)]; rfl
    have hr : ∀ k, tutorref02_Default.f (k + 1) a0 = some [] := by
      intro k
      unfold tutorref02_Default.f
      by_cases h1 : a0 < 1
      · rw [if_pos h1]; rfl
      · rw [if_neg h1, decide_eq_true (by omega)]; rfl
    have hs : ∀ k, tutorref02_Same.f (k + 1) [] [] = some true := fun k => rfl
    unfold tutorlaw02_GlyphDefaults.f
    rw [hd, hr]
    simp only [Option.bind_some]
    rw [hs]
    simp only [Option.bind_some, if_true]
    unfold tutorlaw02_GlyphDefaults.l0
    rw [if_neg (by simp), hd, hr]
    simp only [Option.bind_some]
    rw [hs, live_ev _ (by omega)]
    rfl
end Go.Proofs.YtfoakihlbeoebaaDoor.X

/- Plain law: the document's Parse tells what glyph.Parse tells. -/
namespace Go.Proofs.YtfoakihlbeoebaaDoor.X
open Go.RowKit Go.Proofs.YtfoakihlbeoebaaDoorW.PrintWords Go.Proofs.YtfoakihlbeoebaaDoorW.PrintLast
theorem rd_at (l : List Int) (i : Nat) (h : i < l.length) : rd l (i : Int) = l[i] := by
  simp [rd, List.getD_eq_getElem?_getD, List.getElem?_eq_getElem h]
theorem place_ev (l : List Int) (c : Int) (hl : l.length ≤ 9223372036854775806) : ∀ d i, i + d = l.length → ∀ k, d < k →
    tutorref02_place.l0 k l c (i : Int) = some (((l.drop i).findIdx? (· == c)).elim (-1) (fun j => ((i + j : Nat) : Int))) := by
  intro d
  induction d with
  | zero =>
    intro i hi k hk
    obtain ⟨k, rfl⟩ : ∃ m, k = m + 1 := ⟨k - 1, by omega⟩
    simp only [tutorref02_place.l0]
    rw [if_neg (by omega), List.drop_of_length_le (by omega)]
    rfl
  | succ d ih =>
    intro i hi k hk
    obtain ⟨k, rfl⟩ : ∃ m, k = m + 1 := ⟨k - 1, by omega⟩
    simp only [tutorref02_place.l0]
    rw [if_pos (by omega), if_pos (by omega)]
    have hd : l.drop i = l[i]'(by omega) :: l.drop (i + 1) := (List.drop_eq_getElem_cons (by omega))
    rw [hd, rd_at l i (by omega), List.findIdx?_cons]
    by_cases h : l[i]'(by omega) = c
    · rw [if_pos h, if_pos (by simp [h])]; rfl
    · rw [if_neg h, if_neg (by simpa using h)]
      have hw : wrap64 ((i : Int) + 1) = ((i + 1 : Nat) : Int) := by unfold wrap64; omega
      rw [hw, ih (i + 1) (by omega) k (by omega)]
      cases (l.drop (i + 1)).findIdx? (· == c) with
      | none => rfl
      | some j => simp only [Option.map_some, Option.elim_some]; congr 2; omega
theorem place_all (k : Nat) (l : List Int) (c : Int) (hl : l.length ≤ 9223372036854775806) (hk : l.length < k) : tutorref02_place.f k l c = some (idxOf l c) := by
  unfold tutorref02_place.f
  have h := place_ev l c hl l.length 0 (by omega) k hk
  rw [show ((0 : Nat) : Int) = 0 from rfl] at h
  rw [h]
  simp only [List.drop_zero, Nat.zero_add]
  rfl
theorem idxOf_contains (l : List Int) (c : Int) : idxOf l c ≥ 0 ↔ l.contains c = true := by
  unfold idxOf
  cases hf : l.findIdx? (· == c) with
  | none =>
    rw [List.findIdx?_eq_none_iff] at hf
    simp only [Option.elim_none]
    constructor
    · intro h; omega
    · intro h
      rw [List.contains_iff_mem] at h
      have := hf c h
      simp at this
  | some j =>
    obtain ⟨hlt, he, _⟩ := List.findIdx?_eq_some_iff_getElem.1 hf
    simp only [Option.elim_some]
    constructor
    · intro _
      rw [List.contains_iff_mem, ← eq_of_beq he]
      exact List.getElem_mem _
    · intro _; omega
theorem Same_refl (l : List Int) (hl : l.length ≤ 9223372036854775806) : ∀ d i, i + d = l.length → ∀ k, d < k → tutorref02_Same.l0 k l l (i : Int) = some true := by
  intro d
  induction d with
  | zero =>
    intro i hi k hk
    obtain ⟨k, rfl⟩ : ∃ m, k = m + 1 := ⟨k - 1, by omega⟩
    simp only [tutorref02_Same.l0]
    rw [if_neg (by omega)]
  | succ d ih =>
    intro i hi k hk
    obtain ⟨k, rfl⟩ : ∃ m, k = m + 1 := ⟨k - 1, by omega⟩
    simp only [tutorref02_Same.l0]
    rw [if_pos (by omega), if_pos (by omega), if_pos (by omega), if_pos trivial]
    have hw : wrap64 ((i : Int) + 1) = ((i + 1 : Nat) : Int) := by unfold wrap64; omega
    rw [hw, ih (i + 1) (by omega) k (by omega)]
theorem Same_self (k : Nat) (l : List Int) (hl : l.length ≤ 9223372036854775806) (hk : l.length < k) : tutorref02_Same.f k l l = some true := by
  unfold tutorref02_Same.f
  rw [if_pos rfl]
  exact Same_refl l hl l.length 0 (by omega) k hk
theorem wide_le (s : ByteArray) (p : Nat) (h : p < s.size) : p + wideAt s p ≤ s.size ∧ wideAt s p ≤ 4 := by
  unfold wideAt
  rw [Lib.decode_at]
  unfold Lib.decodeN
  repeat' split
  all_goals (simp only []; omega)
/-- glyph.Parse always tells something; what it lists is no longer than the alphabet. -/
theorem go_total (s : ByteArray) : ∀ kq p l, s.size < p + kq → p ≤ s.size → l.length ≤ 64 → ∃ r, glyph_Parse.go s kq p l = some r ∧ r.1.length ≤ 64 := by
  intro kq
  induction kq with
  | zero => 
    intro p l h hp hl
    omega
  | succ kq ih =>
    intro p l h hps hl
    simp only [glyph_Parse.go]
    by_cases hp : p < s.size
    · rw [if_pos hp]
      have := width_pos s p hp
      repeat' split
      all_goals first | exact ⟨_, rfl, by simp⟩ | skip
      exact ih _ _ (by omega) (wide_le s p hp).1 (by simp; omega)
    · rw [if_neg hp]
      exact ⟨_, rfl, hl⟩
theorem Parse_ref (s : ByteArray) (hs : (s.size : Int) ≤ 140737488351232) : ∀ kq p l r, p ≤ s.size → l.length ≤ 64 → glyph_Parse.go s kq p l = some r → ∀ K, 2 * kq + 80 ≤ K → tutorref02_Parse.l0 K s l (p : Int) = some r := by
  intro kq
  induction kq with
  | zero => intro p l r _ _ h; simp [glyph_Parse.go] at h
  | succ kq ih =>
    intro p l r hps hl h K hK
    obtain ⟨K, rfl⟩ : ∃ m, K = m + 2 := ⟨K - 2, by omega⟩
    simp only [glyph_Parse.go] at h
    rw [show K + 2 = (K + 1) + 1 from rfl]
    simp only [tutorref02_Parse.l0]
    by_cases hp : p < s.size
    · rw [if_pos hp] at h
      rw [if_pos (by omega)]
      obtain ⟨K7, hK7⟩ : ∃ m, K + 1 = m + 7 := ⟨K - 6, by omega⟩
      have hA := At_all K7 s p hs hp
      rw [← hK7] at hA
      rw [hA]
      simp only [Option.bind_some]
      have hw := width_pos s p hp
      unfold atR
      by_cases hb : brokenAt s p = true
      · rw [if_pos hb, if_pos rfl]
        simp only [tutorref02_Parse.j1]
        rw [if_pos trivial]
        rw [← h]
        repeat' split
        all_goals first | rfl | (exfalso; simp_all; done)
      · rw [if_neg hb, if_neg (by show ¬ ((wideAt s p : Int) = 0); omega)]
        rw [if_neg hb] at h
        simp only []
        by_cases c1 : runeAt s p < 33
        · rw [if_pos c1] at h
          rw [if_pos c1]
          simp only [tutorref02_Parse.j1]
          rw [if_pos trivial, ← h]
        · rw [if_neg c1] at h
          rw [if_neg c1]
          by_cases c2 : runeAt s p = 127
          · rw [if_pos c2] at h
            simp only [tutorref02_Parse.j1]
            rw [if_pos (by simp [c2]), ← h]
          · rw [if_neg c2] at h
            simp only [tutorref02_Parse.j1]
            rw [if_neg (by simpa using c2), place_all K l _ (by omega) (by omega)]
            simp only [Option.bind_some]
            by_cases c3 : l.contains (runeAt s p) = true
            · rw [if_pos c3] at h
              rw [if_pos ((idxOf_contains _ _).2 c3), ← h]
            · rw [if_neg c3] at h
              rw [if_neg (fun hh => c3 ((idxOf_contains _ _).1 hh))]
              by_cases c4 : l.length = 64
              · rw [if_pos c4] at h
                rw [if_pos (by omega), ← h]
              · rw [if_neg c4] at h
                rw [if_neg (by omega), if_pos (by omega)]
                have hwd := wide_le s p hp
                rw [wrap64_id (by omega) (by omega)]
                have := ih (p + wideAt s p) (l ++ [runeAt s p]) r hwd.1 (by simp; omega) h K (by omega)
                rw [← this]
                rfl
    · rw [if_neg hp] at h
      rw [if_neg (by omega), ← h]
theorem GlyphParses_pure (s : ByteArray) (hs : s.size ≤ 140737488351232) : ∃ k, tutorlaw02_GlyphParses.f k s = some true := by
  refine ⟨2 * s.size + 100, ?_⟩
  unfold tutorlaw02_GlyphParses.f
  rw [live_ev _ (by omega)]
  by_cases h : (s.size : Int) > 20000
  · rw [if_pos h]; rfl
  · rw [if_neg h]
    have hP : ∃ r, glyph_Parse.f s = some r ∧ tutorref02_Parse.f (2 * s.size + 100) s = some r ∧ r.1.length ≤ 64 := by
      unfold glyph_Parse.f
      rw [if_pos hs]
      unfold glyph_Parse.g tutorref02_Parse.f
      by_cases h0 : s.size = 0
      · exact ⟨_, by rw [if_pos h0], by rw [if_pos (by omega)], by simp⟩
      · rw [if_neg h0, if_neg (by omega)]
        obtain ⟨r, hr, hl⟩ := go_total s (s.size + 1) 0 [] (by omega) (by omega) (by simp)
        exact ⟨r, hr, Parse_ref s (by omega) (s.size + 1) 0 [] r (by omega) (by simp) hr _ (by omega), hl⟩
    obtain ⟨r, h1, h2, h3⟩ := hP
    rw [h1, h2]
    simp only [Option.bind_some]
    rw [Same_self _ _ (by omega) (by omega)]
    simp only [Option.bind_some, if_true]
    unfold tutorlaw02_num.f
    simp only [Option.bind_some, if_true]
theorem GlyphParses_walk (s : ByteArray) (w : World) (hs : s.size ≤ 140737488351232) (hT : Lib.Utf8Tabs 0 1 w) : Calls Tryd.prog 3 #[.string s] w fun e w' => e = .returned (.bool true) ∧ Below w.heap.size w w' := by
  obtain ⟨k, h⟩ := GlyphParses_pure s hs
  exact tutorlaw02_GlyphParses.calls k s true w ⟨hT⟩ h
end Go.Proofs.YtfoakihlbeoebaaDoor.X

/- Printed by a program of this session (wip/xprint.py) over the translation: Go functions as Lean functions, and that the machine's calls come to them. -/
namespace Go.Proofs.YtfoakihlbeoebaaDoor.X
open Go.RowKit Go.Proofs.YtfoakihlbeoebaaDoorW.PrintWords Go.Proofs.YtfoakihlbeoebaaDoorW.PrintLast Go.Proofs.YtfoakihlbeoebaaDoorW.PrintMore
attribute [local go_sem] max2_int min2_int max_two min_two max_three min_three max_four min_four   -- for this text's walks alone
set_option linter.unusedVariables false
set_option linter.unusedSimpArgs false

/-! ### tutorref02_put: function 27 -/
def tutorref02_put.f (a0 : Int) : Option (List Int) := if a0 < 128 then (some (([(a0) % 256] : List Int))) else (if a0 < 2048 then (some (([(wrap32 (192 + (wrap32 (Int.tdiv a0 64)))) % 256, (wrap32 (128 + (Int.tmod a0 64))) % 256] : List Int))) else (if a0 < 65536 then (some (([(wrap32 (224 + (wrap32 (Int.tdiv a0 4096)))) % 256, (wrap32 (128 + (Int.tmod (wrap32 (Int.tdiv a0 64)) 64))) % 256, (wrap32 (128 + (Int.tmod a0 64))) % 256] : List Int))) else (some (([(wrap32 (240 + (wrap32 (Int.tdiv a0 262144)))) % 256, (wrap32 (128 + (Int.tmod (wrap32 (Int.tdiv a0 4096)) 64))) % 256, (wrap32 (128 + (Int.tmod (wrap32 (Int.tdiv a0 64)) 64))) % 256, (wrap32 (128 + (Int.tmod a0 64))) % 256] : List Int)))))
set_option maxHeartbeats 8000000 in
set_option maxRecDepth 100000 in
theorem tutorref02_put.calls (a0 : Int) (r : List Int) (w : World) (h : tutorref02_put.f a0 = some r) :
    Calls Tryd.prog 27 #[.int .i32 a0] w fun e w' => ∃ v0_ : Value, e = .returned (v0_) ∧ Kd.R (Kd.int .u8) 5 w' w.heap.size (fun _ => True) v0_ r ∧ Below w.heap.size w w' := by
  have HB := Aside0.mk (Below.refl w.heap.size w)
  have H : (if a0 < 128 then (some (([(a0) % 256] : List Int))) else (if a0 < 2048 then (some (([(wrap32 (192 + (wrap32 (Int.tdiv a0 64)))) % 256, (wrap32 (128 + (Int.tmod a0 64))) % 256] : List Int))) else (if a0 < 65536 then (some (([(wrap32 (224 + (wrap32 (Int.tdiv a0 4096)))) % 256, (wrap32 (128 + (Int.tmod (wrap32 (Int.tdiv a0 64)) 64))) % 256, (wrap32 (128 + (Int.tmod a0 64))) % 256] : List Int))) else (some (([(wrap32 (240 + (wrap32 (Int.tdiv a0 262144)))) % 256, (wrap32 (128 + (Int.tmod (wrap32 (Int.tdiv a0 4096)) 64))) % 256, (wrap32 (128 + (Int.tmod (wrap32 (Int.tdiv a0 64)) 64))) % 256, (wrap32 (128 + (Int.tmod a0 64))) % 256] : List Int)))))) = some r := h
  clear h
  by_cases c2 : a0 < 128
  · rw [if_pos c2] at H
    have c2b0 : decide (a0 < 128) = true := decide_eq_true c2
    clear c2
    obtain ⟨y217, hy217⟩ : ∃ y_ : List Int, y_ = (([(a0) % 256] : List Int)) := ⟨_, rfl⟩
    replace H : (some y217) = some r := by first | (rw [hy217]; with_reducible exact H) | (have H2_ := (Option.bind_some _ _).symm.trans H; rw [hy217]; with_reducible exact H2_) | (have H2_ := (Option.bind_some _ _).symm.trans H; with_reducible exact H2_) | with_reducible exact H | (rw [hy217]; exact H) | exact H
    have Ny217 := Aside0.mk hy217
    clear hy217
    obtain rfl := Option.some.inj H
    go_enter Tryd.func27, Tryd.ntmps27
    go_wp2_with (first | ((with_reducible refine gate_dst (N := 8) rfl ?_); refine Kd.R_lit (Kd.int .u8) _ 5 ?hg (N := 8) ?hd (xs := ([(a0) % 256] : List Int)) (inner := [.int .u8 ((a0) % 256)]) (ok := fun _ => True) (okp := fun _ => True) ?hr ?hp (fun _ hk => hk) trivial (Below.refl _ _) (Nat.le_refl _) (by simp) ?_; (case hd => rfl); (case hg => rfl); (case hr => first | (go_simp; done) | (go_simp; rfl)); (case hp => exact (Reps.one (show Kd.M (Kd.int .u8) _ _ _ ((a0) % 256) [.int .u8 ((a0) % 256)] from rfl) (Reps.none _ _))); intro v218 w3 ho4 hb hg_ hnew_; clear hg_ hnew_; (first | rw [← Ny217.out] at ho4 | (simp only [Int.reduceToNat] at ho4; rw [← Ny217.out] at ho4)); have n0_ := Aside0.mk (Kd.R_lower ho4 (below_size (by repeat (first | (with_reducible first | exact HB.out | apply below_alloc | apply pw_below_drewN | apply below_drew1) | exact HB.out)))); have n1_ := Aside0.mk (below_step (by repeat (first | (with_reducible first | exact HB.out | apply below_alloc | apply pw_below_drewN | apply below_drew1) | exact HB.out)) hb); clear HB; have HO219 := n0_; have HB := n1_; clear n0_ n1_; clear hb ho4))
    go_ret
    exact ⟨_, by first | rfl | (simp [errW_none, errW_some] <;> rfl) | (simp [*, errW_none, errW_some] <;> rfl), by (with_reducible repeat (first | apply Kd.R_alloc | apply Kd.R_drewN | apply Kd.R_drew)); exact HO219.out, by repeat (first | (with_reducible first | exact HB.out | apply below_alloc | apply pw_below_drewN | apply below_drew1) | exact HB.out)⟩
  · rw [if_neg c2] at H
    have c2b0 : decide (a0 < 128) = false := decide_eq_false c2
    clear c2
    by_cases c5 : a0 < 2048
    · rw [if_pos c5] at H
      have c5b0 : decide (a0 < 2048) = true := decide_eq_true c5
      clear c5
      obtain ⟨y220, hy220⟩ : ∃ y_ : List Int, y_ = (([(wrap32 (192 + (wrap32 (Int.tdiv a0 64)))) % 256, (wrap32 (128 + (Int.tmod a0 64))) % 256] : List Int)) := ⟨_, rfl⟩
      replace H : (some y220) = some r := by first | (rw [hy220]; with_reducible exact H) | (have H2_ := (Option.bind_some _ _).symm.trans H; rw [hy220]; with_reducible exact H2_) | (have H2_ := (Option.bind_some _ _).symm.trans H; with_reducible exact H2_) | with_reducible exact H | (rw [hy220]; exact H) | exact H
      have Ny220 := Aside0.mk hy220
      clear hy220
      obtain rfl := Option.some.inj H
      go_enter Tryd.func27, Tryd.ntmps27
      go_wp2_with (first | ((with_reducible refine gate_dst (N := 20) rfl ?_); refine Kd.R_lit (Kd.int .u8) _ 5 ?hg (N := 20) ?hd (xs := ([(wrap32 (192 + (wrap32 (Int.tdiv a0 64)))) % 256, (wrap32 (128 + (Int.tmod a0 64))) % 256] : List Int)) (inner := [.int .u8 ((wrap32 (192 + (wrap32 (Int.tdiv a0 64)))) % 256), .int .u8 ((wrap32 (128 + (Int.tmod a0 64))) % 256)]) (ok := fun _ => True) (okp := fun _ => True) ?hr ?hp (fun _ hk => hk) trivial (Below.refl _ _) (Nat.le_refl _) (by simp) ?_; (case hd => rfl); (case hg => rfl); (case hr => first | (go_simp; done) | (go_simp; rfl)); (case hp => exact (Reps.one (show Kd.M (Kd.int .u8) _ _ _ ((wrap32 (192 + (wrap32 (Int.tdiv a0 64)))) % 256) [.int .u8 ((wrap32 (192 + (wrap32 (Int.tdiv a0 64)))) % 256)] from rfl) (Reps.one (show Kd.M (Kd.int .u8) _ _ _ ((wrap32 (128 + (Int.tmod a0 64))) % 256) [.int .u8 ((wrap32 (128 + (Int.tmod a0 64))) % 256)] from rfl) (Reps.none _ _)))); intro v221 w6 ho7 hb hg_ hnew_; clear hg_ hnew_; (first | rw [← Ny220.out] at ho7 | (simp only [Int.reduceToNat] at ho7; rw [← Ny220.out] at ho7)); have n0_ := Aside0.mk (Kd.R_lower ho7 (below_size (by repeat (first | (with_reducible first | exact HB.out | apply below_alloc | apply pw_below_drewN | apply below_drew1) | exact HB.out)))); have n1_ := Aside0.mk (below_step (by repeat (first | (with_reducible first | exact HB.out | apply below_alloc | apply pw_below_drewN | apply below_drew1) | exact HB.out)) hb); clear HB; have HO222 := n0_; have HB := n1_; clear n0_ n1_; clear hb ho7))
      go_ret
      exact ⟨_, by first | rfl | (simp [errW_none, errW_some] <;> rfl) | (simp [*, errW_none, errW_some] <;> rfl), by (with_reducible repeat (first | apply Kd.R_alloc | apply Kd.R_drewN | apply Kd.R_drew)); exact HO222.out, by repeat (first | (with_reducible first | exact HB.out | apply below_alloc | apply pw_below_drewN | apply below_drew1) | exact HB.out)⟩
    · rw [if_neg c5] at H
      have c5b0 : decide (a0 < 2048) = false := decide_eq_false c5
      clear c5
      by_cases c8 : a0 < 65536
      · rw [if_pos c8] at H
        have c8b0 : decide (a0 < 65536) = true := decide_eq_true c8
        clear c8
        obtain ⟨y223, hy223⟩ : ∃ y_ : List Int, y_ = (([(wrap32 (224 + (wrap32 (Int.tdiv a0 4096)))) % 256, (wrap32 (128 + (Int.tmod (wrap32 (Int.tdiv a0 64)) 64))) % 256, (wrap32 (128 + (Int.tmod a0 64))) % 256] : List Int)) := ⟨_, rfl⟩
        replace H : (some y223) = some r := by first | (rw [hy223]; with_reducible exact H) | (have H2_ := (Option.bind_some _ _).symm.trans H; rw [hy223]; with_reducible exact H2_) | (have H2_ := (Option.bind_some _ _).symm.trans H; with_reducible exact H2_) | with_reducible exact H | (rw [hy223]; exact H) | exact H
        have Ny223 := Aside0.mk hy223
        clear hy223
        obtain rfl := Option.some.inj H
        go_enter Tryd.func27, Tryd.ntmps27
        go_wp2_with (first | ((with_reducible refine gate_dst (N := 37) rfl ?_); refine Kd.R_lit (Kd.int .u8) _ 5 ?hg (N := 37) ?hd (xs := ([(wrap32 (224 + (wrap32 (Int.tdiv a0 4096)))) % 256, (wrap32 (128 + (Int.tmod (wrap32 (Int.tdiv a0 64)) 64))) % 256, (wrap32 (128 + (Int.tmod a0 64))) % 256] : List Int)) (inner := [.int .u8 ((wrap32 (224 + (wrap32 (Int.tdiv a0 4096)))) % 256), .int .u8 ((wrap32 (128 + (Int.tmod (wrap32 (Int.tdiv a0 64)) 64))) % 256), .int .u8 ((wrap32 (128 + (Int.tmod a0 64))) % 256)]) (ok := fun _ => True) (okp := fun _ => True) ?hr ?hp (fun _ hk => hk) trivial (Below.refl _ _) (Nat.le_refl _) (by simp) ?_; (case hd => rfl); (case hg => rfl); (case hr => first | (go_simp; done) | (go_simp; rfl)); (case hp => exact (Reps.one (show Kd.M (Kd.int .u8) _ _ _ ((wrap32 (224 + (wrap32 (Int.tdiv a0 4096)))) % 256) [.int .u8 ((wrap32 (224 + (wrap32 (Int.tdiv a0 4096)))) % 256)] from rfl) (Reps.one (show Kd.M (Kd.int .u8) _ _ _ ((wrap32 (128 + (Int.tmod (wrap32 (Int.tdiv a0 64)) 64))) % 256) [.int .u8 ((wrap32 (128 + (Int.tmod (wrap32 (Int.tdiv a0 64)) 64))) % 256)] from rfl) (Reps.one (show Kd.M (Kd.int .u8) _ _ _ ((wrap32 (128 + (Int.tmod a0 64))) % 256) [.int .u8 ((wrap32 (128 + (Int.tmod a0 64))) % 256)] from rfl) (Reps.none _ _))))); intro v224 w9 ho10 hb hg_ hnew_; clear hg_ hnew_; (first | rw [← Ny223.out] at ho10 | (simp only [Int.reduceToNat] at ho10; rw [← Ny223.out] at ho10)); have n0_ := Aside0.mk (Kd.R_lower ho10 (below_size (by repeat (first | (with_reducible first | exact HB.out | apply below_alloc | apply pw_below_drewN | apply below_drew1) | exact HB.out)))); have n1_ := Aside0.mk (below_step (by repeat (first | (with_reducible first | exact HB.out | apply below_alloc | apply pw_below_drewN | apply below_drew1) | exact HB.out)) hb); clear HB; have HO225 := n0_; have HB := n1_; clear n0_ n1_; clear hb ho10))
        go_ret
        exact ⟨_, by first | rfl | (simp [errW_none, errW_some] <;> rfl) | (simp [*, errW_none, errW_some] <;> rfl), by (with_reducible repeat (first | apply Kd.R_alloc | apply Kd.R_drewN | apply Kd.R_drew)); exact HO225.out, by repeat (first | (with_reducible first | exact HB.out | apply below_alloc | apply pw_below_drewN | apply below_drew1) | exact HB.out)⟩
      · rw [if_neg c8] at H
        have c8b0 : decide (a0 < 65536) = false := decide_eq_false c8
        clear c8
        obtain ⟨y226, hy226⟩ : ∃ y_ : List Int, y_ = (([(wrap32 (240 + (wrap32 (Int.tdiv a0 262144)))) % 256, (wrap32 (128 + (Int.tmod (wrap32 (Int.tdiv a0 4096)) 64))) % 256, (wrap32 (128 + (Int.tmod (wrap32 (Int.tdiv a0 64)) 64))) % 256, (wrap32 (128 + (Int.tmod a0 64))) % 256] : List Int)) := ⟨_, rfl⟩
        replace H : (some y226) = some r := by first | (rw [hy226]; with_reducible exact H) | (have H2_ := (Option.bind_some _ _).symm.trans H; rw [hy226]; with_reducible exact H2_) | (have H2_ := (Option.bind_some _ _).symm.trans H; with_reducible exact H2_) | with_reducible exact H | (rw [hy226]; exact H) | exact H
        have Ny226 := Aside0.mk hy226
        clear hy226
        obtain rfl := Option.some.inj H
        go_enter Tryd.func27, Tryd.ntmps27
        go_wp2_with (first | ((with_reducible refine gate_dst (N := 56) rfl ?_); refine Kd.R_lit (Kd.int .u8) _ 5 ?hg (N := 56) ?hd (xs := ([(wrap32 (240 + (wrap32 (Int.tdiv a0 262144)))) % 256, (wrap32 (128 + (Int.tmod (wrap32 (Int.tdiv a0 4096)) 64))) % 256, (wrap32 (128 + (Int.tmod (wrap32 (Int.tdiv a0 64)) 64))) % 256, (wrap32 (128 + (Int.tmod a0 64))) % 256] : List Int)) (inner := [.int .u8 ((wrap32 (240 + (wrap32 (Int.tdiv a0 262144)))) % 256), .int .u8 ((wrap32 (128 + (Int.tmod (wrap32 (Int.tdiv a0 4096)) 64))) % 256), .int .u8 ((wrap32 (128 + (Int.tmod (wrap32 (Int.tdiv a0 64)) 64))) % 256), .int .u8 ((wrap32 (128 + (Int.tmod a0 64))) % 256)]) (ok := fun _ => True) (okp := fun _ => True) ?hr ?hp (fun _ hk => hk) trivial (Below.refl _ _) (Nat.le_refl _) (by simp) ?_; (case hd => rfl); (case hg => rfl); (case hr => first | (go_simp; done) | (go_simp; rfl)); (case hp => exact (Reps.one (show Kd.M (Kd.int .u8) _ _ _ ((wrap32 (240 + (wrap32 (Int.tdiv a0 262144)))) % 256) [.int .u8 ((wrap32 (240 + (wrap32 (Int.tdiv a0 262144)))) % 256)] from rfl) (Reps.one (show Kd.M (Kd.int .u8) _ _ _ ((wrap32 (128 + (Int.tmod (wrap32 (Int.tdiv a0 4096)) 64))) % 256) [.int .u8 ((wrap32 (128 + (Int.tmod (wrap32 (Int.tdiv a0 4096)) 64))) % 256)] from rfl) (Reps.one (show Kd.M (Kd.int .u8) _ _ _ ((wrap32 (128 + (Int.tmod (wrap32 (Int.tdiv a0 64)) 64))) % 256) [.int .u8 ((wrap32 (128 + (Int.tmod (wrap32 (Int.tdiv a0 64)) 64))) % 256)] from rfl) (Reps.one (show Kd.M (Kd.int .u8) _ _ _ ((wrap32 (128 + (Int.tmod a0 64))) % 256) [.int .u8 ((wrap32 (128 + (Int.tmod a0 64))) % 256)] from rfl) (Reps.none _ _)))))); intro v227 w11 ho12 hb hg_ hnew_; clear hg_ hnew_; (first | rw [← Ny226.out] at ho12 | (simp only [Int.reduceToNat] at ho12; rw [← Ny226.out] at ho12)); have n0_ := Aside0.mk (Kd.R_lower ho12 (below_size (by repeat (first | (with_reducible first | exact HB.out | apply below_alloc | apply pw_below_drewN | apply below_drew1) | exact HB.out)))); have n1_ := Aside0.mk (below_step (by repeat (first | (with_reducible first | exact HB.out | apply below_alloc | apply pw_below_drewN | apply below_drew1) | exact HB.out)) hb); clear HB; have HO228 := n0_; have HB := n1_; clear n0_ n1_; clear hb ho12))
        go_ret
        exact ⟨_, by first | rfl | (simp [errW_none, errW_some] <;> rfl) | (simp [*, errW_none, errW_some] <;> rfl), by (with_reducible repeat (first | apply Kd.R_alloc | apply Kd.R_drewN | apply Kd.R_drew)); exact HO228.out, by repeat (first | (with_reducible first | exact HB.out | apply below_alloc | apply pw_below_drewN | apply below_drew1) | exact HB.out)⟩

end Go.Proofs.YtfoakihlbeoebaaDoor.X

/- Printed by a program of this session (wip/xprint.py) over the translation: Go functions as Lean functions, and that the machine's calls come to them. -/
namespace Go.Proofs.YtfoakihlbeoebaaDoor.X
open Go.RowKit Go.Proofs.YtfoakihlbeoebaaDoorW.PrintWords Go.Proofs.YtfoakihlbeoebaaDoorW.PrintLast Go.Proofs.YtfoakihlbeoebaaDoorW.PrintMore
attribute [local go_sem] max2_int min2_int max_two min_two max_three min_three max_four min_four   -- for this text's walks alone
set_option linter.unusedVariables false
set_option linter.unusedSimpArgs false

/-! ### tutorref02_Show: function 15 -/
mutual
def tutorref02_Show.l0 : Nat → List Int → List Int → List Int → Int → Option (ByteArray × Int)
  | 0, _, _, _, _ => none
  | k + 1, x0, x1, x6, x7 => if x7 < (x1.length : Int) then (if 0 ≤ x7 then (if (rd x1 x7) < 0 then (tutorref02_Show.j1 k x0 x1 x6 x7 true) else (tutorref02_Show.j1 k x0 x1 x6 x7 (decide ((rd x1 x7) ≥ (x0.length : Int))))) else (none)) else (some (strOfNums x6, 0))
def tutorref02_Show.j1 : Nat → List Int → List Int → List Int → Int → Bool → Option (ByteArray × Int)
  | 0, _, _, _, _, _ => none
  | k + 1, x0, x1, x6, x7, x28 => if x28 = true then (some ((⟨#[]⟩ : ByteArray), 10)) else (if 0 ≤ x7 then (if x7 < (x1.length : Int) then (if 0 ≤ (rd x1 x7) then (if (rd x1 x7) < (x0.length : Int) then (if (rd x0 (rd x1 x7)) < 0 then (some ((⟨#[]⟩ : ByteArray), 1)) else (if (rd x0 (rd x1 x7)) > 1114111 then (some ((⟨#[]⟩ : ByteArray), 1)) else (if (rd x0 (rd x1 x7)) ≥ 55296 then (if (rd x0 (rd x1 x7)) ≤ 57343 then (some ((⟨#[]⟩ : ByteArray), 1)) else ((tutorref02_put.f (rd x0 (rd x1 x7))).bind fun t233 => (if x6.length + t233.length < 140737488355328 then (tutorref02_Show.l0 k x0 x1 (x6 ++ t233) (wrap64 (x7 + 1))) else (none)))) else ((tutorref02_put.f (rd x0 (rd x1 x7))).bind fun t239 => (if x6.length + t239.length < 140737488355328 then (tutorref02_Show.l0 k x0 x1 (x6 ++ t239) (wrap64 (x7 + 1))) else (none)))))) else (none)) else (none)) else (none)) else (none))
end
def tutorref02_Show.f (k : Nat) (l0 : List Int) (l1 : List Int) : Option (ByteArray × Int) := tutorref02_Show.l0 k l0 l1 ([] : List Int) 0
theorem tutorref02_Show.mono_l : ∀ k, (∀ y0 y1 y2 y3, LeO (tutorref02_Show.l0 k y0 y1 y2 y3) (tutorref02_Show.l0 (k + 1) y0 y1 y2 y3)) ∧ (∀ y0 y1 y2 y3 y4, LeO (tutorref02_Show.j1 k y0 y1 y2 y3 y4) (tutorref02_Show.j1 (k + 1) y0 y1 y2 y3 y4))
  | 0 => ⟨fun _ _ _ _ r h => by simp [tutorref02_Show.l0] at h, fun _ _ _ _ _ r h => by simp [tutorref02_Show.j1] at h⟩
  | k + 1 => by
    obtain ⟨ih0, ih1⟩ := tutorref02_Show.mono_l k
    refine ⟨?_, ?_⟩
    · intro y0 y1 y2 y3
      unfold tutorref02_Show.l0
      repeat' first
      | (with_reducible exact ih0 _ _ _ _)
      | (with_reducible exact ih1 _ _ _ _ _)
      | (with_reducible exact LeO.refl _)
      | (with_reducible exact LeO.none _)
      | (with_reducible refine LeO.ite ?_ ?_)
      | (with_reducible refine LeO.bind ?_ (fun _ => ?_))
      | exact ih0 _ _ _ _
      | exact ih1 _ _ _ _ _
      | exact LeO.none _
      | refine LeO.ite ?_ ?_
      | refine LeO.bind ?_ (fun _ => ?_)
    · intro y0 y1 y2 y3 y4
      unfold tutorref02_Show.j1
      repeat' first
      | (with_reducible exact ih0 _ _ _ _)
      | (with_reducible exact ih1 _ _ _ _ _)
      | (with_reducible exact LeO.refl _)
      | (with_reducible exact LeO.none _)
      | (with_reducible refine LeO.ite ?_ ?_)
      | (with_reducible refine LeO.bind ?_ (fun _ => ?_))
      | exact ih0 _ _ _ _
      | exact ih1 _ _ _ _ _
      | exact LeO.none _
      | refine LeO.ite ?_ ?_
      | refine LeO.bind ?_ (fun _ => ?_)
theorem tutorref02_Show.mono : ∀ a0 a1 k, LeO (tutorref02_Show.f k a0 a1) (tutorref02_Show.f (k + 1) a0 a1) := by
  intro a0 a1 k
  obtain ⟨ih0, ih1⟩ := tutorref02_Show.mono_l k
  unfold tutorref02_Show.f
  repeat' first
      | (with_reducible exact ih0 _ _ _ _)
      | (with_reducible exact ih1 _ _ _ _ _)
      | (with_reducible exact LeO.refl _)
      | (with_reducible exact LeO.none _)
      | (with_reducible refine LeO.ite ?_ ?_)
      | (with_reducible refine LeO.bind ?_ (fun _ => ?_))
      | exact ih0 _ _ _ _
      | exact ih1 _ _ _ _ _
      | exact LeO.none _
      | refine LeO.ite ?_ ?_
      | refine LeO.bind ?_ (fun _ => ?_)
set_option maxHeartbeats 8000000 in
set_option maxRecDepth 100000 in
theorem tutorref02_Show.calls (k : Nat) (A0 : Option Addr) (c0 : Nat) (l0 : List Int) (A1 : Option Addr) (c1 : Nat) (l1 : List Int) (r1 : ByteArray) (r2 : Int) (w : World) (hr0 : Kd.C (Kd.int .i32) w A0 l0.length l0) (hc0 : l0.length ≤ c0) (hr1 : Kd.C (Kd.int .i64) w A1 l1.length l1) (hc1 : l1.length ≤ c1) (h : tutorref02_Show.f k l0 l1 = some (r1, r2)) :
    Calls Tryd.prog 15 #[.slice A0 l0.length c0, .slice A1 l1.length c1] w fun e w' => e = .returned (.tuple #[.string r1, .int .i64 r2]) ∧ Below w.heap.size w w' := by
  have HR0 := Aside0.mk hr0
  have HC0 := Aside0.mk hc0
  clear hr0 hc0
  have HR1 := Aside0.mk hr1
  have HC1 := Aside0.mk hc1
  clear hr1 hc1
  have HB := Aside0.mk (Below.refl w.heap.size w)
  have H : (tutorref02_Show.l0 k l0 l1 ([] : List Int) 0) = some (r1, r2) := h
  clear h
  have H' := Aside0.mk H
  clear H
  go_enter Tryd.func15, Tryd.ntmps15
  go_wp2
  go_loopg [6, 7] k (fun kq v6 v7 w' => ∃ (x6_1 : List Int) (x7_1 : Int), v7 = .int .i64 x7_1 ∧ Aside0 (tutorref02_Show.l0 kq l0 l1 x6_1 x7_1 = some (r1, r2)) ∧ Aside0 (kq ≤ k) ∧ Aside0 (Kd.R (Kd.int .u8) 5 w' w.heap.size (fun _ => True) v6 x6_1) ∧ Aside0 (Below w.heap.size w w'))
  case atStart => exact ⟨(([] : List Int)), (0), (by first | rfl | (simp; done) | (simp [*]; done)), H', ⟨Nat.le_refl _⟩, ⟨by first | exact Kd.R_nil _ _ _ _ _ | exact Kd.N_nil _ _ _ _ _ | exact Kd.V_nil _ _ _ _ _ | exact Kd.Q_nil _ _ _ _ _ | exact Kd.S_nil _ _ _ _ _⟩, ⟨by repeat (first | (with_reducible first | exact HB.out | apply below_alloc | apply pw_below_drewN | apply below_drew1) | exact HB.out)⟩⟩
  case round =>
    clear H'
    try clear c1
    try clear p2
    obtain ⟨x6_1, x7_1, rfl, HA, HK1, HO_6, HB⟩ := hrel
    cases gk with
    | zero => exact absurd HA.out (by simp [tutorref02_Show.l0])
    | succ k1 =>
      have H := HA.out
      clear HA
      simp only [tutorref02_Show.l0] at H
      by_cases c3 : x7_1 < (l1.length : Int)
      · rw [if_pos c3] at H
        have c3b0 : decide (x7_1 < (l1.length : Int)) = true := decide_eq_true c3
        clear c3
        have HC4 := Aside0.mk H
        clear H
        go_upto_region 5 with (fail)
        go_cut [28] (fun v28 wc => ∃ (kq : Nat) (x28_3 : Bool), v28 = .bool x28_3 ∧ Aside0 (tutorref02_Show.j1 kq l0 l1 x6_1 x7_1 x28_3 = some (r1, r2)) ∧ Aside0 (kq ≤ k1) ∧ Aside0 (Kd.R (Kd.int .u8) 5 wc w.heap.size (fun _ => True) u6 x6_1) ∧ Aside0 (Below w.heap.size w wc))
        case first =>
          have H := HC4.out
          clear HC4
          by_cases c5 : 0 ≤ x7_1
          · rw [if_pos c5] at H
            have c5b0 : decide (0 ≤ x7_1) = true := decide_eq_true c5
            clear c5
            (first | rw [c5b0] | (simp only [i64_w, i32_w]; rw [c5b0]) | skip)
            by_cases c6 : (rd l1 x7_1) < 0
            · rw [if_pos c6] at H
              have c6b0 : decide ((rd l1 x7_1) < 0) = true := decide_eq_true c6
              clear c6
              have H' := Aside0.mk H
              clear H
              have p229 : 0 ≤ (x7_1 : Int) := of_decide_eq_true (by first | (with_reducible assumption) | assumption)
              have q229 : x7_1 < (l1.length : Int) := of_decide_eq_true (by first | (with_reducible assumption) | assumption)
              obtain ⟨ad229, e229, hx229_0⟩ := Kd.at_int HR1.out x7_1 p229 q229
              cases e229
              replace hx229_0 := (HB.out.cell (World.block_lt_of_cell? w _ hx229_0)).trans hx229_0
              replace p229 := eq_true p229
              replace q229 := eq_true q229
              go_wp2
              go_meet
              case rel => exact ⟨_, (true), (by first | rfl | (simp; done) | (simp [*]; done)), H', ⟨by have := HK1.out; first | omega | exact Nat.le_refl _⟩, ⟨by (with_reducible repeat (first | apply Kd.R_alloc | apply Kd.R_drewN | apply Kd.R_drew)); exact HO_6.out⟩, ⟨by repeat (first | (with_reducible first | exact HB.out | apply below_alloc | apply pw_below_drewN | apply below_drew1) | exact HB.out)⟩⟩
            · rw [if_neg c6] at H
              have c6b0 : decide ((rd l1 x7_1) < 0) = false := decide_eq_false c6
              clear c6
              have H' := Aside0.mk H
              clear H
              have p229 : 0 ≤ (x7_1 : Int) := of_decide_eq_true (by first | (with_reducible assumption) | assumption)
              have q229 : x7_1 < (l1.length : Int) := of_decide_eq_true (by first | (with_reducible assumption) | assumption)
              obtain ⟨ad229, e229, hx229_0⟩ := Kd.at_int HR1.out x7_1 p229 q229
              cases e229
              replace hx229_0 := (HB.out.cell (World.block_lt_of_cell? w _ hx229_0)).trans hx229_0
              replace p229 := eq_true p229
              replace q229 := eq_true q229
              have p230 : 0 ≤ (x7_1 : Int) := of_decide_eq_true (by first | (with_reducible assumption) | assumption)
              have q230 : x7_1 < (l1.length : Int) := of_decide_eq_true (by first | (with_reducible assumption) | assumption)
              obtain ⟨ad230, e230, hx230_0⟩ := Kd.at_int HR1.out x7_1 p230 q230
              obtain rfl : ad229 = ad230 := (by injection e230)
              replace hx230_0 := (HB.out.cell (World.block_lt_of_cell? w _ hx230_0)).trans hx230_0
              replace p230 := eq_true p230
              replace q230 := eq_true q230
              go_wp2
              go_meet
              case rel => exact ⟨_, (decide ((rd l1 x7_1) ≥ (l0.length : Int))), (by first | rfl | (simp; done) | (simp [*]; done)), H', ⟨by have := HK1.out; first | omega | exact Nat.le_refl _⟩, ⟨by (with_reducible repeat (first | apply Kd.R_alloc | apply Kd.R_drewN | apply Kd.R_drew)); exact HO_6.out⟩, ⟨by repeat (first | (with_reducible first | exact HB.out | apply below_alloc | apply pw_below_drewN | apply below_drew1) | exact HB.out)⟩⟩
          · rw [if_neg c5] at H
            exact absurd H (by simp)
        case rest =>
          clear HC4
          try clear c1
          try clear p2
          try clear q2
          try clear hx2
          try clear c3
          try clear c3b0
          try clear c5
          try clear c5b0
          try clear c6
          try clear c6b0
          try clear hx229_0
          try clear hx230_0
          try clear p2
          try clear p229
          try clear p230
          try clear q229
          try clear q230
          obtain ⟨kq, x28_3, rfl, HA, HJ3, HO_6, HB⟩ := hcut
          cases kq with
          | zero => exact absurd HA.out (by simp [tutorref02_Show.j1])
          | succ kj3 =>
            have H := HA.out
            clear HA
            simp only [tutorref02_Show.j1] at H
            by_cases c7 : x28_3 = true
            · subst c7
              have H1 : (some ((⟨#[]⟩ : ByteArray), 10)) = some (r1, r2) := by rw [if_pos rfl] at H; exact H
              clear H
              have H := H1
              clear H1
              simp only [Option.some.injEq, Prod.mk.injEq] at H
              obtain ⟨rfl, rfl⟩ := H
              go_wp2
              go_ret2
              exact ⟨by first | rfl | (simp [errW_none, errW_some] <;> rfl) | (simp [*, errW_none, errW_some] <;> rfl), by repeat (first | (with_reducible first | exact HB.out | apply below_alloc | apply pw_below_drewN | apply below_drew1) | exact HB.out)⟩
            · replace c7 := Bool.eq_false_iff.mpr c7
              subst c7
              have H1 : (if 0 ≤ x7_1 then (if x7_1 < (l1.length : Int) then (if 0 ≤ (rd l1 x7_1) then (if (rd l1 x7_1) < (l0.length : Int) then (if (rd l0 (rd l1 x7_1)) < 0 then (some ((⟨#[]⟩ : ByteArray), 1)) else (if (rd l0 (rd l1 x7_1)) > 1114111 then (some ((⟨#[]⟩ : ByteArray), 1)) else (if (rd l0 (rd l1 x7_1)) ≥ 55296 then (if (rd l0 (rd l1 x7_1)) ≤ 57343 then (some ((⟨#[]⟩ : ByteArray), 1)) else ((tutorref02_put.f (rd l0 (rd l1 x7_1))).bind fun t233 => (if x6_1.length + t233.length < 140737488355328 then (tutorref02_Show.l0 kj3 l0 l1 (x6_1 ++ t233) (wrap64 (x7_1 + 1))) else (none)))) else ((tutorref02_put.f (rd l0 (rd l1 x7_1))).bind fun t239 => (if x6_1.length + t239.length < 140737488355328 then (tutorref02_Show.l0 kj3 l0 l1 (x6_1 ++ t239) (wrap64 (x7_1 + 1))) else (none)))))) else (none)) else (none)) else (none)) else (none)) = some (r1, r2) := by rw [if_neg (show ¬ (false = true) by decide)] at H; exact H
              clear H
              have H := H1
              clear H1
              by_cases c8 : 0 ≤ x7_1
              · rw [if_pos c8] at H
                have c8b0 : decide (0 ≤ x7_1) = true := decide_eq_true c8
                clear c8
                by_cases c9 : x7_1 < (l1.length : Int)
                · rw [if_pos c9] at H
                  have c9b0 : decide (x7_1 < (l1.length : Int)) = true := decide_eq_true c9
                  clear c9
                  by_cases c10 : 0 ≤ (rd l1 x7_1)
                  · rw [if_pos c10] at H
                    have c10b0 : decide (0 ≤ (rd l1 x7_1)) = true := decide_eq_true c10
                    clear c10
                    by_cases c11 : (rd l1 x7_1) < (l0.length : Int)
                    · rw [if_pos c11] at H
                      have c11b0 : decide ((rd l1 x7_1) < (l0.length : Int)) = true := decide_eq_true c11
                      clear c11
                      by_cases c12 : (rd l0 (rd l1 x7_1)) < 0
                      · rw [if_pos c12] at H
                        have c12b0 : decide ((rd l0 (rd l1 x7_1)) < 0) = true := decide_eq_true c12
                        clear c12
                        simp only [Option.some.injEq, Prod.mk.injEq] at H
                        obtain ⟨rfl, rfl⟩ := H
                        have p231 : 0 ≤ (x7_1 : Int) := of_decide_eq_true (by first | (with_reducible assumption) | assumption)
                        have q231 : x7_1 < (l1.length : Int) := of_decide_eq_true (by first | (with_reducible assumption) | assumption)
                        obtain ⟨ad231, e231, hx231_0⟩ := Kd.at_int HR1.out x7_1 p231 q231
                        cases e231
                        replace hx231_0 := (HB.out.cell (World.block_lt_of_cell? w _ hx231_0)).trans hx231_0
                        replace p231 := eq_true p231
                        replace q231 := eq_true q231
                        have p232 : 0 ≤ ((rd l1 x7_1) : Int) := of_decide_eq_true (by first | (with_reducible assumption) | assumption)
                        have q232 : (rd l1 x7_1) < (l0.length : Int) := of_decide_eq_true (by first | (with_reducible assumption) | assumption)
                        obtain ⟨ad232, e232, hx232_0⟩ := Kd.at_int HR0.out (rd l1 x7_1) p232 q232
                        cases e232
                        replace hx232_0 := (HB.out.cell (World.block_lt_of_cell? w _ hx232_0)).trans hx232_0
                        replace p232 := eq_true p232
                        replace q232 := eq_true q232
                        go_wp2
                        go_ret2
                        exact ⟨by first | rfl | (simp [errW_none, errW_some] <;> rfl) | (simp [*, errW_none, errW_some] <;> rfl), by repeat (first | (with_reducible first | exact HB.out | apply below_alloc | apply pw_below_drewN | apply below_drew1) | exact HB.out)⟩
                      · rw [if_neg c12] at H
                        have c12b0 : decide ((rd l0 (rd l1 x7_1)) < 0) = false := decide_eq_false c12
                        clear c12
                        by_cases c13 : (rd l0 (rd l1 x7_1)) > 1114111
                        · rw [if_pos c13] at H
                          have c13b0 : decide (1114111 < (rd l0 (rd l1 x7_1))) = true := decide_eq_true c13
                          clear c13
                          simp only [Option.some.injEq, Prod.mk.injEq] at H
                          obtain ⟨rfl, rfl⟩ := H
                          have p231 : 0 ≤ (x7_1 : Int) := of_decide_eq_true (by first | (with_reducible assumption) | assumption)
                          have q231 : x7_1 < (l1.length : Int) := of_decide_eq_true (by first | (with_reducible assumption) | assumption)
                          obtain ⟨ad231, e231, hx231_0⟩ := Kd.at_int HR1.out x7_1 p231 q231
                          cases e231
                          replace hx231_0 := (HB.out.cell (World.block_lt_of_cell? w _ hx231_0)).trans hx231_0
                          replace p231 := eq_true p231
                          replace q231 := eq_true q231
                          have p232 : 0 ≤ ((rd l1 x7_1) : Int) := of_decide_eq_true (by first | (with_reducible assumption) | assumption)
                          have q232 : (rd l1 x7_1) < (l0.length : Int) := of_decide_eq_true (by first | (with_reducible assumption) | assumption)
                          obtain ⟨ad232, e232, hx232_0⟩ := Kd.at_int HR0.out (rd l1 x7_1) p232 q232
                          cases e232
                          replace hx232_0 := (HB.out.cell (World.block_lt_of_cell? w _ hx232_0)).trans hx232_0
                          replace p232 := eq_true p232
                          replace q232 := eq_true q232
                          go_wp2
                          go_ret2
                          exact ⟨by first | rfl | (simp [errW_none, errW_some] <;> rfl) | (simp [*, errW_none, errW_some] <;> rfl), by repeat (first | (with_reducible first | exact HB.out | apply below_alloc | apply pw_below_drewN | apply below_drew1) | exact HB.out)⟩
                        · rw [if_neg c13] at H
                          have c13b0 : decide (1114111 < (rd l0 (rd l1 x7_1))) = false := decide_eq_false c13
                          clear c13
                          by_cases c14 : (rd l0 (rd l1 x7_1)) ≥ 55296
                          · rw [if_pos c14] at H
                            have c14b0 : decide (55296 ≤ (rd l0 (rd l1 x7_1))) = true := decide_eq_true c14
                            clear c14
                            by_cases c15 : (rd l0 (rd l1 x7_1)) ≤ 57343
                            · rw [if_pos c15] at H
                              have c15b0 : decide ((rd l0 (rd l1 x7_1)) ≤ 57343) = true := decide_eq_true c15
                              clear c15
                              simp only [Option.some.injEq, Prod.mk.injEq] at H
                              obtain ⟨rfl, rfl⟩ := H
                              have p231 : 0 ≤ (x7_1 : Int) := of_decide_eq_true (by first | (with_reducible assumption) | assumption)
                              have q231 : x7_1 < (l1.length : Int) := of_decide_eq_true (by first | (with_reducible assumption) | assumption)
                              obtain ⟨ad231, e231, hx231_0⟩ := Kd.at_int HR1.out x7_1 p231 q231
                              cases e231
                              replace hx231_0 := (HB.out.cell (World.block_lt_of_cell? w _ hx231_0)).trans hx231_0
                              replace p231 := eq_true p231
                              replace q231 := eq_true q231
                              have p232 : 0 ≤ ((rd l1 x7_1) : Int) := of_decide_eq_true (by first | (with_reducible assumption) | assumption)
                              have q232 : (rd l1 x7_1) < (l0.length : Int) := of_decide_eq_true (by first | (with_reducible assumption) | assumption)
                              obtain ⟨ad232, e232, hx232_0⟩ := Kd.at_int HR0.out (rd l1 x7_1) p232 q232
                              cases e232
                              replace hx232_0 := (HB.out.cell (World.block_lt_of_cell? w _ hx232_0)).trans hx232_0
                              replace p232 := eq_true p232
                              replace q232 := eq_true q232
                              go_wp2
                              go_ret2
                              exact ⟨by first | rfl | (simp [errW_none, errW_some] <;> rfl) | (simp [*, errW_none, errW_some] <;> rfl), by repeat (first | (with_reducible first | exact HB.out | apply below_alloc | apply pw_below_drewN | apply below_drew1) | exact HB.out)⟩
                            · rw [if_neg c15] at H
                              have c15b0 : decide ((rd l0 (rd l1 x7_1)) ≤ 57343) = false := decide_eq_false c15
                              clear c15
                              replace H := Option.bind_eq_some_iff.mp H
                              obtain ⟨t233, A160, H⟩ := H
                              replace H : (if x6_1.length + t233.length < 140737488355328 then (tutorref02_Show.l0 kj3 l0 l1 (x6_1 ++ t233) (wrap64 (x7_1 + 1))) else (none)) = some (r1, r2) := H
                              have A16 := Aside0.mk A160
                              clear A160
                              by_cases c17 : x6_1.length + t233.length < 140737488355328
                              · rw [if_pos c17] at H
                                have LMc17 := Aside0.mk c17
                                clear c17
                                obtain ⟨y236, hy236⟩ : ∃ y_ : List Int, y_ = (x6_1 ++ t233) := ⟨_, rfl⟩
                                replace H : (tutorref02_Show.l0 kj3 l0 l1 y236 (wrap64 (x7_1 + 1))) = some (r1, r2) := by first | (rw [hy236]; with_reducible exact H) | (have H2_ := (Option.bind_some _ _).symm.trans H; rw [hy236]; with_reducible exact H2_) | (have H2_ := (Option.bind_some _ _).symm.trans H; with_reducible exact H2_) | with_reducible exact H | (rw [hy236]; exact H) | exact H
                                have Ny236 := Aside0.mk hy236
                                clear hy236
                                have H' := Aside0.mk H
                                clear H
                                have p231 : 0 ≤ (x7_1 : Int) := of_decide_eq_true (by first | (with_reducible assumption) | assumption)
                                have q231 : x7_1 < (l1.length : Int) := of_decide_eq_true (by first | (with_reducible assumption) | assumption)
                                obtain ⟨ad231, e231, hx231_0⟩ := Kd.at_int HR1.out x7_1 p231 q231
                                cases e231
                                replace hx231_0 := (HB.out.cell (World.block_lt_of_cell? w _ hx231_0)).trans hx231_0
                                replace p231 := eq_true p231
                                replace q231 := eq_true q231
                                have p232 : 0 ≤ ((rd l1 x7_1) : Int) := of_decide_eq_true (by first | (with_reducible assumption) | assumption)
                                have q232 : (rd l1 x7_1) < (l0.length : Int) := of_decide_eq_true (by first | (with_reducible assumption) | assumption)
                                obtain ⟨ad232, e232, hx232_0⟩ := Kd.at_int HR0.out (rd l1 x7_1) p232 q232
                                cases e232
                                replace hx232_0 := (HB.out.cell (World.block_lt_of_cell? w _ hx232_0)).trans hx232_0
                                replace p232 := eq_true p232
                                replace q232 := eq_true q232
                                go_wp2_with (first | ((with_reducible refine gate_callee (f := 27) rfl ?_); refine goesL_ (some 52) rfl rfl Tryd.func27 (by kernel_rfl) rfl #[.int .i32 (rd l0 (rd l1 x7_1))] rfl (by (try simp only [List.map_toArray, List.map_cons, List.map_nil]); first | done | rfl | (simp only [List.length_drop, List.length_take]; rfl)) ?_; (with_reducible refine (tutorref02_put.calls (rd l0 (rd l1 x7_1)) t233 _ A16.out).mono ?_); rintro e w18 ⟨v234, rfl, ho0, hb⟩; refine ⟨_, rfl, ?_⟩; have n0_ := Aside0.mk (Kd.R_elder' (by (with_reducible repeat (first | apply Kd.R_alloc | apply Kd.R_drewN | apply Kd.R_drew)); exact HO_6.out) (Kd.R_base ho0) hb); have n1_ := Aside0.mk (Kd.R_lower (Kd.R_new' ho0 (Kd.R_lt (by (with_reducible repeat (first | apply Kd.R_alloc | apply Kd.R_drewN | apply Kd.R_drew)); exact HO_6.out))) (below_size (by repeat (first | (with_reducible first | exact HB.out | apply below_alloc | apply pw_below_drewN | apply below_drew1) | exact HB.out)))); have n2_ := Aside0.mk (below_step (by repeat (first | (with_reducible first | exact HB.out | apply below_alloc | apply pw_below_drewN | apply below_drew1) | exact HB.out)) hb); clear HO_6; clear HB; have HO_6 := n0_; have HO235 := n1_; have HB := n2_; clear n0_ n1_ n2_; (try clear hb); (try clear hb2); (try clear hk); (try clear hi); (try clear ho0); obtain ⟨Ao20, co20, eo20⟩ := Kd.R_slice HO235.out; subst eo20) | ((with_reducible refine gate_builtin (b := .append) (xs := #[.tmp 50, .tmp 52]) rfl ?_); (try (refine gate_guard (by rfl) ?_; dsimp only)); at_builtin; refine Kd.R_append_rows (Kd.int .u8) (w0 := w) w.heap.size rfl (.tmp 50) (.tmp 52) 51 5 (.int .u8 0) 1 rfl Tryd.underlying51 info5 rfl (by decide) (by omega) u6 x6_1 t233 _ _ _ (fun k_ => some k_ ≠ (.slice Ao20 t233.length co20 : Value).ownBlock) (fun _ => False) rfl rfl ?aO ?aR (fun _ _ h => h) (fun _ h => h.elim) ?aF ?aB ?aS ?aL ?_; (case aR => repeat (first | exact (Kd.R_reads' HO235.out).2.2 | (with_reducible refine Kd.C_alloc ?_ _) | (with_reducible refine Kd.C_drewN ?_ _) | (with_reducible refine Kd.C_drew ?_))); (case aB => exact (by repeat (first | (with_reducible first | exact HB.out | apply below_alloc | apply pw_below_drewN | apply below_drew1) | exact HB.out))); (case aF => exact (fun k_ hk => Kd.fresh' (Kd.R_lt (by (with_reducible repeat (first | apply Kd.R_alloc | apply Kd.R_drewN | apply Kd.R_drew)); exact HO235.out)) k_ hk)); (case aO => exact (by (with_reducible repeat (first | apply Kd.R_alloc | apply Kd.R_drewN | apply Kd.R_drew)); exact Kd.R_mono HO_6.out (fun _ hk => hk.2))); (case aS => exact (below_size (by repeat (first | (with_reducible first | exact HB.out | apply below_alloc | apply pw_below_drewN | apply below_drew1) | exact HB.out)))); (case aL => have := LMc17.out; omega); intro v237 w19 ho hb hg hat; rw [← Ny236.out] at ho; have n0_ := Aside0.mk (Kd.R_after (ok := (fun _ => True)) (by (with_reducible repeat (first | apply Kd.R_alloc | apply Kd.R_drewN | apply Kd.R_drew)); exact HO235.out) hg hat); have n1_ := Aside0.mk (hb); have n2_ := Aside0.mk (ho); clear HO235; clear HB; clear HO_6; have HO235 := n0_; have HB := n1_; have HO238 := n2_; clear n0_ n1_ n2_; clear ho hb hg hat))
                                go_roundg kj3
                                case measure => have := HK1.out; have := HJ3.out; omega
                                case rel => exact ⟨(y236), (wrap64 (x7_1 + 1)), (by first | rfl | (simp; done) | (simp [*]; done)), H', ⟨by have := HK1.out; have := HJ3.out; omega⟩, ⟨by (with_reducible repeat (first | apply Kd.R_alloc | apply Kd.R_drewN | apply Kd.R_drew)); exact Kd.R_mono HO238.out (fun _ hk => trivial)⟩, ⟨by repeat (first | (with_reducible first | exact HB.out | apply below_alloc | apply pw_below_drewN | apply below_drew1) | exact HB.out)⟩⟩
                              · rw [if_neg c17] at H
                                exact absurd H (by simp)
                          · rw [if_neg c14] at H
                            have c14b0 : decide (55296 ≤ (rd l0 (rd l1 x7_1))) = false := decide_eq_false c14
                            clear c14
                            replace H := Option.bind_eq_some_iff.mp H
                            obtain ⟨t239, A210, H⟩ := H
                            replace H : (if x6_1.length + t239.length < 140737488355328 then (tutorref02_Show.l0 kj3 l0 l1 (x6_1 ++ t239) (wrap64 (x7_1 + 1))) else (none)) = some (r1, r2) := H
                            have A21 := Aside0.mk A210
                            clear A210
                            by_cases c22 : x6_1.length + t239.length < 140737488355328
                            · rw [if_pos c22] at H
                              have LMc22 := Aside0.mk c22
                              clear c22
                              obtain ⟨y242, hy242⟩ : ∃ y_ : List Int, y_ = (x6_1 ++ t239) := ⟨_, rfl⟩
                              replace H : (tutorref02_Show.l0 kj3 l0 l1 y242 (wrap64 (x7_1 + 1))) = some (r1, r2) := by first | (rw [hy242]; with_reducible exact H) | (have H2_ := (Option.bind_some _ _).symm.trans H; rw [hy242]; with_reducible exact H2_) | (have H2_ := (Option.bind_some _ _).symm.trans H; with_reducible exact H2_) | with_reducible exact H | (rw [hy242]; exact H) | exact H
                              have Ny242 := Aside0.mk hy242
                              clear hy242
                              have H' := Aside0.mk H
                              clear H
                              have p231 : 0 ≤ (x7_1 : Int) := of_decide_eq_true (by first | (with_reducible assumption) | assumption)
                              have q231 : x7_1 < (l1.length : Int) := of_decide_eq_true (by first | (with_reducible assumption) | assumption)
                              obtain ⟨ad231, e231, hx231_0⟩ := Kd.at_int HR1.out x7_1 p231 q231
                              cases e231
                              replace hx231_0 := (HB.out.cell (World.block_lt_of_cell? w _ hx231_0)).trans hx231_0
                              replace p231 := eq_true p231
                              replace q231 := eq_true q231
                              have p232 : 0 ≤ ((rd l1 x7_1) : Int) := of_decide_eq_true (by first | (with_reducible assumption) | assumption)
                              have q232 : (rd l1 x7_1) < (l0.length : Int) := of_decide_eq_true (by first | (with_reducible assumption) | assumption)
                              obtain ⟨ad232, e232, hx232_0⟩ := Kd.at_int HR0.out (rd l1 x7_1) p232 q232
                              cases e232
                              replace hx232_0 := (HB.out.cell (World.block_lt_of_cell? w _ hx232_0)).trans hx232_0
                              replace p232 := eq_true p232
                              replace q232 := eq_true q232
                              go_wp2_with (first | ((with_reducible refine gate_callee (f := 27) rfl ?_); refine goesL_ (some 52) rfl rfl Tryd.func27 (by kernel_rfl) rfl #[.int .i32 (rd l0 (rd l1 x7_1))] rfl (by (try simp only [List.map_toArray, List.map_cons, List.map_nil]); first | done | rfl | (simp only [List.length_drop, List.length_take]; rfl)) ?_; (with_reducible refine (tutorref02_put.calls (rd l0 (rd l1 x7_1)) t239 _ A21.out).mono ?_); rintro e w23 ⟨v240, rfl, ho0, hb⟩; refine ⟨_, rfl, ?_⟩; have n0_ := Aside0.mk (Kd.R_elder' (by (with_reducible repeat (first | apply Kd.R_alloc | apply Kd.R_drewN | apply Kd.R_drew)); exact HO_6.out) (Kd.R_base ho0) hb); have n1_ := Aside0.mk (Kd.R_lower (Kd.R_new' ho0 (Kd.R_lt (by (with_reducible repeat (first | apply Kd.R_alloc | apply Kd.R_drewN | apply Kd.R_drew)); exact HO_6.out))) (below_size (by repeat (first | (with_reducible first | exact HB.out | apply below_alloc | apply pw_below_drewN | apply below_drew1) | exact HB.out)))); have n2_ := Aside0.mk (below_step (by repeat (first | (with_reducible first | exact HB.out | apply below_alloc | apply pw_below_drewN | apply below_drew1) | exact HB.out)) hb); clear HO_6; clear HB; have HO_6 := n0_; have HO241 := n1_; have HB := n2_; clear n0_ n1_ n2_; (try clear hb); (try clear hb2); (try clear hk); (try clear hi); (try clear ho0); obtain ⟨Ao25, co25, eo25⟩ := Kd.R_slice HO241.out; subst eo25) | ((with_reducible refine gate_builtin (b := .append) (xs := #[.tmp 50, .tmp 52]) rfl ?_); (try (refine gate_guard (by rfl) ?_; dsimp only)); at_builtin; refine Kd.R_append_rows (Kd.int .u8) (w0 := w) w.heap.size rfl (.tmp 50) (.tmp 52) 51 5 (.int .u8 0) 1 rfl Tryd.underlying51 info5 rfl (by decide) (by omega) u6 x6_1 t239 _ _ _ (fun k_ => some k_ ≠ (.slice Ao25 t239.length co25 : Value).ownBlock) (fun _ => False) rfl rfl ?aO ?aR (fun _ _ h => h) (fun _ h => h.elim) ?aF ?aB ?aS ?aL ?_; (case aR => repeat (first | exact (Kd.R_reads' HO241.out).2.2 | (with_reducible refine Kd.C_alloc ?_ _) | (with_reducible refine Kd.C_drewN ?_ _) | (with_reducible refine Kd.C_drew ?_))); (case aB => exact (by repeat (first | (with_reducible first | exact HB.out | apply below_alloc | apply pw_below_drewN | apply below_drew1) | exact HB.out))); (case aF => exact (fun k_ hk => Kd.fresh' (Kd.R_lt (by (with_reducible repeat (first | apply Kd.R_alloc | apply Kd.R_drewN | apply Kd.R_drew)); exact HO241.out)) k_ hk)); (case aO => exact (by (with_reducible repeat (first | apply Kd.R_alloc | apply Kd.R_drewN | apply Kd.R_drew)); exact Kd.R_mono HO_6.out (fun _ hk => hk.2))); (case aS => exact (below_size (by repeat (first | (with_reducible first | exact HB.out | apply below_alloc | apply pw_below_drewN | apply below_drew1) | exact HB.out)))); (case aL => have := LMc22.out; omega); intro v243 w24 ho hb hg hat; rw [← Ny242.out] at ho; have n0_ := Aside0.mk (Kd.R_after (ok := (fun _ => True)) (by (with_reducible repeat (first | apply Kd.R_alloc | apply Kd.R_drewN | apply Kd.R_drew)); exact HO241.out) hg hat); have n1_ := Aside0.mk (hb); have n2_ := Aside0.mk (ho); clear HO241; clear HB; clear HO_6; have HO241 := n0_; have HB := n1_; have HO244 := n2_; clear n0_ n1_ n2_; clear ho hb hg hat))
                              go_roundg kj3
                              case measure => have := HK1.out; have := HJ3.out; omega
                              case rel => exact ⟨(y242), (wrap64 (x7_1 + 1)), (by first | rfl | (simp; done) | (simp [*]; done)), H', ⟨by have := HK1.out; have := HJ3.out; omega⟩, ⟨by (with_reducible repeat (first | apply Kd.R_alloc | apply Kd.R_drewN | apply Kd.R_drew)); exact Kd.R_mono HO244.out (fun _ hk => trivial)⟩, ⟨by repeat (first | (with_reducible first | exact HB.out | apply below_alloc | apply pw_below_drewN | apply below_drew1) | exact HB.out)⟩⟩
                            · rw [if_neg c22] at H
                              exact absurd H (by simp)
                    · rw [if_neg c11] at H
                      exact absurd H (by simp)
                  · rw [if_neg c10] at H
                    exact absurd H (by simp)
                · rw [if_neg c9] at H
                  exact absurd H (by simp)
              · rw [if_neg c8] at H
                exact absurd H (by simp)
      · rw [if_neg c3] at H
        have c3b0 : decide (x7_1 < (l1.length : Int)) = false := decide_eq_false c3
        clear c3
        simp only [Option.some.injEq, Prod.mk.injEq] at H
        obtain ⟨rfl, rfl⟩ := H
        have hcv26 := own_string (P := Tryd.prog) Tryd.underlying51 Tryd.underlying5 Tryd.underlying9 (Kd.own_of_R HO_6.out)
        go_wp2
        go_ret2
        exact ⟨by first | rfl | (simp [errW_none, errW_some] <;> rfl) | (simp [*, errW_none, errW_some] <;> rfl), by repeat (first | (with_reducible first | exact HB.out | apply below_alloc | apply pw_below_drewN | apply below_drew1) | exact HB.out)⟩

end Go.Proofs.YtfoakihlbeoebaaDoor.X

/- Plain law: the document's Show tells what glyph.Show tells. -/
namespace Go.Proofs.YtfoakihlbeoebaaDoor.X
open Go.RowKit Go.Proofs.YtfoakihlbeoebaaDoorW.PrintWords Go.Proofs.YtfoakihlbeoebaaDoorW.PrintLast
theorem put_ev (c : Int) (h0 : 0 ≤ c) (h1 : c ≤ 1114111) (h2 : ¬ (55296 ≤ c ∧ c ≤ 57343)) : tutorref02_put.f c = some (Lib.encodeRuneZ c) := by
  unfold tutorref02_put.f
  rw [Int.tdiv_eq_ediv_of_nonneg h0, Int.tdiv_eq_ediv_of_nonneg h0, Int.tdiv_eq_ediv_of_nonneg h0, Int.tmod_eq_emod_of_nonneg h0, wrap32_id (x := c / 64) (by omega) (by omega), wrap32_id (x := c / 4096) (by omega) (by omega), wrap32_id (x := c / 262144) (by omega) (by omega),
    Int.tmod_eq_emod_of_nonneg (a := c / 64) (by omega), Int.tmod_eq_emod_of_nonneg (a := c / 4096) (by omega),
    wrap32_id (x := 192 + c / 64) (by omega) (by omega), wrap32_id (x := 128 + c % 64) (by omega) (by omega), wrap32_id (x := 224 + c / 4096) (by omega) (by omega), wrap32_id (x := 128 + c / 64 % 64) (by omega) (by omega), wrap32_id (x := 240 + c / 262144) (by omega) (by omega), wrap32_id (x := 128 + c / 4096 % 64) (by omega) (by omega)]
  by_cases c1 : c < 128
  · rw [if_pos c1, Lib.encodeRuneZ_one h0 (by omega), show c % 256 = c by omega]
  · rw [if_neg c1]
    by_cases c2 : c < 2048
    · rw [if_pos c2, Lib.encodeRuneZ_two (by omega) (by omega), show (192 + c / 64) % 256 = 192 + c / 64 by omega, show (128 + c % 64) % 256 = 128 + c % 64 by omega]
    · rw [if_neg c2]
      by_cases c3 : c < 65536
      · rw [if_pos c3, Lib.encodeRuneZ_three (by omega), show (224 + c / 4096) % 256 = 224 + c / 4096 by omega, show (128 + c / 64 % 64) % 256 = 128 + c / 64 % 64 by omega, show (128 + c % 64) % 256 = 128 + c % 64 by omega]
      · rw [if_neg c3, Lib.encodeRuneZ_four (by omega) (by omega), show (240 + c / 262144) % 256 = 240 + c / 262144 by omega, show (128 + c / 4096 % 64) % 256 = 128 + c / 4096 % 64 by omega, show (128 + c / 64 % 64) % 256 = 128 + c / 64 % 64 by omega, show (128 + c % 64) % 256 = 128 + c % 64 by omega]
theorem Show_ref (l0 l1 : List Int) (hl : l1.length ≤ 20000) : ∀ d i, i + d = l1.length → ∀ A : List Int, A.length ≤ 4 * i → ∀ K, 2 * d + 3 ≤ K → tutorref02_Show.l0 K l0 l1 A (i : Int) = some (glyph_Show.go l0 (l1.drop i) A) := by
  intro d
  induction d with
  | zero =>
    intro i hi A hA K hK
    obtain ⟨K, rfl⟩ : ∃ m, K = m + 1 := ⟨K - 1, by omega⟩
    simp only [tutorref02_Show.l0]
    rw [if_neg (by omega), List.drop_of_length_le (by omega)]
    rfl
  | succ d ih =>
    intro i hi A hA K hK
    obtain ⟨K, rfl⟩ : ∃ m, K = m + 2 := ⟨K - 2, by omega⟩
    rw [show K + 2 = (K + 1) + 1 from rfl]
    simp only [tutorref02_Show.l0]
    have hd : l1.drop i = l1[i]'(by omega) :: l1.drop (i + 1) := (List.drop_eq_getElem_cons (by omega))
    rw [if_pos (by omega), if_pos (by omega), hd, ← rd_at l1 i (by omega)]
    simp only [glyph_Show.go]
    generalize hx : rd l1 (i : Int) = x
    by_cases c1 : x < 0
    · rw [if_pos c1, if_pos c1]; simp only [tutorref02_Show.j1]; rw [if_pos trivial]
    · rw [if_neg c1, if_neg c1]
      by_cases c2 : x ≥ (l0.length : Int)
      · rw [if_pos c2, decide_eq_true c2]; simp only [tutorref02_Show.j1]; rw [if_pos trivial]
      · rw [if_neg c2, decide_eq_false c2]
        simp only [tutorref02_Show.j1]
        rw [if_neg (by simp), if_pos (by omega), if_pos (by omega), hx, if_pos (by omega), if_pos (by omega)]
        generalize rd l0 x = c
        have hv : Lib.validRune c = decide ((0 ≤ c ∧ c < 55296) ∨ (57343 < c ∧ c ≤ 1114111)) := rfl
        have hlen := encode_len c
        have hnext : ∀ hp : tutorref02_put.f c = some (Lib.encodeRuneZ c), ((tutorref02_put.f c).bind fun t => if A.length + t.length < 140737488355328 then tutorref02_Show.l0 K l0 l1 (A ++ t) (wrap64 ((i : Int) + 1)) else none) = some (glyph_Show.go l0 (l1.drop (i + 1)) (A ++ Lib.encodeRuneZ c)) := by
          intro hp
          rw [hp]
          simp only [Option.bind_some]
          rw [if_pos (by omega), wrap64_id (by omega) (by omega)]
          have := ih (i + 1) (by omega) (A ++ Lib.encodeRuneZ c) (by simp; omega) K (by omega)
          rw [← this]
          rfl
        by_cases c3 : c < 0
        · rw [if_pos c3, hv, decide_eq_false (by omega)]; rfl
        · rw [if_neg c3]
          by_cases c4 : c > 1114111
          · rw [if_pos c4, hv, decide_eq_false (by omega)]; rfl
          · rw [if_neg c4]
            by_cases c5 : c ≥ 55296
            · rw [if_pos c5]
              by_cases c6 : c ≤ 57343
              · rw [if_pos c6, hv, decide_eq_false (by omega)]; rfl
              · rw [if_neg c6, hv, decide_eq_true (by omega), if_pos rfl]
                exact hnext (put_ev c (by omega) (by omega) (by omega))
            · rw [if_neg c5, hv, decide_eq_true (by omega), if_pos rfl]
              exact hnext (put_ev c (by omega) (by omega) (by omega))
theorem Show_both (l0 l1 : List Int) (hl : l1.length ≤ 20000) : ∃ a e, glyph_Show.f l0 l1 = some (a, e) ∧ tutorref02_Show.f 50000 l0 l1 = some (a, e) := by
  refine ⟨(glyph_Show.go l0 l1 []).1, (glyph_Show.go l0 l1 []).2, ?_, ?_⟩
  · unfold glyph_Show.f
    rw [if_pos (by omega)]
  · unfold tutorref02_Show.f
    exact Show_ref l0 l1 hl l1.length 0 (by omega) [] (by simp) 50000 (by omega)
end Go.Proofs.YtfoakihlbeoebaaDoor.X

/- Printed by a program of this session (wip/xprint.py) over the translation: Go functions as Lean functions, and that the machine's calls come to them. -/
namespace Go.Proofs.YtfoakihlbeoebaaDoor.X
open Go.RowKit Go.Proofs.YtfoakihlbeoebaaDoorW.PrintWords Go.Proofs.YtfoakihlbeoebaaDoorW.PrintLast Go.Proofs.YtfoakihlbeoebaaDoorW.PrintMore
attribute [local go_sem] max2_int min2_int max_two min_two max_three min_three max_four min_four   -- for this text's walks alone
set_option linter.unusedVariables false
set_option linter.unusedSimpArgs false

/-! ### tutorref01_Same: function 20 -/
def tutorref01_Same.l0 : Nat → List Int → List Int → Int → Option (Bool)
  | 0, _, _, _ => none
  | k + 1, x0, x1, x5 => if x5 < (x0.length : Int) then (if 0 ≤ x5 then (if x5 < (x1.length : Int) then (if (rd x0 x5) = (rd x1 x5) then (tutorref01_Same.l0 k x0 x1 (wrap64 (x5 + 1))) else (some false)) else (none)) else (none)) else (some true)
def tutorref01_Same.f (k : Nat) (l0 : List Int) (l1 : List Int) : Option (Bool) := if (l0.length : Int) = (l1.length : Int) then (tutorref01_Same.l0 k l0 l1 0) else (some false)
theorem tutorref01_Same.mono_l : ∀ k, (∀ y0 y1 y2, LeO (tutorref01_Same.l0 k y0 y1 y2) (tutorref01_Same.l0 (k + 1) y0 y1 y2))
  | 0 => fun _ _ _ r h => by simp [tutorref01_Same.l0] at h
  | k + 1 => by
    have ih0 := tutorref01_Same.mono_l k
    · intro y0 y1 y2
      unfold tutorref01_Same.l0
      repeat' first
      | (with_reducible exact ih0 _ _ _)
      | (with_reducible exact LeO.refl _)
      | (with_reducible exact LeO.none _)
      | (with_reducible refine LeO.ite ?_ ?_)
      | (with_reducible refine LeO.bind ?_ (fun _ => ?_))
      | exact ih0 _ _ _
      | exact LeO.none _
      | refine LeO.ite ?_ ?_
      | refine LeO.bind ?_ (fun _ => ?_)
theorem tutorref01_Same.mono : ∀ a0 a1 k, LeO (tutorref01_Same.f k a0 a1) (tutorref01_Same.f (k + 1) a0 a1) := by
  intro a0 a1 k
  have ih0 := tutorref01_Same.mono_l k
  unfold tutorref01_Same.f
  repeat' first
      | (with_reducible exact ih0 _ _ _)
      | (with_reducible exact LeO.refl _)
      | (with_reducible exact LeO.none _)
      | (with_reducible refine LeO.ite ?_ ?_)
      | (with_reducible refine LeO.bind ?_ (fun _ => ?_))
      | exact ih0 _ _ _
      | exact LeO.none _
      | refine LeO.ite ?_ ?_
      | refine LeO.bind ?_ (fun _ => ?_)
set_option maxHeartbeats 8000000 in
set_option maxRecDepth 100000 in
theorem tutorref01_Same.calls (k : Nat) (A0 : Option Addr) (c0 : Nat) (l0 : List Int) (A1 : Option Addr) (c1 : Nat) (l1 : List Int) (r : Bool) (w : World) (hr0 : Kd.C (Kd.int .i64) w A0 l0.length l0) (hc0 : l0.length ≤ c0) (hr1 : Kd.C (Kd.int .i64) w A1 l1.length l1) (hc1 : l1.length ≤ c1) (h : tutorref01_Same.f k l0 l1 = some r) :
    Calls Tryd.prog 20 #[.slice A0 l0.length c0, .slice A1 l1.length c1] w fun e w' => e = .returned (.bool r) ∧ Drawn0 w w' := by
  have HR0 := Aside0.mk hr0
  have HC0 := Aside0.mk hc0
  clear hr0 hc0
  have HR1 := Aside0.mk hr1
  have HC1 := Aside0.mk hc1
  clear hr1 hc1
  have H : (if (l0.length : Int) = (l1.length : Int) then (tutorref01_Same.l0 k l0 l1 0) else (some false)) = some r := h
  clear h
  by_cases c3 : (l0.length : Int) = (l1.length : Int)
  · rw [if_pos c3] at H
    have c3b0 : ((l0.length : Int) == (l1.length : Int)) = true := beq_iff_eq.mpr c3
    have c3b1 : ((l0.length : Int) != (l1.length : Int)) = false := bne_eq_false_iff_eq.mpr c3
    have c3b2 : (l0.length == l1.length) = true := by first | simpa using c3 | (simp at c3 ⊢; omega)
    clear c3
    have H' := Aside0.mk H
    clear H
    go_enter Tryd.func20, Tryd.ntmps20
    go_wp2
    repeat (go_quiet (fail); try go_wp2)
    go_loopg [5] k (fun kq v5 w' => ∃ (x5_1 : Int), v5 = .int .i64 x5_1 ∧ Aside0 (tutorref01_Same.l0 kq l0 l1 x5_1 = some r) ∧ Aside0 (kq ≤ k) ∧ Drawn0 w w')
    case atStart => exact ⟨(0), (by first | rfl | (simp; done) | (simp [*]; done)), H', ⟨Nat.le_refl _⟩, by repeat (first | exact Drawn0.refl _ | apply Drawn0.step)⟩
    case round =>
      clear H'
      try clear c1
      try clear c2
      try clear p2
      try clear c3
      try clear c3b0
      try clear c3b1
      try clear c3b2
      obtain ⟨x5_1, rfl, HA, HK1, ⟨m1, rfl⟩⟩ := hrel
      cases gk with
      | zero => exact absurd HA.out (by simp [tutorref01_Same.l0])
      | succ k1 =>
        have H := HA.out
        clear HA
        simp only [tutorref01_Same.l0] at H
        by_cases c4 : x5_1 < (l0.length : Int)
        · rw [if_pos c4] at H
          have c4b0 : decide (x5_1 < (l0.length : Int)) = true := decide_eq_true c4
          clear c4
          by_cases c5 : 0 ≤ x5_1
          · rw [if_pos c5] at H
            have c5b0 : decide (0 ≤ x5_1) = true := decide_eq_true c5
            clear c5
            by_cases c6 : x5_1 < (l1.length : Int)
            · rw [if_pos c6] at H
              have c6b0 : decide (x5_1 < (l1.length : Int)) = true := decide_eq_true c6
              clear c6
              by_cases c7 : (rd l0 x5_1) = (rd l1 x5_1)
              · rw [if_pos c7] at H
                have c7b0 : ((rd l0 x5_1) == (rd l1 x5_1)) = true := beq_iff_eq.mpr c7
                have c7b1 : ((rd l0 x5_1) != (rd l1 x5_1)) = false := bne_eq_false_iff_eq.mpr c7
                clear c7
                have H' := Aside0.mk H
                clear H
                have p245 : 0 ≤ (x5_1 : Int) := of_decide_eq_true (by first | (with_reducible assumption) | assumption)
                have q245 : x5_1 < (l0.length : Int) := of_decide_eq_true (by first | (with_reducible assumption) | assumption)
                obtain ⟨ad245, e245, hx245_0⟩ := Kd.at_int HR0.out x5_1 p245 q245
                cases e245
                replace p245 := eq_true p245
                replace q245 := eq_true q245
                have p246 : 0 ≤ (x5_1 : Int) := of_decide_eq_true (by first | (with_reducible assumption) | assumption)
                have q246 : x5_1 < (l1.length : Int) := of_decide_eq_true (by first | (with_reducible assumption) | assumption)
                obtain ⟨ad246, e246, hx246_0⟩ := Kd.at_int HR1.out x5_1 p246 q246
                cases e246
                replace p246 := eq_true p246
                replace q246 := eq_true q246
                go_wp2
                repeat (go_quiet (fail); try go_wp2)
                go_roundg k1
                case measure => have := HK1.out; omega
                case rel => exact ⟨(wrap64 (x5_1 + 1)), (by first | rfl | (simp; done) | (simp [*]; done)), H', ⟨by have := HK1.out; omega⟩, by repeat (first | exact Drawn0.refl _ | apply Drawn0.step)⟩
              · rw [if_neg c7] at H
                have c7b0 : ((rd l0 x5_1) == (rd l1 x5_1)) = false := beq_eq_false_iff_ne.mpr c7
                have c7b1 : ((rd l0 x5_1) != (rd l1 x5_1)) = true := bne_iff_ne.mpr c7
                obtain rfl := Option.some.inj H
                have p245 : 0 ≤ (x5_1 : Int) := of_decide_eq_true (by first | (with_reducible assumption) | assumption)
                have q245 : x5_1 < (l0.length : Int) := of_decide_eq_true (by first | (with_reducible assumption) | assumption)
                obtain ⟨ad245, e245, hx245_0⟩ := Kd.at_int HR0.out x5_1 p245 q245
                cases e245
                replace p245 := eq_true p245
                replace q245 := eq_true q245
                have p246 : 0 ≤ (x5_1 : Int) := of_decide_eq_true (by first | (with_reducible assumption) | assumption)
                have q246 : x5_1 < (l1.length : Int) := of_decide_eq_true (by first | (with_reducible assumption) | assumption)
                obtain ⟨ad246, e246, hx246_0⟩ := Kd.at_int HR1.out x5_1 p246 q246
                cases e246
                replace p246 := eq_true p246
                replace q246 := eq_true q246
                go_wp2
                repeat (go_quiet (fail); try go_wp2)
                go_ret
                exact ⟨by first | rfl | (simp; done) | (simp [*]; done), by repeat (first | exact Drawn0.refl _ | apply Drawn0.step)⟩
            · rw [if_neg c6] at H
              exact absurd H (by simp)
          · rw [if_neg c5] at H
            exact absurd H (by simp)
        · rw [if_neg c4] at H
          have c4b0 : decide (x5_1 < (l0.length : Int)) = false := decide_eq_false c4
          clear c4
          obtain rfl := Option.some.inj H
          go_wp2
          repeat (go_quiet (fail); try go_wp2)
          go_ret
          exact ⟨by first | rfl | (simp; done) | (simp [*]; done), by repeat (first | exact Drawn0.refl _ | apply Drawn0.step)⟩
  · rw [if_neg c3] at H
    have c3b0 : ((l0.length : Int) == (l1.length : Int)) = false := beq_eq_false_iff_ne.mpr c3
    have c3b1 : ((l0.length : Int) != (l1.length : Int)) = true := bne_iff_ne.mpr c3
    have c3b2 : (l0.length == l1.length) = false := by first | simpa using c3 | (simp at c3 ⊢; omega)
    obtain rfl := Option.some.inj H
    go_enter Tryd.func20, Tryd.ntmps20
    go_wp2
    repeat (go_quiet (fail); try go_wp2)
    go_ret
    exact ⟨by first | rfl | (simp; done) | (simp [*]; done), by repeat (first | exact Drawn0.refl _ | apply Drawn0.step)⟩

end Go.Proofs.YtfoakihlbeoebaaDoor.X

/- Printed by a program of this session (wip/xprint.py) over the translation: Go functions as Lean functions, and that the machine's calls come to them. -/
namespace Go.Proofs.YtfoakihlbeoebaaDoor.X
open Go.RowKit Go.Proofs.YtfoakihlbeoebaaDoorW.PrintWords Go.Proofs.YtfoakihlbeoebaaDoorW.PrintLast Go.Proofs.YtfoakihlbeoebaaDoorW.PrintMore
attribute [local go_sem] max2_int min2_int max_two min_two max_three min_three max_four min_four   -- for this text's walks alone
set_option linter.unusedVariables false
set_option linter.unusedSimpArgs false

/-! ### tutorlaw02_GlyphBack: function 6 -/
mutual
def tutorlaw02_GlyphBack.j0 : Nat → ByteArray → ByteArray → List Int → Bool → Option (Bool)
  | 0, _, _, _, _ => none
  | k + 1, x0, x1, x2, x32 => if x32 = true then ((tutorlaw02_live.f k).bind fun t288 => (some t288)) else ((glyph_Parse.f x0).bind fun bt289 => ((tutorlaw02_num.f bt289.2.1).bind fun t294 => (if t294 = 0 then ((glyph_Read.f bt289.1 x1).bind fun bt296 => ((tutorlaw02_num.f bt296.2.1).bind fun t301 => (if t301 = 0 then ((glyph_Show.f bt289.1 bt296.1).bind fun bt302 => ((tutorlaw02_num.f bt302.2).bind fun t304 => (if t304 = 0 then (if bt302.1.toList = x1.toList then (tutorlaw02_GlyphBack.j1 k x2 bt289.1) else (some false)) else (some false)))) else (tutorlaw02_GlyphBack.j1 k x2 bt289.1)))) else (if (bt289.1.length : Int) = 0 then ((tutorlaw02_live.f k).bind fun t295 => (some t295)) else (some false)))))
def tutorlaw02_GlyphBack.j1 : Nat → List Int → List Int → Option (Bool)
  | 0, _, _ => none
  | k + 1, x2, x7 => (glyph_Show.f x7 x2).bind fun bt305 => ((tutorlaw02_num.f bt305.2).bind fun t307 => (if t307 = 0 then ((glyph_Read.f x7 bt305.1).bind fun bt310 => ((tutorlaw02_num.f bt310.2.1).bind fun t315 => (if t315 = 0 then (if bt310.2.2 = (bt305.1.size : Int) then ((tutorref01_Same.f k bt310.1 x2).bind fun t316 => (if t316 = true then ((tutorlaw02_live.f k).bind fun t317 => (some t317)) else (some false))) else (some false)) else (some false)))) else (if bt305.1.toList = ([] : List UInt8) then ((tutorlaw02_num.f bt305.2).bind fun t308 => (if t308 = 10 then ((tutorlaw02_live.f k).bind fun t309 => (some t309)) else (some false))) else (some false))))
end
def tutorlaw02_GlyphBack.f (k : Nat) (a0 : ByteArray) (a1 : ByteArray) (l2 : List Int) : Option (Bool) := if (a0.size : Int) > 20000 then (tutorlaw02_GlyphBack.j0 k a0 a1 l2 true) else (if (a1.size : Int) > 20000 then (tutorlaw02_GlyphBack.j0 k a0 a1 l2 true) else (tutorlaw02_GlyphBack.j0 k a0 a1 l2 (decide ((l2.length : Int) > 2000))))
theorem tutorlaw02_GlyphBack.mono_l : ∀ k, (∀ y0 y1 y2 y3, LeO (tutorlaw02_GlyphBack.j0 k y0 y1 y2 y3) (tutorlaw02_GlyphBack.j0 (k + 1) y0 y1 y2 y3)) ∧ (∀ y0 y1, LeO (tutorlaw02_GlyphBack.j1 k y0 y1) (tutorlaw02_GlyphBack.j1 (k + 1) y0 y1))
  | 0 => ⟨fun _ _ _ _ r h => by simp [tutorlaw02_GlyphBack.j0] at h, fun _ _ r h => by simp [tutorlaw02_GlyphBack.j1] at h⟩
  | k + 1 => by
    obtain ⟨ih0, ih1⟩ := tutorlaw02_GlyphBack.mono_l k
    refine ⟨?_, ?_⟩
    · intro y0 y1 y2 y3
      unfold tutorlaw02_GlyphBack.j0
      repeat' first
      | (with_reducible exact ih0 _ _ _ _)
      | (with_reducible exact ih1 _ _)
      | (with_reducible exact tutorlaw02_live.mono _)
      | (with_reducible exact tutorref01_Same.mono _ _ _)
      | (with_reducible exact LeO.refl _)
      | (with_reducible exact LeO.none _)
      | (with_reducible refine LeO.ite ?_ ?_)
      | (with_reducible refine LeO.bind ?_ (fun _ => ?_))
      | exact ih0 _ _ _ _
      | exact ih1 _ _
      | exact tutorlaw02_live.mono _
      | exact tutorref01_Same.mono _ _ _
      | exact LeO.none _
      | refine LeO.ite ?_ ?_
      | refine LeO.bind ?_ (fun _ => ?_)
    · intro y0 y1
      unfold tutorlaw02_GlyphBack.j1
      repeat' first
      | (with_reducible exact ih0 _ _ _ _)
      | (with_reducible exact ih1 _ _)
      | (with_reducible exact tutorlaw02_live.mono _)
      | (with_reducible exact tutorref01_Same.mono _ _ _)
      | (with_reducible exact LeO.refl _)
      | (with_reducible exact LeO.none _)
      | (with_reducible refine LeO.ite ?_ ?_)
      | (with_reducible refine LeO.bind ?_ (fun _ => ?_))
      | exact ih0 _ _ _ _
      | exact ih1 _ _
      | exact tutorlaw02_live.mono _
      | exact tutorref01_Same.mono _ _ _
      | exact LeO.none _
      | refine LeO.ite ?_ ?_
      | refine LeO.bind ?_ (fun _ => ?_)
theorem tutorlaw02_GlyphBack.mono : ∀ a0 a1 a2 k, LeO (tutorlaw02_GlyphBack.f k a0 a1 a2) (tutorlaw02_GlyphBack.f (k + 1) a0 a1 a2) := by
  intro a0 a1 a2 k
  obtain ⟨ih0, ih1⟩ := tutorlaw02_GlyphBack.mono_l k
  unfold tutorlaw02_GlyphBack.f
  repeat' first
      | (with_reducible exact ih0 _ _ _ _)
      | (with_reducible exact ih1 _ _)
      | (with_reducible exact tutorlaw02_live.mono _)
      | (with_reducible exact tutorref01_Same.mono _ _ _)
      | (with_reducible exact LeO.refl _)
      | (with_reducible exact LeO.none _)
      | (with_reducible refine LeO.ite ?_ ?_)
      | (with_reducible refine LeO.bind ?_ (fun _ => ?_))
      | exact ih0 _ _ _ _
      | exact ih1 _ _
      | exact tutorlaw02_live.mono _
      | exact tutorref01_Same.mono _ _ _
      | exact LeO.none _
      | refine LeO.ite ?_ ?_
      | refine LeO.bind ?_ (fun _ => ?_)
set_option maxHeartbeats 8000000 in
set_option maxRecDepth 100000 in
theorem tutorlaw02_GlyphBack.calls (k : Nat) (a0 : ByteArray) (a1 : ByteArray) (A2 : Option Addr) (c2 : Nat) (l2 : List Int) (r : Bool) (w : World) (hT : Aside0 (Lib.Utf8Tabs 0 1 w)) (hr2 : Kd.C (Kd.int .i64) w A2 l2.length l2) (hc2 : l2.length ≤ c2) (h : tutorlaw02_GlyphBack.f k a0 a1 l2 = some r) :
    Calls Tryd.prog 6 #[.string a0, .string a1, .slice A2 l2.length c2] w fun e w' => e = .returned (.bool r) ∧ Below w.heap.size w w' := by
  have HR2 := Aside0.mk hr2
  have HC2 := Aside0.mk hc2
  clear hr2 hc2
  have HB := Aside0.mk (Below.refl w.heap.size w)
  have H : (if (a0.size : Int) > 20000 then (tutorlaw02_GlyphBack.j0 k a0 a1 l2 true) else (if (a1.size : Int) > 20000 then (tutorlaw02_GlyphBack.j0 k a0 a1 l2 true) else (tutorlaw02_GlyphBack.j0 k a0 a1 l2 (decide ((l2.length : Int) > 2000))))) = some r := h
  clear h
  have HC4 := Aside0.mk H
  clear H
  go_enter Tryd.func6, Tryd.ntmps6
  go_upto_region 1 with (fail)
  go_cut [32] (fun v32 wc => ∃ (kq : Nat) (x32_3 : Bool), v32 = .bool x32_3 ∧ Aside0 (tutorlaw02_GlyphBack.j0 kq a0 a1 l2 x32_3 = some r) ∧ Aside0 (kq ≤ k) ∧ Aside0 (Below w.heap.size w wc))
  case first =>
    have H := HC4.out
    clear HC4
    by_cases c5 : (a0.size : Int) > 20000
    · rw [if_pos c5] at H
      have c5b0 : decide (20000 < (a0.size : Int)) = true := decide_eq_true c5
      have c5b1 : decide (20000 < a0.size) = true := decide_eq_true (by omega)
      clear c5
      (first | rw [c5b0] | (simp only [i64_w, i32_w]; rw [c5b0]) | skip)
      have H' := Aside0.mk H
      clear H
      go_wp2
      go_meet
      case rel => exact ⟨_, (true), (by first | rfl | (simp; done) | (simp [*]; done)), H', ⟨by first | omega | exact Nat.le_refl _⟩, ⟨by repeat (first | (with_reducible first | exact HB.out | apply below_alloc | apply pw_below_drewN | apply below_drew1) | exact HB.out)⟩⟩
    · rw [if_neg c5] at H
      have c5b0 : decide (20000 < (a0.size : Int)) = false := decide_eq_false c5
      have c5b1 : decide (20000 < a0.size) = false := decide_eq_false (by omega)
      clear c5
      (first | rw [c5b0] | (simp only [i64_w, i32_w]; rw [c5b0]) | skip)
      by_cases c6 : (a1.size : Int) > 20000
      · rw [if_pos c6] at H
        have c6b0 : decide (20000 < (a1.size : Int)) = true := decide_eq_true c6
        have c6b1 : decide (20000 < a1.size) = true := decide_eq_true (by omega)
        clear c6
        have H' := Aside0.mk H
        clear H
        go_wp2
        go_meet
        case rel => exact ⟨_, (true), (by first | rfl | (simp; done) | (simp [*]; done)), H', ⟨by first | omega | exact Nat.le_refl _⟩, ⟨by repeat (first | (with_reducible first | exact HB.out | apply below_alloc | apply pw_below_drewN | apply below_drew1) | exact HB.out)⟩⟩
      · rw [if_neg c6] at H
        have c6b0 : decide (20000 < (a1.size : Int)) = false := decide_eq_false c6
        have c6b1 : decide (20000 < a1.size) = false := decide_eq_false (by omega)
        clear c6
        have H' := Aside0.mk H
        clear H
        go_wp2
        go_meet
        case rel => exact ⟨_, (decide ((l2.length : Int) > 2000)), (by first | rfl | (simp; done) | (simp [*]; done)), H', ⟨by first | omega | exact Nat.le_refl _⟩, ⟨by repeat (first | (with_reducible first | exact HB.out | apply below_alloc | apply pw_below_drewN | apply below_drew1) | exact HB.out)⟩⟩
  case rest =>
    clear HC4
    try clear c2
    try clear p2
    try clear c5
    try clear c5b0
    try clear c5b1
    try clear c6
    try clear c6b0
    try clear c6b1
    obtain ⟨kq, x32_3, rfl, HA, HJ3, HB⟩ := hcut
    cases kq with
    | zero => exact absurd HA.out (by simp [tutorlaw02_GlyphBack.j0])
    | succ kj3 =>
      have H := HA.out
      clear HA
      simp only [tutorlaw02_GlyphBack.j0] at H
      by_cases c7 : x32_3 = true
      · subst c7
        have H1 : ((tutorlaw02_live.f kj3).bind fun t288 => (some t288)) = some r := by rw [if_pos rfl] at H; exact H
        clear H
        have H := H1
        clear H1
        replace H := Option.bind_eq_some_iff.mp H
        obtain ⟨t288, A80, H⟩ := H
        replace H : (some t288) = some r := H
        have A8 := Aside0.mk A80
        clear A80
        obtain rfl := Option.some.inj H
        go_wp2_with (first | ((with_reducible refine gate_callee (f := 8) rfl ?_); refine goesL_ (some 33) rfl rfl Tryd.func8 (by kernel_rfl) rfl #[] rfl (by (try simp only [List.map_toArray, List.map_cons, List.map_nil]); first | done | rfl | (simp only [List.length_drop, List.length_take]; rfl)) ?_; (with_reducible refine (tutorlaw02_live.calls kj3  t288 _ A8.out).mono ?_); rintro e w9 ⟨rfl, hb⟩; refine ⟨_, rfl, ?_⟩; have n0_ := Aside0.mk (below_step (by repeat (first | (with_reducible first | exact HB.out | apply below_alloc | apply pw_below_drewN | apply below_drew1) | exact HB.out)) hb); clear HB; have HB := n0_; clear n0_; (try clear hb); (try clear hb2); (try clear hk); (try clear hi)))
        go_ret
        exact ⟨by first | rfl | (simp [errW_none, errW_some] <;> rfl) | (simp [*, errW_none, errW_some] <;> rfl), by repeat (first | (with_reducible first | exact HB.out | apply below_alloc | apply pw_below_drewN | apply below_drew1) | exact HB.out)⟩
      · replace c7 := Bool.eq_false_iff.mpr c7
        subst c7
        have H1 : ((glyph_Parse.f a0).bind fun bt289 => ((tutorlaw02_num.f bt289.2.1).bind fun t294 => (if t294 = 0 then ((glyph_Read.f bt289.1 a1).bind fun bt296 => ((tutorlaw02_num.f bt296.2.1).bind fun t301 => (if t301 = 0 then ((glyph_Show.f bt289.1 bt296.1).bind fun bt302 => ((tutorlaw02_num.f bt302.2).bind fun t304 => (if t304 = 0 then (if bt302.1.toList = a1.toList then (tutorlaw02_GlyphBack.j1 kj3 l2 bt289.1) else (some false)) else (some false)))) else (tutorlaw02_GlyphBack.j1 kj3 l2 bt289.1)))) else (if (bt289.1.length : Int) = 0 then ((tutorlaw02_live.f kj3).bind fun t295 => (some t295)) else (some false))))) = some r := by rw [if_neg (show ¬ (false = true) by decide)] at H; exact H
        clear H
        have H := H1
        clear H1
        replace H := Option.bind_eq_some_iff.mp H
        obtain ⟨⟨t289, t290, t291⟩, A100, H⟩ := H
        replace H : ((tutorlaw02_num.f t290).bind fun t294 => (if t294 = 0 then ((glyph_Read.f t289 a1).bind fun bt296 => ((tutorlaw02_num.f bt296.2.1).bind fun t301 => (if t301 = 0 then ((glyph_Show.f t289 bt296.1).bind fun bt302 => ((tutorlaw02_num.f bt302.2).bind fun t304 => (if t304 = 0 then (if bt302.1.toList = a1.toList then (tutorlaw02_GlyphBack.j1 kj3 l2 t289) else (some false)) else (some false)))) else (tutorlaw02_GlyphBack.j1 kj3 l2 t289)))) else (if (t289.length : Int) = 0 then ((tutorlaw02_live.f kj3).bind fun t295 => (some t295)) else (some false)))) = some r := H
        have A10 := Aside0.mk A100
        clear A100
        replace H := Option.bind_eq_some_iff.mp H
        obtain ⟨t294, A110, H⟩ := H
        replace H : (if t294 = 0 then ((glyph_Read.f t289 a1).bind fun bt296 => ((tutorlaw02_num.f bt296.2.1).bind fun t301 => (if t301 = 0 then ((glyph_Show.f t289 bt296.1).bind fun bt302 => ((tutorlaw02_num.f bt302.2).bind fun t304 => (if t304 = 0 then (if bt302.1.toList = a1.toList then (tutorlaw02_GlyphBack.j1 kj3 l2 t289) else (some false)) else (some false)))) else (tutorlaw02_GlyphBack.j1 kj3 l2 t289)))) else (if (t289.length : Int) = 0 then ((tutorlaw02_live.f kj3).bind fun t295 => (some t295)) else (some false))) = some r := H
        have A11 := Aside0.mk A110
        clear A110
        by_cases c12 : t294 = 0
        · rw [if_pos c12] at H
          have c12b0 : (t294 == 0) = true := beq_iff_eq.mpr c12
          have c12b1 : (t294 != 0) = false := bne_eq_false_iff_eq.mpr c12
          clear c12
          replace H := Option.bind_eq_some_iff.mp H
          obtain ⟨⟨t296, t297, t298⟩, A130, H⟩ := H
          replace H : ((tutorlaw02_num.f t297).bind fun t301 => (if t301 = 0 then ((glyph_Show.f t289 t296).bind fun bt302 => ((tutorlaw02_num.f bt302.2).bind fun t304 => (if t304 = 0 then (if bt302.1.toList = a1.toList then (tutorlaw02_GlyphBack.j1 kj3 l2 t289) else (some false)) else (some false)))) else (tutorlaw02_GlyphBack.j1 kj3 l2 t289))) = some r := H
          have A13 := Aside0.mk A130
          clear A130
          replace H := Option.bind_eq_some_iff.mp H
          obtain ⟨t301, A140, H⟩ := H
          replace H : (if t301 = 0 then ((glyph_Show.f t289 t296).bind fun bt302 => ((tutorlaw02_num.f bt302.2).bind fun t304 => (if t304 = 0 then (if bt302.1.toList = a1.toList then (tutorlaw02_GlyphBack.j1 kj3 l2 t289) else (some false)) else (some false)))) else (tutorlaw02_GlyphBack.j1 kj3 l2 t289)) = some r := H
          have A14 := Aside0.mk A140
          clear A140
          have HC15 := Aside0.mk H
          clear H
          go_upto_if 58 with (first | ((with_reducible refine gate_callee (f := 9) rfl ?_); refine goesL_ (some 36) rfl rfl Tryd.func9 (by kernel_rfl) rfl #[.string a0] rfl (by (try simp only [List.map_toArray, List.map_cons, List.map_nil]); first | done | rfl | (simp only [List.length_drop, List.length_take]; rfl)) ?_; (with_reducible refine (glyph_Parse.calls a0 t289 t290 t291 _ A10.out (by first | exact TabsOr.lit (by decide) | exact TabsOr.tab (Utf8Tabs_below hT.out (by repeat (first | (with_reducible first | exact HB.out | apply below_alloc | apply pw_below_drewN | apply below_drew1) | exact HB.out))))).mono ?_); rintro e w16 ⟨v292, rfl, ho0, hb⟩; refine ⟨_, rfl, ?_⟩; have n0_ := Aside0.mk (Kd.R_lower ho0 (below_size (by repeat (first | (with_reducible first | exact HB.out | apply below_alloc | apply pw_below_drewN | apply below_drew1) | exact HB.out)))); have n1_ := Aside0.mk (below_step (by repeat (first | (with_reducible first | exact HB.out | apply below_alloc | apply pw_below_drewN | apply below_drew1) | exact HB.out)) hb); clear HB; have HO293 := n0_; have HB := n1_; clear n0_ n1_; (try clear hb); (try clear hb2); (try clear hk); (try clear hi); (try clear ho0)) | ((with_reducible refine gate_callee (f := 12) rfl ?_); refine goesL_ (some 41) rfl rfl Tryd.func12 (by kernel_rfl) rfl #[.int .i64 t290] rfl (by (try simp only [List.map_toArray, List.map_cons, List.map_nil]); first | done | rfl | (simp only [List.length_drop, List.length_take]; rfl)) ?_; (with_reducible refine (tutorlaw02_num.calls t290 t294 _ A11.out).mono ?_); rintro e w' ⟨rfl, ⟨nd, rfl⟩⟩; refine ⟨_, rfl, ?_⟩; obtain ⟨Ao17, co17, eo17⟩ := Kd.R_slice HO293.out; subst eo17) | ((with_reducible refine gate_callee (f := 19) rfl ?_); refine goesL_ (some 52) rfl rfl Tryd.func19 (by kernel_rfl) rfl #[.slice Ao17 t289.length co17, .string a1] rfl (by (try simp only [List.map_toArray, List.map_cons, List.map_nil]); first | done | rfl | (simp only [List.length_drop, List.length_take]; rfl)) ?_; (with_reducible refine (glyph_Read.calls _ _ t289 a1 t296 t297 t298 _ ?side1 ?side2 A13.out (by first | exact TabsOr.lit (by decide) | exact TabsOr.tab (Utf8Tabs_below hT.out (by repeat (first | (with_reducible first | exact HB.out | apply below_alloc | apply pw_below_drewN | apply below_drew1) | exact HB.out))))).mono ?_); (case side1 => repeat (first | exact (Kd.R_reads' HO293.out).2.2 | (with_reducible refine Kd.C_alloc ?_ _) | (with_reducible refine Kd.C_drewN ?_ _) | (with_reducible refine Kd.C_drew ?_))); (case side2 => exact (Kd.R_reads' HO293.out).2.1); rintro e w18 ⟨v299, rfl, ho0, hb⟩; refine ⟨_, rfl, ?_⟩; have n0_ := Aside0.mk (Kd.R_below (by (with_reducible repeat (first | apply Kd.R_alloc | apply Kd.R_drewN | apply Kd.R_drew)); exact HO293.out) hb); have n1_ := Aside0.mk (Kd.R_lower ho0 (below_size (by repeat (first | (with_reducible first | exact HB.out | apply below_alloc | apply pw_below_drewN | apply below_drew1) | exact HB.out)))); have n2_ := Aside0.mk (below_step (by repeat (first | (with_reducible first | exact HB.out | apply below_alloc | apply pw_below_drewN | apply below_drew1) | exact HB.out)) hb); clear HO293; clear HB; have HO293 := n0_; have HO300 := n1_; have HB := n2_; clear n0_ n1_ n2_; (try clear hb); (try clear hb2); (try clear hk); (try clear hi); (try clear ho0)) | ((with_reducible refine gate_callee (f := 12) rfl ?_); refine goesL_ (some 57) rfl rfl Tryd.func12 (by kernel_rfl) rfl #[.int .i64 t297] rfl (by (try simp only [List.map_toArray, List.map_cons, List.map_nil]); first | done | rfl | (simp only [List.length_drop, List.length_take]; rfl)) ?_; (with_reducible refine (tutorlaw02_num.calls t297 t301 _ A14.out).mono ?_); rintro e w' ⟨rfl, ⟨nd, rfl⟩⟩; refine ⟨_, rfl, ?_⟩))
          (try simp only [Act.put, List.setIfInBounds_toArray, List.set_cons_zero, List.set_cons_succ])
          go_cut [] (fun wc => ∃ (kq : Nat), Aside0 (tutorlaw02_GlyphBack.j1 kq l2 t289 = some r) ∧ Aside0 (kq ≤ kj3) ∧ Aside0 (Kd.R (Kd.int .i32) 21 wc w.heap.size (fun _ => True) (.slice Ao17 t289.length co17) t289) ∧ Aside0 (Below w.heap.size w wc))
          case first =>
            have H := HC15.out
            clear HC15
            by_cases c19 : t301 = 0
            · rw [if_pos c19] at H
              have c19b0 : (t301 == 0) = true := beq_iff_eq.mpr c19
              have c19b1 : (t301 != 0) = false := bne_eq_false_iff_eq.mpr c19
              clear c19
              (first | rw [c19b0] | (simp only [i64_w, i32_w]; rw [c19b0]) | skip)
              replace H := Option.bind_eq_some_iff.mp H
              obtain ⟨⟨t302, t303⟩, A200, H⟩ := H
              replace H : ((tutorlaw02_num.f t303).bind fun t304 => (if t304 = 0 then (if t302.toList = a1.toList then (tutorlaw02_GlyphBack.j1 kj3 l2 t289) else (some false)) else (some false))) = some r := H
              have A20 := Aside0.mk A200
              clear A200
              replace H := Option.bind_eq_some_iff.mp H
              obtain ⟨t304, A210, H⟩ := H
              replace H : (if t304 = 0 then (if t302.toList = a1.toList then (tutorlaw02_GlyphBack.j1 kj3 l2 t289) else (some false)) else (some false)) = some r := H
              have A21 := Aside0.mk A210
              clear A210
              by_cases c22 : t304 = 0
              · rw [if_pos c22] at H
                have c22b0 : (t304 == 0) = true := beq_iff_eq.mpr c22
                have c22b1 : (t304 != 0) = false := bne_eq_false_iff_eq.mpr c22
                clear c22
                by_cases c23 : t302.toList = a1.toList
                · rw [if_pos c23] at H
                  have c23b0 : (t302.toList == a1.toList) = true := beq_iff_eq.mpr c23
                  have c23b1 : (t302.toList != a1.toList) = false := bne_eq_false_iff_eq.mpr c23
                  clear c23
                  have H' := Aside0.mk H
                  clear H
                  obtain ⟨Ao24, co24, eo24⟩ := Kd.R_slice HO300.out
                  subst eo24
                  go_wp2_with (first | ((with_reducible refine gate_callee (f := 14) rfl ?_); refine goesL_ (some 62) rfl rfl Tryd.func14 (by kernel_rfl) rfl #[.slice Ao17 t289.length co17, .slice Ao24 t296.length co24] rfl (by (try simp only [List.map_toArray, List.map_cons, List.map_nil]); first | done | rfl | (simp only [List.length_drop, List.length_take]; rfl)) ?_; (with_reducible refine (glyph_Show.calls _ _ t289 _ _ t296 t302 t303 _ ?side1 ?side2 ?side3 ?side4 A20.out).mono ?_); (case side1 => repeat (first | exact (Kd.R_reads' HO293.out).2.2 | (with_reducible refine Kd.C_alloc ?_ _) | (with_reducible refine Kd.C_drewN ?_ _) | (with_reducible refine Kd.C_drew ?_))); (case side2 => exact (Kd.R_reads' HO293.out).2.1); (case side3 => repeat (first | exact (Kd.R_reads' HO300.out).2.2 | (with_reducible refine Kd.C_alloc ?_ _) | (with_reducible refine Kd.C_drewN ?_ _) | (with_reducible refine Kd.C_drew ?_))); (case side4 => exact (Kd.R_reads' HO300.out).2.1); rintro e w25 ⟨rfl, hb⟩; refine ⟨_, rfl, ?_⟩; have n0_ := Aside0.mk (Kd.R_below (by (with_reducible repeat (first | apply Kd.R_alloc | apply Kd.R_drewN | apply Kd.R_drew)); exact HO293.out) hb); have n1_ := Aside0.mk (Kd.R_below (by (with_reducible repeat (first | apply Kd.R_alloc | apply Kd.R_drewN | apply Kd.R_drew)); exact HO300.out) hb); have n2_ := Aside0.mk (below_step (by repeat (first | (with_reducible first | exact HB.out | apply below_alloc | apply pw_below_drewN | apply below_drew1) | exact HB.out)) hb); clear HO293; clear HO300; clear HB; have HO293 := n0_; have HO300 := n1_; have HB := n2_; clear n0_ n1_ n2_; (try clear hb); (try clear hb2); (try clear hk); (try clear hi)) | ((with_reducible refine gate_callee (f := 12) rfl ?_); refine goesL_ (some 66) rfl rfl Tryd.func12 (by kernel_rfl) rfl #[.int .i64 t303] rfl (by (try simp only [List.map_toArray, List.map_cons, List.map_nil]); first | done | rfl | (simp only [List.length_drop, List.length_take]; rfl)) ?_; (with_reducible refine (tutorlaw02_num.calls t303 t304 _ A21.out).mono ?_); rintro e w' ⟨rfl, ⟨nd, rfl⟩⟩; refine ⟨_, rfl, ?_⟩))
                  go_meet
                  case rel => exact ⟨_, H', ⟨by have := HJ3.out; first | omega | exact Nat.le_refl _⟩, ⟨by (with_reducible repeat (first | apply Kd.R_alloc | apply Kd.R_drewN | apply Kd.R_drew)); exact HO293.out⟩, ⟨by repeat (first | (with_reducible first | exact HB.out | apply below_alloc | apply pw_below_drewN | apply below_drew1) | exact HB.out)⟩⟩
                · rw [if_neg c23] at H
                  have c23b0 : (t302.toList == a1.toList) = false := beq_eq_false_iff_ne.mpr c23
                  have c23b1 : (t302.toList != a1.toList) = true := bne_iff_ne.mpr c23
                  obtain rfl := Option.some.inj H
                  obtain ⟨Ao26, co26, eo26⟩ := Kd.R_slice HO300.out
                  subst eo26
                  go_wp2_with (first | ((with_reducible refine gate_callee (f := 14) rfl ?_); refine goesL_ (some 62) rfl rfl Tryd.func14 (by kernel_rfl) rfl #[.slice Ao17 t289.length co17, .slice Ao26 t296.length co26] rfl (by (try simp only [List.map_toArray, List.map_cons, List.map_nil]); first | done | rfl | (simp only [List.length_drop, List.length_take]; rfl)) ?_; (with_reducible refine (glyph_Show.calls _ _ t289 _ _ t296 t302 t303 _ ?side1 ?side2 ?side3 ?side4 A20.out).mono ?_); (case side1 => repeat (first | exact (Kd.R_reads' HO293.out).2.2 | (with_reducible refine Kd.C_alloc ?_ _) | (with_reducible refine Kd.C_drewN ?_ _) | (with_reducible refine Kd.C_drew ?_))); (case side2 => exact (Kd.R_reads' HO293.out).2.1); (case side3 => repeat (first | exact (Kd.R_reads' HO300.out).2.2 | (with_reducible refine Kd.C_alloc ?_ _) | (with_reducible refine Kd.C_drewN ?_ _) | (with_reducible refine Kd.C_drew ?_))); (case side4 => exact (Kd.R_reads' HO300.out).2.1); rintro e w27 ⟨rfl, hb⟩; refine ⟨_, rfl, ?_⟩; have n0_ := Aside0.mk (Kd.R_below (by (with_reducible repeat (first | apply Kd.R_alloc | apply Kd.R_drewN | apply Kd.R_drew)); exact HO293.out) hb); have n1_ := Aside0.mk (Kd.R_below (by (with_reducible repeat (first | apply Kd.R_alloc | apply Kd.R_drewN | apply Kd.R_drew)); exact HO300.out) hb); have n2_ := Aside0.mk (below_step (by repeat (first | (with_reducible first | exact HB.out | apply below_alloc | apply pw_below_drewN | apply below_drew1) | exact HB.out)) hb); clear HO293; clear HO300; clear HB; have HO293 := n0_; have HO300 := n1_; have HB := n2_; clear n0_ n1_ n2_; (try clear hb); (try clear hb2); (try clear hk); (try clear hi)) | ((with_reducible refine gate_callee (f := 12) rfl ?_); refine goesL_ (some 66) rfl rfl Tryd.func12 (by kernel_rfl) rfl #[.int .i64 t303] rfl (by (try simp only [List.map_toArray, List.map_cons, List.map_nil]); first | done | rfl | (simp only [List.length_drop, List.length_take]; rfl)) ?_; (with_reducible refine (tutorlaw02_num.calls t303 t304 _ A21.out).mono ?_); rintro e w' ⟨rfl, ⟨nd, rfl⟩⟩; refine ⟨_, rfl, ?_⟩))
                  go_ret
                  exact ⟨by first | rfl | (simp [errW_none, errW_some] <;> rfl) | (simp [*, errW_none, errW_some] <;> rfl), by repeat (first | (with_reducible first | exact HB.out | apply below_alloc | apply pw_below_drewN | apply below_drew1) | exact HB.out)⟩
              · rw [if_neg c22] at H
                have c22b0 : (t304 == 0) = false := beq_eq_false_iff_ne.mpr c22
                have c22b1 : (t304 != 0) = true := bne_iff_ne.mpr c22
                obtain rfl := Option.some.inj H
                obtain ⟨Ao28, co28, eo28⟩ := Kd.R_slice HO300.out
                subst eo28
                go_wp2_with (first | ((with_reducible refine gate_callee (f := 14) rfl ?_); refine goesL_ (some 62) rfl rfl Tryd.func14 (by kernel_rfl) rfl #[.slice Ao17 t289.length co17, .slice Ao28 t296.length co28] rfl (by (try simp only [List.map_toArray, List.map_cons, List.map_nil]); first | done | rfl | (simp only [List.length_drop, List.length_take]; rfl)) ?_; (with_reducible refine (glyph_Show.calls _ _ t289 _ _ t296 t302 t303 _ ?side1 ?side2 ?side3 ?side4 A20.out).mono ?_); (case side1 => repeat (first | exact (Kd.R_reads' HO293.out).2.2 | (with_reducible refine Kd.C_alloc ?_ _) | (with_reducible refine Kd.C_drewN ?_ _) | (with_reducible refine Kd.C_drew ?_))); (case side2 => exact (Kd.R_reads' HO293.out).2.1); (case side3 => repeat (first | exact (Kd.R_reads' HO300.out).2.2 | (with_reducible refine Kd.C_alloc ?_ _) | (with_reducible refine Kd.C_drewN ?_ _) | (with_reducible refine Kd.C_drew ?_))); (case side4 => exact (Kd.R_reads' HO300.out).2.1); rintro e w29 ⟨rfl, hb⟩; refine ⟨_, rfl, ?_⟩; have n0_ := Aside0.mk (Kd.R_below (by (with_reducible repeat (first | apply Kd.R_alloc | apply Kd.R_drewN | apply Kd.R_drew)); exact HO293.out) hb); have n1_ := Aside0.mk (Kd.R_below (by (with_reducible repeat (first | apply Kd.R_alloc | apply Kd.R_drewN | apply Kd.R_drew)); exact HO300.out) hb); have n2_ := Aside0.mk (below_step (by repeat (first | (with_reducible first | exact HB.out | apply below_alloc | apply pw_below_drewN | apply below_drew1) | exact HB.out)) hb); clear HO293; clear HO300; clear HB; have HO293 := n0_; have HO300 := n1_; have HB := n2_; clear n0_ n1_ n2_; (try clear hb); (try clear hb2); (try clear hk); (try clear hi)) | ((with_reducible refine gate_callee (f := 12) rfl ?_); refine goesL_ (some 66) rfl rfl Tryd.func12 (by kernel_rfl) rfl #[.int .i64 t303] rfl (by (try simp only [List.map_toArray, List.map_cons, List.map_nil]); first | done | rfl | (simp only [List.length_drop, List.length_take]; rfl)) ?_; (with_reducible refine (tutorlaw02_num.calls t303 t304 _ A21.out).mono ?_); rintro e w' ⟨rfl, ⟨nd, rfl⟩⟩; refine ⟨_, rfl, ?_⟩))
                go_ret
                exact ⟨by first | rfl | (simp [errW_none, errW_some] <;> rfl) | (simp [*, errW_none, errW_some] <;> rfl), by repeat (first | (with_reducible first | exact HB.out | apply below_alloc | apply pw_below_drewN | apply below_drew1) | exact HB.out)⟩
            · rw [if_neg c19] at H
              have c19b0 : (t301 == 0) = false := beq_eq_false_iff_ne.mpr c19
              have c19b1 : (t301 != 0) = true := bne_iff_ne.mpr c19
              (first | rw [c19b0] | (simp only [i64_w, i32_w]; rw [c19b0]) | skip)
              have H' := Aside0.mk H
              clear H
              go_wp2
              go_meet
              case rel => exact ⟨_, H', ⟨by have := HJ3.out; first | omega | exact Nat.le_refl _⟩, ⟨by (with_reducible repeat (first | apply Kd.R_alloc | apply Kd.R_drewN | apply Kd.R_drew)); exact HO293.out⟩, ⟨by repeat (first | (with_reducible first | exact HB.out | apply below_alloc | apply pw_below_drewN | apply below_drew1) | exact HB.out)⟩⟩
          case rest =>
            clear HC15
            try clear c1
            try clear c2
            try clear p2
            try clear c5
            try clear c5b0
            try clear c5b1
            try clear c6
            try clear c6b0
            try clear c6b1
            try clear c7
            try clear c8
            try clear c9
            try clear c12
            try clear c12b0
            try clear c12b1
            try clear c14
            try clear c19
            try clear c19b0
            try clear c19b1
            try clear c22
            try clear c22b0
            try clear c22b1
            try clear c23
            try clear c23b0
            try clear c23b1
            try clear p2
            obtain ⟨kq, HA, HJ14, HO_7, HB⟩ := hcut
            cases kq with
            | zero => exact absurd HA.out (by simp [tutorlaw02_GlyphBack.j1])
            | succ kj14 =>
              have H := HA.out
              clear HA
              simp only [tutorlaw02_GlyphBack.j1] at H
              replace H := Option.bind_eq_some_iff.mp H
              obtain ⟨⟨t305, t306⟩, A300, H⟩ := H
              replace H : ((tutorlaw02_num.f t306).bind fun t307 => (if t307 = 0 then ((glyph_Read.f t289 t305).bind fun bt310 => ((tutorlaw02_num.f bt310.2.1).bind fun t315 => (if t315 = 0 then (if bt310.2.2 = (t305.size : Int) then ((tutorref01_Same.f kj14 bt310.1 l2).bind fun t316 => (if t316 = true then ((tutorlaw02_live.f kj14).bind fun t317 => (some t317)) else (some false))) else (some false)) else (some false)))) else (if t305.toList = ([] : List UInt8) then ((tutorlaw02_num.f t306).bind fun t308 => (if t308 = 10 then ((tutorlaw02_live.f kj14).bind fun t309 => (some t309)) else (some false))) else (some false)))) = some r := H
              have A30 := Aside0.mk A300
              clear A300
              replace H := Option.bind_eq_some_iff.mp H
              obtain ⟨t307, A310, H⟩ := H
              replace H : (if t307 = 0 then ((glyph_Read.f t289 t305).bind fun bt310 => ((tutorlaw02_num.f bt310.2.1).bind fun t315 => (if t315 = 0 then (if bt310.2.2 = (t305.size : Int) then ((tutorref01_Same.f kj14 bt310.1 l2).bind fun t316 => (if t316 = true then ((tutorlaw02_live.f kj14).bind fun t317 => (some t317)) else (some false))) else (some false)) else (some false)))) else (if t305.toList = ([] : List UInt8) then ((tutorlaw02_num.f t306).bind fun t308 => (if t308 = 10 then ((tutorlaw02_live.f kj14).bind fun t309 => (some t309)) else (some false))) else (some false))) = some r := H
              have A31 := Aside0.mk A310
              clear A310
              by_cases c32 : t307 = 0
              · rw [if_pos c32] at H
                have c32b0 : (t307 == 0) = true := beq_iff_eq.mpr c32
                have c32b1 : (t307 != 0) = false := bne_eq_false_iff_eq.mpr c32
                clear c32
                replace H := Option.bind_eq_some_iff.mp H
                obtain ⟨⟨t310, t311, t312⟩, A330, H⟩ := H
                replace H : ((tutorlaw02_num.f t311).bind fun t315 => (if t315 = 0 then (if t312 = (t305.size : Int) then ((tutorref01_Same.f kj14 t310 l2).bind fun t316 => (if t316 = true then ((tutorlaw02_live.f kj14).bind fun t317 => (some t317)) else (some false))) else (some false)) else (some false))) = some r := H
                have A33 := Aside0.mk A330
                clear A330
                replace H := Option.bind_eq_some_iff.mp H
                obtain ⟨t315, A340, H⟩ := H
                replace H : (if t315 = 0 then (if t312 = (t305.size : Int) then ((tutorref01_Same.f kj14 t310 l2).bind fun t316 => (if t316 = true then ((tutorlaw02_live.f kj14).bind fun t317 => (some t317)) else (some false))) else (some false)) else (some false)) = some r := H
                have A34 := Aside0.mk A340
                clear A340
                by_cases c35 : t315 = 0
                · rw [if_pos c35] at H
                  have c35b0 : (t315 == 0) = true := beq_iff_eq.mpr c35
                  have c35b1 : (t315 != 0) = false := bne_eq_false_iff_eq.mpr c35
                  clear c35
                  by_cases c36 : t312 = (t305.size : Int)
                  · rw [if_pos c36] at H
                    have c36b0 : (t312 == (t305.size : Int)) = true := beq_iff_eq.mpr c36
                    have c36b1 : (t312 != (t305.size : Int)) = false := bne_eq_false_iff_eq.mpr c36
                    clear c36
                    replace H := Option.bind_eq_some_iff.mp H
                    obtain ⟨t316, A370, H⟩ := H
                    replace H : (if t316 = true then ((tutorlaw02_live.f kj14).bind fun t317 => (some t317)) else (some false)) = some r := H
                    have A37 := Aside0.mk A370
                    clear A370
                    by_cases c38 : t316 = true
                    · subst c38
                      have H1 : ((tutorlaw02_live.f kj14).bind fun t317 => (some t317)) = some r := by rw [if_pos rfl] at H; exact H
                      clear H
                      have H := H1
                      clear H1
                      replace H := Option.bind_eq_some_iff.mp H
                      obtain ⟨t317, A390, H⟩ := H
                      replace H : (some t317) = some r := H
                      have A39 := Aside0.mk A390
                      clear A390
                      obtain rfl := Option.some.inj H
                      go_wp2_with (first | ((with_reducible refine gate_callee (f := 14) rfl ?_); refine goesL_ (some 76) rfl rfl Tryd.func14 (by kernel_rfl) rfl #[.slice Ao17 t289.length co17, .slice A2 l2.length c2] rfl (by (try simp only [List.map_toArray, List.map_cons, List.map_nil]); first | done | rfl | (simp only [List.length_drop, List.length_take]; rfl)) ?_; (with_reducible refine (glyph_Show.calls _ _ t289 _ _ l2 t305 t306 _ ?side1 ?side2 ?side3 ?side4 A30.out).mono ?_); (case side1 => repeat (first | exact (Kd.R_reads' HO_7.out).2.2 | (with_reducible refine Kd.C_alloc ?_ _) | (with_reducible refine Kd.C_drewN ?_ _) | (with_reducible refine Kd.C_drew ?_))); (case side2 => exact (Kd.R_reads' HO_7.out).2.1); (case side3 => repeat (first | exact (Kd.C_below HR2.out HB.out) | (with_reducible refine Kd.C_alloc ?_ _) | (with_reducible refine Kd.C_drewN ?_ _) | (with_reducible refine Kd.C_drew ?_))); (case side4 => exact HC2.out); rintro e w40 ⟨rfl, hb⟩; refine ⟨_, rfl, ?_⟩; have n0_ := Aside0.mk (Kd.R_below (by (with_reducible repeat (first | apply Kd.R_alloc | apply Kd.R_drewN | apply Kd.R_drew)); exact HO_7.out) hb); have n1_ := Aside0.mk (below_step (by repeat (first | (with_reducible first | exact HB.out | apply below_alloc | apply pw_below_drewN | apply below_drew1) | exact HB.out)) hb); clear HO_7; clear HB; have HO_7 := n0_; have HB := n1_; clear n0_ n1_; (try clear hb); (try clear hb2); (try clear hk); (try clear hi)) | ((with_reducible refine gate_callee (f := 12) rfl ?_); refine goesL_ (some 80) rfl rfl Tryd.func12 (by kernel_rfl) rfl #[.int .i64 t306] rfl (by (try simp only [List.map_toArray, List.map_cons, List.map_nil]); first | done | rfl | (simp only [List.length_drop, List.length_take]; rfl)) ?_; (with_reducible refine (tutorlaw02_num.calls t306 t307 _ A31.out).mono ?_); rintro e w' ⟨rfl, ⟨nd, rfl⟩⟩; refine ⟨_, rfl, ?_⟩) | ((with_reducible refine gate_callee (f := 19) rfl ?_); refine goesL_ (some 95) rfl rfl Tryd.func19 (by kernel_rfl) rfl #[.slice Ao17 t289.length co17, .string t305] rfl (by (try simp only [List.map_toArray, List.map_cons, List.map_nil]); first | done | rfl | (simp only [List.length_drop, List.length_take]; rfl)) ?_; (with_reducible refine (glyph_Read.calls _ _ t289 t305 t310 t311 t312 _ ?side1 ?side2 A33.out (by first | exact TabsOr.lit (by decide) | exact TabsOr.tab (Utf8Tabs_below hT.out (by repeat (first | (with_reducible first | exact HB.out | apply below_alloc | apply pw_below_drewN | apply below_drew1) | exact HB.out))))).mono ?_); (case side1 => repeat (first | exact (Kd.R_reads' HO_7.out).2.2 | (with_reducible refine Kd.C_alloc ?_ _) | (with_reducible refine Kd.C_drewN ?_ _) | (with_reducible refine Kd.C_drew ?_))); (case side2 => exact (Kd.R_reads' HO_7.out).2.1); rintro e w41 ⟨v313, rfl, ho0, hb⟩; refine ⟨_, rfl, ?_⟩; have n0_ := Aside0.mk (Kd.R_below (by (with_reducible repeat (first | apply Kd.R_alloc | apply Kd.R_drewN | apply Kd.R_drew)); exact HO_7.out) hb); have n1_ := Aside0.mk (Kd.R_lower ho0 (below_size (by repeat (first | (with_reducible first | exact HB.out | apply below_alloc | apply pw_below_drewN | apply below_drew1) | exact HB.out)))); have n2_ := Aside0.mk (below_step (by repeat (first | (with_reducible first | exact HB.out | apply below_alloc | apply pw_below_drewN | apply below_drew1) | exact HB.out)) hb); clear HO_7; clear HB; have HO_7 := n0_; have HO314 := n1_; have HB := n2_; clear n0_ n1_ n2_; (try clear hb); (try clear hb2); (try clear hk); (try clear hi); (try clear ho0)) | ((with_reducible refine gate_callee (f := 12) rfl ?_); refine goesL_ (some 100) rfl rfl Tryd.func12 (by kernel_rfl) rfl #[.int .i64 t311] rfl (by (try simp only [List.map_toArray, List.map_cons, List.map_nil]); first | done | rfl | (simp only [List.length_drop, List.length_take]; rfl)) ?_; (with_reducible refine (tutorlaw02_num.calls t311 t315 _ A34.out).mono ?_); rintro e w' ⟨rfl, ⟨nd, rfl⟩⟩; refine ⟨_, rfl, ?_⟩; obtain ⟨Ao42, co42, eo42⟩ := Kd.R_slice HO314.out; subst eo42) | (go_at_call 20; (with_reducible refine (tutorref01_Same.calls kj14 _ _ t310 _ _ l2 true _ ?side1 ?side2 ?side3 ?side4 A37.out).mono ?_); (case side1 => repeat (first | exact (Kd.R_reads' HO314.out).2.2 | (with_reducible refine Kd.C_alloc ?_ _) | (with_reducible refine Kd.C_drewN ?_ _) | (with_reducible refine Kd.C_drew ?_))); (case side2 => exact (Kd.R_reads' HO314.out).2.1); (case side3 => repeat (first | exact (Kd.C_below HR2.out (by repeat (first | (with_reducible first | exact HB.out | apply below_alloc | apply pw_below_drewN | apply below_drew1) | exact HB.out))) | (with_reducible refine Kd.C_alloc ?_ _) | (with_reducible refine Kd.C_drewN ?_ _) | (with_reducible refine Kd.C_drew ?_))); (case side4 => exact HC2.out); rintro e w' ⟨rfl, ⟨nd, rfl⟩⟩) | (go_at_call 8; (with_reducible refine (tutorlaw02_live.calls kj14  t317 _ A39.out).mono ?_); rintro e w43 ⟨rfl, hb⟩; have n0_ := Aside0.mk (Kd.R_below (by (with_reducible repeat (first | apply Kd.R_alloc | apply Kd.R_drewN | apply Kd.R_drew)); exact HO_7.out) hb); have n1_ := Aside0.mk (Kd.R_below (by (with_reducible repeat (first | apply Kd.R_alloc | apply Kd.R_drewN | apply Kd.R_drew)); exact HO314.out) hb); have n2_ := Aside0.mk (below_step (by repeat (first | (with_reducible first | exact HB.out | apply below_alloc | apply pw_below_drewN | apply below_drew1) | exact HB.out)) hb); clear HO_7; clear HO314; clear HB; have HO_7 := n0_; have HO314 := n1_; have HB := n2_; clear n0_ n1_ n2_; (try clear hb); (try clear hb2); (try clear hk); (try clear hi)))
                      go_ret
                      exact ⟨by first | rfl | (simp [errW_none, errW_some] <;> rfl) | (simp [*, errW_none, errW_some] <;> rfl), by repeat (first | (with_reducible first | exact HB.out | apply below_alloc | apply pw_below_drewN | apply below_drew1) | exact HB.out)⟩
                    · replace c38 := Bool.eq_false_iff.mpr c38
                      subst c38
                      have H1 : (some false) = some r := by rw [if_neg (show ¬ (false = true) by decide)] at H; exact H
                      clear H
                      have H := H1
                      clear H1
                      obtain rfl := Option.some.inj H
                      go_wp2_with (first | ((with_reducible refine gate_callee (f := 14) rfl ?_); refine goesL_ (some 76) rfl rfl Tryd.func14 (by kernel_rfl) rfl #[.slice Ao17 t289.length co17, .slice A2 l2.length c2] rfl (by (try simp only [List.map_toArray, List.map_cons, List.map_nil]); first | done | rfl | (simp only [List.length_drop, List.length_take]; rfl)) ?_; (with_reducible refine (glyph_Show.calls _ _ t289 _ _ l2 t305 t306 _ ?side1 ?side2 ?side3 ?side4 A30.out).mono ?_); (case side1 => repeat (first | exact (Kd.R_reads' HO_7.out).2.2 | (with_reducible refine Kd.C_alloc ?_ _) | (with_reducible refine Kd.C_drewN ?_ _) | (with_reducible refine Kd.C_drew ?_))); (case side2 => exact (Kd.R_reads' HO_7.out).2.1); (case side3 => repeat (first | exact (Kd.C_below HR2.out HB.out) | (with_reducible refine Kd.C_alloc ?_ _) | (with_reducible refine Kd.C_drewN ?_ _) | (with_reducible refine Kd.C_drew ?_))); (case side4 => exact HC2.out); rintro e w44 ⟨rfl, hb⟩; refine ⟨_, rfl, ?_⟩; have n0_ := Aside0.mk (Kd.R_below (by (with_reducible repeat (first | apply Kd.R_alloc | apply Kd.R_drewN | apply Kd.R_drew)); exact HO_7.out) hb); have n1_ := Aside0.mk (below_step (by repeat (first | (with_reducible first | exact HB.out | apply below_alloc | apply pw_below_drewN | apply below_drew1) | exact HB.out)) hb); clear HO_7; clear HB; have HO_7 := n0_; have HB := n1_; clear n0_ n1_; (try clear hb); (try clear hb2); (try clear hk); (try clear hi)) | ((with_reducible refine gate_callee (f := 12) rfl ?_); refine goesL_ (some 80) rfl rfl Tryd.func12 (by kernel_rfl) rfl #[.int .i64 t306] rfl (by (try simp only [List.map_toArray, List.map_cons, List.map_nil]); first | done | rfl | (simp only [List.length_drop, List.length_take]; rfl)) ?_; (with_reducible refine (tutorlaw02_num.calls t306 t307 _ A31.out).mono ?_); rintro e w' ⟨rfl, ⟨nd, rfl⟩⟩; refine ⟨_, rfl, ?_⟩) | ((with_reducible refine gate_callee (f := 19) rfl ?_); refine goesL_ (some 95) rfl rfl Tryd.func19 (by kernel_rfl) rfl #[.slice Ao17 t289.length co17, .string t305] rfl (by (try simp only [List.map_toArray, List.map_cons, List.map_nil]); first | done | rfl | (simp only [List.length_drop, List.length_take]; rfl)) ?_; (with_reducible refine (glyph_Read.calls _ _ t289 t305 t310 t311 t312 _ ?side1 ?side2 A33.out (by first | exact TabsOr.lit (by decide) | exact TabsOr.tab (Utf8Tabs_below hT.out (by repeat (first | (with_reducible first | exact HB.out | apply below_alloc | apply pw_below_drewN | apply below_drew1) | exact HB.out))))).mono ?_); (case side1 => repeat (first | exact (Kd.R_reads' HO_7.out).2.2 | (with_reducible refine Kd.C_alloc ?_ _) | (with_reducible refine Kd.C_drewN ?_ _) | (with_reducible refine Kd.C_drew ?_))); (case side2 => exact (Kd.R_reads' HO_7.out).2.1); rintro e w45 ⟨v313, rfl, ho0, hb⟩; refine ⟨_, rfl, ?_⟩; have n0_ := Aside0.mk (Kd.R_below (by (with_reducible repeat (first | apply Kd.R_alloc | apply Kd.R_drewN | apply Kd.R_drew)); exact HO_7.out) hb); have n1_ := Aside0.mk (Kd.R_lower ho0 (below_size (by repeat (first | (with_reducible first | exact HB.out | apply below_alloc | apply pw_below_drewN | apply below_drew1) | exact HB.out)))); have n2_ := Aside0.mk (below_step (by repeat (first | (with_reducible first | exact HB.out | apply below_alloc | apply pw_below_drewN | apply below_drew1) | exact HB.out)) hb); clear HO_7; clear HB; have HO_7 := n0_; have HO314 := n1_; have HB := n2_; clear n0_ n1_ n2_; (try clear hb); (try clear hb2); (try clear hk); (try clear hi); (try clear ho0)) | ((with_reducible refine gate_callee (f := 12) rfl ?_); refine goesL_ (some 100) rfl rfl Tryd.func12 (by kernel_rfl) rfl #[.int .i64 t311] rfl (by (try simp only [List.map_toArray, List.map_cons, List.map_nil]); first | done | rfl | (simp only [List.length_drop, List.length_take]; rfl)) ?_; (with_reducible refine (tutorlaw02_num.calls t311 t315 _ A34.out).mono ?_); rintro e w' ⟨rfl, ⟨nd, rfl⟩⟩; refine ⟨_, rfl, ?_⟩; obtain ⟨Ao46, co46, eo46⟩ := Kd.R_slice HO314.out; subst eo46) | (go_at_call 20; (with_reducible refine (tutorref01_Same.calls kj14 _ _ t310 _ _ l2 false _ ?side1 ?side2 ?side3 ?side4 A37.out).mono ?_); (case side1 => repeat (first | exact (Kd.R_reads' HO314.out).2.2 | (with_reducible refine Kd.C_alloc ?_ _) | (with_reducible refine Kd.C_drewN ?_ _) | (with_reducible refine Kd.C_drew ?_))); (case side2 => exact (Kd.R_reads' HO314.out).2.1); (case side3 => repeat (first | exact (Kd.C_below HR2.out (by repeat (first | (with_reducible first | exact HB.out | apply below_alloc | apply pw_below_drewN | apply below_drew1) | exact HB.out))) | (with_reducible refine Kd.C_alloc ?_ _) | (with_reducible refine Kd.C_drewN ?_ _) | (with_reducible refine Kd.C_drew ?_))); (case side4 => exact HC2.out); rintro e w' ⟨rfl, ⟨nd, rfl⟩⟩))
                      go_ret
                      exact ⟨by first | rfl | (simp [errW_none, errW_some] <;> rfl) | (simp [*, errW_none, errW_some] <;> rfl), by repeat (first | (with_reducible first | exact HB.out | apply below_alloc | apply pw_below_drewN | apply below_drew1) | exact HB.out)⟩
                  · rw [if_neg c36] at H
                    have c36b0 : (t312 == (t305.size : Int)) = false := beq_eq_false_iff_ne.mpr c36
                    have c36b1 : (t312 != (t305.size : Int)) = true := bne_iff_ne.mpr c36
                    obtain rfl := Option.some.inj H
                    go_wp2_with (first | ((with_reducible refine gate_callee (f := 14) rfl ?_); refine goesL_ (some 76) rfl rfl Tryd.func14 (by kernel_rfl) rfl #[.slice Ao17 t289.length co17, .slice A2 l2.length c2] rfl (by (try simp only [List.map_toArray, List.map_cons, List.map_nil]); first | done | rfl | (simp only [List.length_drop, List.length_take]; rfl)) ?_; (with_reducible refine (glyph_Show.calls _ _ t289 _ _ l2 t305 t306 _ ?side1 ?side2 ?side3 ?side4 A30.out).mono ?_); (case side1 => repeat (first | exact (Kd.R_reads' HO_7.out).2.2 | (with_reducible refine Kd.C_alloc ?_ _) | (with_reducible refine Kd.C_drewN ?_ _) | (with_reducible refine Kd.C_drew ?_))); (case side2 => exact (Kd.R_reads' HO_7.out).2.1); (case side3 => repeat (first | exact (Kd.C_below HR2.out HB.out) | (with_reducible refine Kd.C_alloc ?_ _) | (with_reducible refine Kd.C_drewN ?_ _) | (with_reducible refine Kd.C_drew ?_))); (case side4 => exact HC2.out); rintro e w47 ⟨rfl, hb⟩; refine ⟨_, rfl, ?_⟩; have n0_ := Aside0.mk (Kd.R_below (by (with_reducible repeat (first | apply Kd.R_alloc | apply Kd.R_drewN | apply Kd.R_drew)); exact HO_7.out) hb); have n1_ := Aside0.mk (below_step (by repeat (first | (with_reducible first | exact HB.out | apply below_alloc | apply pw_below_drewN | apply below_drew1) | exact HB.out)) hb); clear HO_7; clear HB; have HO_7 := n0_; have HB := n1_; clear n0_ n1_; (try clear hb); (try clear hb2); (try clear hk); (try clear hi)) | ((with_reducible refine gate_callee (f := 12) rfl ?_); refine goesL_ (some 80) rfl rfl Tryd.func12 (by kernel_rfl) rfl #[.int .i64 t306] rfl (by (try simp only [List.map_toArray, List.map_cons, List.map_nil]); first | done | rfl | (simp only [List.length_drop, List.length_take]; rfl)) ?_; (with_reducible refine (tutorlaw02_num.calls t306 t307 _ A31.out).mono ?_); rintro e w' ⟨rfl, ⟨nd, rfl⟩⟩; refine ⟨_, rfl, ?_⟩) | ((with_reducible refine gate_callee (f := 19) rfl ?_); refine goesL_ (some 95) rfl rfl Tryd.func19 (by kernel_rfl) rfl #[.slice Ao17 t289.length co17, .string t305] rfl (by (try simp only [List.map_toArray, List.map_cons, List.map_nil]); first | done | rfl | (simp only [List.length_drop, List.length_take]; rfl)) ?_; (with_reducible refine (glyph_Read.calls _ _ t289 t305 t310 t311 t312 _ ?side1 ?side2 A33.out (by first | exact TabsOr.lit (by decide) | exact TabsOr.tab (Utf8Tabs_below hT.out (by repeat (first | (with_reducible first | exact HB.out | apply below_alloc | apply pw_below_drewN | apply below_drew1) | exact HB.out))))).mono ?_); (case side1 => repeat (first | exact (Kd.R_reads' HO_7.out).2.2 | (with_reducible refine Kd.C_alloc ?_ _) | (with_reducible refine Kd.C_drewN ?_ _) | (with_reducible refine Kd.C_drew ?_))); (case side2 => exact (Kd.R_reads' HO_7.out).2.1); rintro e w48 ⟨v313, rfl, ho0, hb⟩; refine ⟨_, rfl, ?_⟩; have n0_ := Aside0.mk (Kd.R_below (by (with_reducible repeat (first | apply Kd.R_alloc | apply Kd.R_drewN | apply Kd.R_drew)); exact HO_7.out) hb); have n1_ := Aside0.mk (Kd.R_lower ho0 (below_size (by repeat (first | (with_reducible first | exact HB.out | apply below_alloc | apply pw_below_drewN | apply below_drew1) | exact HB.out)))); have n2_ := Aside0.mk (below_step (by repeat (first | (with_reducible first | exact HB.out | apply below_alloc | apply pw_below_drewN | apply below_drew1) | exact HB.out)) hb); clear HO_7; clear HB; have HO_7 := n0_; have HO314 := n1_; have HB := n2_; clear n0_ n1_ n2_; (try clear hb); (try clear hb2); (try clear hk); (try clear hi); (try clear ho0)) | ((with_reducible refine gate_callee (f := 12) rfl ?_); refine goesL_ (some 100) rfl rfl Tryd.func12 (by kernel_rfl) rfl #[.int .i64 t311] rfl (by (try simp only [List.map_toArray, List.map_cons, List.map_nil]); first | done | rfl | (simp only [List.length_drop, List.length_take]; rfl)) ?_; (with_reducible refine (tutorlaw02_num.calls t311 t315 _ A34.out).mono ?_); rintro e w' ⟨rfl, ⟨nd, rfl⟩⟩; refine ⟨_, rfl, ?_⟩))
                    go_ret
                    exact ⟨by first | rfl | (simp [errW_none, errW_some] <;> rfl) | (simp [*, errW_none, errW_some] <;> rfl), by repeat (first | (with_reducible first | exact HB.out | apply below_alloc | apply pw_below_drewN | apply below_drew1) | exact HB.out)⟩
                · rw [if_neg c35] at H
                  have c35b0 : (t315 == 0) = false := beq_eq_false_iff_ne.mpr c35
                  have c35b1 : (t315 != 0) = true := bne_iff_ne.mpr c35
                  obtain rfl := Option.some.inj H
                  go_wp2_with (first | ((with_reducible refine gate_callee (f := 14) rfl ?_); refine goesL_ (some 76) rfl rfl Tryd.func14 (by kernel_rfl) rfl #[.slice Ao17 t289.length co17, .slice A2 l2.length c2] rfl (by (try simp only [List.map_toArray, List.map_cons, List.map_nil]); first | done | rfl | (simp only [List.length_drop, List.length_take]; rfl)) ?_; (with_reducible refine (glyph_Show.calls _ _ t289 _ _ l2 t305 t306 _ ?side1 ?side2 ?side3 ?side4 A30.out).mono ?_); (case side1 => repeat (first | exact (Kd.R_reads' HO_7.out).2.2 | (with_reducible refine Kd.C_alloc ?_ _) | (with_reducible refine Kd.C_drewN ?_ _) | (with_reducible refine Kd.C_drew ?_))); (case side2 => exact (Kd.R_reads' HO_7.out).2.1); (case side3 => repeat (first | exact (Kd.C_below HR2.out HB.out) | (with_reducible refine Kd.C_alloc ?_ _) | (with_reducible refine Kd.C_drewN ?_ _) | (with_reducible refine Kd.C_drew ?_))); (case side4 => exact HC2.out); rintro e w49 ⟨rfl, hb⟩; refine ⟨_, rfl, ?_⟩; have n0_ := Aside0.mk (Kd.R_below (by (with_reducible repeat (first | apply Kd.R_alloc | apply Kd.R_drewN | apply Kd.R_drew)); exact HO_7.out) hb); have n1_ := Aside0.mk (below_step (by repeat (first | (with_reducible first | exact HB.out | apply below_alloc | apply pw_below_drewN | apply below_drew1) | exact HB.out)) hb); clear HO_7; clear HB; have HO_7 := n0_; have HB := n1_; clear n0_ n1_; (try clear hb); (try clear hb2); (try clear hk); (try clear hi)) | ((with_reducible refine gate_callee (f := 12) rfl ?_); refine goesL_ (some 80) rfl rfl Tryd.func12 (by kernel_rfl) rfl #[.int .i64 t306] rfl (by (try simp only [List.map_toArray, List.map_cons, List.map_nil]); first | done | rfl | (simp only [List.length_drop, List.length_take]; rfl)) ?_; (with_reducible refine (tutorlaw02_num.calls t306 t307 _ A31.out).mono ?_); rintro e w' ⟨rfl, ⟨nd, rfl⟩⟩; refine ⟨_, rfl, ?_⟩) | ((with_reducible refine gate_callee (f := 19) rfl ?_); refine goesL_ (some 95) rfl rfl Tryd.func19 (by kernel_rfl) rfl #[.slice Ao17 t289.length co17, .string t305] rfl (by (try simp only [List.map_toArray, List.map_cons, List.map_nil]); first | done | rfl | (simp only [List.length_drop, List.length_take]; rfl)) ?_; (with_reducible refine (glyph_Read.calls _ _ t289 t305 t310 t311 t312 _ ?side1 ?side2 A33.out (by first | exact TabsOr.lit (by decide) | exact TabsOr.tab (Utf8Tabs_below hT.out (by repeat (first | (with_reducible first | exact HB.out | apply below_alloc | apply pw_below_drewN | apply below_drew1) | exact HB.out))))).mono ?_); (case side1 => repeat (first | exact (Kd.R_reads' HO_7.out).2.2 | (with_reducible refine Kd.C_alloc ?_ _) | (with_reducible refine Kd.C_drewN ?_ _) | (with_reducible refine Kd.C_drew ?_))); (case side2 => exact (Kd.R_reads' HO_7.out).2.1); rintro e w50 ⟨v313, rfl, ho0, hb⟩; refine ⟨_, rfl, ?_⟩; have n0_ := Aside0.mk (Kd.R_below (by (with_reducible repeat (first | apply Kd.R_alloc | apply Kd.R_drewN | apply Kd.R_drew)); exact HO_7.out) hb); have n1_ := Aside0.mk (Kd.R_lower ho0 (below_size (by repeat (first | (with_reducible first | exact HB.out | apply below_alloc | apply pw_below_drewN | apply below_drew1) | exact HB.out)))); have n2_ := Aside0.mk (below_step (by repeat (first | (with_reducible first | exact HB.out | apply below_alloc | apply pw_below_drewN | apply below_drew1) | exact HB.out)) hb); clear HO_7; clear HB; have HO_7 := n0_; have HO314 := n1_; have HB := n2_; clear n0_ n1_ n2_; (try clear hb); (try clear hb2); (try clear hk); (try clear hi); (try clear ho0)) | ((with_reducible refine gate_callee (f := 12) rfl ?_); refine goesL_ (some 100) rfl rfl Tryd.func12 (by kernel_rfl) rfl #[.int .i64 t311] rfl (by (try simp only [List.map_toArray, List.map_cons, List.map_nil]); first | done | rfl | (simp only [List.length_drop, List.length_take]; rfl)) ?_; (with_reducible refine (tutorlaw02_num.calls t311 t315 _ A34.out).mono ?_); rintro e w' ⟨rfl, ⟨nd, rfl⟩⟩; refine ⟨_, rfl, ?_⟩))
                  go_ret
                  exact ⟨by first | rfl | (simp [errW_none, errW_some] <;> rfl) | (simp [*, errW_none, errW_some] <;> rfl), by repeat (first | (with_reducible first | exact HB.out | apply below_alloc | apply pw_below_drewN | apply below_drew1) | exact HB.out)⟩
              · rw [if_neg c32] at H
                have c32b0 : (t307 == 0) = false := beq_eq_false_iff_ne.mpr c32
                have c32b1 : (t307 != 0) = true := bne_iff_ne.mpr c32
                by_cases c51 : t305.toList = ([] : List UInt8)
                · rw [if_pos c51] at H
                  have c51b0 : (t305.toList == ([] : List UInt8)) = true := beq_iff_eq.mpr c51
                  have c51b1 : (t305.toList != ([] : List UInt8)) = false := bne_eq_false_iff_eq.mpr c51
                  clear c51
                  replace H := Option.bind_eq_some_iff.mp H
                  obtain ⟨t308, A520, H⟩ := H
                  replace H : (if t308 = 10 then ((tutorlaw02_live.f kj14).bind fun t309 => (some t309)) else (some false)) = some r := H
                  have A52 := Aside0.mk A520
                  clear A520
                  by_cases c53 : t308 = 10
                  · rw [if_pos c53] at H
                    have c53b0 : (t308 == 10) = true := beq_iff_eq.mpr c53
                    have c53b1 : (t308 != 10) = false := bne_eq_false_iff_eq.mpr c53
                    clear c53
                    replace H := Option.bind_eq_some_iff.mp H
                    obtain ⟨t309, A540, H⟩ := H
                    replace H : (some t309) = some r := H
                    have A54 := Aside0.mk A540
                    clear A540
                    obtain rfl := Option.some.inj H
                    go_wp2_with (first | ((with_reducible refine gate_callee (f := 14) rfl ?_); refine goesL_ (some 76) rfl rfl Tryd.func14 (by kernel_rfl) rfl #[.slice Ao17 t289.length co17, .slice A2 l2.length c2] rfl (by (try simp only [List.map_toArray, List.map_cons, List.map_nil]); first | done | rfl | (simp only [List.length_drop, List.length_take]; rfl)) ?_; (with_reducible refine (glyph_Show.calls _ _ t289 _ _ l2 t305 t306 _ ?side1 ?side2 ?side3 ?side4 A30.out).mono ?_); (case side1 => repeat (first | exact (Kd.R_reads' HO_7.out).2.2 | (with_reducible refine Kd.C_alloc ?_ _) | (with_reducible refine Kd.C_drewN ?_ _) | (with_reducible refine Kd.C_drew ?_))); (case side2 => exact (Kd.R_reads' HO_7.out).2.1); (case side3 => repeat (first | exact (Kd.C_below HR2.out HB.out) | (with_reducible refine Kd.C_alloc ?_ _) | (with_reducible refine Kd.C_drewN ?_ _) | (with_reducible refine Kd.C_drew ?_))); (case side4 => exact HC2.out); rintro e w55 ⟨rfl, hb⟩; refine ⟨_, rfl, ?_⟩; have n0_ := Aside0.mk (Kd.R_below (by (with_reducible repeat (first | apply Kd.R_alloc | apply Kd.R_drewN | apply Kd.R_drew)); exact HO_7.out) hb); have n1_ := Aside0.mk (below_step (by repeat (first | (with_reducible first | exact HB.out | apply below_alloc | apply pw_below_drewN | apply below_drew1) | exact HB.out)) hb); clear HO_7; clear HB; have HO_7 := n0_; have HB := n1_; clear n0_ n1_; (try clear hb); (try clear hb2); (try clear hk); (try clear hi)) | ((with_reducible refine gate_callee (f := 12) rfl ?_); refine goesL_ (some 80) rfl rfl Tryd.func12 (by kernel_rfl) rfl #[.int .i64 t306] rfl (by (try simp only [List.map_toArray, List.map_cons, List.map_nil]); first | done | rfl | (simp only [List.length_drop, List.length_take]; rfl)) ?_; (with_reducible refine (tutorlaw02_num.calls t306 t307 _ A31.out).mono ?_); rintro e w' ⟨rfl, ⟨nd, rfl⟩⟩; refine ⟨_, rfl, ?_⟩) | (go_at_call 12; (with_reducible refine (tutorlaw02_num.calls t306 t308 _ A52.out).mono ?_); rintro e w' ⟨rfl, ⟨nd, rfl⟩⟩) | (go_at_call 8; (with_reducible refine (tutorlaw02_live.calls kj14  t309 _ A54.out).mono ?_); rintro e w56 ⟨rfl, hb⟩; have n0_ := Aside0.mk (Kd.R_below (by (with_reducible repeat (first | apply Kd.R_alloc | apply Kd.R_drewN | apply Kd.R_drew)); exact HO_7.out) hb); have n1_ := Aside0.mk (below_step (by repeat (first | (with_reducible first | exact HB.out | apply below_alloc | apply pw_below_drewN | apply below_drew1) | exact HB.out)) hb); clear HO_7; clear HB; have HO_7 := n0_; have HB := n1_; clear n0_ n1_; (try clear hb); (try clear hb2); (try clear hk); (try clear hi)))
                    go_ret
                    exact ⟨by first | rfl | (simp [errW_none, errW_some] <;> rfl) | (simp [*, errW_none, errW_some] <;> rfl), by repeat (first | (with_reducible first | exact HB.out | apply below_alloc | apply pw_below_drewN | apply below_drew1) | exact HB.out)⟩
                  · rw [if_neg c53] at H
                    have c53b0 : (t308 == 10) = false := beq_eq_false_iff_ne.mpr c53
                    have c53b1 : (t308 != 10) = true := bne_iff_ne.mpr c53
                    obtain rfl := Option.some.inj H
                    go_wp2_with (first | ((with_reducible refine gate_callee (f := 14) rfl ?_); refine goesL_ (some 76) rfl rfl Tryd.func14 (by kernel_rfl) rfl #[.slice Ao17 t289.length co17, .slice A2 l2.length c2] rfl (by (try simp only [List.map_toArray, List.map_cons, List.map_nil]); first | done | rfl | (simp only [List.length_drop, List.length_take]; rfl)) ?_; (with_reducible refine (glyph_Show.calls _ _ t289 _ _ l2 t305 t306 _ ?side1 ?side2 ?side3 ?side4 A30.out).mono ?_); (case side1 => repeat (first | exact (Kd.R_reads' HO_7.out).2.2 | (with_reducible refine Kd.C_alloc ?_ _) | (with_reducible refine Kd.C_drewN ?_ _) | (with_reducible refine Kd.C_drew ?_))); (case side2 => exact (Kd.R_reads' HO_7.out).2.1); (case side3 => repeat (first | exact (Kd.C_below HR2.out HB.out) | (with_reducible refine Kd.C_alloc ?_ _) | (with_reducible refine Kd.C_drewN ?_ _) | (with_reducible refine Kd.C_drew ?_))); (case side4 => exact HC2.out); rintro e w57 ⟨rfl, hb⟩; refine ⟨_, rfl, ?_⟩; have n0_ := Aside0.mk (Kd.R_below (by (with_reducible repeat (first | apply Kd.R_alloc | apply Kd.R_drewN | apply Kd.R_drew)); exact HO_7.out) hb); have n1_ := Aside0.mk (below_step (by repeat (first | (with_reducible first | exact HB.out | apply below_alloc | apply pw_below_drewN | apply below_drew1) | exact HB.out)) hb); clear HO_7; clear HB; have HO_7 := n0_; have HB := n1_; clear n0_ n1_; (try clear hb); (try clear hb2); (try clear hk); (try clear hi)) | ((with_reducible refine gate_callee (f := 12) rfl ?_); refine goesL_ (some 80) rfl rfl Tryd.func12 (by kernel_rfl) rfl #[.int .i64 t306] rfl (by (try simp only [List.map_toArray, List.map_cons, List.map_nil]); first | done | rfl | (simp only [List.length_drop, List.length_take]; rfl)) ?_; (with_reducible refine (tutorlaw02_num.calls t306 t307 _ A31.out).mono ?_); rintro e w' ⟨rfl, ⟨nd, rfl⟩⟩; refine ⟨_, rfl, ?_⟩) | (go_at_call 12; (with_reducible refine (tutorlaw02_num.calls t306 t308 _ A52.out).mono ?_); rintro e w' ⟨rfl, ⟨nd, rfl⟩⟩))
                    go_ret
                    exact ⟨by first | rfl | (simp [errW_none, errW_some] <;> rfl) | (simp [*, errW_none, errW_some] <;> rfl), by repeat (first | (with_reducible first | exact HB.out | apply below_alloc | apply pw_below_drewN | apply below_drew1) | exact HB.out)⟩
                · rw [if_neg c51] at H
                  have c51b0 : (t305.toList == ([] : List UInt8)) = false := beq_eq_false_iff_ne.mpr c51
                  have c51b1 : (t305.toList != ([] : List UInt8)) = true := bne_iff_ne.mpr c51
                  obtain rfl := Option.some.inj H
                  go_wp2_with (first | ((with_reducible refine gate_callee (f := 14) rfl ?_); refine goesL_ (some 76) rfl rfl Tryd.func14 (by kernel_rfl) rfl #[.slice Ao17 t289.length co17, .slice A2 l2.length c2] rfl (by (try simp only [List.map_toArray, List.map_cons, List.map_nil]); first | done | rfl | (simp only [List.length_drop, List.length_take]; rfl)) ?_; (with_reducible refine (glyph_Show.calls _ _ t289 _ _ l2 t305 t306 _ ?side1 ?side2 ?side3 ?side4 A30.out).mono ?_); (case side1 => repeat (first | exact (Kd.R_reads' HO_7.out).2.2 | (with_reducible refine Kd.C_alloc ?_ _) | (with_reducible refine Kd.C_drewN ?_ _) | (with_reducible refine Kd.C_drew ?_))); (case side2 => exact (Kd.R_reads' HO_7.out).2.1); (case side3 => repeat (first | exact (Kd.C_below HR2.out HB.out) | (with_reducible refine Kd.C_alloc ?_ _) | (with_reducible refine Kd.C_drewN ?_ _) | (with_reducible refine Kd.C_drew ?_))); (case side4 => exact HC2.out); rintro e w58 ⟨rfl, hb⟩; refine ⟨_, rfl, ?_⟩; have n0_ := Aside0.mk (Kd.R_below (by (with_reducible repeat (first | apply Kd.R_alloc | apply Kd.R_drewN | apply Kd.R_drew)); exact HO_7.out) hb); have n1_ := Aside0.mk (below_step (by repeat (first | (with_reducible first | exact HB.out | apply below_alloc | apply pw_below_drewN | apply below_drew1) | exact HB.out)) hb); clear HO_7; clear HB; have HO_7 := n0_; have HB := n1_; clear n0_ n1_; (try clear hb); (try clear hb2); (try clear hk); (try clear hi)) | ((with_reducible refine gate_callee (f := 12) rfl ?_); refine goesL_ (some 80) rfl rfl Tryd.func12 (by kernel_rfl) rfl #[.int .i64 t306] rfl (by (try simp only [List.map_toArray, List.map_cons, List.map_nil]); first | done | rfl | (simp only [List.length_drop, List.length_take]; rfl)) ?_; (with_reducible refine (tutorlaw02_num.calls t306 t307 _ A31.out).mono ?_); rintro e w' ⟨rfl, ⟨nd, rfl⟩⟩; refine ⟨_, rfl, ?_⟩))
                  go_ret
                  exact ⟨by first | rfl | (simp [errW_none, errW_some] <;> rfl) | (simp [*, errW_none, errW_some] <;> rfl), by repeat (first | (with_reducible first | exact HB.out | apply below_alloc | apply pw_below_drewN | apply below_drew1) | exact HB.out)⟩
        · rw [if_neg c12] at H
          have c12b0 : (t294 == 0) = false := beq_eq_false_iff_ne.mpr c12
          have c12b1 : (t294 != 0) = true := bne_iff_ne.mpr c12
          by_cases c59 : (t289.length : Int) = 0
          · rw [if_pos c59] at H
            have c59b0 : ((t289.length : Int) == 0) = true := beq_iff_eq.mpr c59
            have c59b1 : ((t289.length : Int) != 0) = false := bne_eq_false_iff_eq.mpr c59
            clear c59
            replace H := Option.bind_eq_some_iff.mp H
            obtain ⟨t295, A600, H⟩ := H
            replace H : (some t295) = some r := H
            have A60 := Aside0.mk A600
            clear A600
            obtain rfl := Option.some.inj H
            go_wp2_with (first | ((with_reducible refine gate_callee (f := 9) rfl ?_); refine goesL_ (some 36) rfl rfl Tryd.func9 (by kernel_rfl) rfl #[.string a0] rfl (by (try simp only [List.map_toArray, List.map_cons, List.map_nil]); first | done | rfl | (simp only [List.length_drop, List.length_take]; rfl)) ?_; (with_reducible refine (glyph_Parse.calls a0 t289 t290 t291 _ A10.out (by first | exact TabsOr.lit (by decide) | exact TabsOr.tab (Utf8Tabs_below hT.out (by repeat (first | (with_reducible first | exact HB.out | apply below_alloc | apply pw_below_drewN | apply below_drew1) | exact HB.out))))).mono ?_); rintro e w61 ⟨v292, rfl, ho0, hb⟩; refine ⟨_, rfl, ?_⟩; have n0_ := Aside0.mk (Kd.R_lower ho0 (below_size (by repeat (first | (with_reducible first | exact HB.out | apply below_alloc | apply pw_below_drewN | apply below_drew1) | exact HB.out)))); have n1_ := Aside0.mk (below_step (by repeat (first | (with_reducible first | exact HB.out | apply below_alloc | apply pw_below_drewN | apply below_drew1) | exact HB.out)) hb); clear HB; have HO293 := n0_; have HB := n1_; clear n0_ n1_; (try clear hb); (try clear hb2); (try clear hk); (try clear hi); (try clear ho0)) | ((with_reducible refine gate_callee (f := 12) rfl ?_); refine goesL_ (some 41) rfl rfl Tryd.func12 (by kernel_rfl) rfl #[.int .i64 t290] rfl (by (try simp only [List.map_toArray, List.map_cons, List.map_nil]); first | done | rfl | (simp only [List.length_drop, List.length_take]; rfl)) ?_; (with_reducible refine (tutorlaw02_num.calls t290 t294 _ A11.out).mono ?_); rintro e w' ⟨rfl, ⟨nd, rfl⟩⟩; refine ⟨_, rfl, ?_⟩; obtain ⟨Ao62, co62, eo62⟩ := Kd.R_slice HO293.out; subst eo62) | (go_at_call 8; (with_reducible refine (tutorlaw02_live.calls kj3  t295 _ A60.out).mono ?_); rintro e w63 ⟨rfl, hb⟩; have n0_ := Aside0.mk (Kd.R_below (by (with_reducible repeat (first | apply Kd.R_alloc | apply Kd.R_drewN | apply Kd.R_drew)); exact HO293.out) hb); have n1_ := Aside0.mk (below_step (by repeat (first | (with_reducible first | exact HB.out | apply below_alloc | apply pw_below_drewN | apply below_drew1) | exact HB.out)) hb); clear HO293; clear HB; have HO293 := n0_; have HB := n1_; clear n0_ n1_; (try clear hb); (try clear hb2); (try clear hk); (try clear hi)))
            go_ret
            exact ⟨by first | rfl | (simp [errW_none, errW_some] <;> rfl) | (simp [*, errW_none, errW_some] <;> rfl), by repeat (first | (with_reducible first | exact HB.out | apply below_alloc | apply pw_below_drewN | apply below_drew1) | exact HB.out)⟩
          · rw [if_neg c59] at H
            have c59b0 : ((t289.length : Int) == 0) = false := beq_eq_false_iff_ne.mpr c59
            have c59b1 : ((t289.length : Int) != 0) = true := bne_iff_ne.mpr c59
            have c59b2 : ¬ (t289 = []) := fun h_ => c59 (by rw [h_]; rfl)
            obtain rfl := Option.some.inj H
            go_wp2_with (first | ((with_reducible refine gate_callee (f := 9) rfl ?_); refine goesL_ (some 36) rfl rfl Tryd.func9 (by kernel_rfl) rfl #[.string a0] rfl (by (try simp only [List.map_toArray, List.map_cons, List.map_nil]); first | done | rfl | (simp only [List.length_drop, List.length_take]; rfl)) ?_; (with_reducible refine (glyph_Parse.calls a0 t289 t290 t291 _ A10.out (by first | exact TabsOr.lit (by decide) | exact TabsOr.tab (Utf8Tabs_below hT.out (by repeat (first | (with_reducible first | exact HB.out | apply below_alloc | apply pw_below_drewN | apply below_drew1) | exact HB.out))))).mono ?_); rintro e w64 ⟨v292, rfl, ho0, hb⟩; refine ⟨_, rfl, ?_⟩; have n0_ := Aside0.mk (Kd.R_lower ho0 (below_size (by repeat (first | (with_reducible first | exact HB.out | apply below_alloc | apply pw_below_drewN | apply below_drew1) | exact HB.out)))); have n1_ := Aside0.mk (below_step (by repeat (first | (with_reducible first | exact HB.out | apply below_alloc | apply pw_below_drewN | apply below_drew1) | exact HB.out)) hb); clear HB; have HO293 := n0_; have HB := n1_; clear n0_ n1_; (try clear hb); (try clear hb2); (try clear hk); (try clear hi); (try clear ho0)) | ((with_reducible refine gate_callee (f := 12) rfl ?_); refine goesL_ (some 41) rfl rfl Tryd.func12 (by kernel_rfl) rfl #[.int .i64 t290] rfl (by (try simp only [List.map_toArray, List.map_cons, List.map_nil]); first | done | rfl | (simp only [List.length_drop, List.length_take]; rfl)) ?_; (with_reducible refine (tutorlaw02_num.calls t290 t294 _ A11.out).mono ?_); rintro e w' ⟨rfl, ⟨nd, rfl⟩⟩; refine ⟨_, rfl, ?_⟩; obtain ⟨Ao65, co65, eo65⟩ := Kd.R_slice HO293.out; subst eo65))
            go_ret
            exact ⟨by first | rfl | (simp [errW_none, errW_some] <;> rfl) | (simp [*, errW_none, errW_some] <;> rfl), by repeat (first | (with_reducible first | exact HB.out | apply below_alloc | apply pw_below_drewN | apply below_drew1) | exact HB.out)⟩

/-- THE ONE PURE STATEMENT of tutorlaw02_GlyphBack: yours. -/
def tutorlaw02_GlyphBack.Pure : Prop := ∀ (a0 : ByteArray) (a1 : ByteArray) (l2 : List Int), a0.size ≤ 140737488351232 → a1.size ≤ 140737488351232 → l2.length ≤ maxLen → l2.length * 8 ≤ 140737488351232 → (∀ x ∈ l2, (Lit.int .i64 x).wf = true) → ∃ k, tutorlaw02_GlyphBack.f k a0 a1 l2 = some true

end Go.Proofs.YtfoakihlbeoebaaDoor.X

/- Plain law: by names that Parse tells, what is read is shown again, and a word that is shown is read as it was. -/
namespace Go.Proofs.YtfoakihlbeoebaaDoor.X
open Go.RowKit Go.Proofs.YtfoakihlbeoebaaDoorW.PrintWords Go.Proofs.YtfoakihlbeoebaaDoorW.PrintLast
def byteOf (n : Int) : UInt8 := UInt8.ofNat n.toNat
theorem strOf_list (A : List Int) : (strOfNums A).data.toList = A.map byteOf := rfl
theorem strOf_of (A : List Int) (s : ByteArray) (h : A.map byteOf = s.data.toList) : strOfNums A = s := by
  cases s with
  | mk d =>
    have : (A.map byteOf).toArray = d := by rw [h]
    unfold strOfNums
    rw [← this]
    rfl
theorem encode_bytes (c : Int) : (Lib.encodeRuneZ c).map byteOf = Lib.encodeRune c := rfl
theorem runeAt_shape (s : ByteArray) (p : Nat) : Lib.validRune (runeAt s p) = true := by
  unfold Lib.validRune runeAt
  rw [Lib.decode_N]
  have k0 := (s.data.toList.getD p 0).toNat_lt
  have k1 := (s.data.toList.getD (p + 1) 0).toNat_lt
  have k2 := (s.data.toList.getD (p + 2) 0).toNat_lt
  have k3 := (s.data.toList.getD (p + 3) 0).toNat_lt
  apply decide_eq_true
  rcases Lib.decodeN_shape (s.data.toList.length - p) (s.data.toList.getD p 0).toNat (s.data.toList.getD (p + 1) 0).toNat (s.data.toList.getD (p + 2) 0).toNat (s.data.toList.getD (p + 3) 0).toNat with ⟨c, e⟩ | ⟨c1, c2, c3, cv, e⟩ | ⟨c1, c2, c3, c4, cv, cs, e⟩ | ⟨c1, c2, c3, c4, c5, cv, cw, e⟩ | e
  all_goals rw [e]
  all_goals simp only []
  all_goals omega
theorem encode_at (s : ByteArray) (p : Nat) (hp : p < s.size) (hb : ¬ brokenAt s p = true) : (Lib.encodeRuneZ (runeAt s p)).map byteOf = (s.data.toList.drop p).take (wideAt s p) := by
  rw [encode_bytes]
  unfold runeAt wideAt
  rw [← Lib.decodeL_drop]
  refine Lib.encode_decode _ ?_ ?_
  · intro h
    have := congrArg List.length h
    rw [List.length_drop, ← Lib.size_eq] at this
    simp at this
    omega
  · rw [Lib.decodeL_drop]
    rintro ⟨h1, h2⟩
    refine hb ?_
    unfold brokenAt runeAt wideAt
    rw [h1, h2]
    rfl
theorem decode_encode (c : Int) (hv : Lib.validRune c = true) (l : List UInt8) : Lib.decodeL ((Lib.encodeRuneZ c).map byteOf ++ l) = (c.toNat, (Lib.encodeRuneZ c).length) := by
  have hr := of_decide_eq_true hv
  have tb : ∀ z : Int, 0 ≤ z → z < 256 → (byteOf z).toNat = z.toNat := by
    intro z h0 h1
    show z.toNat % 256 = z.toNat
    omega
  rw [Lib.decodeL_N]
  by_cases h1 : c ≤ 127
  · rw [Lib.encodeRuneZ_one (by omega) h1]
    simp only [List.map_cons, List.map_nil, List.cons_append, List.nil_append, List.getD_cons_zero, List.length_cons, List.length_nil]
    rw [tb c (by omega) (by omega)]
    unfold Lib.decodeN
    rw [if_pos (by omega)]
  · by_cases h2 : c ≤ 2047
    · rw [Lib.encodeRuneZ_two (by omega) h2]
      simp only [List.map_cons, List.map_nil, List.cons_append, List.nil_append, List.getD_cons_zero, List.getD_cons_succ, List.length_cons, List.length_nil]
      rw [tb (192 + c / 64) (by omega) (by omega), tb (128 + c % 64) (by omega) (by omega)]
      unfold Lib.decodeN
      rw [if_neg (by omega), if_pos ⟨by omega, by omega, by omega⟩, if_pos (by omega)]
      congr 1
      omega
    · by_cases h3 : c ≤ 65535
      · rw [Lib.encodeRuneZ_three (by omega)]
        simp only [List.map_cons, List.map_nil, List.cons_append, List.nil_append, List.getD_cons_zero, List.getD_cons_succ, List.length_cons, List.length_nil]
        rw [tb (224 + c / 4096) (by omega) (by omega), tb (128 + c / 64 % 64) (by omega) (by omega), tb (128 + c % 64) (by omega) (by omega)]
        unfold Lib.decodeN
        rw [if_neg (by omega), if_neg (by omega), if_pos ⟨by omega, ⟨by omega, by omega⟩, by omega, by omega⟩, if_pos (by omega)]
        congr 1
        omega
      · rw [Lib.encodeRuneZ_four (by omega) (by omega)]
        simp only [List.map_cons, List.map_nil, List.cons_append, List.nil_append, List.getD_cons_zero, List.getD_cons_succ, List.length_cons, List.length_nil]
        rw [tb (240 + c / 262144) (by omega) (by omega), tb (128 + c / 4096 % 64) (by omega) (by omega), tb (128 + c / 64 % 64) (by omega) (by omega), tb (128 + c % 64) (by omega) (by omega)]
        unfold Lib.decodeN
        rw [if_neg (by omega), if_neg (by omega), if_neg (by omega), if_pos ⟨by omega, ⟨by omega, by omega⟩, ⟨by omega, by omega⟩, by omega, by omega⟩, if_pos (by omega)]
        congr 1
        omega
theorem idxOf_get (l : List Int) (c : Int) (h : ¬ idxOf l c < 0) : 0 ≤ idxOf l c ∧ idxOf l c < l.length ∧ rd l (idxOf l c) = c := by
  unfold idxOf at h ⊢
  cases hf : l.findIdx? (· == c) with
  | none => rw [hf] at h; simp at h
  | some j =>
    obtain ⟨hlt, he, _⟩ := List.findIdx?_eq_some_iff_getElem.1 hf
    simp only [Option.elim_some]
    exact ⟨by omega, by omega, by rw [rd_at l j hlt]; exact eq_of_beq he⟩
theorem idxOf_nodup (l : List Int) (hn : l.Nodup) (i : Nat) (hi : i < l.length) : idxOf l l[i] = (i : Int) := by
  unfold idxOf
  have : l.findIdx? (· == l[i]) = some i := by
    rw [List.findIdx?_eq_some_iff_getElem]
    refine ⟨hi, by simp, fun j hj => ?_⟩
    simp only [beq_iff_eq, Bool.not_eq_true]
    intro he
    exact List.pairwise_iff_getElem.1 hn j i (by omega) hi hj he
  rw [this]
  rfl
/-- Read, then Show. -/
theorem Read_Show (l0 : List Int) (s : ByteArray) : ∀ kq p acc w at_, p ≤ s.size → glyph_Read.go l0 s kq p acc = some (w, 0, at_) →
    ∃ w', w = acc ++ w' ∧ ∀ A : List Int, A.map byteOf = s.data.toList.take p → glyph_Show.go l0 w' A = (s, 0) := by
  intro kq
  induction kq with
  | zero => intro p acc w at_ _ h; simp [glyph_Read.go] at h
  | succ kq ih =>
    intro p acc w at_ hps h
    simp only [glyph_Read.go] at h
    by_cases hp : p < s.size
    · rw [if_pos hp] at h
      by_cases c1 : acc.length = 4096
      · rw [if_pos c1] at h; simp at h
      · rw [if_neg c1] at h
        by_cases c2 : idxOf l0 (runeAt s p) < 0
        · rw [if_pos c2] at h; simp at h
        · rw [if_neg c2] at h
          by_cases c3 : brokenAt s p = true
          · rw [if_pos c3] at h; simp at h
          · rw [if_neg c3] at h
            have hwl := wide_le s p hp
            obtain ⟨w', hw', hA⟩ := ih _ _ _ _ hwl.1 h
            refine ⟨idxOf l0 (runeAt s p) :: w', by rw [hw']; simp, fun A hAp => ?_⟩
            obtain ⟨g0, g1, g2⟩ := idxOf_get l0 (runeAt s p) c2
            simp only [glyph_Show.go]
            rw [if_neg (by omega), if_neg (by omega), g2, if_pos (runeAt_shape s p)]
            apply hA
            rw [List.map_append, hAp, encode_at s p hp c3, List.take_add]
    · rw [if_neg hp] at h
      simp only [Option.some.injEq, Prod.mk.injEq] at h
      obtain ⟨rfl, _, _⟩ := h
      refine ⟨[], by simp, fun A hAp => ?_⟩
      simp only [glyph_Show.go]
      rw [strOf_of A s (by rw [hAp, List.take_of_length_le (by rw [← Lib.size_eq]; omega)])]
def encs_of (l0 w : List Int) : List Int := w.flatMap fun x => Lib.encodeRuneZ (rd l0 x)
/-- What Show tells. -/
theorem Show_tells (l0 : List Int) (hv : ∀ c ∈ l0, Lib.validRune c = true) : ∀ w A, (glyph_Show.go l0 w A = (⟨#[]⟩, 10)) ∨
    (glyph_Show.go l0 w A = (strOfNums (A ++ encs_of l0 w), 0) ∧ ∀ x ∈ w, 0 ≤ x ∧ x < l0.length) := by
  intro w
  induction w with
  | nil => intro A; exact .inr ⟨by simp [glyph_Show.go, encs_of], by simp⟩
  | cons x r ih =>
    intro A
    simp only [glyph_Show.go]
    by_cases h1 : x < 0
    · rw [if_pos h1]; exact .inl rfl
    · rw [if_neg h1]
      by_cases h2 : x ≥ (l0.length : Int)
      · rw [if_pos h2]; exact .inl rfl
      · rw [if_neg h2]
        have hm : rd l0 x ∈ l0 := by
          have : x = ((x.toNat : Nat) : Int) := by omega
          rw [this, rd_at l0 x.toNat (by omega)]
          exact List.getElem_mem _
        rw [if_pos (hv _ hm)]
        rcases ih (A ++ Lib.encodeRuneZ (rd l0 x)) with h | ⟨h, h'⟩
        · exact .inl h
        · refine .inr ⟨by rw [h]; simp [encs_of, List.append_assoc], ?_⟩
          intro y hy
          rcases List.mem_cons.1 hy with rfl | hy
          · omega
          · exact h' y hy
theorem enc_pos (c : Int) : 1 ≤ (Lib.encodeRuneZ c).length := by
  unfold Lib.encodeRuneZ
  repeat' split
  all_goals simp
/-- Show, then Read. -/
theorem Show_Read (l0 : List Int) (hv : ∀ c ∈ l0, Lib.validRune c = true) (hn : l0.Nodup) (w : List Int) (hx : ∀ x ∈ w, 0 ≤ x ∧ x < l0.length) (hw : w.length ≤ 4096) (u : ByteArray) (hu : u.data.toList = (encs_of l0 w).map byteOf) :
    ∀ w2 w1, w = w1 ++ w2 → ∀ kq, u.size < (encs_of l0 w1).length + kq → glyph_Read.go l0 u kq (encs_of l0 w1).length w1 = some (w, 0, (u.size : Int)) := by
  have hsz : u.size = (encs_of l0 w).length := by rw [Lib.size_eq, hu, List.length_map]
  intro w2
  induction w2 with
  | nil =>
    intro w1 he kq hk
    rw [List.append_nil] at he
    subst he
    obtain ⟨kq, rfl⟩ : ∃ m, kq = m + 1 := ⟨kq - 1, by omega⟩
    simp only [glyph_Read.go]
    rw [if_neg (by omega)]
  | cons x w2 ih =>
    intro w1 he kq hk
    have hxm : x ∈ w := by rw [he]; simp
    obtain ⟨x0, x1⟩ := hx x hxm
    have hxn : x = ((x.toNat : Nat) : Int) := by omega
    have hrd : rd l0 x = l0[x.toNat]'(by omega) := by have h := rd_at l0 x.toNat (by omega); rw [← hxn] at h; exact h
    have hval := hv (rd l0 x) (by rw [hrd]; exact List.getElem_mem _)
    have hpos := enc_pos (rd l0 x)
    have hsplit : encs_of l0 w = encs_of l0 w1 ++ (Lib.encodeRuneZ (rd l0 x) ++ encs_of l0 w2) := by rw [he]; simp [encs_of]
    have hplt : (encs_of l0 w1).length < u.size := by rw [hsz, hsplit]; simp; omega
    have hdrop : u.data.toList.drop (encs_of l0 w1).length = (Lib.encodeRuneZ (rd l0 x)).map byteOf ++ (encs_of l0 w2).map byteOf := by
      rw [hu, hsplit, List.map_append, List.map_append, List.drop_left' (by simp)]
    have hdec : Utf8.decode u (encs_of l0 w1).length = ((rd l0 x).toNat, (Lib.encodeRuneZ (rd l0 x)).length) := by
      rw [← Lib.decodeL_drop, hdrop, decode_encode _ hval]
    have hv0 := (valid_range hval).1
    have hra : runeAt u (encs_of l0 w1).length = rd l0 x := by unfold runeAt; rw [hdec]; show ((rd l0 x).toNat : Int) = rd l0 x; omega
    have hwa : wideAt u (encs_of l0 w1).length = (Lib.encodeRuneZ (rd l0 x)).length := by unfold wideAt; rw [hdec]
    have hbr : brokenAt u (encs_of l0 w1).length = false := by
      unfold brokenAt
      rw [hra, hwa]
      by_cases hc : rd l0 x = 65533
      · rw [hc]; rfl
      · have : (rd l0 x == 65533) = false := by simpa using hc
        rw [this]; rfl
    obtain ⟨kq, rfl⟩ : ∃ m, kq = m + 1 := ⟨kq - 1, by omega⟩
    simp only [glyph_Read.go]
    have hl : w1.length < 4096 := by have := congrArg List.length he; simp at this; omega
    have hix : idxOf l0 (rd l0 x) = x := by rw [hrd, idxOf_nodup l0 hn x.toNat (by omega)]; omega
    rw [if_pos hplt, if_neg (by omega), hra, hix, if_neg (by omega), hbr, if_neg (by simp), hwa]
    have hnext : (encs_of l0 (w1 ++ [x])).length = (encs_of l0 w1).length + (Lib.encodeRuneZ (rd l0 x)).length := by simp [encs_of]
    rw [← hnext]
    exact ih (w1 ++ [x]) (by rw [he]; simp) kq (by omega)
/-- What Parse tells where it tells no error: runes, each once. -/
theorem Parse_names (s : ByteArray) : ∀ kq p l r, l.Nodup → (∀ c ∈ l, Lib.validRune c = true) → glyph_Parse.go s kq p l = some r →
    (r.2.1 = 0 ∧ r.1.Nodup ∧ ∀ c ∈ r.1, Lib.validRune c = true) ∨ (r.2.1 ≠ 0 ∧ r.1 = []) := by
  intro kq
  induction kq with
  | zero => intro p l r _ _ h; simp [glyph_Parse.go] at h
  | succ kq ih =>
    intro p l r hn hv h
    simp only [glyph_Parse.go] at h
    split at h
    · split at h
      · obtain rfl := Option.some.inj h; exact .inr ⟨by simp, rfl⟩
      · split at h
        · obtain rfl := Option.some.inj h; exact .inr ⟨by simp, rfl⟩
        · split at h
          · obtain rfl := Option.some.inj h; exact .inr ⟨by simp, rfl⟩
          · split at h
            · obtain rfl := Option.some.inj h; exact .inr ⟨by simp, rfl⟩
            · rename_i hc
              split at h
              · obtain rfl := Option.some.inj h; exact .inr ⟨by simp, rfl⟩
              · refine ih _ _ _ ?_ ?_ h
                · rw [List.nodup_append]
                  refine ⟨hn, by simp, ?_⟩
                  intro a ha b hb
                  rw [List.mem_singleton] at hb
                  subst hb
                  rintro rfl
                  exact hc (List.contains_iff_mem.2 ha)
                · intro c hc2
                  rcases List.mem_append.1 hc2 with h1 | h1
                  · exact hv c h1
                  · rw [List.mem_singleton] at h1
                    subst h1
                    exact runeAt_shape s p
    · obtain rfl := Option.some.inj h
      exact .inl ⟨rfl, hn, hv⟩
theorem Read_total (l0 : List Int) (s : ByteArray) : ∀ kq p l, s.size < p + kq → p ≤ s.size → l.length ≤ 4096 → ∃ r, glyph_Read.go l0 s kq p l = some r ∧ r.1.length ≤ 4096 := by
  intro kq
  induction kq with
  | zero => intro p l h hp hl; omega
  | succ kq ih =>
    intro p l h hps hl
    simp only [glyph_Read.go]
    by_cases hp : p < s.size
    · rw [if_pos hp]
      have := width_pos s p hp
      repeat' split
      all_goals first | exact ⟨_, rfl, by simp⟩ | skip
      exact ih _ _ (by omega) (wide_le s p hp).1 (by simp; omega)
    · rw [if_neg hp]
      exact ⟨_, rfl, hl⟩
theorem Same1_refl (l : List Int) (hl : l.length ≤ 9223372036854775806) : ∀ d i, i + d = l.length → ∀ k, d < k → tutorref01_Same.l0 k l l (i : Int) = some true := by
  intro d
  induction d with
  | zero =>
    intro i hi k hk
    obtain ⟨k, rfl⟩ : ∃ m, k = m + 1 := ⟨k - 1, by omega⟩
    simp only [tutorref01_Same.l0]
    rw [if_neg (by omega)]
  | succ d ih =>
    intro i hi k hk
    obtain ⟨k, rfl⟩ : ∃ m, k = m + 1 := ⟨k - 1, by omega⟩
    simp only [tutorref01_Same.l0]
    rw [if_pos (by omega), if_pos (by omega), if_pos (by omega), if_pos trivial]
    have hw : wrap64 ((i : Int) + 1) = ((i + 1 : Nat) : Int) := by unfold wrap64; omega
    rw [hw, ih (i + 1) (by omega) k (by omega)]
theorem Same1_self (k : Nat) (l : List Int) (hl : l.length ≤ 9223372036854775806) (hk : l.length < k) : tutorref01_Same.f k l l = some true := by
  unfold tutorref01_Same.f
  rw [if_pos rfl]
  exact Same1_refl l hl l.length 0 (by omega) k hk
theorem encs_len (l0 w : List Int) : (encs_of l0 w).length ≤ 4 * w.length := by
  induction w with
  | nil => simp [encs_of]
  | cons x r ih =>
    have := encode_len (rd l0 x)
    have e : encs_of l0 (x :: r) = Lib.encodeRuneZ (rd l0 x) ++ encs_of l0 r := by simp [encs_of]
    rw [e, List.length_append, List.length_cons]
    omega
theorem num_f (e : Int) : tutorlaw02_num.f e = some e := rfl
theorem back_j1 (k : Nat) (hk : 5000 ≤ k) (l2 n : List Int) (hl2 : l2.length ≤ 2000) (hn : n.Nodup) (hnl : n.length ≤ 64) (hv : ∀ c ∈ n, Lib.validRune c = true) : tutorlaw02_GlyphBack.j1 k l2 n = some true := by
  obtain ⟨k, rfl⟩ : ∃ m, k = m + 1 := ⟨k - 1, by omega⟩
  simp only [tutorlaw02_GlyphBack.j1, num_f, Option.bind_some]
  have hS : glyph_Show.f n l2 = some (glyph_Show.go n l2 []) := by unfold glyph_Show.f; rw [if_pos (by omega)]
  rw [hS]
  simp only [Option.bind_some]
  rw [live_ev k (by omega)]
  rcases Show_tells n hv l2 [] with h | ⟨h, hx⟩
  · rw [h]
    rw [if_neg (by decide), if_pos (by rw [Lib.toList_data]), if_pos rfl]
    rfl
  · rw [h]
    simp only [List.nil_append, if_true]
    have hul : (strOfNums (encs_of n l2)).size = (encs_of n l2).length := strOfNums_size _
    have hle := encs_len n l2
    have hR := Show_Read n hv hn l2 hx (by omega) (strOfNums (encs_of n l2)) rfl l2 [] rfl ((strOfNums (encs_of n l2)).size + 1) (by simp [encs_of])
    have hRf : glyph_Read.f n (strOfNums (encs_of n l2)) = some (l2, 0, ((strOfNums (encs_of n l2)).size : Int)) := by
      unfold glyph_Read.f
      rw [if_pos (by omega), if_pos (by omega)]
      exact hR
    rw [hRf]
    simp only [Option.bind_some, if_true]
    rw [Same1_self k l2 (by omega) (by omega)]
    simp only [Option.bind_some, if_true]
theorem GlyphBack_pure (s t : ByteArray) (l2 : List Int) (hs : s.size ≤ 140737488351232) (ht : t.size ≤ 140737488351232) : ∃ k, tutorlaw02_GlyphBack.f k s t l2 = some true := by
  refine ⟨6000, ?_⟩
  have hlive : tutorlaw02_GlyphBack.j0 6000 s t l2 true = some true := by
    rw [show (6000 : Nat) = 5999 + 1 from rfl]
    simp only [tutorlaw02_GlyphBack.j0]
    rw [if_pos trivial, live_ev 5999 (by omega)]
    rfl
  unfold tutorlaw02_GlyphBack.f
  by_cases c1 : (s.size : Int) > 20000
  · rw [if_pos c1, hlive]
  · rw [if_neg c1]
    by_cases c2 : (t.size : Int) > 20000
    · rw [if_pos c2, hlive]
    · rw [if_neg c2]
      by_cases c3 : (l2.length : Int) > 2000
      · rw [decide_eq_true c3, hlive]
      · rw [decide_eq_false c3, show (6000 : Nat) = 5999 + 1 from rfl]
        simp only [tutorlaw02_GlyphBack.j0, num_f, Option.bind_some]
        rw [if_neg (by simp), live_ev 5999 (by omega)]
        have hP : ∃ r, glyph_Parse.f s = some r ∧ r.1.length ≤ 64 ∧ ((r.2.1 = 0 ∧ r.1.Nodup ∧ ∀ c ∈ r.1, Lib.validRune c = true) ∨ (r.2.1 ≠ 0 ∧ r.1 = [])) := by
          unfold glyph_Parse.f
          rw [if_pos hs]
          unfold glyph_Parse.g
          by_cases h0 : s.size = 0
          · exact ⟨_, by rw [if_pos h0], by simp, .inr ⟨by simp, rfl⟩⟩
          · rw [if_neg h0]
            obtain ⟨r, hr, hl⟩ := go_total s (s.size + 1) 0 [] (by omega) (by omega) (by simp)
            exact ⟨r, hr, hl, Parse_names s _ _ _ r (by simp) (by simp) hr⟩
        obtain ⟨r, h1, hl, h2⟩ := hP
        rw [h1]
        simp only [Option.bind_some]
        rcases h2 with ⟨h0, hn, hv⟩ | ⟨h0, h3⟩
        · rw [if_pos h0]
          have hj := back_j1 5999 (by omega) l2 r.1 (by omega) hn hl hv
          rw [hj]
          have hR : ∃ q, glyph_Read.f r.1 t = some q ∧ q.1.length ≤ 4096 ∧ (q.2.1 = 0 → glyph_Show.f r.1 q.1 = some (t, 0)) := by
            unfold glyph_Read.f
            rw [if_pos ht, if_pos (by omega)]
            unfold glyph_Read.g
            obtain ⟨q, hq, hql⟩ := Read_total r.1 t (t.size + 1) 0 [] (by omega) (by omega) (by simp)
            refine ⟨q, hq, hql, fun he => ?_⟩
            unfold glyph_Show.f
            rw [if_pos (by omega)]
            obtain ⟨q1, q2, q3⟩ := q
            simp only at he
            subst he
            obtain ⟨w', hw', hA⟩ := Read_Show r.1 t _ _ _ _ _ (by omega) hq
            rw [List.nil_append] at hw'
            simp only []
            rw [hw', hA [] rfl]
          obtain ⟨q, hq1, _, hq2⟩ := hR
          rw [hq1]
          simp only [Option.bind_some]
          by_cases he : q.2.1 = 0
          · rw [if_pos he, hq2 he]
            simp only [Option.bind_some, if_true]
          · rw [if_neg he]
        · rw [if_neg h0, h3]
          rfl
theorem GlyphBack_walk (s t : ByteArray) (A : Option Addr) (len cap : Nat) (z : List Int) (w : World) (hs : s.size ≤ 140737488351232) (ht : t.size ≤ 140737488351232)
    (w2 : (A = none ∧ len = 0 ∧ cap = 0 ∧ z = []) ∨ ∃ x, A = some x ∧ len ≤ cap ∧ cap ≤ maxLen ∧ z.length = cap ∧ (∀ i, i < z.length → w.cell? (x.add i) = some (.int .i64 (z.getD i 0))) ∧ ∀ n ∈ z, (Lit.int .i64 n).wf = true) (hT : Lib.Utf8Tabs 0 1 w) :
    Calls Tryd.prog 6 #[.string s, .string t, .slice A len cap] w fun e w' => e = .returned (.bool true) ∧ Below w.heap.size w w' := by
  obtain ⟨l2, rfl, hr2, hm2, hw2, hc2⟩ := ReadsInt.ofRowC w2
  obtain ⟨k, h⟩ := GlyphBack_pure s t l2 hs ht
  exact tutorlaw02_GlyphBack.calls k s t _ _ l2 true w ⟨hT⟩ (Kd.C_of_reads (d := (0 : Int)) (h1 := fun _ => rfl) hr2) hc2 h
end Go.Proofs.YtfoakihlbeoebaaDoor.X

/- Contracts of tutorref01.Lent and tutorref01.Kept: a list whose spare room bears two marks, and whether it is as it was. -/
namespace Go.Proofs.YtfoakihlbeoebaaDoor.X
open Go.RowKit Go.Proofs.YtfoakihlbeoebaaDoorW.PrintWords Go.Proofs.YtfoakihlbeoebaaDoorW.PrintLast Go.Proofs.YtfoakihlbeoebaaDoorW.PrintMore
theorem cut_cap {P : Program} (t e : TypeId) (kh : IntKind) {i : TypeInfo} (ht : P.underlying t = some (.slice e)) (hi : P.info? e = some i) (A : Option Addr) (n c : Nat) (j : Int) (h0 : 0 ≤ j) (hm : j ≤ c) :
    ∀ W : World, (Instr.slice t (.slice A n c) none (some (.int kh j)) none).run P W = .ok (.slice A j.toNat c) W := by
  intro W
  have hel : P.elem t = e := by simp [Program.elem, ht]
  have hu : P.underlying t = some (.slice (P.elem t)) := by rw [hel]; exact ht
  have ha : (A.map fun x => x.add 0) = A := by cases A <;> simp [Addr.add]
  rw [run_slice_h W t A n c hu kh j h0 hm, hel]
  simp [sizeOf, typeInfo, hi, sliced, Result.andThen, ha]
set_option maxHeartbeats 1600000 in
set_option maxRecDepth 100000 in
theorem Lent_calls (A0 : Option Addr) (c0 : Nat) (l0 : List Int) (w : World) (hr0 : Kd.C (Kd.int .i64) w A0 l0.length l0) (hl : l0.length ≤ 17592186044000) :
    Calls Tryd.prog 13 #[.slice A0 l0.length c0] w fun e w' => ∃ g cap, e = .returned (.slice (some ⟨g, 0, none⟩) l0.length cap) ∧ Kd.R (Kd.int .i64) 3 w' w.heap.size (fun _ => True) (.slice (some ⟨g, 0, none⟩) (l0 ++ [-771, -772]).length cap) (l0 ++ [-771, -772]) ∧ Below w.heap.size w w' := by
  have HR0 := Aside0.mk hr0
  have HB := Aside0.mk (Below.refl w.heap.size w)
  have HL := Aside0.mk hl
  obtain ⟨L, hL⟩ : ∃ L, L = l0 ++ [(-771 : Int), -772] := ⟨_, rfl⟩
  have hLl : l0.length + 2 = L.length := by rw [hL]; simp
  have HLL := Aside0.mk hL
  have HLE := Aside0.mk hLl
  clear hr0 hl hL hLl
  go_enter Tryd.func13, Tryd.ntmps13
  go_wp2_with (first | ((with_reducible refine gate_dst (N := 4) rfl ?_); refine Kd.R_lit (Kd.int .i64) _ 3 ?hg (N := 4) ?hd (xs := ([] : List Int)) (inner := []) (ok := fun _ => True) (okp := fun _ => True) ?hr ?hp (fun _ hk => hk) trivial (Below.refl _ _) (Nat.le_refl _) (by simp) ?_; (case hd => rfl); (case hg => rfl); (case hr => first | (go_simp; done) | (go_simp; rfl)); (case hp => exact (Reps.none _ _)); intro v203 w6 ho7 hb hg_ hnew_; clear hg_ hnew_; have n0_ := Aside0.mk (Kd.R_lower ho7 (below_size (by repeat (first | (with_reducible first | exact HB.out | apply below_alloc | apply pw_below_drewN | apply below_drew1) | exact HB.out)))); have n1_ := Aside0.mk (below_step (by repeat (first | (with_reducible first | exact HB.out | apply below_alloc | apply pw_below_drewN | apply below_drew1) | exact HB.out)) hb); clear HB; have HO204 := n0_; have HB := n1_; clear n0_ n1_; clear hb ho7) | ((with_reducible refine gate_builtin (b := .append) (xs := #[.tmp 4, .tmp 5]) rfl ?_); at_builtin; refine Kd.R_append_rows (Kd.int .i64) (w0 := w) w.heap.size rfl (.tmp 4) (.tmp 5) 32 3 (.int .i64 0) 8 rfl Tryd.underlying32 info3 rfl (by decide) (by omega) v203 [] l0 _ _ _ (fun _ => True) (fun _ => False) rfl rfl ?aO ?aR (fun _ _ h => h) (fun _ h => h.elim) ?aF ?aB ?aS ?aL ?_; (case aR => exact (Kd.C_below HR0.out HB.out)); (case aB => exact (by repeat (first | (with_reducible first | exact HB.out | apply below_alloc | apply pw_below_drewN | apply below_drew1) | exact HB.out))); (case aF => exact (fun _ _ => trivial)); (case aO => exact HO204.out); (case aS => exact (below_size (by repeat (first | (with_reducible first | exact HB.out | apply below_alloc | apply pw_below_drewN | apply below_drew1) | exact HB.out)))); (case aL => have := HL.out; simp only [List.length_nil]; omega); intro v206 w8 ho hb hg hat; rw [List.nil_append] at ho; have n0_ := Aside0.mk (hb); have n1_ := Aside0.mk (ho); clear HB; clear HO204; have HB := n0_; have HO207 := n1_; clear n0_ n1_; clear ho hb hg hat) | ((with_reducible refine gate_dst (N := 7) rfl ?_); refine Kd.R_lit (Kd.int .i64) _ 3 ?hg (N := 7) ?hd (xs := ([(-771), (-772)] : List Int)) (inner := [.int .i64 (-771), .int .i64 (-772)]) (ok := fun _ => True) (okp := fun _ => True) ?hr ?hp (fun _ hk => hk) trivial (Below.refl _ _) (Nat.le_refl _) (by simp) ?_; (case hd => rfl); (case hg => rfl); (case hr => first | (go_simp; done) | (go_simp; rfl)); (case hp => exact (Reps.one (show Kd.M (Kd.int .i64) _ _ _ (-771) [.int .i64 (-771)] from rfl) (Reps.one (show Kd.M (Kd.int .i64) _ _ _ (-772) [.int .i64 (-772)] from rfl) (Reps.none _ _)))); intro v209 w9 ho10 hb hg_ hnew_; clear hg_ hnew_; have n0_ := Aside0.mk (Kd.R_elder' HO207.out (Kd.R_base ho10) hb); have n1_ := Aside0.mk (Kd.R_lower (Kd.R_new' ho10 (Kd.R_lt HO207.out)) (below_size (by repeat (first | (with_reducible first | exact HB.out | apply below_alloc | apply pw_below_drewN | apply below_drew1) | exact HB.out)))); have n2_ := Aside0.mk (below_step (by repeat (first | (with_reducible first | exact HB.out | apply below_alloc | apply pw_below_drewN | apply below_drew1) | exact HB.out)) hb); clear HO207; clear HB; have HO207 := n0_; have HO210 := n1_; have HB := n2_; clear n0_ n1_ n2_; clear hb ho10; obtain ⟨Ao12, co12, eo12⟩ := Kd.R_slice HO210.out; subst eo12) | ((with_reducible refine gate_builtin (b := .append) (xs := #[.tmp 6, .tmp 7]) rfl ?_); at_builtin; refine Kd.R_append_rows (Kd.int .i64) (w0 := w) w.heap.size rfl (.tmp 6) (.tmp 7) 32 3 (.int .i64 0) 8 rfl Tryd.underlying32 info3 rfl (by decide) (by omega) v206 l0 [(-771), (-772)] _ _ _ (fun k_ => some k_ ≠ (.slice Ao12 [(-771 : Int), (-772)].length co12 : Value).ownBlock) (fun _ => False) rfl rfl ?aO ?aR (fun _ _ h => h) (fun _ h => h.elim) ?aF ?aB ?aS ?aL ?_; (case aR => exact (Kd.R_reads' HO210.out).2.2); (case aB => exact (by repeat (first | (with_reducible first | exact HB.out | apply below_alloc | apply pw_below_drewN | apply below_drew1) | exact HB.out))); (case aF => exact (fun k_ hk => Kd.fresh' (Kd.R_lt HO210.out) k_ hk)); (case aO => exact Kd.R_mono HO207.out (fun _ hk => hk.2)); (case aS => exact (below_size (by repeat (first | (with_reducible first | exact HB.out | apply below_alloc | apply pw_below_drewN | apply below_drew1) | exact HB.out)))); (case aL => have := HL.out; simp only [List.length_cons, List.length_nil]; omega); intro v212 w11 ho hb hg hat; rw [← HLL.out] at ho; have n1_ := Aside0.mk (hb); have n2_ := Aside0.mk (Kd.R_mono (ok' := fun _ => True) ho (fun _ _ => trivial)); clear HO210; clear HB; clear HO207; have HB := n1_; have HO213 := n2_; clear n1_ n2_; clear ho hb hg hat; obtain ⟨g, cap, rfl, _, _⟩ := (Kd.R_own HO213.out).choose_spec.form (by have := HLE.out; omega); obtain ⟨i014, hi014, _, _, _⟩ := info_parts info3; have hcut14 := cut_cap (P := Tryd.prog) 32 3 .i64 Tryd.underlying32 hi014 (some ⟨g, 0, none⟩) L.length cap (l0.length : Int) (by omega) (by have := (Kd.R_reads' HO213.out).2.1; have := HLE.out; omega); rw [Int.toNat_natCast] at hcut14; clear hi014))
  go_ret
  exact ⟨g, cap, rfl, by rw [← HLL.out]; exact HO213.out, HB.out⟩
set_option maxHeartbeats 1600000 in
set_option maxRecDepth 100000 in
theorem Kept_calls (k : Nat) (ad : Addr) (cap : Nat) (l0 : List Int) (A1 : Option Addr) (c1 : Nat) (l1 : List Int) (r : Bool) (w : World) (hr0 : Kd.C (Kd.int .i64) w (some ad) (l0 ++ [-771, -772]).length (l0 ++ [-771, -772])) (hcap : (l0 ++ [-771, -772]).length ≤ cap) (hl : l0.length ≤ 17592186044000) (hr1 : Kd.C (Kd.int .i64) w A1 l1.length l1) (hc1 : l1.length ≤ c1)
    (h : tutorref01_Same.f k l0 l1 = some r) :
    Calls Tryd.prog 16 #[.slice (some ad) l0.length cap, .slice A1 l1.length c1] w fun e w' => e = .returned (.bool r) ∧ Drawn0 w w' := by
  have hlen : (l0 ++ [-771, -772]).length = l0.length + 2 := by simp
  rw [hlen] at hr0 hcap
  have hcut : ∀ W : World, (Instr.slice 32 (.slice (some ad) l0.length cap) none (some (.int .i64 ((l0.length : Int) + 2))) none).run Tryd.prog W = .ok (.slice (some ad) (l0.length + 2) cap) W := by
    obtain ⟨i014, hi014, _, _, _⟩ := info_parts info3
    have hc := cut_cap (P := Tryd.prog) 32 3 .i64 Tryd.underlying32 hi014 (some ad) l0.length cap ((l0.length : Int) + 2) (by omega) (by omega)
    rw [show ((l0.length : Int) + 2).toNat = l0.length + 2 by omega] at hc
    exact hc
  have hrs : Kd.C (Kd.int .i64) w (some ad) l0.length l0 := by
    have hr0' : Kd.C (Kd.int .i64) w (some ad) (l0 ++ [-771, -772]).length (l0 ++ [-771, -772]) := by rw [hlen]; exact hr0
    have h1 := Kd.C_take (m := l0.length) hr0' (by simp)
    rw [List.take_left' rfl] at h1
    exact h1
  obtain ⟨ad1, e1, hx1⟩ := Kd.at_int hr0 (l0.length : Int) (by omega) (by omega)
  obtain ⟨ad2, e2, hx2⟩ := Kd.at_int hr0 ((l0.length : Int) + 1) (by omega) (by omega)
  obtain rfl := Option.some.inj e1
  obtain rfl := Option.some.inj e2
  have m1 : rd (l0 ++ [-771, -772]) (l0.length : Int) = -771 := by simp [rd]
  have m2 : rd (l0 ++ [-771, -772]) ((l0.length : Int) + 1) = -772 := by
    rw [show (l0.length : Int) + 1 = ((l0.length + 1 : Nat) : Int) by omega]
    simp [rd]
  rw [m1, Int.toNat_natCast] at hx1
  rw [m2, show ((l0.length : Int) + 1).toNat = l0.length + 1 by omega] at hx2
  have hx3 : w.cell? ⟨ad.block, ad.off + (l0.length + 1), none⟩ = some (.int .i64 (-772)) := by
    have h1 := hx2
    unfold Addr.add at h1
    rwa [if_neg (by omega)] at h1
  have HRS := Aside0.mk hrs
  have HR1 := Aside0.mk hr1
  have HC1 := Aside0.mk hc1
  have HF := Aside0.mk h
  have HCP := Aside0.mk hcap
  clear e1 e2 m1 m2 hlen hr0 hcap hrs hr1 hc1 h
  cases r
  all_goals
    go_enter Tryd.func16, Tryd.ntmps16
    go_wp2_with (go_at_call 20; refine (tutorref01_Same.calls k _ _ l0 _ _ l1 _ _ HRS.out (by have := HCP.out; omega) HR1.out HC1.out HF.out).mono ?_; rintro e w' ⟨rfl, ⟨nd, rfl⟩⟩)
    go_ret
    exact ⟨rfl, ⟨⟨nd, rfl⟩⟩⟩
end Go.Proofs.YtfoakihlbeoebaaDoor.X

/- The walk of the law GlyphShows. -/
namespace Go.Proofs.YtfoakihlbeoebaaDoor.X
open Go.RowKit Go.Proofs.YtfoakihlbeoebaaDoorW.PrintWords Go.Proofs.YtfoakihlbeoebaaDoorW.PrintLast Go.Proofs.YtfoakihlbeoebaaDoorW.PrintMore
set_option maxHeartbeats 4000000 in
set_option maxRecDepth 100000 in
theorem Shows_walk (A0 : Option Addr) (c0 : Nat) (l0 : List Int) (A1 : Option Addr) (c1 : Nat) (l1 : List Int) (w : World) (hr0 : Kd.C (Kd.int .i32) w A0 l0.length l0) (hc0 : l0.length ≤ c0) (hr1 : Kd.C (Kd.int .i64) w A1 l1.length l1) (hc1 : l1.length ≤ c1) (h0 : l0.length ≤ 140737488351232) (h1 : l1.length ≤ 140737488351232) :
    Calls Tryd.prog 4 #[.slice A0 l0.length c0, .slice A1 l1.length c1] w fun e w' => e = .returned (.bool true) ∧ Below w.heap.size w w' := by
  have HR0 := Aside0.mk hr0
  have HR1 := Aside0.mk hr1
  have HC0 := Aside0.mk hc0
  have HC1 := Aside0.mk hc1
  clear hr0 hr1 hc0 hc1
  by_cases k0 : l0.length > 1000
  · have b0 : decide (1000 < (l0.length : Int)) = true := decide_eq_true (by omega)
    have b1 : decide (1000 < l0.length) = true := decide_eq_true k0
    clear k0
    go_enter Tryd.func4, Tryd.ntmps4
    go_wp2_with (go_at_call 8; refine (tutorlaw02_live.calls 10 true _ live_at).mono ?_; rintro e w' ⟨rfl, hb⟩)
    go_ret
    exact ⟨rfl, hb⟩
  · have b0 : decide (1000 < (l0.length : Int)) = false := decide_eq_false (by omega)
    have b1 : decide (1000 < l0.length) = false := decide_eq_false k0
    have K0 := Aside0.mk k0
    clear k0
    by_cases k1 : l1.length > 20000
    · have d0 : decide (20000 < (l1.length : Int)) = true := decide_eq_true (by omega)
      have d1 : decide (20000 < l1.length) = true := decide_eq_true k1
      clear k1
      go_enter Tryd.func4, Tryd.ntmps4
      go_wp2_with (go_at_call 8; refine (tutorlaw02_live.calls 10 true _ live_at).mono ?_; rintro e w' ⟨rfl, hb⟩)
      go_ret
      exact ⟨rfl, hb⟩
    · have d0 : decide (20000 < (l1.length : Int)) = false := decide_eq_false (by omega)
      have d1 : decide (20000 < l1.length) = false := decide_eq_false k1
      have K1 := Aside0.mk k1
      clear k1
      obtain ⟨a, e0, hs1, hs2⟩ := Show_both l0 l1 (by have := K1.out; omega)
      have HS1 := Aside0.mk hs1
      have HS2 := Aside0.mk hs2
      clear hs1 hs2
      go_enter Tryd.func4, Tryd.ntmps4
      have hs02 := Same_self (l0.length + 1) l0 (by omega) (by omega)
      have hs01 := Same1_self (l1.length + 1) l1 (by omega) (by omega)
      have HS3 := Aside0.mk hs02
      have HS4 := Aside0.mk hs01
      clear hs02 hs01
      go_wp2_with (first | (go_at_call 13; refine (Lent_calls A1 c1 l1 _ HR1.out (by have := K1.out; omega)).mono ?_; rintro e w1 ⟨g, cap, rfl, ho, hb⟩; have HL := Aside0.mk ho; have HB := Aside0.mk hb; have HN := Aside0.mk (Below.refl w1.heap.size w1); clear ho hb) | ((with_reducible refine gate_dst (N := 22) rfl ?_); refine Kd.R_lit (Kd.int .i32) (w0 := w1) w1.heap.size 21 ?hg (N := 22) ?hd (xs := ([] : List Int)) (inner := []) (ok := fun _ => True) (okp := fun _ => True) ?hr ?hp (fun _ hk => hk) trivial HN.out (Nat.le_refl _) (by simp) ?_; (case hd => rfl); (case hg => rfl); (case hr => first | (go_simp; done) | (go_simp; rfl)); (case hp => exact (Reps.none _ _)); intro v203 w6 ho7 hb hg_ hnew_; clear hg_ hnew_ HN; have HO4 := Aside0.mk ho7; have HN := Aside0.mk hb; clear hb ho7) | ((with_reducible refine gate_builtin (b := .append) (xs := #[.tmp 22, .tmp 23]) rfl ?_); at_builtin; refine Kd.R_append_rows (Kd.int .i32) (w0 := w1) w1.heap.size rfl (.tmp 22) (.tmp 23) 23 21 (.int .i32 0) 4 rfl Tryd.underlying23 info21 rfl (by decide) (by omega) v203 [] l0 _ _ _ (fun _ => True) (fun _ => False) rfl rfl ?aO ?aR (fun _ _ h => h) (fun _ h => h.elim) ?aF ?aB ?aS ?aL ?_; (case aR => exact (Kd.C_below (Kd.C_below HR0.out HB.out) HN.out)); (case aB => exact HN.out); (case aF => exact (fun _ _ => trivial)); (case aO => exact HO4.out); (case aS => exact HN.out.size); (case aL => have := K0.out; simp only [List.length_nil]; omega); intro v206 w8 ho hb hg hat; rw [List.nil_append] at ho; clear HN HO4; have HN := Aside0.mk hb; have HO4 := Aside0.mk ho; clear ho hb hg hat; obtain ⟨Ao, co, eo, hle, hC⟩ := Kd.R_reads HO4.out; subst eo; have HCN := Aside0.mk hC; have HLN := Aside0.mk hle; clear hC hle; have HK := Aside0.mk (Kd.R_below HL.out HN.out); have HB8 := Aside0.mk (below_then HB.out HB.out.size HN.out); clear HL HB HN) | (go_at_call 14; refine (glyph_Show.calls Ao co l0 (some ⟨g, 0, none⟩) cap l1 a e0 _ HCN.out HLN.out ?sC ?sL HS1.out).mono ?_; (case sC => have h := Kd.C_take (m := l1.length) (Kd.R_reads' HK.out).2.2 (by simp); rw [List.take_left' rfl] at h; exact h); (case sL => have h := (Kd.R_reads' HK.out).2.1; rw [List.length_append] at h; exact Nat.le_trans (Nat.le_add_right _ _) h); rintro e w9 ⟨rfl, hb⟩; have HK9 := Aside0.mk (Kd.R_below HK.out hb); have HCN9 := Aside0.mk (Kd.C_below HCN.out hb); have HB9 := Aside0.mk (below_then HB8.out HB8.out.size hb); clear hb HK HB8) | (go_at_call 15; refine (tutorref02_Show.calls 50000 A0 c0 l0 A1 c1 l1 a e0 _ (Kd.C_below HR0.out HB9.out) HC0.out (Kd.C_below HR1.out HB9.out) HC1.out HS2.out).mono ?_; rintro e w10 ⟨rfl, hb⟩; have HK10 := Aside0.mk (Kd.R_below HK9.out hb); have HCN10 := Aside0.mk (Kd.C_below HCN9.out hb); have HB10 := Aside0.mk (below_then HB9.out HB9.out.size hb); clear hb HK9 HB9 HCN9) | (go_at_call 12; refine (tutorlaw02_num.calls e0 e0 _ rfl).mono ?_; rintro e w11 ⟨rfl, ⟨n1, rfl⟩⟩) | (go_at_call 16; go_must (refine (Kept_calls (l1.length + 1) ⟨g, 0, none⟩ cap l1 A1 c1 l1 true _ (Kd.C_drewN (Kd.R_reads' HK10.out).2.2 _) (Kd.R_reads' HK10.out).2.1 (by have := K1.out; omega) (Kd.C_drewN (Kd.C_below HR1.out HB10.out) _) HC1.out HS4.out).mono ?_; rintro e w12 ⟨rfl, ⟨n2, rfl⟩⟩)) | (go_at_call 11; go_must (refine (tutorref02_Same.calls (l0.length + 1) Ao co l0 A0 c0 l0 true _ (Kd.C_drewN HCN10.out _) HLN.out (Kd.C_drewN (Kd.C_below HR0.out HB10.out) _) HC0.out HS3.out).mono ?_; rintro e w13 ⟨rfl, ⟨n3, rfl⟩⟩)) | (go_at_call 8; go_must (refine (tutorlaw02_live.calls 10 true _ live_at).mono ?_; rintro e w14 ⟨rfl, hb⟩)))
      go_ret
      exact ⟨rfl, below_then (pw_below_drewN HB10.out _) HB10.out.size hb⟩
theorem GlyphShows_walk (A : Option Addr) (len cap : Nat) (z : List Int) (A' : Option Addr) (len' cap' : Nat) (z' : List Int) (w : World)
    (w0 : (A = none ∧ len = 0 ∧ cap = 0 ∧ z = []) ∨ ∃ x, A = some x ∧ len ≤ cap ∧ cap ≤ maxLen ∧ z.length = cap ∧ (∀ i, i < z.length → w.cell? (x.add i) = some (.int .i32 (z.getD i 0))) ∧ ∀ n ∈ z, (Lit.int .i32 n).wf = true) (y0 : len * 4 ≤ 140737488351232)
    (w1 : (A' = none ∧ len' = 0 ∧ cap' = 0 ∧ z' = []) ∨ ∃ x, A' = some x ∧ len' ≤ cap' ∧ cap' ≤ maxLen ∧ z'.length = cap' ∧ (∀ i, i < z'.length → w.cell? (x.add i) = some (.int .i64 (z'.getD i 0))) ∧ ∀ n ∈ z', (Lit.int .i64 n).wf = true) (y1 : len' * 8 ≤ 140737488351232) :
    Calls Tryd.prog 4 #[.slice A len cap, .slice A' len' cap'] w fun e w' => e = .returned (.bool true) ∧ Below w.heap.size w w' := by
  obtain ⟨l0, rfl, hr0, hm0, hw0, hc0⟩ := ReadsInt.ofRowC w0
  obtain ⟨l1, rfl, hr1, hm1, hw1, hc1⟩ := ReadsInt.ofRowC w1
  exact Shows_walk _ _ l0 _ _ l1 w (Kd.C_of_reads (d := (0 : Int)) (h1 := fun _ => rfl) hr0) hc0 (Kd.C_of_reads (d := (0 : Int)) (h1 := fun _ => rfl) hr1) hc1 (by omega) (by omega)
end Go.Proofs.YtfoakihlbeoebaaDoor.X

/- The row of layer 2's statement GlyphShows, and its card: what the walk and the plain law give, for every input; the two tables of the library as the row lists them. -/
namespace Go.Proofs.YtfoakihlbeoebaaDoor.glyphShows
open Go.ChangeShapes Go.WideShapes Go.ChangeAt Go.RowKit
open Go.ChangeMaps (open_string shut_string)
open Ro
def IsRow (k : IntKind) (w : World) (a : Option Addr) (len cap : Nat) (zs : List Int) : Prop :=
  (a = none ∧ len = 0 ∧ cap = 0 ∧ zs = []) ∨
  ∃ x, a = some x ∧ len ≤ cap ∧ cap ≤ maxLen ∧ zs.length = cap ∧ (∀ i, i < zs.length → w.cell? (x.add i) = some (.int k (zs.getD i 0))) ∧ ∀ n ∈ zs, (Lit.int k n).wf = true
theorem laid_met (os : Os) : laidMet Tryd.prog Rows.glyphShowsRow.laid ((laidWorld os).forCall (fun _ _ => 0) ⟨#[], #[.slice none 0 0, .slice none 0 0], []⟩).memory :=
  laidMet_of_run' 8 (by kernel_rfl) (by kernel_rfl)
theorem reads (os : Os) {H : Type} (enc : TypeId × Value → H) : ∃ places, DataW.whole enc Tryd.prog ((laidWorld os).forCall (fun _ _ => 0) ⟨#[], #[.slice none 0 0, .slice none 0 0], []⟩).memory Tryd.f4.params.toList Rows.glyphShowsSpec.vars false (#[.slice none 0 0, .slice none 0 0] : Array Value).toList 8 = some ([.nil, .nil], [], places) :=
  ⟨[], by kernel_rfl⟩
set_option maxRecDepth 100000 in
theorem contract (H : Type) (enc : TypeId × Value → H) (W : World) (base : Nat) (args : Array Value) (ds gs : List (DataW H)) (before : List MemPlace)
    (hval0 : ∀ (j : Nat) t v, Tryd.f4.params[j]? = some t → args[j]? = some v → Value.okWide Tryd.prog W .any base t v)
    (hW : DataW.Whole enc Tryd.prog Tryd.f4.params.toList Rows.glyphShowsSpec.vars false W args.toList ds gs before)
    (hsz0 : (DataW.weightsEach Tryd.prog (Tryd.f4.params.toList ++ (OpenSpec.ofChange Rows.glyphShowsSpec).bare.plain.varTypes Tryd.prog) (ds ++ gs)).all (· ≤ reachBytes) = true)
    (hL : laidMetH Tryd.prog listed W) :
    Calls Tryd.prog 4 args W fun e W' => ∃ v, e = .returned v ∧ Rows.glyphShowsSpec.post enc Tryd.prog Tryd.f4 false true false false W args v W' := by
  have hT := tabs hL
  have hsz : (DataW.weightsEach Tryd.prog (Tryd.f4.params.toList ++ Rows.glyphShowsSpec.plain.varTypes Tryd.prog) (ds ++ gs)).all (· ≤ reachBytes) = true := hsz0
  have hval : ∀ (j : Nat) t v, Tryd.f4.params[j]? = some t → args[j]? = some v → Value.okWide Tryd.prog W .any base t v := hval0
  have hW' := hW
  obtain ⟨p, q, hA0, hV, rfl, hfz, hnd⟩ := hW
  have hA : DataW.TrodAll enc Tryd.prog W 0 (fun _ => true) true Tryd.f4.params.toList args.toList ds p := hA0
  rw [Tryd.params4] at hA hval hsz
  obtain ⟨v0, vs0, d0, ds0, p0, q0, hargs, rfl, rfl, h0, r0⟩ := trodAll_cons hA
  obtain ⟨v1, vs1, d1, ds1, p1, q1, rfl, rfl, rfl, h1, r1⟩ := trodAll_cons r0
  obtain ⟨rfl, rfl, rfl⟩ := trodAll_nil r1
  obtain rfl : args = #[v0, v1] := by cases args; simp_all
  obtain ⟨rfl, rfl⟩ := trodVars_none hV
  obtain ⟨a0, len0, cap0, rfl⟩ := okWide_slice Tryd.underlying23 (hval 0 23 v0 rfl rfl)
  have k0 := h0
  have lt0 : ∀ x ∈ p0, x.block < W.heap.size := by obtain ⟨m, hm⟩ := k0; exact DataW.trod_lt m _ _ _ hm
  obtain ⟨z0, w0⟩ : ∃ zs, IsRow .i32 W a0 len0 cap0 zs := by
    obtain ⟨fuel, hf⟩ := h0
    rcases open_ints Tryd.underlying23 Tryd.underlying21 (by kernel_rfl) hf with ⟨hcs, _⟩ | ⟨x, l, c, zs, hcs, _, hl, hm, hz, _, hcell, hwz⟩
    · simp [Value.cells] at hcs
      obtain ⟨rfl, rfl, rfl⟩ := hcs
      exact ⟨[], .inl ⟨rfl, rfl, rfl, rfl⟩⟩
    · simp [Value.cells] at hcs
      obtain ⟨rfl, rfl, rfl⟩ := hcs
      exact ⟨zs, .inr ⟨_, rfl, hl, hm, by simpa using hz, hcell, hwz⟩⟩
  have y0 : len0 * 4 ≤ 140737488351232 := Go.Proofs.YtfoakihlbeoebaaDoorW.PrintWords.sized_ints hsz (j := 0) (t := 23) rfl rfl Tryd.underlying23 Tryd.underlying21 (by kernel_rfl) (by kernel_rfl) h0
  obtain ⟨a1, len1, cap1, rfl⟩ := okWide_slice Tryd.underlying32 (hval 1 32 v1 rfl rfl)
  have k1 := h1
  have lt1 : ∀ x ∈ p1, x.block < W.heap.size := by obtain ⟨m, hm⟩ := k1; exact DataW.trod_lt m _ _ _ hm
  obtain ⟨z1, w1⟩ : ∃ zs, IsRow .i64 W a1 len1 cap1 zs := by
    obtain ⟨fuel, hf⟩ := h1
    rcases open_ints Tryd.underlying32 Tryd.underlying3 (by kernel_rfl) hf with ⟨hcs, _⟩ | ⟨x, l, c, zs, hcs, _, hl, hm, hz, _, hcell, hwz⟩
    · simp [Value.cells] at hcs
      obtain ⟨rfl, rfl, rfl⟩ := hcs
      exact ⟨[], .inl ⟨rfl, rfl, rfl, rfl⟩⟩
    · simp [Value.cells] at hcs
      obtain ⟨rfl, rfl, rfl⟩ := hcs
      exact ⟨zs, .inr ⟨_, rfl, hl, hm, by simpa using hz, hcell, hwz⟩⟩
  have y1 : len1 * 8 ≤ 140737488351232 := Go.Proofs.YtfoakihlbeoebaaDoorW.PrintWords.sized_ints hsz (j := 1) (t := 32) rfl rfl Tryd.underlying32 Tryd.underlying3 (by kernel_rfl) (by kernel_rfl) h1
  clear hA0 hval0 hsz0 hsz
  refine (X.GlyphShows_walk a0 len0 cap0 z0 a1 len1 cap1 z1 W w0 y0 w1 y1).mono fun e W' ⟨he, bel⟩ => ?_
  subst he
  exact ⟨_, rfl, _, _, _, [], _, [], hW', trodAll_mk1 (shut_bool Tryd.underlying4 _), (trodAll_cons_mk (Below.trod laidOut (by kernel_rfl) (of_decide_eq_true (by kernel_rfl)) k0 bel lt0) (trodAll_cons_mk (Below.trod laidOut (by kernel_rfl) (of_decide_eq_true (by kernel_rfl)) k1 bel lt1) trodAll_mk0)), rfl, bel.frame _, fun h => by cases h⟩
set_option maxRecDepth 100000 in
theorem lifted (os : Os) (started : os.Started) (H : Type) (enc : TypeId × Value → H) (F : Stop.Interp) :
    ReturnsInHanded {} Tryd.checked os 4 .any ((OpenSpec.ofChange Rows.glyphShowsSpec).preRow enc Tryd.prog Tryd.f4 Rows.glyphShowsRow.domain false Rows.glyphShowsRow.laid) (((OpenSpec.ofChange Rows.glyphShowsSpec).at F).post enc Tryd.prog Tryd.f4 false true false false) := by
  obtain ⟨places, hx⟩ := reads os enc
  refine returnsInHanded_of_row (C := Tryd.checked) (s := OpenSpec.ofChange Rows.glyphShowsSpec) own started (by kernel_rfl) Tryd.func4
    (witness_row_at (enc := enc) (C := Tryd.checked) false (laidWorld os) #[.slice none 0 0, .slice none 0 0] rfl (by kernel_rfl) (by kernel_rfl) (by kernel_rfl)
      (OpenSpec.preRow_of_cond 8 hx (by kernel_rfl) (fun k hk => by cases hk) (by kernel_rfl) (laid_met os))) ?_
  intro W base args ds gs before hval hW _ _ hsz hL _ _
  exact contract H enc W base args ds gs before hval hW hsz hL
theorem said : Rows.GlyphShowsSaid :=
  OpenClaim.holds_of_cond 4 Tryd.f4 rfl rfl rfl rfl rfl rfl rfl ⟨rfl, rfl, rfl, rfl, rfl⟩ rfl rfl rfl rfl rfl (by kernel_rfl) Tryd.func4 (by kernel_rfl)
    (of_decide_eq_true (by kernel_rfl)) (by unfold Func.isWrapper; first | (rw [if_pos (by decide +kernel)]; kernel_rfl) | (rw [if_neg (by decide +kernel)]; exact ⟨rfl, rfl⟩))
    (fun os started H enc _ F => by rw [OpenClaim.pre_eq_preRow]; exact lifted os started H enc F)
theorem plain (f : FuncId) (fn : Func) (hf : Tryd.pinned.checked.prog.funcNamed "tutor/tutorlaw02.GlyphShows" = some f) (hfn : Tryd.pinned.checked.prog.funcs[f]? = some fn) :
    false = Tryd.pinned.checked.prog.looks [] ∧ ∀ (j : Nat) t, fn.params[j]? = some t → Tryd.pinned.checked.prog.wantsStandIn t = false := by
  obtain rfl : f = 4 := Option.some.inj ((show Tryd.prog.funcNamed "tutor/tutorlaw02.GlyphShows" = some 4 by kernel_rfl).symm.trans hf) |>.symm
  obtain rfl : fn = Tryd.f4 := (Option.some.inj (Tryd.func4.symm.trans hfn)).symm
  refine ⟨by kernel_rfl, fun j t ht => ?_⟩
  rw [Tryd.params4] at ht
  have hm := Array.mem_of_getElem? ht
  simp only [List.mem_toArray, List.mem_cons, List.not_mem_nil, or_false] at hm
  rcases hm with rfl | rfl
  · exact (show Tryd.prog.wantsStandIn 23 = false by kernel_rfl)
  · exact (show Tryd.prog.wantsStandIn 32 = false by kernel_rfl)
theorem card : Rows.GlyphShowsCardSaid :=
  Claim7.holds_tied_plain_at .later [] _ _ _ _ said (fun _ h => by cases h) (by kernel_rfl) (fun _ h => by cases h) glyphShows_row_tie rfl ⟨rfl, rfl⟩ (by kernel_rfl) rfl plain (by kernel_rfl)
end Go.Proofs.YtfoakihlbeoebaaDoor.glyphShows
namespace Go.Proofs.YtfoakihlbeoebaaDoor
/-- The card, under a short name, for the claim. -/
theorem glyphShows_card : Rows.GlyphShowsCardSaid := glyphShows.card
#print axioms glyphShows_card
end Go.Proofs.YtfoakihlbeoebaaDoor
