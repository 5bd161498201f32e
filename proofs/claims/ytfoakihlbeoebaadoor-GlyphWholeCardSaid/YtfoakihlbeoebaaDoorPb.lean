/- Plain facts: the document's decoder of runes tells what the model's own decoder tells. -/
import Derived.Test.YtfoakihlbeoebaaDoorXf23
import Derived.Test.YtfoakihlbeoebaaDoorGb
namespace Go.Proofs.YtfoakihlbeoebaaDoor.X
open Go.RowKit Go.Proofs.YtfoakihlbeoebaaDoorW.PrintWords Go.Proofs.YtfoakihlbeoebaaDoorW.PrintLast
theorem wrap64_id {x : Int} (h0 : -9223372036854775808 ≤ x) (h1 : x ≤ 9223372036854775807) : wrap64 x = x := by unfold wrap64; omega
theorem wrap32_id {x : Int} (h0 : -2147483648 ≤ x) (h1 : x ≤ 2147483647) : wrap32 x = x := by unfold wrap32; omega
theorem bt_get (s : ByteArray) (p : Nat) (h : p < s.size) : bt s (p : Int) = ((s.get! p).toNat : Int) := by
  unfold bt
  rw [dif_pos (by simpa using h)]
  simp [ByteArray.get!, getElem!_pos, h]
  rfl
/-- A step over one more byte. -/
theorem At_step (k : Nat) (s : ByteArray) (p : Int) (n v least i : Int) (hs : (s.size : Int) ≤ 140737488351232) (hp : 0 ≤ p) (hn : 0 ≤ n ∧ n ≤ 4) (hv : 0 ≤ v ∧ v ≤ 10000000) (h0 : p ≤ i) (h1 : i < p + n) (h2 : i < s.size) :
    tutorref02_At.l0 (k + 1) s p n v least i = (if bt s i < 128 then some (0, 0) else if bt s i ≥ 192 then some (0, 0) else tutorref02_At.l0 k s p n (v * 64 + bt s i - 128) least (i + 1)) := by
  have hb := bt_range s i
  simp only [tutorref02_At.l0]
  rw [wrap64_id (x := p + n) (by omega) (by omega), if_pos h1, if_pos (by omega), if_pos h2, wrap64_id (x := bt s i) (by omega) (by omega), wrap64_id (x := v * 64) (by omega) (by omega), wrap64_id (x := v * 64 + bt s i) (by omega) (by omega), wrap64_id (x := v * 64 + bt s i - 128) (by omega) (by omega), wrap64_id (x := i + 1) (by omega) (by omega)]
theorem At_end (k : Nat) (s : ByteArray) (p : Int) (n v least : Int) (hs : (s.size : Int) ≤ 140737488351232) (hp : 0 ≤ p ∧ p ≤ s.size) (hn : 0 ≤ n ∧ n ≤ 4) (hv : 0 ≤ v ∧ v ≤ 10000000) :
    tutorref02_At.l0 (k + 1) s p n v least (p + n) = (if v < least ∨ v > 1114111 ∨ (v ≥ 55296 ∧ v ≤ 57343) then some (0, 0) else some (v, n)) := by
  simp only [tutorref02_At.l0]
  rw [wrap64_id (x := p + n) (by omega) (by omega), if_neg (by omega), wrap32_id (x := v) (by omega) (by omega)]
  by_cases h1 : v < least
  · rw [if_pos h1, if_pos (.inl h1)]
  · rw [if_neg h1]
    by_cases h2 : v > 1114111
    · rw [if_pos h2, if_pos (.inr (.inl h2))]
    · rw [if_neg h2]
      by_cases h3 : v ≥ 55296
      · rw [if_pos h3]
        by_cases h4 : v ≤ 57343
        · rw [if_pos h4, if_pos (.inr (.inr ⟨h3, h4⟩))]
        · rw [if_neg h4, if_neg (by omega)]
      · rw [if_neg h3, if_neg (by omega)]
/-- What the document's At tells. -/
def atR (s : ByteArray) (p : Nat) : Int × Int := if brokenAt s p then (0, 0) else (runeAt s p, (wideAt s p : Int))
theorem At_two (k : Nat) (s : ByteArray) (p : Nat) (v : Int) (hs : (s.size : Int) ≤ 140737488351232) (hp : p < s.size) (hv : 0 ≤ v ∧ v ≤ 100) :
    tutorref02_At.j2 (k + 5) s p 2 v 128 = (if (s.size : Int) - p < 2 then some (0, 0) else if bt s (p + 1) < 128 then some (0, 0) else if bt s (p + 1) ≥ 192 then some (0, 0) else
      if v * 64 + bt s (p + 1) - 128 < 128 then some (0, 0) else some (v * 64 + bt s (p + 1) - 128, 2)) := by
  simp only [tutorref02_At.j2]
  rw [wrap64_id (x := (s.size : Int) - p) (by omega) (by omega), wrap64_id (x := (p : Int) + 1) (by omega) (by omega)]
  by_cases h : (s.size : Int) - p < 2
  · rw [if_pos h, if_pos h]
  · rw [if_neg h, if_neg h, At_step (k + 3) s p 2 v 128 (p + 1) hs (by omega) (by omega) (by omega) (by omega) (by omega) (by omega)]
    have hb := bt_range s (p + 1)
    generalize bt s (p + 1) = y at hb
    split
    · rfl
    · split
      · rfl
      · rw [show (p : Int) + 1 + 1 = p + 2 by omega, At_end (k + 2) s p 2 _ 128 hs (by omega) (by omega) (by omega)]
        by_cases h1 : v * 64 + y - 128 < 128
        · rw [if_pos (.inl h1), if_pos h1]
        · rw [if_neg (by omega), if_neg h1]
theorem At_three (k : Nat) (s : ByteArray) (p : Nat) (v : Int) (hs : (s.size : Int) ≤ 140737488351232) (hp : p < s.size) (hv : 0 ≤ v ∧ v ≤ 100) :
    tutorref02_At.j2 (k + 5) s p 3 v 2048 = (if (s.size : Int) - p < 3 then some (0, 0) else if bt s (p + 1) < 128 then some (0, 0) else if bt s (p + 1) ≥ 192 then some (0, 0) else
      if bt s (p + 2) < 128 then some (0, 0) else if bt s (p + 2) ≥ 192 then some (0, 0) else
      if (v * 64 + bt s (p + 1) - 128) * 64 + bt s (p + 2) - 128 < 2048 ∨ (v * 64 + bt s (p + 1) - 128) * 64 + bt s (p + 2) - 128 > 1114111 ∨ ((v * 64 + bt s (p + 1) - 128) * 64 + bt s (p + 2) - 128 ≥ 55296 ∧ (v * 64 + bt s (p + 1) - 128) * 64 + bt s (p + 2) - 128 ≤ 57343) then some (0, 0) else some ((v * 64 + bt s (p + 1) - 128) * 64 + bt s (p + 2) - 128, 3)) := by
  simp only [tutorref02_At.j2]
  rw [wrap64_id (x := (s.size : Int) - p) (by omega) (by omega), wrap64_id (x := (p : Int) + 1) (by omega) (by omega)]
  by_cases h : (s.size : Int) - p < 3
  · rw [if_pos h, if_pos h]
  · rw [if_neg h, if_neg h, At_step (k + 3) s p 3 v 2048 (p + 1) hs (by omega) (by omega) (by omega) (by omega) (by omega) (by omega)]
    have hb := bt_range s (p + 1)
    generalize bt s (p + 1) = y at hb
    split
    · rfl
    · split
      · rfl
      · rw [show (p : Int) + 1 + 1 = p + 2 by omega, At_step (k + 2) s p 3 _ 2048 (p + 2) hs (by omega) (by omega) (by omega) (by omega) (by omega) (by omega)]
        have hb2 := bt_range s (p + 2)
        generalize bt s (p + 2) = z at hb2
        split
        · rfl
        · split
          · rfl
          · rw [show (p : Int) + 2 + 1 = p + 3 by omega, At_end (k + 1) s p 3 _ 2048 hs (by omega) (by omega) (by omega)]
theorem At_four (k : Nat) (s : ByteArray) (p : Nat) (v : Int) (hs : (s.size : Int) ≤ 140737488351232) (hp : p < s.size) (hv : 0 ≤ v ∧ v ≤ 7) :
    tutorref02_At.j2 (k + 5) s p 4 v 65536 = (if (s.size : Int) - p < 4 then some (0, 0) else if bt s (p + 1) < 128 then some (0, 0) else if bt s (p + 1) ≥ 192 then some (0, 0) else
      if bt s (p + 2) < 128 then some (0, 0) else if bt s (p + 2) ≥ 192 then some (0, 0) else if bt s (p + 3) < 128 then some (0, 0) else if bt s (p + 3) ≥ 192 then some (0, 0) else
      if ((v * 64 + bt s (p + 1) - 128) * 64 + bt s (p + 2) - 128) * 64 + bt s (p + 3) - 128 < 65536 ∨ ((v * 64 + bt s (p + 1) - 128) * 64 + bt s (p + 2) - 128) * 64 + bt s (p + 3) - 128 > 1114111 ∨ (((v * 64 + bt s (p + 1) - 128) * 64 + bt s (p + 2) - 128) * 64 + bt s (p + 3) - 128 ≥ 55296 ∧ ((v * 64 + bt s (p + 1) - 128) * 64 + bt s (p + 2) - 128) * 64 + bt s (p + 3) - 128 ≤ 57343) then some (0, 0) else some (((v * 64 + bt s (p + 1) - 128) * 64 + bt s (p + 2) - 128) * 64 + bt s (p + 3) - 128, 4)) := by
  simp only [tutorref02_At.j2]
  rw [wrap64_id (x := (s.size : Int) - p) (by omega) (by omega), wrap64_id (x := (p : Int) + 1) (by omega) (by omega)]
  by_cases h : (s.size : Int) - p < 4
  · rw [if_pos h, if_pos h]
  · rw [if_neg h, if_neg h, At_step (k + 3) s p 4 v 65536 (p + 1) hs (by omega) (by omega) (by omega) (by omega) (by omega) (by omega)]
    have hb := bt_range s (p + 1)
    generalize bt s (p + 1) = y at hb
    split
    · rfl
    · split
      · rfl
      · rw [show (p : Int) + 1 + 1 = p + 2 by omega, At_step (k + 2) s p 4 _ 65536 (p + 2) hs (by omega) (by omega) (by omega) (by omega) (by omega) (by omega)]
        have hb2 := bt_range s (p + 2)
        generalize bt s (p + 2) = z at hb2
        split
        · rfl
        · split
          · rfl
          · rw [show (p : Int) + 2 + 1 = p + 3 by omega, At_step (k + 1) s p 4 _ 65536 (p + 3) hs (by omega) (by omega) (by omega) (by omega) (by omega) (by omega)]
            have hb3 := bt_range s (p + 3)
            generalize bt s (p + 3) = u at hb3
            split
            · rfl
            · split
              · rfl
              · rw [show (p : Int) + 3 + 1 = p + 4 by omega, At_end k s p 4 _ 65536 hs (by omega) (by omega) (by omega)]
theorem j0_eq (k : Nat) (x0 : ByteArray) (x1 x6 : Int) (b : Bool) : tutorref02_At.j0 (k + 1) x0 x1 x6 b = if b = true then (tutorref02_At.j2 k x0 x1 2 (wrap64 (x6 - 192)) 128) else (if x6 ≥ 224 then (tutorref02_At.j1 k x0 x1 x6 (decide (x6 < 240))) else (tutorref02_At.j1 k x0 x1 x6 false)) := by
  simp only [tutorref02_At.j0]
theorem j1_eq (k : Nat) (x0 : ByteArray) (x1 x6 : Int) (b : Bool) : tutorref02_At.j1 (k + 1) x0 x1 x6 b = if b = true then (tutorref02_At.j2 k x0 x1 3 (wrap64 (x6 - 224)) 2048) else (if x6 ≥ 240 then (if x6 < 248 then (tutorref02_At.j2 k x0 x1 4 (wrap64 (x6 - 240)) 65536) else (some (0, 0))) else (some (0, 0))) := by
  simp only [tutorref02_At.j1]
set_option maxHeartbeats 1000000 in
theorem At_all (k : Nat) (s : ByteArray) (p : Nat) (hs : (s.size : Int) ≤ 140737488351232) (hp : p < s.size) : tutorref02_At.f (k + 7) s p = some (atR s p) := by
  have hb0 := bt_get s p hp
  have hb1 : p + 1 < s.size → bt s ((p : Int) + 1) = ((s.get! (p + 1)).toNat : Int) := fun h => by rw [← bt_get s (p + 1) h]; rfl
  have hb2 : p + 2 < s.size → bt s ((p : Int) + 2) = ((s.get! (p + 2)).toNat : Int) := fun h => by rw [← bt_get s (p + 2) h]; rfl
  have hb3 : p + 3 < s.size → bt s ((p : Int) + 3) = ((s.get! (p + 3)).toNat : Int) := fun h => by rw [← bt_get s (p + 3) h]; rfl
  have r0 := (s.get! p).toNat_lt
  have r1 := (s.get! (p + 1)).toNat_lt
  have r2 := (s.get! (p + 2)).toNat_lt
  have r3 := (s.get! (p + 3)).toNat_lt
  have hdec := Lib.decode_at s p
  unfold atR brokenAt runeAt wideAt
  rw [hdec]
  have e2 := fun v hv => At_two (k + 1) s p v hs hp hv
  have e3 := fun v hv => At_three k s p v hs hp hv
  have e3' := fun v hv => At_three (k) s p v hs hp hv
  have e4 := fun v hv => At_four k s p v hs hp hv
  unfold tutorref02_At.f
  rw [if_pos (by omega), if_pos (by omega), hb0]
  generalize (s.get! p).toNat = b0 at *
  generalize (s.get! (p + 1)).toNat = b1 at *
  generalize (s.get! (p + 2)).toNat = b2 at *
  generalize (s.get! (p + 3)).toNat = b3 at *
  clear hdec
  rw [wrap64_id (x := (b0 : Int)) (by omega) (by omega)]
  by_cases c1 : b0 < 128
  · rw [if_pos (by omega), wrap32_id (by omega) (by omega)]
    have : Lib.decodeN (s.size - p) b0 b1 b2 b3 = (b0, 1) := by unfold Lib.decodeN; rw [if_pos c1]
    rw [this]
    have h : ((b0 : Int) == 65533) = false := by simp; omega
    simp [h]
  · rw [if_neg (by omega)]
    by_cases c2 : b0 < 192
    · rw [if_neg (by omega)]
      have : Lib.decodeN (s.size - p) b0 b1 b2 b3 = (65533, 1) := by
        unfold Lib.decodeN
        rw [if_neg c1, if_neg (by omega), if_neg (by omega), if_neg (by omega)]
      rw [this]
      rw [j0_eq, if_neg (by simp), if_neg (by omega), j1_eq, if_neg (by simp), if_neg (by omega)]
      rfl
    · rw [if_pos (by omega)]
      by_cases c3 : b0 < 224
      · rw [decide_eq_true (by omega), j0_eq, if_pos rfl, wrap64_id (by omega) (by omega), e2 _ (by omega)]
        clear e2 e3 e4
        by_cases n1 : p + 1 < s.size
        · rw [if_neg (by omega), hb1 n1]
          by_cases m1 : b1 / 64 = 2
          · rw [if_neg (by omega), if_neg (by omega)]
            by_cases v1 : b0 % 32 * 64 + b1 % 64 ≥ 128
            · have : Lib.decodeN (s.size - p) b0 b1 b2 b3 = (b0 % 32 * 64 + b1 % 64, 2) := by
                unfold Lib.decodeN
                rw [if_neg c1, if_pos ⟨by omega, by omega, m1⟩, if_pos v1]
              rw [this, if_neg (by omega)]
              have h : (((b0 % 32 * 64 + b1 % 64 : Nat) : Int) == 65533) = false := by simp; omega
              simp only [h, Bool.false_and, Bool.false_eq_true, if_false]
              congr 2
              omega
            · have : Lib.decodeN (s.size - p) b0 b1 b2 b3 = (65533, 1) := by
                unfold Lib.decodeN
                rw [if_neg c1, if_pos ⟨by omega, by omega, m1⟩, if_neg v1]
              rw [this, if_pos (by omega)]
              rfl
          · have : Lib.decodeN (s.size - p) b0 b1 b2 b3 = (65533, 1) := by
              unfold Lib.decodeN
              rw [if_neg c1, if_neg (by omega), if_neg (by omega), if_neg (by omega)]
            rw [this]
            by_cases m2 : b1 < 128
            · rw [if_pos (by omega)]; rfl
            · rw [if_neg (by omega), if_pos (by omega)]; rfl
        · have : Lib.decodeN (s.size - p) b0 b1 b2 b3 = (65533, 1) := by
            unfold Lib.decodeN
            rw [if_neg c1, if_neg (by omega), if_neg (by omega), if_neg (by omega)]
          rw [this, if_pos (by omega)]; rfl
      · rw [decide_eq_false (by omega), j0_eq, if_neg (by simp), if_pos (by omega)]
        by_cases c4 : b0 < 240
        · rw [decide_eq_true (by omega), j1_eq, if_pos rfl, wrap64_id (by omega) (by omega), e3' _ (by omega)]
          clear e2 e3 e4 e3'
          by_cases n2 : p + 2 < s.size
          · rw [if_neg (by omega), hb1 (by omega), hb2 n2]
            by_cases m1 : b1 / 64 = 2
            · rw [if_neg (by omega), if_neg (by omega)]
              by_cases m2 : b2 / 64 = 2
              · rw [if_neg (by omega), if_neg (by omega)]
                by_cases v1 : b0 % 16 * 4096 + b1 % 64 * 64 + b2 % 64 ≥ 2048 ∧ (b0 % 16 * 4096 + b1 % 64 * 64 + b2 % 64 < 55296 ∨ (57344 ≤ b0 % 16 * 4096 + b1 % 64 * 64 + b2 % 64 ∧ b0 % 16 * 4096 + b1 % 64 * 64 + b2 % 64 ≤ 1114111))
                · have : Lib.decodeN (s.size - p) b0 b1 b2 b3 = (b0 % 16 * 4096 + b1 % 64 * 64 + b2 % 64, 3) := by
                    unfold Lib.decodeN
                    rw [if_neg c1, if_neg (by omega), if_pos ⟨by omega, ⟨by omega, m1⟩, by omega, m2⟩, if_pos v1]
                  rw [this, if_neg (by omega)]
                  have h : ((((b0 % 16 * 4096 + b1 % 64 * 64 + b2 % 64 : Nat), 3).2 : Int)) = 3 := rfl
                  simp only [Bool.and_eq_true, decide_eq_true_eq]
                  rw [if_neg (by intro hh; exact absurd hh.2 (by decide))]
                  congr 2
                  omega
                · have : Lib.decodeN (s.size - p) b0 b1 b2 b3 = (65533, 1) := by
                    unfold Lib.decodeN
                    rw [if_neg c1, if_neg (by omega), if_pos ⟨by omega, ⟨by omega, m1⟩, by omega, m2⟩, if_neg v1]
                  rw [this, if_pos (by omega)]
                  rfl
              · have : Lib.decodeN (s.size - p) b0 b1 b2 b3 = (65533, 1) := by
                  unfold Lib.decodeN
                  rw [if_neg c1, if_neg (by omega), if_neg (by omega), if_neg (by omega)]
                rw [this]
                by_cases m3 : b2 < 128
                · rw [if_pos (by omega)]; rfl
                · rw [if_neg (by omega), if_pos (by omega)]; rfl
            · have : Lib.decodeN (s.size - p) b0 b1 b2 b3 = (65533, 1) := by
                unfold Lib.decodeN
                rw [if_neg c1, if_neg (by omega), if_neg (by omega), if_neg (by omega)]
              rw [this]
              by_cases m3 : b1 < 128
              · rw [if_pos (by omega)]; rfl
              · rw [if_neg (by omega), if_pos (by omega)]; rfl
          · have : Lib.decodeN (s.size - p) b0 b1 b2 b3 = (65533, 1) := by
              unfold Lib.decodeN
              rw [if_neg c1, if_neg (by omega), if_neg (by omega), if_neg (by omega)]
            rw [this, if_pos (by omega)]; rfl
        · rw [decide_eq_false (by omega), j1_eq, if_neg (by simp), if_pos (by omega)]
          by_cases c5 : b0 < 248
          · rw [if_pos (by omega), wrap64_id (by omega) (by omega), e4 _ (by omega)]
            clear e2 e3 e4 e3'
            by_cases n3 : p + 3 < s.size
            · rw [if_neg (by omega), hb1 (by omega), hb2 (by omega), hb3 n3]
              by_cases m1 : b1 / 64 = 2
              · rw [if_neg (by omega), if_neg (by omega)]
                by_cases m2 : b2 / 64 = 2
                · rw [if_neg (by omega), if_neg (by omega)]
                  by_cases m3 : b3 / 64 = 2
                  · rw [if_neg (by omega), if_neg (by omega)]
                    by_cases v1 : b0 % 8 * 262144 + b1 % 64 * 4096 + b2 % 64 * 64 + b3 % 64 ≥ 65536 ∧ (b0 % 8 * 262144 + b1 % 64 * 4096 + b2 % 64 * 64 + b3 % 64 < 55296 ∨ (57344 ≤ b0 % 8 * 262144 + b1 % 64 * 4096 + b2 % 64 * 64 + b3 % 64 ∧ b0 % 8 * 262144 + b1 % 64 * 4096 + b2 % 64 * 64 + b3 % 64 ≤ 1114111))
                    · have : Lib.decodeN (s.size - p) b0 b1 b2 b3 = (b0 % 8 * 262144 + b1 % 64 * 4096 + b2 % 64 * 64 + b3 % 64, 4) := by
                        unfold Lib.decodeN
                        rw [if_neg c1, if_neg (by omega), if_neg (by omega), if_pos ⟨by omega, ⟨by omega, m1⟩, ⟨by omega, m2⟩, by omega, m3⟩, if_pos v1]
                      rw [this, if_neg (by omega)]
                      simp only [Bool.and_eq_true, decide_eq_true_eq]
                      rw [if_neg (by intro hh; exact absurd hh.2 (by decide))]
                      congr 2
                      omega
                    · have : Lib.decodeN (s.size - p) b0 b1 b2 b3 = (65533, 1) := by
                        unfold Lib.decodeN
                        rw [if_neg c1, if_neg (by omega), if_neg (by omega), if_pos ⟨by omega, ⟨by omega, m1⟩, ⟨by omega, m2⟩, by omega, m3⟩, if_neg v1]
                      rw [this, if_pos (by omega)]
                      rfl
                  · have : Lib.decodeN (s.size - p) b0 b1 b2 b3 = (65533, 1) := by
                      unfold Lib.decodeN
                      rw [if_neg c1, if_neg (by omega), if_neg (by omega), if_neg (by omega)]
                    rw [this]
                    by_cases m4 : b3 < 128
                    · rw [if_pos (by omega)]; rfl
                    · rw [if_neg (by omega), if_pos (by omega)]; rfl
                · have : Lib.decodeN (s.size - p) b0 b1 b2 b3 = (65533, 1) := by
                    unfold Lib.decodeN
                    rw [if_neg c1, if_neg (by omega), if_neg (by omega), if_neg (by omega)]
                  rw [this]
                  by_cases m4 : b2 < 128
                  · rw [if_pos (by omega)]; rfl
                  · rw [if_neg (by omega), if_pos (by omega)]; rfl
              · have : Lib.decodeN (s.size - p) b0 b1 b2 b3 = (65533, 1) := by
                  unfold Lib.decodeN
                  rw [if_neg c1, if_neg (by omega), if_neg (by omega), if_neg (by omega)]
                rw [this]
                by_cases m4 : b1 < 128
                · rw [if_pos (by omega)]; rfl
                · rw [if_neg (by omega), if_pos (by omega)]; rfl
            · have : Lib.decodeN (s.size - p) b0 b1 b2 b3 = (65533, 1) := by
                unfold Lib.decodeN
                rw [if_neg c1, if_neg (by omega), if_neg (by omega), if_neg (by omega)]
              rw [this, if_pos (by omega)]; rfl
          · rw [if_neg (by omega)]
            have : Lib.decodeN (s.size - p) b0 b1 b2 b3 = (65533, 1) := by
              unfold Lib.decodeN
              rw [if_neg c1, if_neg (by omega), if_neg (by omega), if_neg (by omega)]
            rw [this]; rfl
end Go.Proofs.YtfoakihlbeoebaaDoor.X
