/- Texts of the statement NfaTrue, one behind the other: Go functions as Lean functions, the machine's calls, the plain law. -/
import Derived.Test.YtkaefgmgcghhiaaMNfaTrue4
import Derived.Test.YtkaefgmgcghhiaaMNfaTrue5
import Derived.Test.YtkaefgmgcghhiaaMNfaTrue10
import Derived.Test.YtkaefgmgcghhiaaMNfaTrue12
import Derived.Test.YtkaefgmgcghhiaaMNfaTrue13
set_option linter.unusedVariables false
set_option linter.unusedSimpArgs false
section
namespace Go.Proofs.Ytkaefgmgcghhiaa.X
open Go.RowKit Go.Proofs.YtkaefgmgcghhiaaW.PrintWords Go.Proofs.YtkaefgmgcghhiaaW.PrintLast Go.Proofs.YtkaefgmgcghhiaaW.PrintMore
/-- Which words are right, and where the first fault is. -/
def wordAt (K : Int) : List Int → Int → Int × Int
  | [], _ => (0, 0)
  | x :: r, i => if x < 0 then (i, 10) else if x ≥ K then (i, 10) else wordAt K r (i + 1)
theorem prog_l0 (K : Int) (u : List Int) (hb : u.length ≤ 100000) : ∀ (d k i : Nat), i + d = u.length → d < k → word_Check.l0 k u K (u.length : Int) (i : Int) = some (wordAt K (u.drop i) i) := by
  intro d
  induction d with
  | zero =>
    intro k i h hk
    obtain ⟨k, rfl⟩ : ∃ m, k = m + 1 := ⟨k - 1, by omega⟩
    rw [word_Check.l0, if_neg (by omega), List.drop_of_length_le (by omega)]
    rfl
  | succ d ih =>
    intro k i h hk
    obtain ⟨k, rfl⟩ : ∃ m, k = m + 1 := ⟨k - 1, by omega⟩
    have hi : i < u.length := by omega
    rw [word_Check.l0, if_pos (by omega), if_pos (by omega), if_pos (by omega), rdq hi, List.drop_eq_getElem_cons hi, w64q (by omega), ih k (i + 1) (by omega) (by omega), wordAt]
    split
    · rfl
    · split <;> rfl
theorem word_ref_l0 (K : Int) (u : List Int) (hb : u.length ≤ 100000) : ∀ (d k i : Nat), i + d = u.length → d < k → tutorref01_Check.l0 k u K (i : Int) = some (wordAt K (u.drop i) i) := by
  intro d
  induction d with
  | zero =>
    intro k i h hk
    obtain ⟨k, rfl⟩ : ∃ m, k = m + 1 := ⟨k - 1, by omega⟩
    rw [tutorref01_Check.l0, if_neg (by omega), List.drop_of_length_le (by omega)]
    rfl
  | succ d ih =>
    intro k i h hk
    obtain ⟨k, rfl⟩ : ∃ m, k = m + 1 := ⟨k - 1, by omega⟩
    have hi : i < u.length := by omega
    rw [tutorref01_Check.l0, if_pos (by omega), if_pos (by omega), rdq hi, List.drop_eq_getElem_cons hi, w64q (by omega), ih k (i + 1) (by omega) (by omega), wordAt]
    split
    · rfl
    · split <;> rfl
def wordCk (K : Int) (u : List Int) : Int × Int := if K < 1 ∨ K > 64 then (0, 1) else if (u.length : Int) > 4096 then (0, 2) else wordAt K u 0
theorem word_prog {K : Int} {u : List Int} {k : Nat} (hk : 5000 ≤ k) : word_Check.f k u K = some (wordCk K u) := by
  unfold word_Check.f word_alphabet.f wordCk
  by_cases h1 : K ≥ 1
  · rw [if_pos h1]
    by_cases h2 : K ≤ 64
    · rw [decide_eq_true h2, Option.bind_some, if_pos rfl, if_neg (show ¬ (K < 1 ∨ K > 64) by omega)]
      by_cases h3 : (u.length : Int) > 4096
      · rw [if_pos h3, if_pos h3]
      · rw [if_neg h3, if_neg h3]
        have := prog_l0 K u (by omega) u.length k 0 (by omega) (by omega)
        simpa using this
    · rw [decide_eq_false h2, Option.bind_some, if_neg (by simp), if_pos (by omega)]
  · rw [if_neg h1, Option.bind_some, if_neg (by simp), if_pos (by omega)]
theorem word_ref {K : Int} {u : List Int} {k : Nat} (hk : 5000 ≤ k) : tutorref01_Check.f k u K = some (wordCk K u) := by
  unfold tutorref01_Check.f wordCk
  obtain ⟨k, rfl⟩ : ∃ m, k = m + 1 := ⟨k - 1, by omega⟩
  by_cases h1 : K < 1
  · rw [if_pos h1, tutorref01_Check.j0, if_pos rfl, if_pos (by omega)]
  · rw [if_neg h1, tutorref01_Check.j0]
    by_cases h2 : K > 64
    · rw [decide_eq_true h2, if_pos rfl, if_pos (by omega)]
    · rw [decide_eq_false h2, if_neg (by simp), if_neg (show ¬ (K < 1 ∨ K > 64) by omega)]
      by_cases h3 : (u.length : Int) > 4096
      · rw [if_pos h3, if_pos h3]
      · rw [if_neg h3, if_neg h3]
        have := word_ref_l0 K u (by omega) u.length k 0 (by omega) (by omega)
        simpa using this
theorem wordCk_short {K : Int} {u : List Int} (h : (wordCk K u).2 = 0) : u.length ≤ 4096 := by
  unfold wordCk at h
  split at h
  · simp at h
  · split at h
    · simp at h
    · omega
open Classical in
/-- What the program answers, of any automaton and word. -/
theorem acc_is (K N : Int) (S F : List Int) (E : List S80) (u : List Int) {k : Nat} (hk : 5000 ≤ k) : accF k K N S F E u = some (
    if (nfa_Check.g K N S F E).2 ≠ 0 then (false, (nfa_Check.g K N S F E).2) else if (wordCk K u).2 ≠ 0 then (false, (wordCk K u).2) else (decide (Fin F (Behind E u (EC E (fun i => i ∈ S)))), 0)) := by
  unfold accF
  by_cases h1 : (nfa_Check.g K N S F E).2 ≠ 0
  · rw [if_pos h1, if_pos h1]
  · rw [if_neg h1, if_neg h1, word_prog hk]
    have R := check_ok (by simpa using h1)
    by_cases h2 : (wordCk K u).2 ≠ 0
    · rw [if_pos h2]
      simp only [if_pos h2]
    · rw [if_neg h2]
      simp only [if_neg h2]
      obtain ⟨s, g1, g2⟩ := startF_is R (k := k) (by omega)
      obtain ⟨t, g3, g4⟩ := runF_is R (k := k) (by omega) u s _ g2
      rw [g1]
      simp only []
      rw [g3]
      simp only []
      rcases fi_is g4 R.fl with ⟨e, h⟩ | ⟨e, h⟩
      · rw [e, decide_eq_true h]; rfl
      · rw [e, decide_eq_false h]; rfl
end Go.Proofs.Ytkaefgmgcghhiaa.X
end

section
namespace Go.Proofs.Ytkaefgmgcghhiaa.X
open Go.RowKit Go.Proofs.YtkaefgmgcghhiaaW.PrintWords Go.Proofs.YtkaefgmgcghhiaaW.PrintLast Go.Proofs.YtkaefgmgcghhiaaW.PrintMore
/-- Rows of sets, and where their symbols lead, so far. -/
structure Det (k : Nat) (K N : Int) (F : List Int) (fr : List (List S80)) (s0 : List Nat) (i : Nat) (row : List (List Nat)) (nx out : List Int) : Prop where
  first : row[0]? = some s0
  sets : ∀ s ∈ row, ∃ P, SetIs N s P
  nodup : row.Nodup
  len : i ≤ row.length ∧ row.length ≤ 1024
  nxl : nx.length = i * K.toNat
  outl : out.length = i
  next : ∀ a x, a < i → x < K.toNat → ∃ s t n, row[a]? = some s ∧ stepF k N fr s (x : Int) = some t ∧ nx[a * K.toNat + x]? = some ((n : Nat) : Int) ∧ row[n]? = some t
  says : ∀ a, a < i → ∃ s, row[a]? = some s ∧ out[a]? = some (fiRow s F 0)
theorem get_app {α : Type} {l : List α} {i : Nat} {a : α} (h : l[i]? = some a) (r : List α) : (l ++ r)[i]? = some a := by
  have := (List.getElem?_eq_some_iff.1 h).1
  rw [List.getElem?_append_left this]
  exact h
/-- One state's symbols. -/
theorem detIn_spec {K N : Int} {S F : List Int} {E : List S80} (R : RightN K N S F E) {k : Nat} (hk : 4000 < k) {s : List Nat} (hs : ∃ P, SetIs N s P) (i : Nat) (hi : i < 1024) :
    ∀ (d x : Nat) (row : List (List Nat)) (nx : List Int), x + d = K.toNat → row[i]? = some s → row.Nodup → row.length ≤ 1024 → (∀ s ∈ row, ∃ P, SetIs N s P) → nx.length = i * K.toNat + x →
      (∀ y, y < x → ∃ t n, stepF k N (rowsOf N.toNat E) s (y : Int) = some t ∧ nx[i * K.toNat + y]? = some ((n : Nat) : Int) ∧ row[n]? = some t) →
      (detIn k N (rowsOf N.toNat E) s ((List.range K.toNat).drop x) row nx = some none ∧ ∃ (row1 : List (List Nat)) (t : List Nat), row <+: row1 ∧ row1.length = 1024 ∧ row1.Nodup ∧ (∀ s ∈ row1, ∃ P, SetIs N s P) ∧ (∃ P, SetIs N t P) ∧ t ∉ row1) ∨
      ∃ row1 nx1, detIn k N (rowsOf N.toNat E) s ((List.range K.toNat).drop x) row nx = some (some (row1, nx1)) ∧ row <+: row1 ∧ nx <+: nx1 ∧ row1.Nodup ∧ row1.length ≤ 1024 ∧ (∀ s ∈ row1, ∃ P, SetIs N s P) ∧ nx1.length = (i + 1) * K.toNat ∧
        (∀ y, y < K.toNat → ∃ t n, stepF k N (rowsOf N.toNat E) s (y : Int) = some t ∧ nx1[i * K.toNat + y]? = some ((n : Nat) : Int) ∧ row1[n]? = some t) := by
  intro d
  induction d with
  | zero =>
    intro x row nx hx hsi hnd hl hset hnx hdone
    rw [List.drop_of_length_le (by simp; omega), detIn]
    refine .inr ⟨row, nx, rfl, List.prefix_refl _, List.prefix_refl _, hnd, hl, hset, ?_, fun y hy => hdone y (by omega)⟩
    rw [hnx, Nat.succ_mul]
    omega
  | succ d ih =>
    intro x row nx hx hsi hnd hl hset hnx hdone
    have hK := R.k
    have hxl : x < (List.range K.toNat).length := by simp; omega
    rw [List.drop_eq_getElem_cons hxl, detIn, List.getElem_range]
    obtain ⟨P, hP⟩ := hs
    obtain ⟨t, g1, g2⟩ := stepF_is R hk hP (x : Int)
    have hmul : i * K.toNat ≤ 1024 * 64 := Nat.mul_le_mul (by omega) (by omega)
    rw [g1]
    simp only []
    rw [if_pos (by omega)]
    cases hf : row.findIdx? (· == t) with
    | some j =>
      simp only []
      obtain ⟨hjl, hjt, _⟩ := List.findIdx?_eq_some_iff_getElem.1 hf
      have hjt' : row[j]? = some t := by rw [List.getElem?_eq_getElem hjl]; simpa using hjt
      have q1 : ∀ y, y < x + 1 → ∃ t n, stepF k N (rowsOf N.toNat E) s (y : Int) = some t ∧ (nx ++ [(j : Int)])[i * K.toNat + y]? = some ((n : Nat) : Int) ∧ row[n]? = some t := by
        intro y hy
        by_cases hy2 : y < x
        · obtain ⟨t', n, e1, e2, e3⟩ := hdone y hy2
          exact ⟨t', n, e1, get_app e2 _, e3⟩
        · obtain rfl : y = x := by omega
          exact ⟨t, j, g1, by rw [← hnx, List.getElem?_concat_length], hjt'⟩
      rcases ih (x + 1) row (nx ++ [(j : Int)]) (by omega) hsi hnd hl hset (by simp [hnx]; omega) q1 with h | ⟨row1, nx1, h1, h2, h3, h4⟩
      · exact .inl h
      · exact .inr ⟨row1, nx1, h1, h2, (List.prefix_append _ _).trans h3, h4⟩
    | none =>
      simp only []
      have hnot := not_mem_of_none hf
      by_cases hfull : row.length = 1024
      · rw [if_pos hfull]
        exact .inl ⟨rfl, row, t, List.prefix_refl _, hfull, hnd, hset, ⟨_, g2⟩, hnot⟩
      · rw [if_neg hfull]
        have hnd1 : (row ++ [t]).Nodup := by
          rw [List.nodup_append]
          exact ⟨hnd, by simp, fun a ha b hb => by
            simp only [List.mem_singleton] at hb
            subst hb
            exact fun e => hnot (e ▸ ha)⟩
        have q1 : ∀ s ∈ row ++ [t], ∃ P, SetIs N s P := by
          intro s' hs'
          rcases List.mem_append.1 hs' with h | h
          · exact hset s' h
          · simp only [List.mem_singleton] at h
            exact ⟨_, h ▸ g2⟩
        have q2 : ∀ y, y < x + 1 → ∃ t' n, stepF k N (rowsOf N.toNat E) s (y : Int) = some t' ∧ (nx ++ [(row.length : Int)])[i * K.toNat + y]? = some ((n : Nat) : Int) ∧ (row ++ [t])[n]? = some t' := by
          intro y hy
          by_cases hy2 : y < x
          · obtain ⟨t', n, e1, e2, e3⟩ := hdone y hy2
            exact ⟨t', n, e1, get_app e2 _, get_app e3 _⟩
          · obtain rfl : y = x := by omega
            exact ⟨t, row.length, g1, by rw [← hnx, List.getElem?_concat_length], by rw [List.getElem?_concat_length]⟩
        rcases ih (x + 1) (row ++ [t]) (nx ++ [(row.length : Int)]) (by omega) (get_app hsi _) hnd1 (by simp; omega) q1 (by simp [hnx]; omega) q2 with ⟨h, row1, t', h2, h3⟩ | ⟨row1, nx1, h1, h2, h3, h4⟩
        · exact .inl ⟨h, row1, t', (List.prefix_append _ _).trans h2, h3⟩
        · exact .inr ⟨row1, nx1, h1, (List.prefix_append _ _).trans h2, (List.prefix_append _ _).trans h3, h4⟩
/-- All states': either too many sets, or a whole machine. -/
theorem detF_spec {K N : Int} {S F : List Int} {E : List S80} (R : RightN K N S F E) {k : Nat} (hk : 4000 < k) (s0 : List Nat) : ∀ (d q i : Nat) (row : List (List Nat)) (nx out : List Int), i + d = 1024 → d < q → Det k K N F (rowsOf N.toNat E) s0 i row nx out →
    (detF k K N F (rowsOf N.toNat E) q i row nx out = some none ∧ ∃ (row1 : List (List Nat)) (t : List Nat), row <+: row1 ∧ row1.length = 1024 ∧ row1.Nodup ∧ (∀ s ∈ row1, ∃ P, SetIs N s P) ∧ (∃ P, SetIs N t P) ∧ t ∉ row1) ∨
    ∃ row1 nx1 out1, detF k K N F (rowsOf N.toNat E) q i row nx out = some (some (row1, nx1, out1)) ∧ row <+: row1 ∧ Det k K N F (rowsOf N.toNat E) s0 row1.length row1 nx1 out1 := by
  intro d
  induction d with
  | zero =>
    intro q i row nx out hi hq D
    obtain ⟨q, rfl⟩ : ∃ m, q = m + 1 := ⟨q - 1, by omega⟩
    have := D.len
    rw [detF, if_neg (by omega)]
    have he : row.length = i := by omega
    exact .inr ⟨row, nx, out, rfl, List.prefix_refl _, by rw [he]; exact D⟩
  | succ d ih =>
    intro q i row nx out hi hq D
    obtain ⟨q, rfl⟩ : ∃ m, q = m + 1 := ⟨q - 1, by omega⟩
    have hlen := D.len
    rw [detF]
    by_cases hlt : i < row.length
    · rw [if_pos hlt, if_pos (by rw [D.outl]; omega)]
      have hgi : row[i]? = some row[i] := List.getElem?_eq_getElem hlt
      have hgd : row.getD i [] = row[i] := by rw [List.getD_eq_getElem?_getD, hgi]; rfl
      rw [hgd]
      have hin := detIn_spec R hk (D.sets row[i] (List.getElem_mem hlt)) i (by omega) K.toNat 0 row nx (by omega) hgi D.nodup hlen.2 D.sets (by rw [D.nxl]; rfl) (fun y hy => by omega)
      rw [List.drop_zero] at hin
      rcases hin with ⟨h, rest⟩ | ⟨row1, nx1, h1, h2, h3, h4, h5, h6, h7, h8⟩
      · rw [h]
        exact .inl ⟨rfl, rest⟩
      · rw [h1]
        simp only []
        have hpl := h2.length_le
        have hget : ∀ {a : Nat} {s : List Nat}, row[a]? = some s → row1[a]? = some s := by
          intro a s h
          obtain ⟨r, rfl⟩ := h2
          exact get_app h r
        have hgetn : ∀ {a : Nat} {z : Int}, nx[a]? = some z → nx1[a]? = some z := by
          intro a z h
          obtain ⟨r, rfl⟩ := h3
          exact get_app h r
        have D1 : Det k K N F (rowsOf N.toNat E) s0 (i + 1) row1 nx1 (out ++ [fiRow row[i] F 0]) := by
          refine ⟨hget D.first, h6, h4, ⟨by omega, h5⟩, h7, by simp [D.outl], fun a x ha hx => ?_, fun a ha => ?_⟩
          · by_cases hai : a < i
            · obtain ⟨s, t, n, e1, e2, e3, e4⟩ := D.next a x hai hx
              exact ⟨s, t, n, hget e1, e2, hgetn e3, hget e4⟩
            · obtain rfl : a = i := by omega
              obtain ⟨t, n, e1, e2, e3⟩ := h8 x hx
              exact ⟨row[a], t, n, hget hgi, e1, e2, e3⟩
          · by_cases hai : a < i
            · obtain ⟨s, e1, e2⟩ := D.says a hai
              exact ⟨s, hget e1, get_app e2 _⟩
            · obtain rfl : a = i := by omega
              have hc := List.getElem?_concat_length (l := out) (a := fiRow row[a] F 0)
              rw [D.outl] at hc
              exact ⟨row[a], hget hgi, hc⟩
        rcases ih q (i + 1) row1 nx1 _ (by omega) (by omega) D1 with ⟨h, row2, t, g2, g3⟩ | ⟨row2, nx2, out2, g1, g2, g3⟩
        · exact .inl ⟨h, row2, t, h2.trans g2, g3⟩
        · exact .inr ⟨row2, nx2, out2, g1, h2.trans g2, g3⟩
    · rw [if_neg hlt]
      have he : row.length = i := by omega
      exact .inr ⟨row, nx, out, rfl, List.prefix_refl _, by rw [he]; exact D⟩
theorem det_start {k : Nat} {K N : Int} {F : List Int} {fr : List (List S80)} {s0 : List Nat} (hs : ∃ P, SetIs N s0 P) : Det k K N F fr s0 0 [s0] [] [] :=
  ⟨rfl, fun s h => by simp only [List.mem_singleton] at h; exact h ▸ hs, by simp, by simp, by simp, rfl, fun a x ha => by omega, fun a ha => by omega⟩
/-- Sets of few states are few. -/
theorem mem_eq {a b : List Nat} (ha : IsSet a) (hb : IsSet b) (h : ∀ j, mem a j = mem b j) : a = b := by
  apply List.ext_getElem (by rw [ha.1, hb.1])
  intro i h1 h2
  apply Nat.eq_of_testBit_eq
  intro j
  by_cases hj : j < 64
  · have := h (64 * i + j)
    unfold mem at this
    rw [show (64 * i + j) / 64 = i by omega, show (64 * i + j) % 64 = j by omega, List.getD_eq_getElem?_getD, List.getD_eq_getElem?_getD, List.getElem?_eq_getElem h1, List.getElem?_eq_getElem h2] at this
    simpa using this
  · have hx : a[i] < 2 ^ j := Nat.lt_of_lt_of_le (ha.2 _ (List.getElem_mem h1)) (Nat.pow_le_pow_right (n := 2) (by omega) (show 64 ≤ j by omega))
    have hy : b[i] < 2 ^ j := Nat.lt_of_lt_of_le (hb.2 _ (List.getElem_mem h2)) (Nat.pow_le_pow_right (n := 2) (by omega) (show 64 ≤ j by omega))
    rw [Nat.testBit_lt_two_pow hx, Nat.testBit_lt_two_pow hy]
theorem first_word {N : Int} {s : List Nat} {P : Int → Prop} (hs : SetIs N s P) (hN : N ≤ 64) : ∀ j, 64 ≤ j → mem s j = false := by
  intro j hj
  have := hs.2 j
  by_cases hm : mem s j = true
  · have := (this.1 hm).1
    omega
  · simpa using hm
theorem pigeon : ∀ (n : Nat) (l : List Nat), l.Nodup → (∀ x ∈ l, x < n) → l.length ≤ n
  | 0, l, _, h => by
    cases l with
    | nil => simp
    | cons x l => exact absurd (h x (by simp)) (by omega)
  | n + 1, l, hn, h => by
    have h1 := pigeon n (l.erase n) (hn.erase n) (fun x hx => by
      have h2 := hn.mem_erase_iff.1 hx
      have := h x h2.2
      omega)
    rw [List.length_erase] at h1
    split at h1 <;> omega
theorem few {N : Int} (hN : 0 ≤ N ∧ N ≤ 9) {row : List (List Nat)} (hset : ∀ s ∈ row, ∃ P, SetIs N s P) (hnd : row.Nodup) : row.length ≤ 512 := by
  have hinj : ∀ a ∈ row, ∀ b ∈ row, a.getD 0 0 = b.getD 0 0 → a = b := by
    intro a ha b hb h
    obtain ⟨P, hP⟩ := hset a ha
    obtain ⟨Q, hQ⟩ := hset b hb
    refine mem_eq hP.1 hQ.1 fun j => ?_
    by_cases hj : 64 ≤ j
    · rw [first_word hP (by omega) j hj, first_word hQ (by omega) j hj]
    · unfold mem
      rw [show j / 64 = 0 by omega, h]
  have hsm : ∀ a ∈ row, a.getD 0 0 < 512 := by
    intro a ha
    obtain ⟨P, hP⟩ := hset a ha
    apply Nat.lt_pow_two_of_testBit (n := 9)
    intro j hj
    by_cases hj2 : 64 ≤ j
    · have h1 := hP.1.word 0
      exact Nat.testBit_lt_two_pow (Nat.lt_of_lt_of_le h1 (Nat.pow_le_pow_right (n := 2) (by omega) (show 64 ≤ j by omega)))
    · have h1 : mem a j = (a.getD 0 0).testBit j := by
        unfold mem
        rw [show j / 64 = 0 by omega, show j % 64 = j by omega]
      rw [← h1]
      by_cases hm : mem a j = true
      · have := ((hP.2 j).1 hm).1
        omega
      · simpa using hm
  have hnd2 : (row.map (fun a => a.getD 0 0)).Nodup := by
    rw [List.nodup_iff_pairwise_ne, List.pairwise_map]
    exact (List.Pairwise.imp_of_mem (fun {a b} ha hb hne he => hne (hinj a ha b hb he)) hnd)
  have hsub : (row.map (fun a => a.getD 0 0)) ⊆ List.range 512 := by
    intro x hx
    obtain ⟨a, ha, rfl⟩ := List.mem_map.1 hx
    exact List.mem_range.2 (hsm a ha)
  have := pigeon 512 _ hnd2 (fun x hx => List.mem_range.1 (hsub hx))
  simpa using this
end Go.Proofs.Ytkaefgmgcghhiaa.X
end

section
namespace Go.Proofs.Ytkaefgmgcghhiaa.X
open Go.RowKit Go.Proofs.YtkaefgmgcghhiaaW.PrintWords Go.Proofs.YtkaefgmgcghhiaaW.PrintLast Go.Proofs.YtkaefgmgcghhiaaW.PrintMore
attribute [local go_sem] max2_int min2_int max_two min_two max_three min_three max_four min_four   -- for this text's walks alone
set_option linter.unusedVariables false
set_option linter.unusedSimpArgs false
mutual
def tutorlaw17_NfaTrue.j0 : Nat → List Int → Bool → Int → Int → List Int → List Int → List (S80) → Option (Bool)
  | 0, _, _, _, _, _, _, _ => none
  | k + 1, x1, x17, x403000, x403001, x403002, x403003, x403004 => if x17 = true then ((tutorlaw17_live.f k).bind fun t404 => (some t404)) else ((nfa_Determine.f x403000 x403001 x403002 x403003 x403004).bind fun bt405 => ((nfa_Accepts.f x403000 x403001 x403002 x403003 x403004 x1).bind fun bt417 => ((tutorlaw17_num.f bt405.2.2.2.2.2.2).bind fun t419 => (if t419 = 0 then ((tutorlaw17_num.f bt417.2).bind fun t420 => (tutorlaw17_NfaTrue.j1 k x1 bt417.1 (t420 != 0) bt405.1 bt405.2.1 bt405.2.2.1 bt405.2.2.2.1 bt405.2.2.2.2.1 bt405.2.2.2.2.2.1)) else (tutorlaw17_NfaTrue.j1 k x1 bt417.1 true bt405.1 bt405.2.1 bt405.2.2.1 bt405.2.2.2.1 bt405.2.2.2.2.1 bt405.2.2.2.2.2.1)))))
def tutorlaw17_NfaTrue.j1 : Nat → List Int → Bool → Bool → Int → Int → Int → Int → List Int → List Int → Option (Bool)
  | 0, _, _, _, _, _, _, _, _, _ => none
  | k + 1, x1, x7, x37, x417000, x417001, x417002, x417003, x417004, x417005 => if x37 = true then (if x7 = true then (some false) else ((tutorlaw17_live.f k).bind fun t421 => (some t421))) else ((tutorref03_Run.f k x417000 x417001 x417002 x417003 x417004 x417005 x1).bind fun bt422 => (if bt422.2 = 0 then ((tutorref03_Right.f k x417000 x417001 x417002 x417003 x417004 x417005).bind fun t426 => (if t426 = true then (if 0 < (bt422.1.length : Int) then (if (((rd bt422.1 0) == 1) == x7) = true then ((tutorlaw17_live.f k).bind fun t428 => (some t428)) else (some false)) else (none)) else (some false))) else (some false)))
end
def tutorlaw17_NfaTrue.f (k : Nat) (a0_0 : Int) (a0_1 : Int) (l0_2 : List Int) (l0_3 : List Int) (l0_4 : List (S80)) (l1 : List Int) : Option (Bool) := (tutorref17_Big.f a0_0 a0_1 l0_2 l0_3 l0_4 9).bind fun t403 => (if t403 = true then (tutorlaw17_NfaTrue.j0 k l1 true a0_0 a0_1 l0_2 l0_3 l0_4) else (tutorlaw17_NfaTrue.j0 k l1 (decide ((l1.length : Int) > 60)) a0_0 a0_1 l0_2 l0_3 l0_4))
set_option maxHeartbeats 8000000 in
set_option maxRecDepth 100000 in
theorem tutorlaw17_NfaTrue.calls (k : Nat) (a0_0 : Int) (a0_1 : Int) (A0_2 : Option Addr) (c0_2 : Nat) (l0_2 : List Int) (A0_3 : Option Addr) (c0_3 : Nat) (l0_3 : List Int) (A0_4 : Option Addr) (c0_4 : Nat) (l0_4 : List (S80)) (A1 : Option Addr) (c1 : Nat) (l1 : List Int) (r : Bool) (w : World) (hr0_2 : Kd.C (Kd.int .i64) w A0_2 l0_2.length l0_2) (hc0_2 : l0_2.length ≤ c0_2) (hr0_3 : Kd.C (Kd.int .i64) w A0_3 l0_3.length l0_3) (hc0_3 : l0_3.length ≤ c0_3) (hr0_4 : Kd.C k80 w A0_4 l0_4.length l0_4) (hc0_4 : l0_4.length ≤ c0_4) (hr1 : Kd.C (Kd.int .i64) w A1 l1.length l1) (hc1 : l1.length ≤ c1) (h : tutorlaw17_NfaTrue.f k a0_0 a0_1 l0_2 l0_3 l0_4 l1 = some r) :
    Calls Try.prog 6 #[.agg #[.int .i64 a0_0, .int .i64 a0_1, .slice A0_2 l0_2.length c0_2, .slice A0_3 l0_3.length c0_3, .slice A0_4 l0_4.length c0_4], .slice A1 l1.length c1] w fun e w' => e = .returned (.bool r) ∧ Below w.heap.size w w' := by
  have hu25 := Try.underlying25
  have hu43 := Try.underlying43
  have HR0_2 := Aside0.mk hr0_2
  have HC0_2 := Aside0.mk hc0_2
  clear hr0_2 hc0_2
  have HR0_3 := Aside0.mk hr0_3
  have HC0_3 := Aside0.mk hc0_3
  clear hr0_3 hc0_3
  have HR0_4 := Aside0.mk hr0_4
  have HC0_4 := Aside0.mk hc0_4
  clear hr0_4 hc0_4
  have HR1 := Aside0.mk hr1
  have HC1 := Aside0.mk hc1
  clear hr1 hc1
  have HB := Aside0.mk (Below.refl w.heap.size w)
  have H : ((tutorref17_Big.f a0_0 a0_1 l0_2 l0_3 l0_4 9).bind fun t403 => (if t403 = true then (tutorlaw17_NfaTrue.j0 k l1 true a0_0 a0_1 l0_2 l0_3 l0_4) else (tutorlaw17_NfaTrue.j0 k l1 (decide ((l1.length : Int) > 60)) a0_0 a0_1 l0_2 l0_3 l0_4))) = some r := h
  clear h
  have HC3 := Aside0.mk H
  clear H
  go_enter Try.func6, Try.ntmps6
  go_upto_region 1 with (first | ((with_reducible refine gate_dst (N := 2) rfl ?_); (try (refine gate_guard (by rfl) ?_; dsimp only)); refine box_event ?hg (N := 2) ?hd (cs := #[.int .i64 a0_0, .int .i64 a0_1, .slice A0_2 l0_2.length c0_2, .slice A0_3 l0_3.length c0_3, .slice A0_4 l0_4.length c0_4]) (t := 25) ?hr ?_; (case hd => rfl); (case hg => rfl); (case hr => first | (go_simp; done) | (go_simp; rfl)); intro gb402 hg w4 hbox hb; have n0_ := Aside0.mk (below_step (by repeat (first | (with_reducible first | exact HB.out | apply below_alloc | apply pw_below_drewN | apply below_drew1) | exact HB.out)) hb); have n1_ := Aside0.mk (hbox); have n2_ := Aside0.mk ((by rw [hg]; exact (below_size (by repeat (first | (with_reducible first | exact HB.out | apply below_alloc | apply pw_below_drewN | apply below_drew1) | exact HB.out))) : w.heap.size ≤ gb402)); have n3_ := Aside0.mk ((by rw [hg]; exact (below_size (by repeat (first | (with_reducible first | exact HB.out | apply below_alloc | apply pw_below_drewN | apply below_drew1) | exact HB.out))) : w.heap.size ≤ gb402)); clear HB; have HB := n0_; have BK402 := n1_; have GW402 := n2_; have GE402 := n3_; clear n0_ n1_ n2_ n3_; clear hb hbox hg))
  (try simp only [Act.put, List.setIfInBounds_toArray, List.set_cons_zero, List.set_cons_succ])
  go_cut [17] (fun v17 wc => ∃ (kq : Nat) (x17_2 : Bool), v17 = .bool x17_2 ∧ Aside0 (tutorlaw17_NfaTrue.j0 kq l1 x17_2 a0_0 a0_1 l0_2 l0_3 l0_4 = some r) ∧ Aside0 (kq ≤ k) ∧ Aside0 (wc.heap[gb402]? = some (.cells #[.int .i64 a0_0, .int .i64 a0_1, (.slice A0_2 l0_2.length c0_2), (.slice A0_3 l0_3.length c0_3), (.slice A0_4 l0_4.length c0_4)] 25 (0, 0))) ∧ Aside0 (Below w.heap.size w wc))
  case first =>
    have H := HC3.out
    clear HC3
    replace H := Option.bind_eq_some_iff.mp H
    obtain ⟨t403, A50, H⟩ := H
    replace H : (if t403 = true then (tutorlaw17_NfaTrue.j0 k l1 true a0_0 a0_1 l0_2 l0_3 l0_4) else (tutorlaw17_NfaTrue.j0 k l1 (decide ((l1.length : Int) > 60)) a0_0 a0_1 l0_2 l0_3 l0_4)) = some r := H
    have A5 := Aside0.mk A50
    clear A50
    by_cases c6 : t403 = true
    · subst c6
      have H1 : (tutorlaw17_NfaTrue.j0 k l1 true a0_0 a0_1 l0_2 l0_3 l0_4) = some r := by rw [if_pos rfl] at H; exact H
      clear H
      have H := H1
      clear H1
      have H' := Aside0.mk H
      clear H
      have hcz7_0 : w4.cell? ⟨gb402, 0, none⟩ = some (.int .i64 a0_0) := (blk_cell BK402.out 0).trans rfl
      have hcz7_1 : w4.cell? ⟨gb402, 1, none⟩ = some (.int .i64 a0_1) := (blk_cell BK402.out 1).trans rfl
      have hcz7_2 : w4.cell? ⟨gb402, 2, none⟩ = some (.slice A0_2 l0_2.length c0_2) := (blk_cell BK402.out 2).trans rfl
      have hcz7_3 : w4.cell? ⟨gb402, 3, none⟩ = some (.slice A0_3 l0_3.length c0_3) := (blk_cell BK402.out 3).trans rfl
      have hcz7_4 : w4.cell? ⟨gb402, 4, none⟩ = some (.slice A0_4 l0_4.length c0_4) := (blk_cell BK402.out 4).trans rfl
      have hfz7_0 := blk_frozen BK402.out 0
      have hfz7_1 := blk_frozen BK402.out 1
      have hfz7_2 := blk_frozen BK402.out 2
      have hfz7_3 := blk_frozen BK402.out 3
      have hfz7_4 := blk_frozen BK402.out 4
      go_wp2_with (first | ((with_reducible refine gate_callee (f := 19) rfl ?_); refine goesL_ (some 12) rfl rfl Try.func19 (by kernel_rfl) rfl #[.agg #[.int .i64 a0_0, .int .i64 a0_1, .slice A0_2 l0_2.length c0_2, .slice A0_3 l0_3.length c0_3, .slice A0_4 l0_4.length c0_4], .int .i64 9] rfl (by (try simp only [List.map_toArray, List.map_cons, List.map_nil]); first | done | rfl | (simp only [List.length_drop, List.length_take]; rfl)) ?_; (with_reducible refine (tutorref17_Big.calls a0_0 a0_1 _ _ l0_2 _ _ l0_3 _ _ l0_4 9 true _ ?side1 ?side2 ?side3 ?side4 ?side5 ?side6 A5.out).mono ?_); (case side1 => repeat (first | exact (Kd.C_below HR0_2.out HB.out) | (with_reducible refine Kd.C_alloc ?_ _) | (with_reducible refine Kd.C_drewN ?_ _) | (with_reducible refine Kd.C_drew ?_))); (case side2 => exact HC0_2.out); (case side3 => repeat (first | exact (Kd.C_below HR0_3.out HB.out) | (with_reducible refine Kd.C_alloc ?_ _) | (with_reducible refine Kd.C_drewN ?_ _) | (with_reducible refine Kd.C_drew ?_))); (case side4 => exact HC0_3.out); (case side5 => repeat (first | exact (Kd.C_below HR0_4.out HB.out) | (with_reducible refine Kd.C_alloc ?_ _) | (with_reducible refine Kd.C_drewN ?_ _) | (with_reducible refine Kd.C_drew ?_))); (case side6 => exact HC0_4.out); rintro e w8 ⟨rfl, hb⟩; refine ⟨_, rfl, ?_⟩; have n0_ := Aside0.mk (blk_below (g := gb402) (o := .cells #[.int .i64 a0_0, .int .i64 a0_1, .slice A0_2 l0_2.length c0_2, .slice A0_3 l0_3.length c0_3, .slice A0_4 l0_4.length c0_4] 25 (0, 0)) (by (with_reducible repeat (first | refine blk_drewN ?_ _ | refine blk_drew ?_ | refine blk_alloc ?_ _)); exact BK402.out) hb); have n1_ := Aside0.mk (below_step (by repeat (first | (with_reducible first | exact HB.out | apply below_alloc | apply pw_below_drewN | apply below_drew1 | refine below_set ?_ GE402.out) | exact HB.out)) hb); clear BK402; clear HB; have BK402 := n0_; have HB := n1_; clear n0_ n1_; (try clear hb); (try clear hb2); (try clear hk); (try clear hi)))
      go_meet
      case rel => exact ⟨_, (true), (by first | rfl | (simp; done) | (simp [*]; done)), H', ⟨by first | omega | exact Nat.le_refl _⟩, ⟨by (with_reducible repeat (first | refine blk_drewN ?_ _ | refine blk_drew ?_ | refine blk_alloc ?_ _)); exact BK402.out⟩, ⟨by repeat (first | (with_reducible first | exact HB.out | apply below_alloc | apply pw_below_drewN | apply below_drew1 | refine below_set ?_ GE402.out) | exact HB.out)⟩⟩
    · replace c6 := Bool.eq_false_iff.mpr c6
      subst c6
      have H1 : (tutorlaw17_NfaTrue.j0 k l1 (decide ((l1.length : Int) > 60)) a0_0 a0_1 l0_2 l0_3 l0_4) = some r := by rw [if_neg (show ¬ (false = true) by decide)] at H; exact H
      clear H
      have H := H1
      clear H1
      have H' := Aside0.mk H
      clear H
      have hcz9_0 : w4.cell? ⟨gb402, 0, none⟩ = some (.int .i64 a0_0) := (blk_cell BK402.out 0).trans rfl
      have hcz9_1 : w4.cell? ⟨gb402, 1, none⟩ = some (.int .i64 a0_1) := (blk_cell BK402.out 1).trans rfl
      have hcz9_2 : w4.cell? ⟨gb402, 2, none⟩ = some (.slice A0_2 l0_2.length c0_2) := (blk_cell BK402.out 2).trans rfl
      have hcz9_3 : w4.cell? ⟨gb402, 3, none⟩ = some (.slice A0_3 l0_3.length c0_3) := (blk_cell BK402.out 3).trans rfl
      have hcz9_4 : w4.cell? ⟨gb402, 4, none⟩ = some (.slice A0_4 l0_4.length c0_4) := (blk_cell BK402.out 4).trans rfl
      have hfz9_0 := blk_frozen BK402.out 0
      have hfz9_1 := blk_frozen BK402.out 1
      have hfz9_2 := blk_frozen BK402.out 2
      have hfz9_3 := blk_frozen BK402.out 3
      have hfz9_4 := blk_frozen BK402.out 4
      go_wp2_with (first | ((with_reducible refine gate_callee (f := 19) rfl ?_); refine goesL_ (some 12) rfl rfl Try.func19 (by kernel_rfl) rfl #[.agg #[.int .i64 a0_0, .int .i64 a0_1, .slice A0_2 l0_2.length c0_2, .slice A0_3 l0_3.length c0_3, .slice A0_4 l0_4.length c0_4], .int .i64 9] rfl (by (try simp only [List.map_toArray, List.map_cons, List.map_nil]); first | done | rfl | (simp only [List.length_drop, List.length_take]; rfl)) ?_; (with_reducible refine (tutorref17_Big.calls a0_0 a0_1 _ _ l0_2 _ _ l0_3 _ _ l0_4 9 false _ ?side1 ?side2 ?side3 ?side4 ?side5 ?side6 A5.out).mono ?_); (case side1 => repeat (first | exact (Kd.C_below HR0_2.out HB.out) | (with_reducible refine Kd.C_alloc ?_ _) | (with_reducible refine Kd.C_drewN ?_ _) | (with_reducible refine Kd.C_drew ?_))); (case side2 => exact HC0_2.out); (case side3 => repeat (first | exact (Kd.C_below HR0_3.out HB.out) | (with_reducible refine Kd.C_alloc ?_ _) | (with_reducible refine Kd.C_drewN ?_ _) | (with_reducible refine Kd.C_drew ?_))); (case side4 => exact HC0_3.out); (case side5 => repeat (first | exact (Kd.C_below HR0_4.out HB.out) | (with_reducible refine Kd.C_alloc ?_ _) | (with_reducible refine Kd.C_drewN ?_ _) | (with_reducible refine Kd.C_drew ?_))); (case side6 => exact HC0_4.out); rintro e w10 ⟨rfl, hb⟩; refine ⟨_, rfl, ?_⟩; have n0_ := Aside0.mk (blk_below (g := gb402) (o := .cells #[.int .i64 a0_0, .int .i64 a0_1, .slice A0_2 l0_2.length c0_2, .slice A0_3 l0_3.length c0_3, .slice A0_4 l0_4.length c0_4] 25 (0, 0)) (by (with_reducible repeat (first | refine blk_drewN ?_ _ | refine blk_drew ?_ | refine blk_alloc ?_ _)); exact BK402.out) hb); have n1_ := Aside0.mk (below_step (by repeat (first | (with_reducible first | exact HB.out | apply below_alloc | apply pw_below_drewN | apply below_drew1 | refine below_set ?_ GE402.out) | exact HB.out)) hb); clear BK402; clear HB; have BK402 := n0_; have HB := n1_; clear n0_ n1_; (try clear hb); (try clear hb2); (try clear hk); (try clear hi)))
      go_meet
      case rel => exact ⟨_, (decide ((l1.length : Int) > 60)), (by first | rfl | (simp; done) | (simp [*]; done)), H', ⟨by first | omega | exact Nat.le_refl _⟩, ⟨by (with_reducible repeat (first | refine blk_drewN ?_ _ | refine blk_drew ?_ | refine blk_alloc ?_ _)); exact BK402.out⟩, ⟨by repeat (first | (with_reducible first | exact HB.out | apply below_alloc | apply pw_below_drewN | apply below_drew1 | refine below_set ?_ GE402.out) | exact HB.out)⟩⟩
  case rest =>
    clear HC3
    try clear c1
    try clear p2
    try clear c6
    try clear hcz7_0
    try clear hcz7_1
    try clear hcz7_2
    try clear hcz7_3
    try clear hcz7_4
    try clear hcz9_0
    try clear hcz9_1
    try clear hcz9_2
    try clear hcz9_3
    try clear hcz9_4
    try clear hfz7_0
    try clear hfz7_1
    try clear hfz7_2
    try clear hfz7_3
    try clear hfz7_4
    try clear hfz9_0
    try clear hfz9_1
    try clear hfz9_2
    try clear hfz9_3
    try clear hfz9_4
    obtain ⟨kq, x17_2, rfl, HA, HJ2, BK402, HB⟩ := hcut
    cases kq with
    | zero => exact absurd HA.out (by simp [tutorlaw17_NfaTrue.j0])
    | succ kj2 =>
      have H := HA.out
      clear HA
      simp only [tutorlaw17_NfaTrue.j0] at H
      by_cases c11 : x17_2 = true
      · subst c11
        have H1 : ((tutorlaw17_live.f kj2).bind fun t404 => (some t404)) = some r := by rw [if_pos rfl] at H; exact H
        clear H
        have H := H1
        clear H1
        replace H := Option.bind_eq_some_iff.mp H
        obtain ⟨t404, A120, H⟩ := H
        replace H : (some t404) = some r := H
        have A12 := Aside0.mk A120
        clear A120
        obtain rfl := Option.some.inj H
        go_wp2_with (first | ((with_reducible refine gate_callee (f := 13) rfl ?_); refine goesL_ (some 18) rfl rfl Try.func13 (by kernel_rfl) rfl #[] rfl (by (try simp only [List.map_toArray, List.map_cons, List.map_nil]); first | done | rfl | (simp only [List.length_drop, List.length_take]; rfl)) ?_; (with_reducible refine (tutorlaw17_live.calls kj2  t404 _ A12.out).mono ?_); rintro e w13 ⟨rfl, hb⟩; refine ⟨_, rfl, ?_⟩; have n0_ := Aside0.mk (blk_below (g := gb402) (o := .cells #[.int .i64 a0_0, .int .i64 a0_1, .slice A0_2 l0_2.length c0_2, .slice A0_3 l0_3.length c0_3, .slice A0_4 l0_4.length c0_4] 25 (0, 0)) (by (with_reducible repeat (first | refine blk_drewN ?_ _ | refine blk_drew ?_ | refine blk_alloc ?_ _)); exact BK402.out) hb); have n1_ := Aside0.mk (below_step (by repeat (first | (with_reducible first | exact HB.out | apply below_alloc | apply pw_below_drewN | apply below_drew1 | refine below_set ?_ GE402.out) | exact HB.out)) hb); clear BK402; clear HB; have BK402 := n0_; have HB := n1_; clear n0_ n1_; (try clear hb); (try clear hb2); (try clear hk); (try clear hi)))
        go_ret
        exact ⟨by first | rfl | (simp [errW_none, errW_some] <;> rfl) | (simp [*, errW_none, errW_some] <;> rfl), by repeat (first | (with_reducible first | exact HB.out | apply below_alloc | apply pw_below_drewN | apply below_drew1 | refine below_set ?_ GE402.out) | exact HB.out)⟩
      · replace c11 := Bool.eq_false_iff.mpr c11
        subst c11
        have H1 : ((nfa_Determine.f a0_0 a0_1 l0_2 l0_3 l0_4).bind fun bt405 => ((nfa_Accepts.f a0_0 a0_1 l0_2 l0_3 l0_4 l1).bind fun bt417 => ((tutorlaw17_num.f bt405.2.2.2.2.2.2).bind fun t419 => (if t419 = 0 then ((tutorlaw17_num.f bt417.2).bind fun t420 => (tutorlaw17_NfaTrue.j1 kj2 l1 bt417.1 (t420 != 0) bt405.1 bt405.2.1 bt405.2.2.1 bt405.2.2.2.1 bt405.2.2.2.2.1 bt405.2.2.2.2.2.1)) else (tutorlaw17_NfaTrue.j1 kj2 l1 bt417.1 true bt405.1 bt405.2.1 bt405.2.2.1 bt405.2.2.2.1 bt405.2.2.2.2.1 bt405.2.2.2.2.2.1))))) = some r := by rw [if_neg (show ¬ (false = true) by decide)] at H; exact H
        clear H
        have H := H1
        clear H1
        replace H := Option.bind_eq_some_iff.mp H
        obtain ⟨⟨t405, t406, t407, t408, t409, t412, t415⟩, A140, H⟩ := H
        replace H : ((nfa_Accepts.f a0_0 a0_1 l0_2 l0_3 l0_4 l1).bind fun bt417 => ((tutorlaw17_num.f t415).bind fun t419 => (if t419 = 0 then ((tutorlaw17_num.f bt417.2).bind fun t420 => (tutorlaw17_NfaTrue.j1 kj2 l1 bt417.1 (t420 != 0) t405 t406 t407 t408 t409 t412)) else (tutorlaw17_NfaTrue.j1 kj2 l1 bt417.1 true t405 t406 t407 t408 t409 t412)))) = some r := H
        have A14 := Aside0.mk A140
        clear A140
        replace H := Option.bind_eq_some_iff.mp H
        obtain ⟨⟨t417, t418⟩, A150, H⟩ := H
        replace H : ((tutorlaw17_num.f t415).bind fun t419 => (if t419 = 0 then ((tutorlaw17_num.f t418).bind fun t420 => (tutorlaw17_NfaTrue.j1 kj2 l1 t417 (t420 != 0) t405 t406 t407 t408 t409 t412)) else (tutorlaw17_NfaTrue.j1 kj2 l1 t417 true t405 t406 t407 t408 t409 t412))) = some r := H
        have A15 := Aside0.mk A150
        clear A150
        have HC16 := Aside0.mk H
        clear H
        have hcz17_0 : wc.cell? ⟨gb402, 0, none⟩ = some (.int .i64 a0_0) := (blk_cell BK402.out 0).trans rfl
        have hcz17_1 : wc.cell? ⟨gb402, 1, none⟩ = some (.int .i64 a0_1) := (blk_cell BK402.out 1).trans rfl
        have hcz17_2 : wc.cell? ⟨gb402, 2, none⟩ = some (.slice A0_2 l0_2.length c0_2) := (blk_cell BK402.out 2).trans rfl
        have hcz17_3 : wc.cell? ⟨gb402, 3, none⟩ = some (.slice A0_3 l0_3.length c0_3) := (blk_cell BK402.out 3).trans rfl
        have hcz17_4 : wc.cell? ⟨gb402, 4, none⟩ = some (.slice A0_4 l0_4.length c0_4) := (blk_cell BK402.out 4).trans rfl
        have hfz17_0 := blk_frozen BK402.out 0
        have hfz17_1 := blk_frozen BK402.out 1
        have hfz17_2 := blk_frozen BK402.out 2
        have hfz17_3 := blk_frozen BK402.out 3
        have hfz17_4 := blk_frozen BK402.out 4
        go_upto_region 5 with (first | ((with_reducible refine gate_callee (f := 22) rfl ?_); refine goesL_ (some 21) rfl rfl Try.func22 (by kernel_rfl) rfl #[.agg #[.int .i64 a0_0, .int .i64 a0_1, .slice A0_2 l0_2.length c0_2, .slice A0_3 l0_3.length c0_3, .slice A0_4 l0_4.length c0_4]] rfl (by (try simp only [List.map_toArray, List.map_cons, List.map_nil]); first | done | rfl | (simp only [List.length_drop, List.length_take]; rfl)) ?_; (with_reducible refine (nfa_Determine.calls a0_0 a0_1 _ _ l0_2 _ _ l0_3 _ _ l0_4 t405 t406 t407 t408 t409 t412 t415 _ ?side1 ?side2 ?side3 ?side4 ?side5 ?side6 A14.out).mono ?_); (case side1 => repeat (first | exact (Kd.C_below HR0_2.out HB.out) | (with_reducible refine Kd.C_alloc ?_ _) | (with_reducible refine Kd.C_drewN ?_ _) | (with_reducible refine Kd.C_drew ?_))); (case side2 => exact HC0_2.out); (case side3 => repeat (first | exact (Kd.C_below HR0_3.out HB.out) | (with_reducible refine Kd.C_alloc ?_ _) | (with_reducible refine Kd.C_drewN ?_ _) | (with_reducible refine Kd.C_drew ?_))); (case side4 => exact HC0_3.out); (case side5 => repeat (first | exact (Kd.C_below HR0_4.out HB.out) | (with_reducible refine Kd.C_alloc ?_ _) | (with_reducible refine Kd.C_drewN ?_ _) | (with_reducible refine Kd.C_drew ?_))); (case side6 => exact HC0_4.out); rintro e w18 ⟨v410, v413, rfl, ho0, ho1, hb⟩; refine ⟨_, rfl, ?_⟩; have n0_ := Aside0.mk (Kd.R_lower ho0 (below_size (by repeat (first | (with_reducible first | exact HB.out | apply below_alloc | apply pw_below_drewN | apply below_drew1 | refine below_set ?_ GE402.out) | exact HB.out)))); have n1_ := Aside0.mk (Kd.R_lower ho1 (below_size (by repeat (first | (with_reducible first | exact HB.out | apply below_alloc | apply pw_below_drewN | apply below_drew1 | refine below_set ?_ GE402.out) | exact HB.out)))); have n2_ := Aside0.mk (blk_below (g := gb402) (o := .cells #[.int .i64 a0_0, .int .i64 a0_1, .slice A0_2 l0_2.length c0_2, .slice A0_3 l0_3.length c0_3, .slice A0_4 l0_4.length c0_4] 25 (0, 0)) (by (with_reducible repeat (first | refine blk_drewN ?_ _ | refine blk_drew ?_ | refine blk_alloc ?_ _)); exact BK402.out) hb); have n3_ := Aside0.mk (below_step (by repeat (first | (with_reducible first | exact HB.out | apply below_alloc | apply pw_below_drewN | apply below_drew1 | refine below_set ?_ GE402.out) | exact HB.out)) hb); clear BK402; clear HB; have HO411 := n0_; have HO414 := n1_; have BK402 := n2_; have HB := n3_; clear n0_ n1_ n2_ n3_; (try clear hb); (try clear hb2); (try clear hk); (try clear hi); (try clear ho0); (try clear ho1)) | ((with_reducible refine gate_dst (N := 5) rfl ?_); (try (refine gate_guard (by rfl) ?_; dsimp only)); refine box_event ?hg (N := 5) ?hd (cs := #[.int .i64 0, .int .i64 0, .int .i64 0, .int .i64 0, .slice none 0 0, .slice none 0 0]) (t := 43) ?hr ?_; (case hd => rfl); (case hg => rfl); (case hr => first | (go_simp; done) | (go_simp; rfl)); intro gb416 hg w19 hbox hb; have n0_ := Aside0.mk (Kd.R_below (by (with_reducible repeat (first | apply Kd.R_alloc | apply Kd.R_drewN | apply Kd.R_drew)); exact HO411.out) hb); have n1_ := Aside0.mk (Kd.R_below (by (with_reducible repeat (first | apply Kd.R_alloc | apply Kd.R_drewN | apply Kd.R_drew)); exact HO414.out) hb); have n2_ := Aside0.mk (blk_below (g := gb402) (o := .cells #[.int .i64 a0_0, .int .i64 a0_1, .slice A0_2 l0_2.length c0_2, .slice A0_3 l0_3.length c0_3, .slice A0_4 l0_4.length c0_4] 25 (0, 0)) (by (with_reducible repeat (first | refine blk_drewN ?_ _ | refine blk_drew ?_ | refine blk_alloc ?_ _)); exact BK402.out) hb); have n3_ := Aside0.mk (below_step (by repeat (first | (with_reducible first | exact HB.out | apply below_alloc | apply pw_below_drewN | apply below_drew1 | refine below_set ?_ GE402.out) | exact HB.out)) hb); have n4_ := Aside0.mk (hbox); have n5_ := Aside0.mk ((by rw [hg]; exact (below_size (by repeat (first | (with_reducible first | exact HB.out | apply below_alloc | apply pw_below_drewN | apply below_drew1 | refine below_set ?_ GE402.out) | exact HB.out))) : w.heap.size ≤ gb416)); have n6_ := Aside0.mk ((by rw [hg]; exact (below_size (by repeat (first | (with_reducible first | exact HB.out | apply below_alloc | apply pw_below_drewN | apply below_drew1 | refine below_set ?_ GE402.out) | exact HB.out))) : w.heap.size ≤ gb416)); have n7_ := Aside0.mk ((by rw [hg]; exact Nat.ne_of_lt (blk_lt (g := gb402) (o := .cells #[.int .i64 a0_0, .int .i64 a0_1, .slice A0_2 l0_2.length c0_2, .slice A0_3 l0_3.length c0_3, .slice A0_4 l0_4.length c0_4] 25 (0, 0)) (by (with_reducible repeat (first | refine blk_drewN ?_ _ | refine blk_drew ?_ | refine blk_alloc ?_ _)); exact BK402.out)) : gb402 ≠ gb416)); have n8_ := Aside0.mk ((by rw [hg]; exact Nat.ne_of_gt (blk_lt (g := gb402) (o := .cells #[.int .i64 a0_0, .int .i64 a0_1, .slice A0_2 l0_2.length c0_2, .slice A0_3 l0_3.length c0_3, .slice A0_4 l0_4.length c0_4] 25 (0, 0)) (by (with_reducible repeat (first | refine blk_drewN ?_ _ | refine blk_drew ?_ | refine blk_alloc ?_ _)); exact BK402.out)) : gb416 ≠ gb402)); clear HO411; clear HO414; clear BK402; clear HB; have HO411 := n0_; have HO414 := n1_; have BK402 := n2_; have HB := n3_; have BK416 := n4_; have GW416 := n5_; have GE416 := n6_; have NB402_416 := n7_; have NB416_402 := n8_; clear n0_ n1_ n2_ n3_ n4_ n5_ n6_ n7_ n8_; clear hb hbox hg; have hnb20 := NB416_402.out; have hnc20 := NB402_416.out; have hcz21_0 : w19.cell? ⟨gb416, 0, none⟩ = some (.int .i64 0) := (blk_cell BK416.out 0).trans rfl; have hcz21_1 : w19.cell? ⟨gb416, 1, none⟩ = some (.int .i64 0) := (blk_cell BK416.out 1).trans rfl; have hcz21_2 : w19.cell? ⟨gb416, 2, none⟩ = some (.int .i64 0) := (blk_cell BK416.out 2).trans rfl; have hcz21_3 : w19.cell? ⟨gb416, 3, none⟩ = some (.int .i64 0) := (blk_cell BK416.out 3).trans rfl; have hcz21_4 : w19.cell? ⟨gb416, 4, none⟩ = some (.slice none 0 0) := (blk_cell BK416.out 4).trans rfl; have hcz21_5 : w19.cell? ⟨gb416, 5, none⟩ = some (.slice none 0 0) := (blk_cell BK416.out 5).trans rfl; have hfz21_0 := blk_frozen BK416.out 0; have hfz21_1 := blk_frozen BK416.out 1; have hfz21_2 := blk_frozen BK416.out 2; have hfz21_3 := blk_frozen BK416.out 3; have hfz21_4 := blk_frozen BK416.out 4; have hfz21_5 := blk_frozen BK416.out 5; obtain ⟨Ao22, co22, eo22⟩ := Kd.R_slice HO411.out; subst eo22; obtain ⟨Ao23, co23, eo23⟩ := Kd.R_slice HO414.out; subst eo23; have hcz24_0 : w19.cell? ⟨gb402, 0, none⟩ = some (.int .i64 a0_0) := (blk_cell BK402.out 0).trans rfl; have hcz24_1 : w19.cell? ⟨gb402, 1, none⟩ = some (.int .i64 a0_1) := (blk_cell BK402.out 1).trans rfl; have hcz24_2 : w19.cell? ⟨gb402, 2, none⟩ = some (.slice A0_2 l0_2.length c0_2) := (blk_cell BK402.out 2).trans rfl; have hcz24_3 : w19.cell? ⟨gb402, 3, none⟩ = some (.slice A0_3 l0_3.length c0_3) := (blk_cell BK402.out 3).trans rfl; have hcz24_4 : w19.cell? ⟨gb402, 4, none⟩ = some (.slice A0_4 l0_4.length c0_4) := (blk_cell BK402.out 4).trans rfl; have hfz24_0 := blk_frozen BK402.out 0; have hfz24_1 := blk_frozen BK402.out 1; have hfz24_2 := blk_frozen BK402.out 2; have hfz24_3 := blk_frozen BK402.out 3; have hfz24_4 := blk_frozen BK402.out 4) | ((with_reducible refine gate_callee (f := 20) rfl ?_); refine goesL_ (some 27) rfl rfl Try.func20 (by kernel_rfl) rfl #[.agg #[.int .i64 a0_0, .int .i64 a0_1, .slice A0_2 l0_2.length c0_2, .slice A0_3 l0_3.length c0_3, .slice A0_4 l0_4.length c0_4], .slice A1 l1.length c1] rfl (by (try simp only [List.map_toArray, List.map_cons, List.map_nil]); first | done | rfl | (simp only [List.length_drop, List.length_take]; rfl)) ?_; (with_reducible refine (nfa_Accepts.calls a0_0 a0_1 _ _ l0_2 _ _ l0_3 _ _ l0_4 _ _ l1 t417 t418 _ ?side1 ?side2 ?side3 ?side4 ?side5 ?side6 ?side7 ?side8 A15.out).mono ?_); (case side1 => exact Kd.C_below HR0_2.out (by repeat (first | (with_reducible first | exact HB.out | apply below_alloc | apply pw_below_drewN | apply below_drew1 | refine below_set ?_ GE402.out | refine below_set ?_ GE416.out) | exact HB.out))); (case side2 => exact HC0_2.out); (case side3 => exact Kd.C_below HR0_3.out (by repeat (first | (with_reducible first | exact HB.out | apply below_alloc | apply pw_below_drewN | apply below_drew1 | refine below_set ?_ GE402.out | refine below_set ?_ GE416.out) | exact HB.out))); (case side4 => exact HC0_3.out); (case side5 => exact Kd.C_below HR0_4.out (by repeat (first | (with_reducible first | exact HB.out | apply below_alloc | apply pw_below_drewN | apply below_drew1 | refine below_set ?_ GE402.out | refine below_set ?_ GE416.out) | exact HB.out))); (case side6 => exact HC0_4.out); (case side7 => exact Kd.C_below HR1.out (by repeat (first | (with_reducible first | exact HB.out | apply below_alloc | apply pw_below_drewN | apply below_drew1 | refine below_set ?_ GE402.out | refine below_set ?_ GE416.out) | exact HB.out))); (case side8 => exact HC1.out); rintro e w25 ⟨rfl, hb⟩; refine ⟨_, rfl, ?_⟩; have n0_ := Aside0.mk (Kd.R_below (by (with_reducible repeat (first | apply Kd.R_alloc | apply Kd.R_drewN | apply Kd.R_drew)); exact (Kd.R_mono (Kd.R_far (p := ⟨gb416, 5, none⟩) (Kd.R_far (p := ⟨gb416, 4, none⟩) (Kd.R_far (p := ⟨gb416, 3, none⟩) (Kd.R_far (p := ⟨gb416, 2, none⟩) (Kd.R_far (p := ⟨gb416, 1, none⟩) (Kd.R_far (p := ⟨gb416, 0, none⟩) (Kd.R_types HO411.out BK416.out (by decide)) (fun _ hk => hk.2) (.int .i64 t405)) (fun _ hk => hk.2) (.int .i64 t406)) (fun _ hk => hk.2) (.int .i64 t407)) (fun _ hk => hk.2) (.int .i64 t408)) (fun _ hk => hk.2) (.slice Ao22 t409.length co22)) (fun _ hk => hk.2) (.slice Ao23 t412.length co23)) (fun _ h_ => h_.1))) hb); have n1_ := Aside0.mk (Kd.R_below (by (with_reducible repeat (first | apply Kd.R_alloc | apply Kd.R_drewN | apply Kd.R_drew)); exact (Kd.R_mono (Kd.R_far (p := ⟨gb416, 5, none⟩) (Kd.R_far (p := ⟨gb416, 4, none⟩) (Kd.R_far (p := ⟨gb416, 3, none⟩) (Kd.R_far (p := ⟨gb416, 2, none⟩) (Kd.R_far (p := ⟨gb416, 1, none⟩) (Kd.R_far (p := ⟨gb416, 0, none⟩) (Kd.R_types HO414.out BK416.out (by decide)) (fun _ hk => hk.2) (.int .i64 t405)) (fun _ hk => hk.2) (.int .i64 t406)) (fun _ hk => hk.2) (.int .i64 t407)) (fun _ hk => hk.2) (.int .i64 t408)) (fun _ hk => hk.2) (.slice Ao22 t409.length co22)) (fun _ hk => hk.2) (.slice Ao23 t412.length co23)) (fun _ h_ => h_.1))) hb); have n2_ := Aside0.mk (blk_below (g := gb402) (o := .cells #[.int .i64 a0_0, .int .i64 a0_1, .slice A0_2 l0_2.length c0_2, .slice A0_3 l0_3.length c0_3, .slice A0_4 l0_4.length c0_4] 25 (0, 0)) (by (with_reducible repeat (first | refine blk_drewN ?_ _ | refine blk_drew ?_ | refine blk_alloc ?_ _)); refine blk_far ?_ NB402_416.out _; (with_reducible repeat (first | refine blk_drewN ?_ _ | refine blk_drew ?_ | refine blk_alloc ?_ _)); refine blk_far ?_ NB402_416.out _; (with_reducible repeat (first | refine blk_drewN ?_ _ | refine blk_drew ?_ | refine blk_alloc ?_ _)); refine blk_far ?_ NB402_416.out _; (with_reducible repeat (first | refine blk_drewN ?_ _ | refine blk_drew ?_ | refine blk_alloc ?_ _)); refine blk_far ?_ NB402_416.out _; (with_reducible repeat (first | refine blk_drewN ?_ _ | refine blk_drew ?_ | refine blk_alloc ?_ _)); refine blk_far ?_ NB402_416.out _; (with_reducible repeat (first | refine blk_drewN ?_ _ | refine blk_drew ?_ | refine blk_alloc ?_ _)); refine blk_far ?_ NB402_416.out _; (with_reducible repeat (first | refine blk_drewN ?_ _ | refine blk_drew ?_ | refine blk_alloc ?_ _)); exact BK402.out) hb); have n3_ := Aside0.mk (blk_below (g := gb416) (o := .cells #[.int .i64 t405, .int .i64 t406, .int .i64 t407, .int .i64 t408, .slice Ao22 t409.length co22, .slice Ao23 t412.length co23] 43 (0, 0)) (by (with_reducible repeat (first | refine blk_drewN ?_ _ | refine blk_drew ?_ | refine blk_alloc ?_ _)); refine blk_put (cs := #[.int .i64 t405, .int .i64 t406, .int .i64 t407, .int .i64 t408, .slice Ao22 t409.length co22, .slice none 0 0]) ?_ 5 _ rfl; (with_reducible repeat (first | refine blk_drewN ?_ _ | refine blk_drew ?_ | refine blk_alloc ?_ _)); refine blk_put (cs := #[.int .i64 t405, .int .i64 t406, .int .i64 t407, .int .i64 t408, .slice none 0 0, .slice none 0 0]) ?_ 4 _ rfl; (with_reducible repeat (first | refine blk_drewN ?_ _ | refine blk_drew ?_ | refine blk_alloc ?_ _)); refine blk_put (cs := #[.int .i64 t405, .int .i64 t406, .int .i64 t407, .int .i64 0, .slice none 0 0, .slice none 0 0]) ?_ 3 _ rfl; (with_reducible repeat (first | refine blk_drewN ?_ _ | refine blk_drew ?_ | refine blk_alloc ?_ _)); refine blk_put (cs := #[.int .i64 t405, .int .i64 t406, .int .i64 0, .int .i64 0, .slice none 0 0, .slice none 0 0]) ?_ 2 _ rfl; (with_reducible repeat (first | refine blk_drewN ?_ _ | refine blk_drew ?_ | refine blk_alloc ?_ _)); refine blk_put (cs := #[.int .i64 t405, .int .i64 0, .int .i64 0, .int .i64 0, .slice none 0 0, .slice none 0 0]) ?_ 1 _ rfl; (with_reducible repeat (first | refine blk_drewN ?_ _ | refine blk_drew ?_ | refine blk_alloc ?_ _)); refine blk_put (cs := #[.int .i64 0, .int .i64 0, .int .i64 0, .int .i64 0, .slice none 0 0, .slice none 0 0]) ?_ 0 _ rfl; (with_reducible repeat (first | refine blk_drewN ?_ _ | refine blk_drew ?_ | refine blk_alloc ?_ _)); exact BK416.out) hb); have n4_ := Aside0.mk (below_step (by repeat (first | (with_reducible first | exact HB.out | apply below_alloc | apply pw_below_drewN | apply below_drew1 | refine below_set ?_ GE402.out | refine below_set ?_ GE416.out) | exact HB.out)) hb); clear HO411; clear HO414; clear BK402; clear BK416; clear HB; have HO411 := n0_; have HO414 := n1_; have BK402 := n2_; have BK416 := n3_; have HB := n4_; clear n0_ n1_ n2_ n3_ n4_; (try clear hb); (try clear hb2); (try clear hk); (try clear hi)))
        (try simp only [Act.put, List.setIfInBounds_toArray, List.set_cons_zero, List.set_cons_succ])
        go_cut [37] (fun v37 wc => ∃ (kq : Nat) (x37_15 : Bool), v37 = .bool x37_15 ∧ Aside0 (tutorlaw17_NfaTrue.j1 kq l1 t417 x37_15 t405 t406 t407 t408 t409 t412 = some r) ∧ Aside0 (kq ≤ kj2) ∧ Aside0 (Kd.R (Kd.int .i64) 3 wc w.heap.size (fun k_ => some k_ ≠ ((.slice Ao23 t412.length co23) : Value).ownBlock) (.slice Ao22 t409.length co22) t409) ∧ Aside0 (Kd.R (Kd.int .i64) 3 wc w.heap.size (fun k_ => some k_ ≠ ((.slice Ao22 t409.length co22) : Value).ownBlock) (.slice Ao23 t412.length co23) t412) ∧ Aside0 (wc.heap[gb402]? = some (.cells #[.int .i64 a0_0, .int .i64 a0_1, (.slice A0_2 l0_2.length c0_2), (.slice A0_3 l0_3.length c0_3), (.slice A0_4 l0_4.length c0_4)] 25 (0, 0))) ∧ Aside0 (wc.heap[gb416]? = some (.cells #[.int .i64 t405, .int .i64 t406, .int .i64 t407, .int .i64 t408, (.slice Ao22 t409.length co22), (.slice Ao23 t412.length co23)] 43 (0, 0))) ∧ Aside0 (Below w.heap.size w wc))
        case first =>
          have H := HC16.out
          clear HC16
          replace H := Option.bind_eq_some_iff.mp H
          obtain ⟨t419, A260, H⟩ := H
          replace H : (if t419 = 0 then ((tutorlaw17_num.f t418).bind fun t420 => (tutorlaw17_NfaTrue.j1 kj2 l1 t417 (t420 != 0) t405 t406 t407 t408 t409 t412)) else (tutorlaw17_NfaTrue.j1 kj2 l1 t417 true t405 t406 t407 t408 t409 t412)) = some r := H
          have A26 := Aside0.mk A260
          clear A260
          by_cases c27 : t419 = 0
          · rw [if_pos c27] at H
            have c27b0 : (t419 == 0) = true := beq_iff_eq.mpr c27
            have c27b1 : (t419 != 0) = false := bne_eq_false_iff_eq.mpr c27
            clear c27
            (first | rw [c27b0] | (simp only [i64_w, i32_w]; rw [c27b0]) | skip)
            replace H := Option.bind_eq_some_iff.mp H
            obtain ⟨t420, A280, H⟩ := H
            replace H : (tutorlaw17_NfaTrue.j1 kj2 l1 t417 (t420 != 0) t405 t406 t407 t408 t409 t412) = some r := H
            have A28 := Aside0.mk A280
            clear A280
            have H' := Aside0.mk H
            clear H
            go_wp2_with (first | ((with_reducible refine gate_callee (f := 17) rfl ?_); refine goesL_ (some 31) rfl rfl Try.func17 (by kernel_rfl) rfl #[.int .i64 t415] rfl (by (try simp only [List.map_toArray, List.map_cons, List.map_nil]); first | done | rfl | (simp only [List.length_drop, List.length_take]; rfl)) ?_; (with_reducible refine (tutorlaw17_num.calls t415 t419 _ A26.out).mono ?_); rintro e w' ⟨rfl, ⟨nd, rfl⟩⟩; refine ⟨_, rfl, ?_⟩) | (go_at_call 17; (with_reducible refine (tutorlaw17_num.calls t418 t420 _ A28.out).mono ?_); rintro e w' ⟨rfl, ⟨nd, rfl⟩⟩))
            go_meet
            case rel => exact ⟨_, ((t420 != 0)), (by first | rfl | (simp; done) | (simp [*]; done)), H', ⟨by have := HJ2.out; first | omega | exact Nat.le_refl _⟩, ⟨by (with_reducible repeat (first | apply Kd.R_alloc | apply Kd.R_drewN | apply Kd.R_drew)); exact HO411.out⟩, ⟨by (with_reducible repeat (first | apply Kd.R_alloc | apply Kd.R_drewN | apply Kd.R_drew)); exact HO414.out⟩, ⟨by (with_reducible repeat (first | refine blk_drewN ?_ _ | refine blk_drew ?_ | refine blk_alloc ?_ _)); exact BK402.out⟩, ⟨by (with_reducible repeat (first | refine blk_drewN ?_ _ | refine blk_drew ?_ | refine blk_alloc ?_ _)); exact BK416.out⟩, ⟨by repeat (first | (with_reducible first | exact HB.out | apply below_alloc | apply pw_below_drewN | apply below_drew1 | refine below_set ?_ GE402.out | refine below_set ?_ GE416.out) | exact HB.out)⟩⟩
          · rw [if_neg c27] at H
            have c27b0 : (t419 == 0) = false := beq_eq_false_iff_ne.mpr c27
            have c27b1 : (t419 != 0) = true := bne_iff_ne.mpr c27
            (first | rw [c27b0] | (simp only [i64_w, i32_w]; rw [c27b0]) | skip)
            have H' := Aside0.mk H
            clear H
            go_wp2_with (first | ((with_reducible refine gate_callee (f := 17) rfl ?_); refine goesL_ (some 31) rfl rfl Try.func17 (by kernel_rfl) rfl #[.int .i64 t415] rfl (by (try simp only [List.map_toArray, List.map_cons, List.map_nil]); first | done | rfl | (simp only [List.length_drop, List.length_take]; rfl)) ?_; (with_reducible refine (tutorlaw17_num.calls t415 t419 _ A26.out).mono ?_); rintro e w' ⟨rfl, ⟨nd, rfl⟩⟩; refine ⟨_, rfl, ?_⟩))
            go_meet
            case rel => exact ⟨_, (true), (by first | rfl | (simp; done) | (simp [*]; done)), H', ⟨by have := HJ2.out; first | omega | exact Nat.le_refl _⟩, ⟨by (with_reducible repeat (first | apply Kd.R_alloc | apply Kd.R_drewN | apply Kd.R_drew)); exact HO411.out⟩, ⟨by (with_reducible repeat (first | apply Kd.R_alloc | apply Kd.R_drewN | apply Kd.R_drew)); exact HO414.out⟩, ⟨by (with_reducible repeat (first | refine blk_drewN ?_ _ | refine blk_drew ?_ | refine blk_alloc ?_ _)); exact BK402.out⟩, ⟨by (with_reducible repeat (first | refine blk_drewN ?_ _ | refine blk_drew ?_ | refine blk_alloc ?_ _)); exact BK416.out⟩, ⟨by repeat (first | (with_reducible first | exact HB.out | apply below_alloc | apply pw_below_drewN | apply below_drew1 | refine below_set ?_ GE402.out | refine below_set ?_ GE416.out) | exact HB.out)⟩⟩
        case rest =>
          clear HC16
          try clear c1
          try clear c2
          try clear p2
          try clear c6
          try clear c11
          try clear c13
          try clear c17
          try clear c19
          try clear c20
          try clear c22
          try clear c27
          try clear c27b0
          try clear c27b1
          try clear hcz17_0
          try clear hcz17_1
          try clear hcz17_2
          try clear hcz17_3
          try clear hcz17_4
          try clear hcz21_0
          try clear hcz21_1
          try clear hcz21_2
          try clear hcz21_3
          try clear hcz21_4
          try clear hcz21_5
          try clear hcz24_0
          try clear hcz24_1
          try clear hcz24_2
          try clear hcz24_3
          try clear hcz24_4
          try clear hcz7_0
          try clear hcz7_1
          try clear hcz7_2
          try clear hcz7_3
          try clear hcz7_4
          try clear hcz9_0
          try clear hcz9_1
          try clear hcz9_2
          try clear hcz9_3
          try clear hcz9_4
          try clear hfz17_0
          try clear hfz17_1
          try clear hfz17_2
          try clear hfz17_3
          try clear hfz17_4
          try clear hfz21_0
          try clear hfz21_1
          try clear hfz21_2
          try clear hfz21_3
          try clear hfz21_4
          try clear hfz21_5
          try clear hfz24_0
          try clear hfz24_1
          try clear hfz24_2
          try clear hfz24_3
          try clear hfz24_4
          try clear hfz7_0
          try clear hfz7_1
          try clear hfz7_2
          try clear hfz7_3
          try clear hfz7_4
          try clear hfz9_0
          try clear hfz9_1
          try clear hfz9_2
          try clear hfz9_3
          try clear hfz9_4
          try clear p2
          obtain ⟨kq, x37_15, rfl, HA, HJ15, HO_417004, HO_417005, BK402, BK416, HB⟩ := hcut
          cases kq with
          | zero => exact absurd HA.out (by simp [tutorlaw17_NfaTrue.j1])
          | succ kj15 =>
            have H := HA.out
            clear HA
            simp only [tutorlaw17_NfaTrue.j1] at H
            by_cases c29 : x37_15 = true
            · subst c29
              have H1 : (if t417 = true then (some false) else ((tutorlaw17_live.f kj15).bind fun t421 => (some t421))) = some r := by rw [if_pos rfl] at H; exact H
              clear H
              have H := H1
              clear H1
              by_cases c30 : t417 = true
              · subst c30
                have H1 : (some false) = some r := by rw [if_pos rfl] at H; exact H
                clear H
                have H := H1
                clear H1
                obtain rfl := Option.some.inj H
                go_wp2
                go_ret
                exact ⟨by first | rfl | (simp [errW_none, errW_some] <;> rfl) | (simp [*, errW_none, errW_some] <;> rfl), by repeat (first | (with_reducible first | exact HB.out | apply below_alloc | apply pw_below_drewN | apply below_drew1 | refine below_set ?_ GE402.out | refine below_set ?_ GE416.out) | exact HB.out)⟩
              · replace c30 := Bool.eq_false_iff.mpr c30
                subst c30
                have H1 : ((tutorlaw17_live.f kj15).bind fun t421 => (some t421)) = some r := by rw [if_neg (show ¬ (false = true) by decide)] at H; exact H
                clear H
                have H := H1
                clear H1
                replace H := Option.bind_eq_some_iff.mp H
                obtain ⟨t421, A310, H⟩ := H
                replace H : (some t421) = some r := H
                have A31 := Aside0.mk A310
                clear A310
                obtain rfl := Option.some.inj H
                go_wp2_with (first | (go_at_call 13; (with_reducible refine (tutorlaw17_live.calls kj15  t421 _ A31.out).mono ?_); rintro e w32 ⟨rfl, hb⟩; have n0_ := Aside0.mk (Kd.R_below (by (with_reducible repeat (first | apply Kd.R_alloc | apply Kd.R_drewN | apply Kd.R_drew)); exact HO_417004.out) hb); have n1_ := Aside0.mk (Kd.R_below (by (with_reducible repeat (first | apply Kd.R_alloc | apply Kd.R_drewN | apply Kd.R_drew)); exact HO_417005.out) hb); have n2_ := Aside0.mk (blk_below (g := gb402) (o := .cells #[.int .i64 a0_0, .int .i64 a0_1, .slice A0_2 l0_2.length c0_2, .slice A0_3 l0_3.length c0_3, .slice A0_4 l0_4.length c0_4] 25 (0, 0)) (by (with_reducible repeat (first | refine blk_drewN ?_ _ | refine blk_drew ?_ | refine blk_alloc ?_ _)); exact BK402.out) hb); have n3_ := Aside0.mk (blk_below (g := gb416) (o := .cells #[.int .i64 t405, .int .i64 t406, .int .i64 t407, .int .i64 t408, .slice Ao22 t409.length co22, .slice Ao23 t412.length co23] 43 (0, 0)) (by (with_reducible repeat (first | refine blk_drewN ?_ _ | refine blk_drew ?_ | refine blk_alloc ?_ _)); exact BK416.out) hb); have n4_ := Aside0.mk (below_step (by repeat (first | (with_reducible first | exact HB.out | apply below_alloc | apply pw_below_drewN | apply below_drew1 | refine below_set ?_ GE402.out | refine below_set ?_ GE416.out) | exact HB.out)) hb); clear HO_417004; clear HO_417005; clear BK402; clear BK416; clear HB; have HO_417004 := n0_; have HO_417005 := n1_; have BK402 := n2_; have BK416 := n3_; have HB := n4_; clear n0_ n1_ n2_ n3_ n4_; (try clear hb); (try clear hb2); (try clear hk); (try clear hi)))
                go_ret
                exact ⟨by first | rfl | (simp [errW_none, errW_some] <;> rfl) | (simp [*, errW_none, errW_some] <;> rfl), by repeat (first | (with_reducible first | exact HB.out | apply below_alloc | apply pw_below_drewN | apply below_drew1 | refine below_set ?_ GE402.out | refine below_set ?_ GE416.out) | exact HB.out)⟩
            · replace c29 := Bool.eq_false_iff.mpr c29
              subst c29
              have H1 : ((tutorref03_Run.f kj15 t405 t406 t407 t408 t409 t412 l1).bind fun bt422 => (if bt422.2 = 0 then ((tutorref03_Right.f kj15 t405 t406 t407 t408 t409 t412).bind fun t426 => (if t426 = true then (if 0 < (bt422.1.length : Int) then (if (((rd bt422.1 0) == 1) == t417) = true then ((tutorlaw17_live.f kj15).bind fun t428 => (some t428)) else (some false)) else (none)) else (some false))) else (some false))) = some r := by rw [if_neg (show ¬ (false = true) by decide)] at H; exact H
              clear H
              have H := H1
              clear H1
              replace H := Option.bind_eq_some_iff.mp H
              obtain ⟨⟨t422, t425⟩, A330, H⟩ := H
              replace H : (if t425 = 0 then ((tutorref03_Right.f kj15 t405 t406 t407 t408 t409 t412).bind fun t426 => (if t426 = true then (if 0 < (t422.length : Int) then (if (((rd t422 0) == 1) == t417) = true then ((tutorlaw17_live.f kj15).bind fun t428 => (some t428)) else (some false)) else (none)) else (some false))) else (some false)) = some r := H
              have A33 := Aside0.mk A330
              clear A330
              by_cases c34 : t425 = 0
              · rw [if_pos c34] at H
                have c34b0 : (t425 == 0) = true := beq_iff_eq.mpr c34
                have c34b1 : (t425 != 0) = false := bne_eq_false_iff_eq.mpr c34
                clear c34
                replace H := Option.bind_eq_some_iff.mp H
                obtain ⟨t426, A350, H⟩ := H
                replace H : (if t426 = true then (if 0 < (t422.length : Int) then (if (((rd t422 0) == 1) == t417) = true then ((tutorlaw17_live.f kj15).bind fun t428 => (some t428)) else (some false)) else (none)) else (some false)) = some r := H
                have A35 := Aside0.mk A350
                clear A350
                by_cases c36 : t426 = true
                · subst c36
                  have H1 : (if 0 < (t422.length : Int) then (if (((rd t422 0) == 1) == t417) = true then ((tutorlaw17_live.f kj15).bind fun t428 => (some t428)) else (some false)) else (none)) = some r := by rw [if_pos rfl] at H; exact H
                  clear H
                  have H := H1
                  clear H1
                  by_cases c37 : 0 < (t422.length : Int)
                  · rw [if_pos c37] at H
                    have c37b0 : decide (0 < (t422.length : Int)) = true := decide_eq_true c37
                    have c37b1 : decide (0 < t422.length) = true := decide_eq_true (by omega)
                    clear c37
                    by_cases c38 : (((rd t422 0) == 1) == t417) = true
                    · rw [if_pos c38] at H
                      have c38b0 : (((rd t422 0) == 1) == t417) = true := c38
                      (try (have c38b1 : decide (((rd t422 0) == 1) = t417) = true := by simpa using c38))
                      (try (have c38b2 : (((rd t422 0) == 1) == t417) = true := by simpa using c38))
                      clear c38
                      replace H := Option.bind_eq_some_iff.mp H
                      obtain ⟨t428, A390, H⟩ := H
                      replace H : (some t428) = some r := H
                      have A39 := Aside0.mk A390
                      clear A390
                      obtain rfl := Option.some.inj H
                      have hnb40 := NB416_402.out
                      have hnc40 := NB402_416.out
                      have hcz41_0 : wc.cell? ⟨gb416, 0, none⟩ = some (.int .i64 t405) := (blk_cell BK416.out 0).trans rfl
                      have hcz41_1 : wc.cell? ⟨gb416, 1, none⟩ = some (.int .i64 t406) := (blk_cell BK416.out 1).trans rfl
                      have hcz41_2 : wc.cell? ⟨gb416, 2, none⟩ = some (.int .i64 t407) := (blk_cell BK416.out 2).trans rfl
                      have hcz41_3 : wc.cell? ⟨gb416, 3, none⟩ = some (.int .i64 t408) := (blk_cell BK416.out 3).trans rfl
                      have hcz41_4 : wc.cell? ⟨gb416, 4, none⟩ = some (.slice Ao22 t409.length co22) := (blk_cell BK416.out 4).trans rfl
                      have hcz41_5 : wc.cell? ⟨gb416, 5, none⟩ = some (.slice Ao23 t412.length co23) := (blk_cell BK416.out 5).trans rfl
                      have hfz41_0 := blk_frozen BK416.out 0
                      have hfz41_1 := blk_frozen BK416.out 1
                      have hfz41_2 := blk_frozen BK416.out 2
                      have hfz41_3 := blk_frozen BK416.out 3
                      have hfz41_4 := blk_frozen BK416.out 4
                      have hfz41_5 := blk_frozen BK416.out 5
                      go_wp2_with (first | ((with_reducible refine gate_callee (f := 26) rfl ?_); refine goesL_ (some 46) rfl rfl Try.func26 (by kernel_rfl) rfl #[.agg #[.int .i64 t405, .int .i64 t406, .int .i64 t407, .int .i64 t408, .slice Ao22 t409.length co22, .slice Ao23 t412.length co23], .slice A1 l1.length c1] rfl (by (try simp only [List.map_toArray, List.map_cons, List.map_nil]); first | done | rfl | (simp only [List.length_drop, List.length_take]; rfl)) ?_; (with_reducible refine (tutorref03_Run.calls kj15 t405 t406 t407 t408 _ _ t409 _ _ t412 _ _ l1 t422 t425 _ ?side1 ?side2 ?side3 ?side4 ?side5 ?side6 A33.out).mono ?_); (case side1 => repeat (first | exact (Kd.R_reads' HO_417004.out).2.2 | (with_reducible refine Kd.C_alloc ?_ _) | (with_reducible refine Kd.C_drewN ?_ _) | (with_reducible refine Kd.C_drew ?_))); (case side2 => exact (Kd.R_reads' HO_417004.out).2.1); (case side3 => repeat (first | exact (Kd.R_reads' HO_417005.out).2.2 | (with_reducible refine Kd.C_alloc ?_ _) | (with_reducible refine Kd.C_drewN ?_ _) | (with_reducible refine Kd.C_drew ?_))); (case side4 => exact (Kd.R_reads' HO_417005.out).2.1); (case side5 => repeat (first | exact (Kd.C_below HR1.out HB.out) | (with_reducible refine Kd.C_alloc ?_ _) | (with_reducible refine Kd.C_drewN ?_ _) | (with_reducible refine Kd.C_drew ?_))); (case side6 => exact HC1.out); rintro e w42 ⟨v423, rfl, ho0, hb⟩; refine ⟨_, rfl, ?_⟩; have n0_ := Aside0.mk (Kd.R_elder' (by (with_reducible repeat (first | apply Kd.R_alloc | apply Kd.R_drewN | apply Kd.R_drew)); exact HO_417004.out) (Kd.R_base ho0) hb); have n1_ := Aside0.mk (Kd.R_elder' (by (with_reducible repeat (first | apply Kd.R_alloc | apply Kd.R_drewN | apply Kd.R_drew)); exact HO_417005.out) (Kd.R_base ho0) hb); have n2_ := Aside0.mk (Kd.R_lower (Kd.R_new' (Kd.R_new' ho0 (Kd.R_lt (by (with_reducible repeat (first | apply Kd.R_alloc | apply Kd.R_drewN | apply Kd.R_drew)); exact HO_417004.out))) (Kd.R_lt (by (with_reducible repeat (first | apply Kd.R_alloc | apply Kd.R_drewN | apply Kd.R_drew)); exact HO_417005.out))) (below_size (by repeat (first | (with_reducible first | exact HB.out | apply below_alloc | apply pw_below_drewN | apply below_drew1 | refine below_set ?_ GE402.out | refine below_set ?_ GE416.out) | exact HB.out)))); have n3_ := Aside0.mk (blk_below (g := gb402) (o := .cells #[.int .i64 a0_0, .int .i64 a0_1, .slice A0_2 l0_2.length c0_2, .slice A0_3 l0_3.length c0_3, .slice A0_4 l0_4.length c0_4] 25 (0, 0)) (by (with_reducible repeat (first | refine blk_drewN ?_ _ | refine blk_drew ?_ | refine blk_alloc ?_ _)); exact BK402.out) hb); have n4_ := Aside0.mk (blk_below (g := gb416) (o := .cells #[.int .i64 t405, .int .i64 t406, .int .i64 t407, .int .i64 t408, .slice Ao22 t409.length co22, .slice Ao23 t412.length co23] 43 (0, 0)) (by (with_reducible repeat (first | refine blk_drewN ?_ _ | refine blk_drew ?_ | refine blk_alloc ?_ _)); exact BK416.out) hb); have n5_ := Aside0.mk (below_step (by repeat (first | (with_reducible first | exact HB.out | apply below_alloc | apply pw_below_drewN | apply below_drew1 | refine below_set ?_ GE402.out | refine below_set ?_ GE416.out) | exact HB.out)) hb); clear HO_417004; clear HO_417005; clear BK402; clear BK416; clear HB; have HO_417004 := n0_; have HO_417005 := n1_; have HO424 := n2_; have BK402 := n3_; have BK416 := n4_; have HB := n5_; clear n0_ n1_ n2_ n3_ n4_ n5_; (try clear hb); (try clear hb2); (try clear hk); (try clear hi); (try clear ho0); have hcz43_0 : w42.cell? ⟨gb416, 0, none⟩ = some (.int .i64 t405) := (blk_cell BK416.out 0).trans rfl; have hcz43_1 : w42.cell? ⟨gb416, 1, none⟩ = some (.int .i64 t406) := (blk_cell BK416.out 1).trans rfl; have hcz43_2 : w42.cell? ⟨gb416, 2, none⟩ = some (.int .i64 t407) := (blk_cell BK416.out 2).trans rfl; have hcz43_3 : w42.cell? ⟨gb416, 3, none⟩ = some (.int .i64 t408) := (blk_cell BK416.out 3).trans rfl; have hcz43_4 : w42.cell? ⟨gb416, 4, none⟩ = some (.slice Ao22 t409.length co22) := (blk_cell BK416.out 4).trans rfl; have hcz43_5 : w42.cell? ⟨gb416, 5, none⟩ = some (.slice Ao23 t412.length co23) := (blk_cell BK416.out 5).trans rfl; have hfz43_0 := blk_frozen BK416.out 0; have hfz43_1 := blk_frozen BK416.out 1; have hfz43_2 := blk_frozen BK416.out 2; have hfz43_3 := blk_frozen BK416.out 3; have hfz43_4 := blk_frozen BK416.out 4; have hfz43_5 := blk_frozen BK416.out 5) | (go_at_call 27; (with_reducible refine (tutorref03_Right.calls kj15 t405 t406 t407 t408 _ _ t409 _ _ t412 true _ ?side1 ?side2 ?side3 ?side4 A35.out).mono ?_); (case side1 => repeat (first | exact (Kd.R_reads' HO_417004.out).2.2 | (with_reducible refine Kd.C_alloc ?_ _) | (with_reducible refine Kd.C_drewN ?_ _) | (with_reducible refine Kd.C_drew ?_))); (case side2 => exact (Kd.R_reads' HO_417004.out).2.1); (case side3 => repeat (first | exact (Kd.R_reads' HO_417005.out).2.2 | (with_reducible refine Kd.C_alloc ?_ _) | (with_reducible refine Kd.C_drewN ?_ _) | (with_reducible refine Kd.C_drew ?_))); (case side4 => exact (Kd.R_reads' HO_417005.out).2.1); rintro e w44 ⟨rfl, hb⟩; have n0_ := Aside0.mk (Kd.R_below (by (with_reducible repeat (first | apply Kd.R_alloc | apply Kd.R_drewN | apply Kd.R_drew)); exact HO_417004.out) hb); have n1_ := Aside0.mk (Kd.R_below (by (with_reducible repeat (first | apply Kd.R_alloc | apply Kd.R_drewN | apply Kd.R_drew)); exact HO_417005.out) hb); have n2_ := Aside0.mk (Kd.R_below (by (with_reducible repeat (first | apply Kd.R_alloc | apply Kd.R_drewN | apply Kd.R_drew)); exact HO424.out) hb); have n3_ := Aside0.mk (blk_below (g := gb402) (o := .cells #[.int .i64 a0_0, .int .i64 a0_1, .slice A0_2 l0_2.length c0_2, .slice A0_3 l0_3.length c0_3, .slice A0_4 l0_4.length c0_4] 25 (0, 0)) (by (with_reducible repeat (first | refine blk_drewN ?_ _ | refine blk_drew ?_ | refine blk_alloc ?_ _)); exact BK402.out) hb); have n4_ := Aside0.mk (blk_below (g := gb416) (o := .cells #[.int .i64 t405, .int .i64 t406, .int .i64 t407, .int .i64 t408, .slice Ao22 t409.length co22, .slice Ao23 t412.length co23] 43 (0, 0)) (by (with_reducible repeat (first | refine blk_drewN ?_ _ | refine blk_drew ?_ | refine blk_alloc ?_ _)); exact BK416.out) hb); have n5_ := Aside0.mk (below_step (by repeat (first | (with_reducible first | exact HB.out | apply below_alloc | apply pw_below_drewN | apply below_drew1 | refine below_set ?_ GE402.out | refine below_set ?_ GE416.out) | exact HB.out)) hb); clear HO_417004; clear HO_417005; clear HO424; clear BK402; clear BK416; clear HB; have HO_417004 := n0_; have HO_417005 := n1_; have HO424 := n2_; have BK402 := n3_; have BK416 := n4_; have HB := n5_; clear n0_ n1_ n2_ n3_ n4_ n5_; (try clear hb); (try clear hb2); (try clear hk); (try clear hi); obtain ⟨Ao45, co45, eo45⟩ := Kd.R_slice HO424.out; subst eo45; have p427 : 0 ≤ (0 : Int) := (by omega); have q427 : 0 < (t422.length : Int) := of_decide_eq_true (by first | (with_reducible assumption) | assumption); obtain ⟨ad427, e427, hx427_0⟩ := Kd.at_int (Kd.R_reads' HO424.out).2.2 0 p427 q427; cases e427; have qi427 : (0 < t422.length) = True := eq_true (by omega); (try rw [show ((0 : Int)).toNat = 0 from rfl] at hx427_0); (try rw [Addr.add_zero'] at hx427_0); replace p427 := eq_true p427; replace q427 := eq_true q427) | (go_at_call 13; (with_reducible refine (tutorlaw17_live.calls kj15  t428 _ A39.out).mono ?_); rintro e w46 ⟨rfl, hb⟩; have n0_ := Aside0.mk (Kd.R_below (by (with_reducible repeat (first | apply Kd.R_alloc | apply Kd.R_drewN | apply Kd.R_drew)); exact HO_417004.out) hb); have n1_ := Aside0.mk (Kd.R_below (by (with_reducible repeat (first | apply Kd.R_alloc | apply Kd.R_drewN | apply Kd.R_drew)); exact HO_417005.out) hb); have n2_ := Aside0.mk (Kd.R_below (by (with_reducible repeat (first | apply Kd.R_alloc | apply Kd.R_drewN | apply Kd.R_drew)); exact HO424.out) hb); have n3_ := Aside0.mk (blk_below (g := gb402) (o := .cells #[.int .i64 a0_0, .int .i64 a0_1, .slice A0_2 l0_2.length c0_2, .slice A0_3 l0_3.length c0_3, .slice A0_4 l0_4.length c0_4] 25 (0, 0)) (by (with_reducible repeat (first | refine blk_drewN ?_ _ | refine blk_drew ?_ | refine blk_alloc ?_ _)); exact BK402.out) hb); have n4_ := Aside0.mk (blk_below (g := gb416) (o := .cells #[.int .i64 t405, .int .i64 t406, .int .i64 t407, .int .i64 t408, .slice Ao22 t409.length co22, .slice Ao23 t412.length co23] 43 (0, 0)) (by (with_reducible repeat (first | refine blk_drewN ?_ _ | refine blk_drew ?_ | refine blk_alloc ?_ _)); exact BK416.out) hb); have n5_ := Aside0.mk (below_step (by repeat (first | (with_reducible first | exact HB.out | apply below_alloc | apply pw_below_drewN | apply below_drew1 | refine below_set ?_ GE402.out | refine below_set ?_ GE416.out) | exact HB.out)) hb); clear HO_417004; clear HO_417005; clear HO424; clear BK402; clear BK416; clear HB; have HO_417004 := n0_; have HO_417005 := n1_; have HO424 := n2_; have BK402 := n3_; have BK416 := n4_; have HB := n5_; clear n0_ n1_ n2_ n3_ n4_ n5_; (try clear hb); (try clear hb2); (try clear hk); (try clear hi)))
                      go_ret
                      exact ⟨by first | rfl | (simp [errW_none, errW_some] <;> rfl) | (simp [*, errW_none, errW_some] <;> rfl), by repeat (first | (with_reducible first | exact HB.out | apply below_alloc | apply pw_below_drewN | apply below_drew1 | refine below_set ?_ GE402.out | refine below_set ?_ GE416.out) | exact HB.out)⟩
                    · rw [if_neg c38] at H
                      have c38b0 : (((rd t422 0) == 1) == t417) = false := by simpa using c38
                      (try (have c38b1 : decide (((rd t422 0) == 1) = t417) = false := by simpa using c38))
                      (try (have c38b2 : (((rd t422 0) == 1) == t417) = false := by simpa using c38))
                      (try (have c38b3 : ¬ (((rd t422 0) == 1) = t417) := by simpa using c38))
                      clear c38
                      obtain rfl := Option.some.inj H
                      have hnb47 := NB416_402.out
                      have hnc47 := NB402_416.out
                      have hcz48_0 : wc.cell? ⟨gb416, 0, none⟩ = some (.int .i64 t405) := (blk_cell BK416.out 0).trans rfl
                      have hcz48_1 : wc.cell? ⟨gb416, 1, none⟩ = some (.int .i64 t406) := (blk_cell BK416.out 1).trans rfl
                      have hcz48_2 : wc.cell? ⟨gb416, 2, none⟩ = some (.int .i64 t407) := (blk_cell BK416.out 2).trans rfl
                      have hcz48_3 : wc.cell? ⟨gb416, 3, none⟩ = some (.int .i64 t408) := (blk_cell BK416.out 3).trans rfl
                      have hcz48_4 : wc.cell? ⟨gb416, 4, none⟩ = some (.slice Ao22 t409.length co22) := (blk_cell BK416.out 4).trans rfl
                      have hcz48_5 : wc.cell? ⟨gb416, 5, none⟩ = some (.slice Ao23 t412.length co23) := (blk_cell BK416.out 5).trans rfl
                      have hfz48_0 := blk_frozen BK416.out 0
                      have hfz48_1 := blk_frozen BK416.out 1
                      have hfz48_2 := blk_frozen BK416.out 2
                      have hfz48_3 := blk_frozen BK416.out 3
                      have hfz48_4 := blk_frozen BK416.out 4
                      have hfz48_5 := blk_frozen BK416.out 5
                      go_wp2_with (first | ((with_reducible refine gate_callee (f := 26) rfl ?_); refine goesL_ (some 46) rfl rfl Try.func26 (by kernel_rfl) rfl #[.agg #[.int .i64 t405, .int .i64 t406, .int .i64 t407, .int .i64 t408, .slice Ao22 t409.length co22, .slice Ao23 t412.length co23], .slice A1 l1.length c1] rfl (by (try simp only [List.map_toArray, List.map_cons, List.map_nil]); first | done | rfl | (simp only [List.length_drop, List.length_take]; rfl)) ?_; (with_reducible refine (tutorref03_Run.calls kj15 t405 t406 t407 t408 _ _ t409 _ _ t412 _ _ l1 t422 t425 _ ?side1 ?side2 ?side3 ?side4 ?side5 ?side6 A33.out).mono ?_); (case side1 => repeat (first | exact (Kd.R_reads' HO_417004.out).2.2 | (with_reducible refine Kd.C_alloc ?_ _) | (with_reducible refine Kd.C_drewN ?_ _) | (with_reducible refine Kd.C_drew ?_))); (case side2 => exact (Kd.R_reads' HO_417004.out).2.1); (case side3 => repeat (first | exact (Kd.R_reads' HO_417005.out).2.2 | (with_reducible refine Kd.C_alloc ?_ _) | (with_reducible refine Kd.C_drewN ?_ _) | (with_reducible refine Kd.C_drew ?_))); (case side4 => exact (Kd.R_reads' HO_417005.out).2.1); (case side5 => repeat (first | exact (Kd.C_below HR1.out HB.out) | (with_reducible refine Kd.C_alloc ?_ _) | (with_reducible refine Kd.C_drewN ?_ _) | (with_reducible refine Kd.C_drew ?_))); (case side6 => exact HC1.out); rintro e w49 ⟨v423, rfl, ho0, hb⟩; refine ⟨_, rfl, ?_⟩; have n0_ := Aside0.mk (Kd.R_elder' (by (with_reducible repeat (first | apply Kd.R_alloc | apply Kd.R_drewN | apply Kd.R_drew)); exact HO_417004.out) (Kd.R_base ho0) hb); have n1_ := Aside0.mk (Kd.R_elder' (by (with_reducible repeat (first | apply Kd.R_alloc | apply Kd.R_drewN | apply Kd.R_drew)); exact HO_417005.out) (Kd.R_base ho0) hb); have n2_ := Aside0.mk (Kd.R_lower (Kd.R_new' (Kd.R_new' ho0 (Kd.R_lt (by (with_reducible repeat (first | apply Kd.R_alloc | apply Kd.R_drewN | apply Kd.R_drew)); exact HO_417004.out))) (Kd.R_lt (by (with_reducible repeat (first | apply Kd.R_alloc | apply Kd.R_drewN | apply Kd.R_drew)); exact HO_417005.out))) (below_size (by repeat (first | (with_reducible first | exact HB.out | apply below_alloc | apply pw_below_drewN | apply below_drew1 | refine below_set ?_ GE402.out | refine below_set ?_ GE416.out) | exact HB.out)))); have n3_ := Aside0.mk (blk_below (g := gb402) (o := .cells #[.int .i64 a0_0, .int .i64 a0_1, .slice A0_2 l0_2.length c0_2, .slice A0_3 l0_3.length c0_3, .slice A0_4 l0_4.length c0_4] 25 (0, 0)) (by (with_reducible repeat (first | refine blk_drewN ?_ _ | refine blk_drew ?_ | refine blk_alloc ?_ _)); exact BK402.out) hb); have n4_ := Aside0.mk (blk_below (g := gb416) (o := .cells #[.int .i64 t405, .int .i64 t406, .int .i64 t407, .int .i64 t408, .slice Ao22 t409.length co22, .slice Ao23 t412.length co23] 43 (0, 0)) (by (with_reducible repeat (first | refine blk_drewN ?_ _ | refine blk_drew ?_ | refine blk_alloc ?_ _)); exact BK416.out) hb); have n5_ := Aside0.mk (below_step (by repeat (first | (with_reducible first | exact HB.out | apply below_alloc | apply pw_below_drewN | apply below_drew1 | refine below_set ?_ GE402.out | refine below_set ?_ GE416.out) | exact HB.out)) hb); clear HO_417004; clear HO_417005; clear BK402; clear BK416; clear HB; have HO_417004 := n0_; have HO_417005 := n1_; have HO424 := n2_; have BK402 := n3_; have BK416 := n4_; have HB := n5_; clear n0_ n1_ n2_ n3_ n4_ n5_; (try clear hb); (try clear hb2); (try clear hk); (try clear hi); (try clear ho0); have hcz50_0 : w49.cell? ⟨gb416, 0, none⟩ = some (.int .i64 t405) := (blk_cell BK416.out 0).trans rfl; have hcz50_1 : w49.cell? ⟨gb416, 1, none⟩ = some (.int .i64 t406) := (blk_cell BK416.out 1).trans rfl; have hcz50_2 : w49.cell? ⟨gb416, 2, none⟩ = some (.int .i64 t407) := (blk_cell BK416.out 2).trans rfl; have hcz50_3 : w49.cell? ⟨gb416, 3, none⟩ = some (.int .i64 t408) := (blk_cell BK416.out 3).trans rfl; have hcz50_4 : w49.cell? ⟨gb416, 4, none⟩ = some (.slice Ao22 t409.length co22) := (blk_cell BK416.out 4).trans rfl; have hcz50_5 : w49.cell? ⟨gb416, 5, none⟩ = some (.slice Ao23 t412.length co23) := (blk_cell BK416.out 5).trans rfl; have hfz50_0 := blk_frozen BK416.out 0; have hfz50_1 := blk_frozen BK416.out 1; have hfz50_2 := blk_frozen BK416.out 2; have hfz50_3 := blk_frozen BK416.out 3; have hfz50_4 := blk_frozen BK416.out 4; have hfz50_5 := blk_frozen BK416.out 5) | (go_at_call 27; (with_reducible refine (tutorref03_Right.calls kj15 t405 t406 t407 t408 _ _ t409 _ _ t412 true _ ?side1 ?side2 ?side3 ?side4 A35.out).mono ?_); (case side1 => repeat (first | exact (Kd.R_reads' HO_417004.out).2.2 | (with_reducible refine Kd.C_alloc ?_ _) | (with_reducible refine Kd.C_drewN ?_ _) | (with_reducible refine Kd.C_drew ?_))); (case side2 => exact (Kd.R_reads' HO_417004.out).2.1); (case side3 => repeat (first | exact (Kd.R_reads' HO_417005.out).2.2 | (with_reducible refine Kd.C_alloc ?_ _) | (with_reducible refine Kd.C_drewN ?_ _) | (with_reducible refine Kd.C_drew ?_))); (case side4 => exact (Kd.R_reads' HO_417005.out).2.1); rintro e w51 ⟨rfl, hb⟩; have n0_ := Aside0.mk (Kd.R_below (by (with_reducible repeat (first | apply Kd.R_alloc | apply Kd.R_drewN | apply Kd.R_drew)); exact HO_417004.out) hb); have n1_ := Aside0.mk (Kd.R_below (by (with_reducible repeat (first | apply Kd.R_alloc | apply Kd.R_drewN | apply Kd.R_drew)); exact HO_417005.out) hb); have n2_ := Aside0.mk (Kd.R_below (by (with_reducible repeat (first | apply Kd.R_alloc | apply Kd.R_drewN | apply Kd.R_drew)); exact HO424.out) hb); have n3_ := Aside0.mk (blk_below (g := gb402) (o := .cells #[.int .i64 a0_0, .int .i64 a0_1, .slice A0_2 l0_2.length c0_2, .slice A0_3 l0_3.length c0_3, .slice A0_4 l0_4.length c0_4] 25 (0, 0)) (by (with_reducible repeat (first | refine blk_drewN ?_ _ | refine blk_drew ?_ | refine blk_alloc ?_ _)); exact BK402.out) hb); have n4_ := Aside0.mk (blk_below (g := gb416) (o := .cells #[.int .i64 t405, .int .i64 t406, .int .i64 t407, .int .i64 t408, .slice Ao22 t409.length co22, .slice Ao23 t412.length co23] 43 (0, 0)) (by (with_reducible repeat (first | refine blk_drewN ?_ _ | refine blk_drew ?_ | refine blk_alloc ?_ _)); exact BK416.out) hb); have n5_ := Aside0.mk (below_step (by repeat (first | (with_reducible first | exact HB.out | apply below_alloc | apply pw_below_drewN | apply below_drew1 | refine below_set ?_ GE402.out | refine below_set ?_ GE416.out) | exact HB.out)) hb); clear HO_417004; clear HO_417005; clear HO424; clear BK402; clear BK416; clear HB; have HO_417004 := n0_; have HO_417005 := n1_; have HO424 := n2_; have BK402 := n3_; have BK416 := n4_; have HB := n5_; clear n0_ n1_ n2_ n3_ n4_ n5_; (try clear hb); (try clear hb2); (try clear hk); (try clear hi); obtain ⟨Ao52, co52, eo52⟩ := Kd.R_slice HO424.out; subst eo52; have p427 : 0 ≤ (0 : Int) := (by omega); have q427 : 0 < (t422.length : Int) := of_decide_eq_true (by first | (with_reducible assumption) | assumption); obtain ⟨ad427, e427, hx427_0⟩ := Kd.at_int (Kd.R_reads' HO424.out).2.2 0 p427 q427; cases e427; have qi427 : (0 < t422.length) = True := eq_true (by omega); (try rw [show ((0 : Int)).toNat = 0 from rfl] at hx427_0); (try rw [Addr.add_zero'] at hx427_0); replace p427 := eq_true p427; replace q427 := eq_true q427))
                      go_ret
                      exact ⟨by first | rfl | (simp [errW_none, errW_some] <;> rfl) | (simp [*, errW_none, errW_some] <;> rfl), by repeat (first | (with_reducible first | exact HB.out | apply below_alloc | apply pw_below_drewN | apply below_drew1 | refine below_set ?_ GE402.out | refine below_set ?_ GE416.out) | exact HB.out)⟩
                  · rw [if_neg c37] at H
                    exact absurd H (by simp)
                · replace c36 := Bool.eq_false_iff.mpr c36
                  subst c36
                  have H1 : (some false) = some r := by rw [if_neg (show ¬ (false = true) by decide)] at H; exact H
                  clear H
                  have H := H1
                  clear H1
                  obtain rfl := Option.some.inj H
                  have hnb53 := NB416_402.out
                  have hnc53 := NB402_416.out
                  have hcz54_0 : wc.cell? ⟨gb416, 0, none⟩ = some (.int .i64 t405) := (blk_cell BK416.out 0).trans rfl
                  have hcz54_1 : wc.cell? ⟨gb416, 1, none⟩ = some (.int .i64 t406) := (blk_cell BK416.out 1).trans rfl
                  have hcz54_2 : wc.cell? ⟨gb416, 2, none⟩ = some (.int .i64 t407) := (blk_cell BK416.out 2).trans rfl
                  have hcz54_3 : wc.cell? ⟨gb416, 3, none⟩ = some (.int .i64 t408) := (blk_cell BK416.out 3).trans rfl
                  have hcz54_4 : wc.cell? ⟨gb416, 4, none⟩ = some (.slice Ao22 t409.length co22) := (blk_cell BK416.out 4).trans rfl
                  have hcz54_5 : wc.cell? ⟨gb416, 5, none⟩ = some (.slice Ao23 t412.length co23) := (blk_cell BK416.out 5).trans rfl
                  have hfz54_0 := blk_frozen BK416.out 0
                  have hfz54_1 := blk_frozen BK416.out 1
                  have hfz54_2 := blk_frozen BK416.out 2
                  have hfz54_3 := blk_frozen BK416.out 3
                  have hfz54_4 := blk_frozen BK416.out 4
                  have hfz54_5 := blk_frozen BK416.out 5
                  go_wp2_with (first | ((with_reducible refine gate_callee (f := 26) rfl ?_); refine goesL_ (some 46) rfl rfl Try.func26 (by kernel_rfl) rfl #[.agg #[.int .i64 t405, .int .i64 t406, .int .i64 t407, .int .i64 t408, .slice Ao22 t409.length co22, .slice Ao23 t412.length co23], .slice A1 l1.length c1] rfl (by (try simp only [List.map_toArray, List.map_cons, List.map_nil]); first | done | rfl | (simp only [List.length_drop, List.length_take]; rfl)) ?_; (with_reducible refine (tutorref03_Run.calls kj15 t405 t406 t407 t408 _ _ t409 _ _ t412 _ _ l1 t422 t425 _ ?side1 ?side2 ?side3 ?side4 ?side5 ?side6 A33.out).mono ?_); (case side1 => repeat (first | exact (Kd.R_reads' HO_417004.out).2.2 | (with_reducible refine Kd.C_alloc ?_ _) | (with_reducible refine Kd.C_drewN ?_ _) | (with_reducible refine Kd.C_drew ?_))); (case side2 => exact (Kd.R_reads' HO_417004.out).2.1); (case side3 => repeat (first | exact (Kd.R_reads' HO_417005.out).2.2 | (with_reducible refine Kd.C_alloc ?_ _) | (with_reducible refine Kd.C_drewN ?_ _) | (with_reducible refine Kd.C_drew ?_))); (case side4 => exact (Kd.R_reads' HO_417005.out).2.1); (case side5 => repeat (first | exact (Kd.C_below HR1.out HB.out) | (with_reducible refine Kd.C_alloc ?_ _) | (with_reducible refine Kd.C_drewN ?_ _) | (with_reducible refine Kd.C_drew ?_))); (case side6 => exact HC1.out); rintro e w55 ⟨v423, rfl, ho0, hb⟩; refine ⟨_, rfl, ?_⟩; have n0_ := Aside0.mk (Kd.R_elder' (by (with_reducible repeat (first | apply Kd.R_alloc | apply Kd.R_drewN | apply Kd.R_drew)); exact HO_417004.out) (Kd.R_base ho0) hb); have n1_ := Aside0.mk (Kd.R_elder' (by (with_reducible repeat (first | apply Kd.R_alloc | apply Kd.R_drewN | apply Kd.R_drew)); exact HO_417005.out) (Kd.R_base ho0) hb); have n2_ := Aside0.mk (Kd.R_lower (Kd.R_new' (Kd.R_new' ho0 (Kd.R_lt (by (with_reducible repeat (first | apply Kd.R_alloc | apply Kd.R_drewN | apply Kd.R_drew)); exact HO_417004.out))) (Kd.R_lt (by (with_reducible repeat (first | apply Kd.R_alloc | apply Kd.R_drewN | apply Kd.R_drew)); exact HO_417005.out))) (below_size (by repeat (first | (with_reducible first | exact HB.out | apply below_alloc | apply pw_below_drewN | apply below_drew1 | refine below_set ?_ GE402.out | refine below_set ?_ GE416.out) | exact HB.out)))); have n3_ := Aside0.mk (blk_below (g := gb402) (o := .cells #[.int .i64 a0_0, .int .i64 a0_1, .slice A0_2 l0_2.length c0_2, .slice A0_3 l0_3.length c0_3, .slice A0_4 l0_4.length c0_4] 25 (0, 0)) (by (with_reducible repeat (first | refine blk_drewN ?_ _ | refine blk_drew ?_ | refine blk_alloc ?_ _)); exact BK402.out) hb); have n4_ := Aside0.mk (blk_below (g := gb416) (o := .cells #[.int .i64 t405, .int .i64 t406, .int .i64 t407, .int .i64 t408, .slice Ao22 t409.length co22, .slice Ao23 t412.length co23] 43 (0, 0)) (by (with_reducible repeat (first | refine blk_drewN ?_ _ | refine blk_drew ?_ | refine blk_alloc ?_ _)); exact BK416.out) hb); have n5_ := Aside0.mk (below_step (by repeat (first | (with_reducible first | exact HB.out | apply below_alloc | apply pw_below_drewN | apply below_drew1 | refine below_set ?_ GE402.out | refine below_set ?_ GE416.out) | exact HB.out)) hb); clear HO_417004; clear HO_417005; clear BK402; clear BK416; clear HB; have HO_417004 := n0_; have HO_417005 := n1_; have HO424 := n2_; have BK402 := n3_; have BK416 := n4_; have HB := n5_; clear n0_ n1_ n2_ n3_ n4_ n5_; (try clear hb); (try clear hb2); (try clear hk); (try clear hi); (try clear ho0); have hcz56_0 : w55.cell? ⟨gb416, 0, none⟩ = some (.int .i64 t405) := (blk_cell BK416.out 0).trans rfl; have hcz56_1 : w55.cell? ⟨gb416, 1, none⟩ = some (.int .i64 t406) := (blk_cell BK416.out 1).trans rfl; have hcz56_2 : w55.cell? ⟨gb416, 2, none⟩ = some (.int .i64 t407) := (blk_cell BK416.out 2).trans rfl; have hcz56_3 : w55.cell? ⟨gb416, 3, none⟩ = some (.int .i64 t408) := (blk_cell BK416.out 3).trans rfl; have hcz56_4 : w55.cell? ⟨gb416, 4, none⟩ = some (.slice Ao22 t409.length co22) := (blk_cell BK416.out 4).trans rfl; have hcz56_5 : w55.cell? ⟨gb416, 5, none⟩ = some (.slice Ao23 t412.length co23) := (blk_cell BK416.out 5).trans rfl; have hfz56_0 := blk_frozen BK416.out 0; have hfz56_1 := blk_frozen BK416.out 1; have hfz56_2 := blk_frozen BK416.out 2; have hfz56_3 := blk_frozen BK416.out 3; have hfz56_4 := blk_frozen BK416.out 4; have hfz56_5 := blk_frozen BK416.out 5) | (go_at_call 27; (with_reducible refine (tutorref03_Right.calls kj15 t405 t406 t407 t408 _ _ t409 _ _ t412 false _ ?side1 ?side2 ?side3 ?side4 A35.out).mono ?_); (case side1 => repeat (first | exact (Kd.R_reads' HO_417004.out).2.2 | (with_reducible refine Kd.C_alloc ?_ _) | (with_reducible refine Kd.C_drewN ?_ _) | (with_reducible refine Kd.C_drew ?_))); (case side2 => exact (Kd.R_reads' HO_417004.out).2.1); (case side3 => repeat (first | exact (Kd.R_reads' HO_417005.out).2.2 | (with_reducible refine Kd.C_alloc ?_ _) | (with_reducible refine Kd.C_drewN ?_ _) | (with_reducible refine Kd.C_drew ?_))); (case side4 => exact (Kd.R_reads' HO_417005.out).2.1); rintro e w57 ⟨rfl, hb⟩; have n0_ := Aside0.mk (Kd.R_below (by (with_reducible repeat (first | apply Kd.R_alloc | apply Kd.R_drewN | apply Kd.R_drew)); exact HO_417004.out) hb); have n1_ := Aside0.mk (Kd.R_below (by (with_reducible repeat (first | apply Kd.R_alloc | apply Kd.R_drewN | apply Kd.R_drew)); exact HO_417005.out) hb); have n2_ := Aside0.mk (Kd.R_below (by (with_reducible repeat (first | apply Kd.R_alloc | apply Kd.R_drewN | apply Kd.R_drew)); exact HO424.out) hb); have n3_ := Aside0.mk (blk_below (g := gb402) (o := .cells #[.int .i64 a0_0, .int .i64 a0_1, .slice A0_2 l0_2.length c0_2, .slice A0_3 l0_3.length c0_3, .slice A0_4 l0_4.length c0_4] 25 (0, 0)) (by (with_reducible repeat (first | refine blk_drewN ?_ _ | refine blk_drew ?_ | refine blk_alloc ?_ _)); exact BK402.out) hb); have n4_ := Aside0.mk (blk_below (g := gb416) (o := .cells #[.int .i64 t405, .int .i64 t406, .int .i64 t407, .int .i64 t408, .slice Ao22 t409.length co22, .slice Ao23 t412.length co23] 43 (0, 0)) (by (with_reducible repeat (first | refine blk_drewN ?_ _ | refine blk_drew ?_ | refine blk_alloc ?_ _)); exact BK416.out) hb); have n5_ := Aside0.mk (below_step (by repeat (first | (with_reducible first | exact HB.out | apply below_alloc | apply pw_below_drewN | apply below_drew1 | refine below_set ?_ GE402.out | refine below_set ?_ GE416.out) | exact HB.out)) hb); clear HO_417004; clear HO_417005; clear HO424; clear BK402; clear BK416; clear HB; have HO_417004 := n0_; have HO_417005 := n1_; have HO424 := n2_; have BK402 := n3_; have BK416 := n4_; have HB := n5_; clear n0_ n1_ n2_ n3_ n4_ n5_; (try clear hb); (try clear hb2); (try clear hk); (try clear hi)))
                  go_ret
                  exact ⟨by first | rfl | (simp [errW_none, errW_some] <;> rfl) | (simp [*, errW_none, errW_some] <;> rfl), by repeat (first | (with_reducible first | exact HB.out | apply below_alloc | apply pw_below_drewN | apply below_drew1 | refine below_set ?_ GE402.out | refine below_set ?_ GE416.out) | exact HB.out)⟩
              · rw [if_neg c34] at H
                have c34b0 : (t425 == 0) = false := beq_eq_false_iff_ne.mpr c34
                have c34b1 : (t425 != 0) = true := bne_iff_ne.mpr c34
                obtain rfl := Option.some.inj H
                have hnb58 := NB416_402.out
                have hnc58 := NB402_416.out
                have hcz59_0 : wc.cell? ⟨gb416, 0, none⟩ = some (.int .i64 t405) := (blk_cell BK416.out 0).trans rfl
                have hcz59_1 : wc.cell? ⟨gb416, 1, none⟩ = some (.int .i64 t406) := (blk_cell BK416.out 1).trans rfl
                have hcz59_2 : wc.cell? ⟨gb416, 2, none⟩ = some (.int .i64 t407) := (blk_cell BK416.out 2).trans rfl
                have hcz59_3 : wc.cell? ⟨gb416, 3, none⟩ = some (.int .i64 t408) := (blk_cell BK416.out 3).trans rfl
                have hcz59_4 : wc.cell? ⟨gb416, 4, none⟩ = some (.slice Ao22 t409.length co22) := (blk_cell BK416.out 4).trans rfl
                have hcz59_5 : wc.cell? ⟨gb416, 5, none⟩ = some (.slice Ao23 t412.length co23) := (blk_cell BK416.out 5).trans rfl
                have hfz59_0 := blk_frozen BK416.out 0
                have hfz59_1 := blk_frozen BK416.out 1
                have hfz59_2 := blk_frozen BK416.out 2
                have hfz59_3 := blk_frozen BK416.out 3
                have hfz59_4 := blk_frozen BK416.out 4
                have hfz59_5 := blk_frozen BK416.out 5
                go_wp2_with (first | ((with_reducible refine gate_callee (f := 26) rfl ?_); refine goesL_ (some 46) rfl rfl Try.func26 (by kernel_rfl) rfl #[.agg #[.int .i64 t405, .int .i64 t406, .int .i64 t407, .int .i64 t408, .slice Ao22 t409.length co22, .slice Ao23 t412.length co23], .slice A1 l1.length c1] rfl (by (try simp only [List.map_toArray, List.map_cons, List.map_nil]); first | done | rfl | (simp only [List.length_drop, List.length_take]; rfl)) ?_; (with_reducible refine (tutorref03_Run.calls kj15 t405 t406 t407 t408 _ _ t409 _ _ t412 _ _ l1 t422 t425 _ ?side1 ?side2 ?side3 ?side4 ?side5 ?side6 A33.out).mono ?_); (case side1 => repeat (first | exact (Kd.R_reads' HO_417004.out).2.2 | (with_reducible refine Kd.C_alloc ?_ _) | (with_reducible refine Kd.C_drewN ?_ _) | (with_reducible refine Kd.C_drew ?_))); (case side2 => exact (Kd.R_reads' HO_417004.out).2.1); (case side3 => repeat (first | exact (Kd.R_reads' HO_417005.out).2.2 | (with_reducible refine Kd.C_alloc ?_ _) | (with_reducible refine Kd.C_drewN ?_ _) | (with_reducible refine Kd.C_drew ?_))); (case side4 => exact (Kd.R_reads' HO_417005.out).2.1); (case side5 => repeat (first | exact (Kd.C_below HR1.out HB.out) | (with_reducible refine Kd.C_alloc ?_ _) | (with_reducible refine Kd.C_drewN ?_ _) | (with_reducible refine Kd.C_drew ?_))); (case side6 => exact HC1.out); rintro e w60 ⟨v423, rfl, ho0, hb⟩; refine ⟨_, rfl, ?_⟩; have n0_ := Aside0.mk (Kd.R_elder' (by (with_reducible repeat (first | apply Kd.R_alloc | apply Kd.R_drewN | apply Kd.R_drew)); exact HO_417004.out) (Kd.R_base ho0) hb); have n1_ := Aside0.mk (Kd.R_elder' (by (with_reducible repeat (first | apply Kd.R_alloc | apply Kd.R_drewN | apply Kd.R_drew)); exact HO_417005.out) (Kd.R_base ho0) hb); have n2_ := Aside0.mk (Kd.R_lower (Kd.R_new' (Kd.R_new' ho0 (Kd.R_lt (by (with_reducible repeat (first | apply Kd.R_alloc | apply Kd.R_drewN | apply Kd.R_drew)); exact HO_417004.out))) (Kd.R_lt (by (with_reducible repeat (first | apply Kd.R_alloc | apply Kd.R_drewN | apply Kd.R_drew)); exact HO_417005.out))) (below_size (by repeat (first | (with_reducible first | exact HB.out | apply below_alloc | apply pw_below_drewN | apply below_drew1 | refine below_set ?_ GE402.out | refine below_set ?_ GE416.out) | exact HB.out)))); have n3_ := Aside0.mk (blk_below (g := gb402) (o := .cells #[.int .i64 a0_0, .int .i64 a0_1, .slice A0_2 l0_2.length c0_2, .slice A0_3 l0_3.length c0_3, .slice A0_4 l0_4.length c0_4] 25 (0, 0)) (by (with_reducible repeat (first | refine blk_drewN ?_ _ | refine blk_drew ?_ | refine blk_alloc ?_ _)); exact BK402.out) hb); have n4_ := Aside0.mk (blk_below (g := gb416) (o := .cells #[.int .i64 t405, .int .i64 t406, .int .i64 t407, .int .i64 t408, .slice Ao22 t409.length co22, .slice Ao23 t412.length co23] 43 (0, 0)) (by (with_reducible repeat (first | refine blk_drewN ?_ _ | refine blk_drew ?_ | refine blk_alloc ?_ _)); exact BK416.out) hb); have n5_ := Aside0.mk (below_step (by repeat (first | (with_reducible first | exact HB.out | apply below_alloc | apply pw_below_drewN | apply below_drew1 | refine below_set ?_ GE402.out | refine below_set ?_ GE416.out) | exact HB.out)) hb); clear HO_417004; clear HO_417005; clear BK402; clear BK416; clear HB; have HO_417004 := n0_; have HO_417005 := n1_; have HO424 := n2_; have BK402 := n3_; have BK416 := n4_; have HB := n5_; clear n0_ n1_ n2_ n3_ n4_ n5_; (try clear hb); (try clear hb2); (try clear hk); (try clear hi); (try clear ho0)))
                go_ret
                exact ⟨by first | rfl | (simp [errW_none, errW_some] <;> rfl) | (simp [*, errW_none, errW_some] <;> rfl), by repeat (first | (with_reducible first | exact HB.out | apply below_alloc | apply pw_below_drewN | apply below_drew1 | refine below_set ?_ GE402.out | refine below_set ?_ GE416.out) | exact HB.out)⟩
end Go.Proofs.Ytkaefgmgcghhiaa.X
end

section
namespace Go.Proofs.Ytkaefgmgcghhiaa.X
open Go.RowKit Go.Proofs.YtkaefgmgcghhiaaW.PrintWords Go.Proofs.YtkaefgmgcghhiaaW.PrintLast Go.Proofs.YtkaefgmgcghhiaaW.PrintMore
/-- A right acceptor. -/
structure RightD (K N : Int) (nx out : List Int) : Prop where
  k : 1 ≤ K ∧ K ≤ 64
  n : 1 ≤ N ∧ N ≤ 1024
  nxl : nx.length = N.toNat * K.toNat
  outl : out.length = N.toNat
  nxr : ∀ x ∈ nx, 0 ≤ x ∧ x < N
  outr : ∀ x ∈ out, 0 ≤ x ∧ x < 2
theorem ck_l1 (kd K O N : Int) (nx out : List Int) (hb : out.length ≤ 100000) (ho : ∀ x ∈ out, 0 ≤ x ∧ x < O) : ∀ (d k i : Nat), i + d = out.length → d < k → tutorref03_Check.l1 k (i : Int) kd K O N nx out = some (0, 0) := by
  intro d
  induction d with
  | zero =>
    intro k i h hk
    obtain ⟨k, rfl⟩ : ∃ m, k = m + 1 := ⟨k - 1, by omega⟩
    rw [tutorref03_Check.l1, if_neg (by omega)]
  | succ d ih =>
    intro k i h hk
    obtain ⟨k, rfl⟩ : ∃ m, k = m + 1 := ⟨k - 1, by omega⟩
    have hi : i < out.length := by omega
    have := ho out[i] (List.getElem_mem hi)
    rw [tutorref03_Check.l1, if_pos (by omega), if_pos (by omega), rdq hi, if_neg (by omega), if_neg (by omega), w64q (by omega)]
    exact ih k (i + 1) (by omega) (by omega)
theorem ck_l0 (kd K O N : Int) (nx out : List Int) (hb : out.length ≤ 100000) (hb2 : nx.length ≤ 100000) (hn : ∀ x ∈ nx, 0 ≤ x ∧ x < N) (ho : ∀ x ∈ out, 0 ≤ x ∧ x < O) : ∀ (d k i : Nat), i + d = nx.length → d + out.length + 1 < k → tutorref03_Check.l0 k (i : Int) kd K O N nx out = some (0, 0) := by
  intro d
  induction d with
  | zero =>
    intro k i h hk
    obtain ⟨k, rfl⟩ : ∃ m, k = m + 1 := ⟨k - 1, by omega⟩
    rw [tutorref03_Check.l0, if_neg (by omega)]
    exact ck_l1 kd K O N nx out hb ho out.length k 0 (by omega) (by omega)
  | succ d ih =>
    intro k i h hk
    obtain ⟨k, rfl⟩ : ∃ m, k = m + 1 := ⟨k - 1, by omega⟩
    have hi : i < nx.length := by omega
    have := hn nx[i] (List.getElem_mem hi)
    rw [tutorref03_Check.l0, if_pos (by omega), if_pos (by omega), rdq hi, if_neg (by omega), if_neg (by omega), w64q (by omega)]
    exact ih k (i + 1) (by omega) (by omega)
theorem toNat_mul {a b : Int} (ha : 0 ≤ a) (hb : 0 ≤ b) : ((a.toNat * b.toNat : Nat) : Int) = a * b := by
  rw [Int.natCast_mul, Int.toNat_of_nonneg ha, Int.toNat_of_nonneg hb]
theorem RightD.size {K N : Int} {nx out : List Int} (R : RightD K N nx out) : nx.length ≤ 65536 := by
  have h1 := R.k
  have h2 := R.n
  rw [R.nxl]
  exact Nat.mul_le_mul (show N.toNat ≤ 1024 by omega) (show K.toNat ≤ 64 by omega)
theorem RightD.nk {K N : Int} {nx out : List Int} (R : RightD K N nx out) : ((nx.length : Nat) : Int) = N * K := by
  have h1 := R.k
  have h2 := R.n
  rw [R.nxl, toNat_mul (by omega) (by omega)]
theorem ck_ok {K N : Int} {nx out : List Int} (R : RightD K N nx out) {k : Nat} (hk : 200000 ≤ k) : tutorref03_Check.f k 1 K 2 N nx out = some (0, 0) := by
  have h1 := R.k
  have h2 := R.n
  have h3 := R.size
  have h4 := R.nk
  have h5 := R.outl
  obtain ⟨k, rfl⟩ : ∃ m, k = m + 6 := ⟨k - 6, by omega⟩
  unfold tutorref03_Check.f
  rw [if_pos rfl, tutorref03_Check.j0, if_neg (by simp), if_neg (by omega), tutorref03_Check.j1, decide_eq_false (by omega), if_neg (by simp), if_pos rfl, if_pos rfl, if_neg (by omega), decide_eq_false (by omega), tutorref03_Check.j2, if_neg (by simp),
    if_neg (by omega), decide_eq_false (by omega), tutorref03_Check.j3, if_neg (by simp), if_neg (by omega), tutorref03_Check.j4, ← h4, w64 (by omega) (by omega), if_pos rfl]
  have : ((out.length : Int) != N) = false := by simp; omega
  rw [this, tutorref03_Check.j5, if_neg (by simp)]
  exact ck_l0 1 K 2 N nx out (by omega) (by omega) R.nxr R.outr nx.length k 0 (by omega) (by omega)
/-- Where a word leads. -/
def goTo (K : Int) (nx : List Int) : Nat → List Int → Nat
  | a, [] => a
  | a, x :: u => goTo K nx (rd nx (((a * K.toNat + x.toNat : Nat) : Int))).toNat u
theorem idx_lt {K N : Int} {nx out : List Int} (R : RightD K N nx out) {a : Nat} {x : Int} (ha : a < N.toNat) (h0 : 0 ≤ x) (h1 : x < K) : a * K.toNat + x.toNat < nx.length := by
  rw [R.nxl]
  have : (a + 1) * K.toNat ≤ N.toNat * K.toNat := Nat.mul_le_mul_right _ ha
  rw [Nat.succ_mul] at this
  omega
theorem idx_eq {K N : Int} {nx out : List Int} (R : RightD K N nx out) {a : Nat} {x : Int} (ha : a < N.toNat) (h0 : 0 ≤ x) (h1 : x < K) : wrap64 (wrap64 ((a : Int) * K) + x) = ((a * K.toNat + x.toNat : Nat) : Int) := by
  have h2 := idx_lt R ha h0 h1
  have h3 := R.size
  have h4 := R.k
  have h5 : ((a * K.toNat : Nat) : Int) = (a : Int) * K := by rw [Int.natCast_mul, Int.toNat_of_nonneg (by omega)]
  have h6 : wrap64 ((a : Int) * K) = ((a * K.toNat : Nat) : Int) := by rw [← h5]; exact w64 (by omega) (by omega)
  rw [h6, w64 (by omega) (by omega)]
  omega
theorem go_l0 {K N : Int} {nx out : List Int} (R : RightD K N nx out) (w : List Int) (hw : w.length ≤ 100000) (hx : ∀ x ∈ w, 0 ≤ x ∧ x < K) : ∀ (d k i a : Nat), i + d = w.length → d < k → a < N.toNat →
    tutorref03_Go.l0 k (a : Int) w [] (i : Int) 1 K 2 N nx out = some (((goTo K nx a (w.drop i) : Nat) : Int), [rd out ((goTo K nx a (w.drop i) : Nat) : Int)]) := by
  intro d
  induction d with
  | zero =>
    intro k i a h hk ha
    obtain ⟨k, rfl⟩ : ∃ m, k = m + 1 := ⟨k - 1, by omega⟩
    have h5 := R.outl
    rw [tutorref03_Go.l0, if_neg (by omega), if_pos rfl, if_pos (by omega), if_pos (by omega), List.drop_of_length_le (by omega)]
    rfl
  | succ d ih =>
    intro k i a h hk ha
    obtain ⟨k, rfl⟩ : ∃ m, k = m + 1 := ⟨k - 1, by omega⟩
    have hi : i < w.length := by omega
    have hxi := hx w[i] (List.getElem_mem hi)
    have hl := idx_lt R ha hxi.1 hxi.2
    have hn := R.nxr _ (List.getElem_mem hl)
    rw [tutorref03_Go.l0, if_pos (by omega), if_neg (by omega), if_pos (by omega), rdq hi, idx_eq R ha hxi.1 hxi.2, if_pos (by omega), if_pos (by omega), rdq hl, w64q (by omega), List.drop_eq_getElem_cons hi]
    have hq := ih k (i + 1) (nx[a * K.toNat + w[i].toNat]).toNat (by omega) (by omega) (by omega)
    rw [Int.toNat_of_nonneg hn.1] at hq
    rw [hq, goTo, rdq hl]
theorem wordAt_ok {K : Int} : ∀ (u : List Int) (i : Int), (wordAt K u i).2 = 0 → ∀ x ∈ u, 0 ≤ x ∧ x < K
  | [], _, _, x, hx => by cases hx
  | y :: u, i, h, x, hx => by
    rw [wordAt] at h
    by_cases h1 : y < 0
    · rw [if_pos h1] at h; simp at h
    · rw [if_neg h1] at h
      by_cases h2 : y ≥ K
      · rw [if_pos h2] at h; simp at h
      · rw [if_neg h2] at h
        rcases List.mem_cons.1 hx with rfl | hx
        · omega
        · exact wordAt_ok u _ h x hx
theorem wordCk_ok {K : Int} {u : List Int} (h : (wordCk K u).2 = 0) : (1 ≤ K ∧ K ≤ 64) ∧ u.length ≤ 4096 ∧ ∀ x ∈ u, 0 ≤ x ∧ x < K := by
  have hs := wordCk_short h
  unfold wordCk at h
  split at h
  · simp at h
  · split at h
    · simp at h
    · exact ⟨by omega, hs, wordAt_ok u 0 h⟩
theorem run_ok {K N : Int} {nx out : List Int} (R : RightD K N nx out) {w : List Int} (hw : (wordCk K w).2 = 0) {k : Nat} (hk : 200000 ≤ k) : tutorref03_Run.f k 1 K 2 N nx out w = some ([rd out ((goTo K nx 0 w : Nat) : Int)], 0) := by
  obtain ⟨_, hl, hx⟩ := wordCk_ok hw
  have h2 := R.n
  unfold tutorref03_Run.f tutorref03_From.f
  obtain ⟨k, rfl⟩ : ∃ m, k = m + 1 := ⟨k - 1, by omega⟩
  rw [ck_ok R hk, Option.bind_some, if_pos rfl, if_neg (by omega), decide_eq_false (by omega), tutorref03_From.j0, if_neg (by simp), word_ref (by omega), Option.bind_some, if_pos hw]
  unfold tutorref03_Go.f
  have := go_l0 R w (by omega) hx w.length k 0 0 (by omega) (by omega) (by omega)
  rw [List.drop_zero] at this
  rw [show ((0 : Int)) = ((0 : Nat) : Int) from rfl, this]
  rfl
/-- A whole Determine is a right acceptor, and follows the sets. -/
theorem Det.right {K N : Int} {S F : List Int} {E : List S80} (RN : RightN K N S F E) {k : Nat} {fr : List (List S80)} {s0 : List Nat} {row : List (List Nat)} {nx out : List Int} (D : Det k K N F fr s0 row.length row nx out) : RightD K (row.length : Int) nx out := by
  have h1 := RN.k
  have hl := D.len
  have hpos : 0 < row.length := (List.getElem?_eq_some_iff.1 D.first).1
  refine ⟨h1, by omega, by rw [D.nxl]; simp, by rw [D.outl]; simp, fun x hx => ?_, fun x hx => ?_⟩
  · obtain ⟨j, hj⟩ := List.getElem?_of_mem hx
    have hjl := (List.getElem?_eq_some_iff.1 hj).1
    rw [D.nxl] at hjl
    have hd : j / K.toNat < row.length := Nat.div_lt_of_lt_mul (by rw [Nat.mul_comm]; exact hjl)
    obtain ⟨s, t, n, _, _, e3, e4⟩ := D.next (j / K.toNat) (j % K.toNat) hd (Nat.mod_lt _ (by omega))
    rw [Nat.mul_comm, Nat.div_add_mod, hj] at e3
    have := (List.getElem?_eq_some_iff.1 e4).1
    have e5 := Option.some.inj e3
    omega
  · obtain ⟨j, hj⟩ := List.getElem?_of_mem hx
    have hjl := (List.getElem?_eq_some_iff.1 hj).1
    rw [D.outl] at hjl
    obtain ⟨s, _, e2⟩ := D.says j hjl
    rw [hj] at e2
    have e5 := Option.some.inj e2
    rcases fiRow_is s F 0 with ⟨e, _⟩ | ⟨e, _⟩ <;> omega
theorem Det.goTo {K N : Int} {S F : List Int} {E : List S80} (RN : RightN K N S F E) {k : Nat} {fr : List (List S80)} {s0 : List Nat} {row : List (List Nat)} {nx out : List Int} (D : Det k K N F fr s0 row.length row nx out) :
    ∀ (u : List Int) (a : Nat) (s t : List Nat), (∀ x ∈ u, 0 ≤ x ∧ x < K) → row[a]? = some s → runF k N fr u s = some t → row[X.goTo K nx a u]? = some t
  | [], a, s, t, _, ha, h => by
    simp only [runF, Option.some.injEq] at h
    rw [← h]
    exact ha
  | x :: u, a, s, t, hu, ha, h => by
    have hx := hu x (by simp)
    have hal := (List.getElem?_eq_some_iff.1 ha).1
    obtain ⟨s', t', n, e1, e2, e3, e4⟩ := D.next a x.toNat hal (by omega)
    rw [ha] at e1
    obtain rfl := Option.some.inj e1
    rw [Int.toNat_of_nonneg hx.1] at e2
    simp only [runF] at h
    rw [e2] at h
    simp only [] at h
    have hlt := (List.getElem?_eq_some_iff.1 e3).1
    have : rd nx ((a * K.toNat + x.toNat : Nat) : Int) = (n : Int) := by
      rw [rdq hlt]
      exact (List.getElem?_eq_some_iff.1 e3).2
    rw [X.goTo, this, Int.toNat_natCast]
    exact Det.goTo RN D u n t' t (fun y hy => hu y (by simp [hy])) e4 h
theorem Det.out_at {k : Nat} {K N : Int} {F : List Int} {fr : List (List S80)} {s0 : List Nat} {row : List (List Nat)} {nx out : List Int} (D : Det k K N F fr s0 row.length row nx out) {b : Nat} {t : List Nat} (hb : row[b]? = some t) : rd out (b : Int) = fiRow t F 0 := by
  have hbl := (List.getElem?_eq_some_iff.1 hb).1
  obtain ⟨s, e1, e2⟩ := D.says b hbl
  rw [hb] at e1
  obtain rfl := Option.some.inj e1
  rw [rdq (by rw [D.outl]; exact hbl)]
  exact (List.getElem?_eq_some_iff.1 e2).2
/-- What Determine answers: the fault, too many sets, or a whole machine. -/
theorem detG_is {K N : Int} {S F : List Int} {E : List S80} {k : Nat} (hk : 5000 ≤ k) :
    ((nfa_Check.g K N S F E).2 ≠ 0 ∧ detG k K N S F E = some (0, 0, 0, 0, [], [], (nfa_Check.g K N S F E).2)) ∨
    (RightN K N S F E ∧ (nfa_Check.g K N S F E).2 = 0 ∧ ∃ s0, startF k N (rowsOf N.toNat E) S = some s0 ∧ SetIs N s0 (EC E (fun i => i ∈ S)) ∧
      ((detG k K N S F E = some (0, 0, 0, 0, [], [], 3) ∧ ∃ (row1 : List (List Nat)), row1.length = 1024 ∧ row1.Nodup ∧ (∀ s ∈ row1, ∃ P, SetIs N s P)) ∨
       ∃ row nx out, detG k K N S F E = some (1, K, 2, (row.length : Int), nx, out, 0) ∧ Det k K N F (rowsOf N.toNat E) s0 row.length row nx out)) := by
  by_cases h1 : (nfa_Check.g K N S F E).2 = 0
  · have R := check_ok h1
    obtain ⟨s0, g1, g2⟩ := startF_is R (k := k) (by omega)
    refine .inr ⟨R, h1, s0, g1, g2, ?_⟩
    unfold detG
    rw [if_neg (by omega), g1]
    simp only []
    rcases detF_spec R (k := k) (by omega) s0 1024 k 0 [s0] [] [] (by omega) (by omega) (det_start ⟨_, g2⟩) with ⟨h, row1, t, _, a, b, c, _⟩ | ⟨row, nx, out, h, _, D⟩
    · rw [h]
      exact .inl ⟨rfl, row1, a, b, c⟩
    · rw [h]
      exact .inr ⟨row, nx, out, rfl, D⟩
  · refine .inl ⟨h1, ?_⟩
    unfold detG
    rw [if_pos h1]
open Classical in
/-- NfaTrue: the plain law. -/
theorem NfaTrue_pure (K N : Int) (S F : List Int) (E : List S80) (u : List Int) (k : Nat) (hk : 400000 ≤ k) : tutorlaw17_NfaTrue.f (k + 2) K N S F E u = some true := by
  have hlive : ∀ k, 5 ≤ k → ∀ a0 a1 a2 a3 a4 a5, tutorlaw17_NfaTrue.j0 (k + 1) a0 true a1 a2 a3 a4 a5 = some true := by
    intro k hk a0 a1 a2 a3 a4 a5
    rw [tutorlaw17_NfaTrue.j0, if_pos rfl, live_at hk]
    rfl
  have hbad : ∀ k, 5 ≤ k → ∀ u a0 a1 a2 a3 a4 a5, tutorlaw17_NfaTrue.j1 (k + 1) u false true a0 a1 a2 a3 a4 a5 = some true := by
    intro k hk u a0 a1 a2 a3 a4 a5
    rw [tutorlaw17_NfaTrue.j1, if_pos rfl, if_neg (by simp), live_at hk]
    rfl
  have hmain : N ≤ 9 → tutorlaw17_NfaTrue.j0 (k + 2) u false K N S F E = some true := by
    intro hN9
    rw [tutorlaw17_NfaTrue.j0, if_neg (by simp)]
    unfold nfa_Accepts.f nfa_Determine.f tutorlaw17_num.f
    rw [acc_is K N S F E u (by unfold big; omega)]
    rcases detG_is (K := K) (N := N) (S := S) (F := F) (E := E) (k := big) (by unfold big; omega) with ⟨h1, h2⟩ | ⟨R, h1, s0, g1, g2, ⟨h2, row1, a, b, c⟩ | ⟨row, nx, out, h2, D⟩⟩
    · rw [h2, Option.bind_some, Option.bind_some, if_pos h1]
      simp only [Option.bind_some]
      rw [if_neg h1]
      exact hbad k (by omega) _ _ _ _ _ _ _
    · have hN := R.n
      have := few ⟨by omega, hN9⟩ c b
      omega
    · rw [h2, Option.bind_some, Option.bind_some, if_neg (by omega)]
      by_cases hw : (wordCk K u).2 ≠ 0
      · rw [if_pos hw]
        simp only [Option.bind_some, if_true]
        have : ((wordCk K u).2 != 0) = true := by simpa using hw
        rw [this]
        exact hbad k (by omega) _ _ _ _ _ _ _
      · rw [if_neg hw]
        simp only [Option.bind_some, if_true]
        have hw0 : (wordCk K u).2 = 0 := by omega
        obtain ⟨_, _, hx⟩ := wordCk_ok hw0
        obtain ⟨t, g3, g4⟩ := runF_is R (k := big) (by unfold big; omega) u s0 _ g2
        have hrow := D.goTo R u 0 s0 t hx D.first g3
        rw [tutorlaw17_NfaTrue.j1, if_neg (by simp), run_ok (D.right R) hw0 (by omega), Option.bind_some, if_pos rfl]
        unfold tutorref03_Right.f
        rw [ck_ok (D.right R) (by omega)]
        simp only [Option.bind_some, List.length_cons, List.length_nil]
        rw [if_pos (by simp), if_pos (by omega)]
        have hr0 : rd [rd out ((X.goTo K nx 0 u : Nat) : Int)] 0 = rd out ((X.goTo K nx 0 u : Nat) : Int) := rfl
        rw [hr0, D.out_at hrow, live_at (by omega)]
        rcases fi_is g4 R.fl with ⟨e, h⟩ | ⟨e, h⟩
        · rw [e, decide_eq_true h]; rfl
        · rw [e, decide_eq_false h]; rfl
  have hgo : ∀ b, N ≤ 9 → tutorlaw17_NfaTrue.j0 (k + 2) u b K N S F E = some true := by
    intro b hb
    cases b with
    | true => exact hlive (k + 1) (by omega) _ _ _ _ _ _
    | false => exact hmain hb
  unfold tutorlaw17_NfaTrue.f tutorref17_Big.f
  by_cases h1 : N > 9
  · rw [if_pos h1, Option.bind_some, if_pos rfl]
    exact hlive (k + 1) (by omega) _ _ _ _ _ _
  · rw [if_neg h1]
    have hgo' := fun b => hgo b (by omega)
    simp only [hgo']
    (repeat' split) <;> simp [hgo']
end Go.Proofs.Ytkaefgmgcghhiaa.X
end
