/- Texts of the statement NfaHolds, one behind the other: Go functions as Lean functions, the machine's calls, the plain law. -/
import Derived.Test.YtkaefgmgcghhiaaMNfaHolds17
set_option linter.unusedVariables false
set_option linter.unusedSimpArgs false
section
namespace Go.Proofs.Ytkaefgmgcghhiaa.X
open Go.RowKit Go.Proofs.YtkaefgmgcghhiaaW.PrintWords Go.Proofs.YtkaefgmgcghhiaaW.PrintLast Go.Proofs.YtkaefgmgcghhiaaW.PrintMore
theorem run_far {K N : Int} {nx out : List Int} (R : RightD K N nx out) {w : List Int} (hl : w.length ≤ 4096) (hw : ∀ c ∈ w, 0 ≤ c ∧ c < K) {k : Nat} (hk : 200000 ≤ k) : tutorref03_Run.f k 1 K 2 N nx out w = some ([rd out (far K nx 0 w)], 0) := by
  have hn := R.n
  rw [run_ok R (by rw [wordCk_right R.k hl hw]) hk]
  have := far_goTo R w 0 (by omega) hw
  rw [← this]
  rfl
theorem next_is {K : Int} (hK : 1 ≤ K ∧ K ≤ 64) {w : List Int} (hl : w.length ≤ 4000) (hw : ∀ c ∈ w, 0 ≤ c ∧ c < K) {k : Nat} (hk : 200000 ≤ k) : tutorref01_Next.f k w K = some ((nextW K w).getD (List.replicate (w.length + 1) 0), 0) := by
  unfold tutorref01_Next.f
  rw [word_ref (by omega), wordCk_right hK (by omega) hw, Option.bind_some, if_pos rfl, after_is hK hw (by omega) hk, Option.bind_some]
  have hlen : ((nextW K w).getD (List.replicate (w.length + 1) 0)).length ≤ w.length + 1 := by
    cases h : nextW K w with
    | none => simp
    | some w' => simp [nextW_len w w' h]
  rw [if_neg (by omega)]
theorem holds_loop {K N : Int} {nx out : List Int} (R : RightD K N nx out) (n : Nat) (hn : n ≤ 100) (least : List Int) (ok : Bool) (hls : ∀ c ∈ least, 0 ≤ c ∧ c < K) (hok : ∀ u : List Int, u.length = n → (∀ c ∈ u, 0 ≤ c ∧ c < K) → rd out (far K nx 0 u) = 1 → ok = true ∧ rk K least ≤ rk K u) :
    ∀ (L : List (List Int)) (w : List Int) (k : Nat) (s : Int), fromW K w = L → w.length = n → (∀ c ∈ w, 0 ≤ c ∧ c < K) → 0 ≤ s → s + L.length ≤ 100000 → 300000 ≤ k →
      tutorlaw17_NfaHolds.l0 (k + L.length) (n : Int) s least ok 0 w 1 K 2 N nx out = tutorlaw17_NfaHolds.l0 k (n : Int) (s + ((L.countP (accs K nx out 0) : Nat) : Int)) least ok 0 (List.replicate (n + 1) 0) 1 K 2 N nx out := by
  intro L
  induction L with
  | nil =>
    intro w k s h _ hc
    rw [fromW_step R.k.1 w hc] at h
    cases h
  | cons a r ih =>
    intro w k s h hl hc h0 hs hk
    rw [fromW_step R.k.1 w hc] at h
    injection h with h1 h2
    subst h1
    have step : ∀ (k1 : Nat) (s1 : Int), 0 ≤ s1 → s1 + r.length ≤ 100000 → k1 = k + r.length → tutorlaw17_NfaHolds.l0 k1 (n : Int) s1 least ok 0 ((nextW K w).getD (List.replicate (w.length + 1) 0)) 1 K 2 N nx out = tutorlaw17_NfaHolds.l0 k (n : Int) (s1 + ((r.countP (accs K nx out 0) : Nat) : Int)) least ok 0 (List.replicate (n + 1) 0) 1 K 2 N nx out := by
      intro k1 s1 g0 g1 e
      subst e
      cases hw : nextW K w with
      | none =>
        rw [hw] at h2
        subst h2
        simp [hl]
      | some w' =>
        rw [hw] at h2
        exact ih w' k s1 h2 (by rw [nextW_len w w' hw, hl]) (nextW_sym R.k.1 w w' hc hw) g0 g1 hk
    rw [List.length_cons, show k + (r.length + 1) = (k + r.length) + 1 by omega, tutorlaw17_NfaHolds.l0, if_pos (by rw [hl]), run_far R (by omega) hc (by omega), Option.bind_some]
    simp only [List.length_singleton]
    have hr : ∀ z : Int, rd [z] 0 = z := fun z => rfl
    rw [if_pos (by simp), hr, List.countP_cons]
    by_cases ha : rd out (far K nx 0 w) = 1
    · obtain ⟨o1, o2⟩ := hok w hl hc ha
      rw [if_pos ha, if_pos o1, ahead_is R.k.1 (by omega) hc hls (by omega), Option.bind_some, decide_eq_false (by omega), if_neg (by simp), next_is R.k (by omega) hc (by omega), Option.bind_some]
      have hacc : accs K nx out 0 w = true := by simp [accs, ha]
      rw [w64a (by omega) (by omega)]
      simp only []
      simp only [List.length_cons] at hs
      rw [step _ (s + 1) (by omega) (by omega) rfl, hacc]
      congr 1
      simp
      omega
    · have hacc : accs K nx out 0 w = false := by simp [accs, ha]
      simp only [List.length_cons] at hs
      rw [if_neg ha, next_is R.k (by omega) hc (by omega), Option.bind_some]
      simp only []
      rw [step _ s h0 (by omega) rfl, hacc]
      simp
theorem NfaHolds_pure (a0 a1 a2 a3 : Int) (nx out : List Int) (n : Int) (k : Nat) (hk : 500000 ≤ k) : tutorlaw17_NfaHolds.f (k + 4) a0 a1 a2 a3 nx out n = some true := by
  have hlive : ∀ b0 b1 b2 b3 bn bo, tutorlaw17_NfaHolds.j0 (k + 4) n true b0 b1 b2 b3 bn bo = some true := fun _ _ _ _ _ _ => by
    rw [tutorlaw17_NfaHolds.j0, if_pos rfl]
    rfl
  unfold tutorlaw17_NfaHolds.f tutorref03_Big.f
  have hbig : ∃ b, (if a3 > 20 then (some true) else (if (nx.length : Int) > 70000 then (some true) else (some (decide ((out.length : Int) > 70000))))) = some b := by
    split
    · exact ⟨_, rfl⟩
    · split
      · exact ⟨_, rfl⟩
      · exact ⟨_, rfl⟩
  obtain ⟨b, hb⟩ := hbig
  rw [hb, Option.bind_some]
  by_cases hbt : b = true
  · rw [if_pos hbt]
    exact hlive _ _ _ _ _ _
  rw [if_neg hbt]
  unfold tutorref03_Right.f
  rw [mach_ref (by omega), Option.bind_some, Option.bind_some]
  by_cases hr : ((mcheck a0 a1 a2 a3 nx out).2 == 0) = true
  rotate_left
  · rw [if_neg hr]
    exact hlive _ _ _ _ _ _
  rw [if_pos hr]
  by_cases h1 : a0 = 1
  rotate_left
  · rw [if_neg h1]
    exact hlive _ _ _ _ _ _
  rw [if_pos h1]
  subst h1
  by_cases hK : a1 > 3
  · rw [if_pos hK]
    exact hlive _ _ _ _ _ _
  rw [if_neg hK]
  by_cases hn0 : n < 0
  · rw [if_pos hn0]
    exact hlive _ _ _ _ _ _
  rw [if_neg hn0]
  by_cases hn6 : n > 6
  · rw [decide_eq_true hn6]
    exact hlive _ _ _ _ _ _
  rw [decide_eq_false hn6]
  have hm : (mcheck 1 a1 a2 a3 nx out).2 = 0 := by simpa using hr
  obtain ⟨hh, _, _⟩ := mcheck_ok hm
  have hO : a2 = 2 := (head_bounds hh).2.2.2.2.1 rfl
  subst hO
  have R := right_of_mcheck hm
  have hk1 := R.k
  have hN := R.n
  obtain ⟨m, rfl⟩ : ∃ m : Nat, n = (m : Int) := ⟨n.toNat, by omega⟩
  have hm6 : m ≤ 6 := by omega
  have hwl : (words a1 m).length ≤ 729 := by
    rw [words_count]
    have h1 : a1.toNat ^ m ≤ 3 ^ m := Nat.pow_le_pow_left (by omega) m
    have h2 : 3 ^ m ≤ 3 ^ 6 := Nat.pow_le_pow_right (by omega) hm6
    omega
  have hfw := fromW_zero hk1.1 m
  have hzero : ∀ c ∈ List.replicate m (0 : Int), 0 ≤ c ∧ c < a1 := fun c hc => by
    have := List.eq_of_mem_replicate hc
    omega
  have hcnt := wcnt_is R m 0 (by omega)
  have hcb : wcnt a1 nx out m 0 ≤ 729 := by
    rw [hcnt]
    have := List.countP_le_length (p := accs a1 nx out 0) (l := words a1 m)
    omega
  rw [tutorlaw17_NfaHolds.j0, if_neg (by simp)]
  have e0 : ((0 : Int) != 0) = false := rfl
  have fin : ∀ (least : List Int) (ok : Bool), (∀ c ∈ least, 0 ≤ c ∧ c < a1) → least.length ≤ 1024 → (ok = true → rd out (far a1 nx 0 least) = 1) → (∀ u : List Int, u.length = m → (∀ c ∈ u, 0 ≤ c ∧ c < a1) → rd out (far a1 nx 0 u) = 1 → ok = true ∧ rk a1 least ≤ rk a1 u) →
      tutorlaw17_NfaHolds.l0 (k + 3) (m : Int) 0 least ok 0 (List.replicate m 0) 1 a1 2 a3 nx out = some true := by
    intro least ok hls hll hacc hok
    have hloop := holds_loop R m (by omega) least ok hls hok (words a1 m) (List.replicate m 0) (k + 3 - (words a1 m).length) 0 hfw (by simp) hzero (by omega) (by omega) (by omega)
    rw [Nat.sub_add_cancel (by omega)] at hloop
    rw [hloop, Int.zero_add, ← hcnt]
    obtain ⟨q, hq⟩ : ∃ q, k + 3 - (words a1 m).length = q + 2 := ⟨k + 1 - (words a1 m).length, by omega⟩
    have hq2 : 300000 ≤ q := by omega
    rw [hq, tutorlaw17_NfaHolds.l0, if_neg (by simp; omega), count_is R (by omega) (by omega), Option.bind_some]
    unfold tutorlaw17_num.f
    rw [Int.toNat_natCast, if_neg (by omega), Option.bind_some, Option.bind_some]
    simp only []
    rw [w64a (by omega) (by omega), if_pos (by rfl)]
    have e1 : (wcnt a1 nx out m 0 != wcnt a1 nx out m 0) = false := by simp
    rw [e1, tutorlaw17_NfaHolds.j2, if_neg (by simp)]
    cases ok with
    | false => rw [if_neg (by simp)]; rfl
    | true =>
      rw [if_pos rfl, run_far R (by omega) hls (by omega), Option.bind_some]
      have hr : ∀ z : Int, rd [z] 0 = z := fun z => rfl
      rw [if_pos (by rfl), if_pos (by simp), hr, if_pos (hacc rfl)]
      rfl
  have e3 : ((m : Int)).toNat = m := by simp
  rcases least_is R (k := k + 3) (by omega) with ⟨g1, g2⟩ | ⟨w, g1, g2, g3, g4, g5⟩
  · rw [g1, Option.bind_some, if_pos (by omega), if_pos (by omega), e3]
    exact fin [] false (by simp) (by simp) (by simp) (fun u _ hu ha => absurd ha (g2 u hu))
  · rw [g1, Option.bind_some, if_pos (by omega), if_pos (by omega), e3]
    exact fin w true g2 g3 (fun _ => g4) (fun u _ hu ha => ⟨rfl, g5 u hu ha⟩)
end Go.Proofs.Ytkaefgmgcghhiaa.X
end
