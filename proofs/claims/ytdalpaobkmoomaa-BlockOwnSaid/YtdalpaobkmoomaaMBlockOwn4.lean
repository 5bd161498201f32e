/- Texts of the statement BlockOwn, one behind the other: Go functions as Lean functions, the machine's calls, the plain law. -/
import Derived.Test.YtdalpaobkmoomaaMBlockOwn0
import Derived.Test.YtdalpaobkmoomaaMBlockOwn2
import Derived.Test.YtdalpaobkmoomaaMBlockOwn3
import Derived.Laws.StructEq
import Derived.Test.YtdalpaobkmoomaaProg
set_option linter.unusedVariables false
set_option linter.unusedSimpArgs false
section
namespace Go.Proofs.Ytdalpaobkmoomaa.X
open Go.RowKit Go.Proofs.YtdalpaobkmoomaaW.PrintWords Go.Proofs.YtdalpaobkmoomaaW.PrintLast Go.Proofs.YtdalpaobkmoomaaW.PrintMore
attribute [local go_sem] max2_int min2_int max_two min_two max_three min_three max_four min_four   -- for this text's walks alone
set_option linter.unusedVariables false
set_option linter.unusedSimpArgs false
theorem info3 : (Try.prog.info? 3).map (fun i => (i.zero, i.size, i.bytes)) = some (some (.int .i64 0), 1, 8) := by kernel_rfl
theorem info4 : (Try.prog.info? 4).map (fun i => (i.zero, i.size, i.bytes)) = some (some (.bool false), 1, 1) := by kernel_rfl
def rd_L1 (xs : List (List Int)) (i : Int) : (List Int) := xs.getD i.toNat ([] : List Int)
theorem at_L1 {w : World} {A : Option Addr} {n : Nat} {xs : List (List Int)} (h : Kd.C (Kd.slice 3 (Kd.int .i64)) w A n xs) (i : Int) (h0 : 0 ≤ i) (h1 : i < n) : ∃ ad A0 c0, A = some ad ∧ w.cell? (ad.add i.toNat) = some (.slice A0 (rd_L1 xs i).length c0) ∧ (rd_L1 xs i).length ≤ c0 ∧ (Kd.int .i64).C w A0 (rd_L1 xs i).length (rd_L1 xs i) := by
  obtain ⟨ad, c, e, _, hK, hc0⟩ := Kd.C_get h ([] : List Int) i h0 h1
  have hc : ∀ j u, c[j]? = some u → w.cell? (ad.add (i.toNat * 1 + j)) = some u := hc0
  obtain ⟨A0, c0, rfl, l0, g0⟩ := hK
  exact ⟨ad, A0, c0, e, by have hq := hc 0 _ rfl; rwa [Nat.mul_one, Nat.add_zero] at hq, l0, g0⟩
end Go.Proofs.Ytdalpaobkmoomaa.X
end

section
namespace Go.Proofs.Ytdalpaobkmoomaa.X
open Go.RowKit Go.Proofs.YtdalpaobkmoomaaW.PrintWords Go.Proofs.YtdalpaobkmoomaaW.PrintLast Go.Proofs.YtdalpaobkmoomaaW.PrintMore
def upd {α : Type} (f : Nat → α) (i : Nat) (v : α) : Nat → α := fun j => if j = i then v else f j
theorem upd_at {α : Type} (f : Nat → α) (i : Nat) (v : α) : upd f i v i = v := by simp [upd]
theorem upd_ne {α : Type} (f : Nat → α) {i j : Nat} (v : α) (h : j ≠ i) : upd f i v j = f j := by simp [upd, h]
def lst (n : Nat) (f : Nat → Nat) : List Int := (List.range n).map fun i => (f i : Int)
theorem lst_len (n : Nat) (f : Nat → Nat) : (lst n f).length = n := by simp [lst]
theorem rd_lst {n : Nat} (f : Nat → Nat) {i : Nat} (h : i < n) : rd (lst n f) (i : Int) = (f i : Int) := by
  simp [rd, lst, List.getD_eq_getElem?_getD, List.getElem?_map, List.getElem?_range h]
theorem lst_get {n : Nat} (f : Nat → Nat) {i : Nat} (h : i < n) : (lst n f)[i]? = some (f i : Int) := by
  simp [lst, List.getElem?_map, List.getElem?_range h]
theorem lst_congr {n : Nat} {f g : Nat → Nat} (h : ∀ i, i < n → f i = g i) : lst n f = lst n g := by
  unfold lst
  apply List.map_congr_left
  intro i hi
  rw [h i (List.mem_range.1 hi)]
theorem lst_set {n : Nat} (f : Nat → Nat) {i : Nat} (_h : i < n) (v : Nat) : (lst n f).set i (v : Int) = lst n (upd f i v) := by
  apply List.ext_getElem?
  intro j
  by_cases hj : j < n
  · rw [lst_get _ hj, List.getElem?_set, lst_len, lst_get _ hj]
    by_cases e : i = j
    · subst e; simp [upd_at, hj]
    · rw [if_neg e, upd_ne _ _ (fun h => e h.symm)]
  · rw [List.getElem?_eq_none (by simpa [lst_len] using hj), List.getElem?_eq_none (by simpa [lst_len] using hj)]
theorem lst_succ (n : Nat) (f : Nat → Nat) : lst (n + 1) f = lst n f ++ [(f n : Int)] := by simp [lst, List.range_succ]
def slst (n : Nat) (A B : Nat → Nat) : List (Int × Int) := (List.range n).map fun i => ((A i : Int), (B i : Int))
theorem slst_len (n : Nat) (A B : Nat → Nat) : (slst n A B).length = n := by simp [slst]
theorem slst_get {n : Nat} (A B : Nat → Nat) {i : Nat} (h : i < n) : (slst n A B)[i]? = some ((A i : Int), (B i : Int)) := by
  simp [slst, List.getElem?_map, List.getElem?_range h]
theorem slst_set {n : Nat} (A B : Nat → Nat) {i : Nat} (_h : i < n) (v : Nat) : (slst n A B).set i ((v : Int), (B i : Int)) = slst n (upd A i v) B := by
  apply List.ext_getElem?
  intro j
  by_cases hj : j < n
  · rw [slst_get _ _ hj, List.getElem?_set, slst_len, slst_get _ _ hj]
    by_cases e : i = j
    · subst e; simp [upd_at, hj]
    · rw [if_neg e, upd_ne _ _ (fun h => e h.symm)]
  · rw [List.getElem?_eq_none (by simpa [slst_len] using hj), List.getElem?_eq_none (by simpa [slst_len] using hj)]
theorem slst_snoc (n : Nat) (A B : Nat → Nat) (a b : Nat) : slst (n + 1) (upd A n a) (upd B n b) = slst n A B ++ [((a : Int), (b : Int))] := by
  unfold slst
  rw [List.range_succ, List.map_append]
  congr 1
  · apply List.map_congr_left
    intro i hi
    have := List.mem_range.1 hi
    rw [upd_ne _ _ (by omega), upd_ne _ _ (by omega)]
  · simp [upd_at]
/-- What a Part holds: n numbers, N classes; C the class, R the row, P the place, A and B from and to. -/
structure Inv (n N : Nat) (C R P A B : Nat → Nat) : Prop where
  ip : ∀ i, i < n → P i < n ∧ R (P i) = i
  pi : ∀ p, p < n → R p < n ∧ P (R p) = p
  cn : ∀ i, i < n → C i < N
  sp : ∀ c, c < N → A c < B c ∧ B c ≤ n
  at' : ∀ i, i < n → A (C i) ≤ P i ∧ P i < B (C i)
  only : ∀ i, i < n → ∀ c, c < N → A c ≤ P i → P i < B c → C i = c
theorem Inv.some {n N : Nat} {C R P A B : Nat → Nat} (h : Inv n N C R P A B) {c : Nat} (hc : c < N) {p : Nat} (h1 : A c ≤ p) (h2 : p < B c) : R p < n ∧ P (R p) = p ∧ C (R p) = c := by
  have h3 := (h.sp c hc).2
  have h4 := h.pi p (by omega)
  exact ⟨h4.1, h4.2, h.only (R p) h4.1 c hc (by omega) (by omega)⟩
theorem few_nat : ∀ (n : Nat) (l : List Nat), l.Nodup → (∀ x ∈ l, x < n) → l.length ≤ n := by
  intro n
  induction n with
  | zero =>
    intro l _ h
    cases l with
    | nil => simp
    | cons a r => exact absurd (h a (by simp)) (by omega)
  | succ n ih =>
    intro l hn h
    have h1 := ih (l.erase n) (hn.erase n) (fun x hx => by
      have h2 := h x (List.mem_of_mem_erase hx)
      have h3 : x ≠ n := fun e => by rw [e] at hx; exact (hn.not_mem_erase) hx
      omega)
    have h2 := List.length_erase_le (a := n) (l := l)
    by_cases hm : n ∈ l
    · rw [List.length_erase_of_mem hm] at h1
      omega
    · rw [List.erase_of_not_mem hm] at h1
      omega
/-- No more classes than numbers. -/
theorem Inv.few {n N : Nat} {C R P A B : Nat → Nat} (h : Inv n N C R P A B) : N ≤ n := by
  have h1 := few_nat n ((List.range N).map fun c => R (A c)) (by
    rw [List.nodup_iff_pairwise_ne, List.pairwise_map]
    refine (List.pairwise_lt_range).imp_of_mem (fun {a b} ha hb hab e => ?_)
    have ha' := List.mem_range.1 ha
    have hb' := List.mem_range.1 hb
    have g1 := h.some ha' (p := A a) (Nat.le_refl _) (h.sp a ha').1
    have g2 := h.some hb' (p := A b) (Nat.le_refl _) (h.sp b hb').1
    rw [e] at g1
    have := g1.2.2.symm.trans g2.2.2
    omega) (fun x hx => by
    obtain ⟨c, hc, rfl⟩ := List.mem_map.1 hx
    have hc' := List.mem_range.1 hc
    exact (h.some hc' (p := A c) (Nat.le_refl _) (h.sp c hc').1).1)
  simpa using h1
theorem inv_new {n : Nat} (h : 0 < n) : Inv n 1 (fun _ => 0) (fun i => i) (fun i => i) (fun _ => 0) (fun _ => n) where
  ip := fun i hi => ⟨hi, rfl⟩
  pi := fun i hi => ⟨hi, rfl⟩
  cn := fun _ _ => Nat.zero_lt_one
  sp := fun _ _ => ⟨h, Nat.le_refl _⟩
  at' := fun i hi => ⟨Nat.zero_le _, hi⟩
  only := fun i _ c hc _ _ => by omega
/-- While the numbers of a list are brought to the fronts of their classes. -/
structure Mark (n N : Nat) (C A B : Nat → Nat) (l : List Nat) (D : Nat → Bool) (M : Nat → Nat) (T : List Nat) (R P : Nat → Nat) : Prop where
  inv : Inv n N C R P A B
  rm : ∀ c, c < N → A c + M c ≤ B c
  dn : ∀ i, i < n → (D i = true ↔ P i < A (C i) + M (C i))
  dl : ∀ i, i < n → (D i = true ↔ i ∈ l)
  nd : T.Nodup
  tm : ∀ c, c ∈ T ↔ c < N ∧ 0 < M c
theorem mark_start {n N : Nat} {C R P A B : Nat → Nat} (h : Inv n N C R P A B) : Mark n N C A B [] (fun _ => false) (fun _ => 0) [] R P where
  inv := h
  rm := fun c hc => by have := h.sp c hc; omega
  dn := fun i hi => by have := h.at' i hi; simp; omega
  dl := fun i _ => by simp
  nd := List.nodup_nil
  tm := fun c => by simp
theorem Mark.few {n N : Nat} {C A B : Nat → Nat} {l : List Nat} {D : Nat → Bool} {M : Nat → Nat} {T : List Nat} {R P : Nat → Nat} (h : Mark n N C A B l D M T R P) : T.length ≤ n :=
  Nat.le_trans (few_nat N T h.nd (fun x hx => ((h.tm x).1 hx).1)) h.inv.few
theorem Mark.skip {n N : Nat} {C A B : Nat → Nat} {l : List Nat} {D : Nat → Bool} {M : Nat → Nat} {T : List Nat} {R P : Nat → Nat} (h : Mark n N C A B l D M T R P) {i : Nat} (hi : i < n) (hd : D i = true) : Mark n N C A B (l ++ [i]) D M T R P where
  inv := h.inv
  rm := h.rm
  dn := h.dn
  dl := fun j hj => by
    rw [h.dl j hj, List.mem_append, List.mem_singleton]
    constructor
    · exact .inl
    · rintro (h1 | h1)
      · exact h1
      · subst h1; exact (h.dl j hj).1 hd
  nd := h.nd
  tm := h.tm
theorem Mark.room {n N : Nat} {C A B : Nat → Nat} {l : List Nat} {D : Nat → Bool} {M : Nat → Nat} {T : List Nat} {R P : Nat → Nat} (h : Mark n N C A B l D M T R P) {i : Nat} (hi : i < n) (hd : D i = false) : C i < N ∧ A (C i) + M (C i) ≤ P i ∧ P i < B (C i) ∧ B (C i) ≤ n ∧ R (A (C i) + M (C i)) < n ∧ P (R (A (C i) + M (C i))) = A (C i) + M (C i) ∧ C (R (A (C i) + M (C i))) = C i := by
  have h1 := h.inv.at' i hi
  have h2 := h.inv.cn i hi
  have h3 : ¬ P i < A (C i) + M (C i) := fun hh => by rw [(h.dn i hi).2 hh] at hd; cases hd
  have h4 := h.inv.some h2 (p := A (C i) + M (C i)) (by omega) (by omega)
  exact ⟨h2, by omega, h1.2, (h.inv.sp _ h2).2, h4⟩
theorem Mark.step {n N : Nat} {C A B : Nat → Nat} {l : List Nat} {D : Nat → Bool} {M : Nat → Nat} {T : List Nat} {R P : Nat → Nat} (h : Mark n N C A B l D M T R P) {i : Nat} (hi : i < n) (hd : D i = false) {T' : List Nat} (hT : T' = if M (C i) = 0 then T ++ [C i] else T) :
    Mark n N C A B (l ++ [i]) (upd D i true) (upd M (C i) (M (C i) + 1)) T' (upd (upd R (A (C i) + M (C i)) i) (P i) (R (A (C i) + M (C i)))) (upd (upd P i (A (C i) + M (C i))) (R (A (C i) + M (C i))) (P i)) := by
  obtain ⟨r1, r2, r3, r4, r5, r6, r7⟩ := h.room hi hd
  generalize hq : A (C i) + M (C i) = q at *
  generalize ho : R q = o at *
  have hip := h.inv.ip i hi
  -- i = o just where P i = q
  have hio : i = o ↔ P i = q := ⟨fun e => by subst e; exact r6, fun e => by rw [← ho, ← e, hip.2]⟩
  have hP : ∀ j, upd (upd P i q) o (P i) j = if j = o then P i else if j = i then q else P j := fun j => rfl
  have hR : ∀ p, upd (upd R q i) (P i) o p = if p = P i then o else if p = q then i else R p := fun p => rfl
  have inv : Inv n N C (upd (upd R q i) (P i) o) (upd (upd P i q) o (P i)) A B := by
    refine ⟨fun j hj => ?_, fun p hp => ?_, h.inv.cn, h.inv.sp, fun j hj => ?_, fun j hj c hc => ?_⟩
    · have hj' := h.inv.ip j hj
      rw [hP, hR]
      by_cases e1 : j = o
      · rw [if_pos e1, if_pos rfl]
        exact ⟨hip.1, e1.symm⟩
      · rw [if_neg e1]
        by_cases e2 : j = i
        · rw [if_pos e2]
          have : ¬ q = P i := fun e => e1 (e2.trans (hio.2 e.symm))
          rw [if_neg this, if_pos rfl]
          exact ⟨by omega, e2.symm⟩
        · rw [if_neg e2]
          have n1 : ¬ P j = P i := fun e => e2 (by rw [← hj'.2, e, hip.2])
          have n2 : ¬ P j = q := fun e => e1 (by rw [← hj'.2, e, ho])
          rw [if_neg n1, if_neg n2]
          exact hj'
    · have hp' := h.inv.pi p hp
      rw [hR]
      by_cases e1 : p = P i
      · rw [if_pos e1]
        refine ⟨r5, ?_⟩
        rw [hP, if_pos rfl, e1]
      · rw [if_neg e1]
        by_cases e2 : p = q
        · rw [if_pos e2]
          refine ⟨hi, ?_⟩
          have : ¬ i = o := fun e => e1 (e2.trans (hio.1 e).symm)
          rw [hP, if_neg this, if_pos rfl, e2]
        · rw [if_neg e2]
          refine ⟨hp'.1, ?_⟩
          have n1 : ¬ R p = o := fun e => e2 (by rw [← hp'.2, e, r6])
          have n2 : ¬ R p = i := fun e => e1 (by rw [← hp'.2, e])
          rw [hP, if_neg n1, if_neg n2]
          exact hp'.2
    · have hj' := h.inv.at' j hj
      have hj2 := h.inv.at' i hi
      rw [hP]
      by_cases e1 : j = o
      · rw [if_pos e1, e1, r7]
        exact hj2
      · rw [if_neg e1]
        by_cases e2 : j = i
        · rw [if_pos e2, e2]
          omega
        · rw [if_neg e2]
          exact hj'
    · rw [hP]
      by_cases e1 : j = o
      · rw [if_pos e1, e1, r7]
        exact h.inv.only i hi c hc
      · rw [if_neg e1]
        by_cases e2 : j = i
        · rw [if_pos e2, e2]
          intro h1 h2
          have := h.inv.only o r5 c hc (by omega) (by omega)
          rw [← this, r7]
        · rw [if_neg e2]
          exact h.inv.only j hj c hc
  refine ⟨inv, fun c hc => ?_, fun j hj => ?_, fun j hj => ?_, ?_, fun c => ?_⟩
  · by_cases e : c = C i
    · subst e
      rw [upd_at]
      omega
    · rw [upd_ne _ _ e]
      exact h.rm c hc
  · have hdn := h.dn j hj
    rw [hP]
    by_cases e1 : j = i
    · subst e1
      rw [upd_at, upd_at]
      by_cases e2 : j = o
      · rw [if_pos e2]
        have := hio.1 e2
        simp
        omega
      · rw [if_neg e2, if_pos rfl]
        simp
        omega
    · rw [upd_ne _ _ e1]
      by_cases e2 : j = o
      · rw [if_pos e2, e2, r7, upd_at]
        have hne : ¬ P i = q := fun e => e1 (e2.trans (hio.2 e).symm)
        have hDo : D o = false := by
          cases hh : D o with
          | false => rfl
          | true =>
            have := (h.dn o r5).1 hh
            rw [r7, r6, hq] at this
            omega
        rw [hDo]
        simp
        omega
      · rw [if_neg e2, if_neg e1]
        by_cases e3 : C j = C i
        · rw [e3, upd_at, hdn, e3, hq]
          have : ¬ P j = q := fun e => e2 (by rw [← (h.inv.ip j hj).2, e, ho])
          omega
        · rw [upd_ne _ _ e3]
          exact hdn
  · by_cases e1 : j = i
    · subst e1
      rw [upd_at]
      simp
    · rw [upd_ne _ _ e1, h.dl j hj, List.mem_append, List.mem_singleton]
      constructor
      · exact .inl
      · rintro (h1 | h1)
        · exact h1
        · exact absurd h1 e1
  · rw [hT]
    by_cases e : M (C i) = 0
    · rw [if_pos e]
      refine List.nodup_append.2 ⟨h.nd, by simp, fun a ha b hb => ?_⟩
      rw [List.mem_singleton] at hb
      subst hb
      rintro rfl
      have := (h.tm _).1 ha
      omega
    · rw [if_neg e]
      exact h.nd
  · rw [hT]
    by_cases e : M (C i) = 0
    · rw [if_pos e, List.mem_append, List.mem_singleton, h.tm]
      by_cases e1 : c = C i
      · subst e1
        rw [upd_at]
        simp [r1]
      · rw [upd_ne _ _ e1]
        simp [e1]
    · rw [if_neg e, h.tm]
      by_cases e1 : c = C i
      · subst e1
        rw [upd_at]
        omega
      · rw [upd_ne _ _ e1]
/-- One class cut, by the classes as they were: those of class c that are in go to a new class. -/
structure St where
  C : Nat → Nat
  N : Nat
  made : List Nat
def cutOf (n : Nat) (C0 : Nat → Nat) (D : Nat → Bool) (c : Nat) (s : St) : St :=
  if (∃ i, i < n ∧ C0 i = c ∧ D i = true) ∧ (∃ i, i < n ∧ C0 i = c ∧ D i = false) then ⟨fun i => if C0 i = c ∧ D i = true then s.N else s.C i, s.N + 1, s.made ++ [s.N]⟩ else s
def cuts (n : Nat) (C0 : Nat → Nat) (D : Nat → Bool) : List Nat → St → St
  | [], s => s
  | c :: r, s => cuts n C0 D r (cutOf n C0 D c s)
/-- While the touched classes are cut: those in rest are as they were. -/
structure Cut (n N0 : Nat) (C0 A0 B0 : Nat → Nat) (D : Nat → Bool) (M R P : Nat → Nat) (rest : List Nat) (s : St) (A B : Nat → Nat) : Prop where
  inv : Inv n s.N s.C R P A B
  rm : ∀ c, c < N0 → A0 c + M c ≤ B0 c
  pos : ∀ c ∈ rest, c < N0 ∧ 0 < M c
  nd : rest.Nodup
  le : N0 ≤ s.N ∧ s.N + rest.length ≤ N0 + n
  ml : s.N = N0 + s.made.length
  cn : ∀ i, i < n → C0 i < N0
  dn : ∀ i, i < n → (D i = true ↔ P i < A0 (C0 i) + M (C0 i))
  same : ∀ c ∈ rest, A c = A0 c ∧ B c = B0 c ∧ ∀ i, i < n → (s.C i = c ↔ C0 i = c)
theorem Mark.cut {n N : Nat} {C A B : Nat → Nat} {l : List Nat} {D : Nat → Bool} {M : Nat → Nat} {T : List Nat} {R P : Nat → Nat} (h : Mark n N C A B l D M T R P) {T' : List Nat} (hp : T'.Perm T) (hl : T.length ≤ n) : Cut n N C A B D M R P T' ⟨C, N, []⟩ A B where
  inv := h.inv
  rm := h.rm
  pos := fun c hc => (h.tm c).1 (hp.subset hc)
  nd := hp.nodup_iff.2 h.nd
  le := ⟨Nat.le_refl _, by rw [hp.length_eq]; show N + _ ≤ _; omega⟩
  ml := rfl
  cn := h.inv.cn
  dn := h.dn
  same := fun _ _ => ⟨rfl, rfl, fun _ _ => Iff.rfl⟩
section
variable {n N0 : Nat} {C0 A0 B0 : Nat → Nat} {D : Nat → Bool} {M R P : Nat → Nat} {c : Nat} {rest : List Nat} {s : St} {A B : Nat → Nat}
/-- The whole class is in: it stays. -/
theorem Cut.whole (h : Cut n N0 C0 A0 B0 D M R P (c :: rest) s A B) (hm : A c + M c = B c) : Cut n N0 C0 A0 B0 D M R P rest s A B ∧ cutOf n C0 D c s = s := by
  obtain ⟨e1, e2, e3⟩ := h.same c List.mem_cons_self
  obtain ⟨p1, p2⟩ := h.pos c List.mem_cons_self
  refine ⟨⟨h.inv, h.rm, fun x hx => h.pos x (List.mem_cons_of_mem _ hx), (List.nodup_cons.1 h.nd).2, ⟨h.le.1, by have := h.le.2; simp at this; omega⟩, h.ml, h.cn, h.dn, fun x hx => h.same x (List.mem_cons_of_mem _ hx)⟩, ?_⟩
  unfold cutOf
  rw [if_neg]
  rintro ⟨_, i, hi, hc, hd⟩
  have h1 := h.inv.at' i hi
  rw [(e3 i hi).2 hc] at h1
  have h2 := (h.dn i hi).2 (by rw [hc, ← e1]; omega)
  rw [h2] at hd
  cases hd
theorem Cut.here (h : Cut n N0 C0 A0 B0 D M R P (c :: rest) s A B) : c < s.N ∧ c < N0 ∧ 0 < M c ∧ A c + M c ≤ B c ∧ B c ≤ n := by
  obtain ⟨e1, e2, e3⟩ := h.same c List.mem_cons_self
  obtain ⟨p1, p2⟩ := h.pos c List.mem_cons_self
  have := h.rm c p1
  have := h.le.1
  exact ⟨by omega, p1, p2, by omega, (h.inv.sp c (by omega)).2⟩
/-- The front is cut off. -/
theorem Cut.part (h : Cut n N0 C0 A0 B0 D M R P (c :: rest) s A B) (hm : ¬ A c + M c = B c) :
    Cut n N0 C0 A0 B0 D M R P rest (cutOf n C0 D c s) (upd (upd A s.N (A c)) c (A c + M c)) (upd B s.N (A c + M c)) ∧ cutOf n C0 D c s = ⟨fun i => if C0 i = c ∧ D i = true then s.N else s.C i, s.N + 1, s.made ++ [s.N]⟩ ∧
    ∀ i, i < n → ((C0 i = c ∧ D i = true) ↔ (A c ≤ P i ∧ P i < A c + M c)) := by
  obtain ⟨e1, e2, e3⟩ := h.same c List.mem_cons_self
  obtain ⟨q1, p1, p2, q2, q3⟩ := h.here
  have hin : ∀ i, i < n → ((C0 i = c ∧ D i = true) ↔ (A c ≤ P i ∧ P i < A c + M c)) := fun i hi => by
    constructor
    · rintro ⟨hc, hd⟩
      have h1 := h.inv.at' i hi
      rw [(e3 i hi).2 hc] at h1
      have := (h.dn i hi).1 hd
      rw [hc, ← e1] at this
      exact ⟨h1.1, this⟩
    · rintro ⟨h1, h2⟩
      have hc := (e3 i hi).1 (h.inv.only i hi c q1 h1 (by omega))
      exact ⟨hc, (h.dn i hi).2 (by rw [hc, ← e1]; exact h2)⟩
  have hcut : cutOf n C0 D c s = ⟨fun i => if C0 i = c ∧ D i = true then s.N else s.C i, s.N + 1, s.made ++ [s.N]⟩ := by
    unfold cutOf
    rw [if_pos]
    constructor
    · have h1 := h.inv.some q1 (p := A c) (Nat.le_refl _) (by omega)
      have h2 := (hin _ h1.1).2 ⟨by omega, by omega⟩
      exact ⟨_, h1.1, h2⟩
    · have h1 := h.inv.some q1 (p := B c - 1) (by omega) (by omega)
      refine ⟨_, h1.1, (e3 _ h1.1).1 h1.2.2, ?_⟩
      cases hd : D (R (B c - 1)) with
      | false => rfl
      | true =>
        have := ((hin _ h1.1).1 ⟨(e3 _ h1.1).1 h1.2.2, hd⟩).2
        omega
  have hfresh : ∀ x, x < s.N → x ≠ s.N := fun x hx => by omega
  have nda := List.nodup_cons.1 h.nd
  refine ⟨?_, hcut, hin⟩
  rw [hcut]
  have hA : ∀ x, upd (upd A s.N (A c)) c (A c + M c) x = if x = c then A c + M c else if x = s.N then A c else A x := fun x => rfl
  have hB : ∀ x, upd B s.N (A c + M c) x = if x = s.N then A c + M c else B x := fun x => rfl
  refine ⟨⟨h.inv.ip, h.inv.pi, fun i hi => ?_, fun x hx => ?_, fun i hi => ?_, fun i hi x hx => ?_⟩, h.rm, fun x hx => h.pos x (List.mem_cons_of_mem _ hx), nda.2, ⟨by have := h.le.1; show N0 ≤ s.N + 1; omega, by have := h.le.2; simp at this; show s.N + 1 + _ ≤ _; omega⟩, by have := h.ml; show s.N + 1 = N0 + (s.made ++ [s.N]).length; simp; omega, h.cn, h.dn, fun x hx => ?_⟩
  · have := h.inv.cn i hi
    show (if C0 i = c ∧ D i = true then s.N else s.C i) < s.N + 1
    split <;> omega
  · have hx' : x < s.N + 1 := hx
    rw [hA, hB]
    by_cases x1 : x = c
    · rw [if_pos x1, if_neg (by omega), x1]
      omega
    · rw [if_neg x1]
      by_cases x2 : x = s.N
      · rw [if_pos x2, if_pos x2]
        omega
      · rw [if_neg x2, if_neg x2]
        exact h.inv.sp x (by omega)
  · show upd (upd A s.N (A c)) c (A c + M c) (if C0 i = c ∧ D i = true then s.N else s.C i) ≤ P i ∧ P i < upd B s.N (A c + M c) (if C0 i = c ∧ D i = true then s.N else s.C i)
    rw [hA, hB]
    have h1 := h.inv.at' i hi
    have h2 := h.inv.cn i hi
    by_cases g : C0 i = c ∧ D i = true
    · rw [if_pos g, if_neg (by omega), if_pos rfl, if_pos rfl]
      exact (hin i hi).1 g
    · rw [if_neg g]
      have hn : ¬ (A c ≤ P i ∧ P i < A c + M c) := fun hh => g ((hin i hi).2 hh)
      by_cases x1 : s.C i = c
      · rw [if_pos x1, if_neg (by omega)]
        rw [x1] at h1 ⊢
        omega
      · rw [if_neg x1, if_neg (by omega), if_neg (by omega)]
        exact h1
  · have hx' : x < s.N + 1 := hx
    show upd (upd A s.N (A c)) c (A c + M c) x ≤ P i → P i < upd B s.N (A c + M c) x → (if C0 i = c ∧ D i = true then s.N else s.C i) = x
    rw [hA, hB]
    intro h1 h2
    by_cases x1 : x = c
    · rw [if_pos x1] at h1
      rw [if_neg (by omega)] at h2
      rw [if_neg (fun g => by have := (hin i hi).1 g; omega)]
      exact h.inv.only i hi x (by omega) (by rw [x1]; omega) h2
    · rw [if_neg x1] at h1
      by_cases x2 : x = s.N
      · rw [if_pos x2] at h1 h2
        rw [if_pos ((hin i hi).2 ⟨h1, h2⟩)]
        exact x2.symm
      · rw [if_neg x2] at h1 h2
        have h3 := h.inv.only i hi x (by omega) h1 h2
        rw [if_neg (fun g => x1 (by rw [← h3]; exact (e3 i hi).2 g.1))]
        exact h3
  · obtain ⟨g1, g2, g3⟩ := h.same x (List.mem_cons_of_mem _ hx)
    have xN : x ≠ s.N := by have := (h.pos x (List.mem_cons_of_mem _ hx)).1; have := h.le.1; omega
    have xc : x ≠ c := fun e => nda.1 (e ▸ hx)
    refine ⟨by rw [hA, if_neg xc, if_neg xN]; exact g1, by rw [hB, if_neg xN]; exact g2, fun i hi => ?_⟩
    show (if C0 i = c ∧ D i = true then s.N else s.C i) = x ↔ C0 i = x
    by_cases g : C0 i = c ∧ D i = true
    · rw [if_pos g]
      constructor
      · intro e; exact absurd e.symm xN
      · intro e; exact absurd (e.symm.trans g.1) xc
    · rw [if_neg g]
      exact g3 i hi
end
end Go.Proofs.Ytdalpaobkmoomaa.X
end

section
namespace Go.Proofs.Ytdalpaobkmoomaa.X
open Go.RowKit Go.Proofs.YtdalpaobkmoomaaW.PrintWords Go.Proofs.YtdalpaobkmoomaaW.PrintLast Go.Proofs.YtdalpaobkmoomaaW.PrintMore
attribute [local go_sem] max2_int min2_int max_two min_two max_three min_three max_four min_four   -- for this text's walks alone
set_option linter.unusedVariables false
set_option linter.unusedSimpArgs false
def tutorref01_Same.l0 : Nat → List Int → List Int → Int → Option (Bool)
  | 0, _, _, _ => none
  | k + 1, x0, x1, x5 => if x5 < (x0.length : Int) then (if 0 ≤ x5 then (if x5 < (x1.length : Int) then (if (rd x0 x5) = (rd x1 x5) then (tutorref01_Same.l0 k x0 x1 (wrap64 (x5 + 1))) else (some false)) else (none)) else (none)) else (some true)
def tutorref01_Same.f (k : Nat) (l0 : List Int) (l1 : List Int) : Option (Bool) := if (l0.length : Int) = (l1.length : Int) then (tutorref01_Same.l0 k l0 l1 0) else (some false)
set_option maxHeartbeats 8000000 in
set_option maxRecDepth 100000 in
theorem tutorref01_Same.calls (k : Nat) (A0 : Option Addr) (c0 : Nat) (l0 : List Int) (A1 : Option Addr) (c1 : Nat) (l1 : List Int) (r : Bool) (w : World) (hr0 : Kd.C (Kd.int .i64) w A0 l0.length l0) (hc0 : l0.length ≤ c0) (hr1 : Kd.C (Kd.int .i64) w A1 l1.length l1) (hc1 : l1.length ≤ c1) (h : tutorref01_Same.f k l0 l1 = some r) :
    Calls Try.prog 16 #[.slice A0 l0.length c0, .slice A1 l1.length c1] w fun e w' => e = .returned (.bool r) ∧ Drawn0 w w' := by
  have HR0 := Aside0.mk hr0
  have HC0 := Aside0.mk hc0
  clear hr0 hc0
  have HR1 := Aside0.mk hr1
  have HC1 := Aside0.mk hc1
  clear hr1 hc1
  have H : (if (l0.length : Int) = (l1.length : Int) then (tutorref01_Same.l0 k l0 l1 0) else (some false)) = some r := h
  clear h
  by_cases c3 : (l0.length : Int) = (l1.length : Int)
  · rw [if_pos c3] at H
    have c3b0 : ((l0.length : Int) == (l1.length : Int)) = true := beq_iff_eq.mpr c3
    have c3b1 : ((l0.length : Int) != (l1.length : Int)) = false := bne_eq_false_iff_eq.mpr c3
    have c3b2 : (l0.length == l1.length) = true := by first | simpa using c3 | (simp at c3 ⊢; omega)
    clear c3
    have H' := Aside0.mk H
    clear H
    go_enter Try.func16, Try.ntmps16
    go_wp2
    repeat (go_quiet (fail); try go_wp2)
    go_loopg [5] k (fun kq v5 w' => ∃ (x5_1 : Int), v5 = .int .i64 x5_1 ∧ Aside0 (tutorref01_Same.l0 kq l0 l1 x5_1 = some r) ∧ Aside0 (kq ≤ k) ∧ Drawn0 w w')
    case atStart => exact ⟨(0), (by first | rfl | (simp; done) | (simp [*]; done)), H', ⟨Nat.le_refl _⟩, by repeat (first | exact Drawn0.refl _ | apply Drawn0.step)⟩
    case round =>
      clear H'
      try clear c1
      try clear p2
      try clear c3
      try clear c3b0
      try clear c3b1
      try clear c3b2
      obtain ⟨x5_1, rfl, HA, HK1, ⟨m1, rfl⟩⟩ := hrel
      cases gk with
      | zero => exact absurd HA.out (by simp [tutorref01_Same.l0])
      | succ k1 =>
        have H := HA.out
        clear HA
        simp only [tutorref01_Same.l0] at H
        by_cases c4 : x5_1 < (l0.length : Int)
        · rw [if_pos c4] at H
          have c4b0 : decide (x5_1 < (l0.length : Int)) = true := decide_eq_true c4
          clear c4
          by_cases c5 : 0 ≤ x5_1
          · rw [if_pos c5] at H
            have c5b0 : decide (0 ≤ x5_1) = true := decide_eq_true c5
            clear c5
            by_cases c6 : x5_1 < (l1.length : Int)
            · rw [if_pos c6] at H
              have c6b0 : decide (x5_1 < (l1.length : Int)) = true := decide_eq_true c6
              clear c6
              by_cases c7 : (rd l0 x5_1) = (rd l1 x5_1)
              · rw [if_pos c7] at H
                have c7b0 : ((rd l0 x5_1) == (rd l1 x5_1)) = true := beq_iff_eq.mpr c7
                have c7b1 : ((rd l0 x5_1) != (rd l1 x5_1)) = false := bne_eq_false_iff_eq.mpr c7
                clear c7
                have H' := Aside0.mk H
                clear H
                have p222 : 0 ≤ (x5_1 : Int) := of_decide_eq_true (by first | (with_reducible assumption) | assumption)
                have q222 : x5_1 < (l0.length : Int) := of_decide_eq_true (by first | (with_reducible assumption) | assumption)
                obtain ⟨ad222, e222, hx222_0⟩ := Kd.at_int HR0.out x5_1 p222 q222
                cases e222
                replace p222 := eq_true p222
                replace q222 := eq_true q222
                have p223 : 0 ≤ (x5_1 : Int) := of_decide_eq_true (by first | (with_reducible assumption) | assumption)
                have q223 : x5_1 < (l1.length : Int) := of_decide_eq_true (by first | (with_reducible assumption) | assumption)
                obtain ⟨ad223, e223, hx223_0⟩ := Kd.at_int HR1.out x5_1 p223 q223
                cases e223
                replace p223 := eq_true p223
                replace q223 := eq_true q223
                go_wp2
                repeat (go_quiet (fail); try go_wp2)
                go_roundg k1
                case measure => have := HK1.out; omega
                case rel => exact ⟨(wrap64 (x5_1 + 1)), (by first | rfl | (simp; done) | (simp [*]; done)), H', ⟨by have := HK1.out; omega⟩, by repeat (first | exact Drawn0.refl _ | apply Drawn0.step)⟩
              · rw [if_neg c7] at H
                have c7b0 : ((rd l0 x5_1) == (rd l1 x5_1)) = false := beq_eq_false_iff_ne.mpr c7
                have c7b1 : ((rd l0 x5_1) != (rd l1 x5_1)) = true := bne_iff_ne.mpr c7
                obtain rfl := Option.some.inj H
                have p222 : 0 ≤ (x5_1 : Int) := of_decide_eq_true (by first | (with_reducible assumption) | assumption)
                have q222 : x5_1 < (l0.length : Int) := of_decide_eq_true (by first | (with_reducible assumption) | assumption)
                obtain ⟨ad222, e222, hx222_0⟩ := Kd.at_int HR0.out x5_1 p222 q222
                cases e222
                replace p222 := eq_true p222
                replace q222 := eq_true q222
                have p223 : 0 ≤ (x5_1 : Int) := of_decide_eq_true (by first | (with_reducible assumption) | assumption)
                have q223 : x5_1 < (l1.length : Int) := of_decide_eq_true (by first | (with_reducible assumption) | assumption)
                obtain ⟨ad223, e223, hx223_0⟩ := Kd.at_int HR1.out x5_1 p223 q223
                cases e223
                replace p223 := eq_true p223
                replace q223 := eq_true q223
                go_wp2
                repeat (go_quiet (fail); try go_wp2)
                go_ret
                exact ⟨by first | rfl | (simp; done) | (simp [*]; done), by repeat (first | exact Drawn0.refl _ | apply Drawn0.step)⟩
            · rw [if_neg c6] at H
              exact absurd H (by simp)
          · rw [if_neg c5] at H
            exact absurd H (by simp)
        · rw [if_neg c4] at H
          have c4b0 : decide (x5_1 < (l0.length : Int)) = false := decide_eq_false c4
          clear c4
          obtain rfl := Option.some.inj H
          go_wp2
          repeat (go_quiet (fail); try go_wp2)
          go_ret
          exact ⟨by first | rfl | (simp; done) | (simp [*]; done), by repeat (first | exact Drawn0.refl _ | apply Drawn0.step)⟩
  · rw [if_neg c3] at H
    have c3b0 : ((l0.length : Int) == (l1.length : Int)) = false := beq_eq_false_iff_ne.mpr c3
    have c3b1 : ((l0.length : Int) != (l1.length : Int)) = true := bne_iff_ne.mpr c3
    have c3b2 : (l0.length == l1.length) = false := by first | simpa using c3 | (simp at c3 ⊢; omega)
    obtain rfl := Option.some.inj H
    go_enter Try.func16, Try.ntmps16
    go_wp2
    repeat (go_quiet (fail); try go_wp2)
    go_ret
    exact ⟨by first | rfl | (simp; done) | (simp [*]; done), by repeat (first | exact Drawn0.refl _ | apply Drawn0.step)⟩
end Go.Proofs.Ytdalpaobkmoomaa.X
end

section
namespace Go.Proofs.Ytdalpaobkmoomaa.X
open Go.RowKit Go.Proofs.YtdalpaobkmoomaaW.PrintWords Go.Proofs.YtdalpaobkmoomaaW.PrintLast Go.Proofs.YtdalpaobkmoomaaW.PrintMore
attribute [local go_sem] max2_int min2_int max_two min_two max_three min_three max_four min_four   -- for this text's walks alone
set_option linter.unusedVariables false
set_option linter.unusedSimpArgs false
def tutorlaw06_num.f (a0 : Int) : Option (Int) := some a0
set_option maxHeartbeats 8000000 in
set_option maxRecDepth 100000 in
theorem tutorlaw06_num.calls (a0 : Int) (r : Int) (w : World) (h : tutorlaw06_num.f a0 = some r) :
    Calls Try.prog 11 #[.int .i64 a0] w fun e w' => e = .returned (.int .i64 r) ∧ Drawn0 w w' := by
  have H : (some a0) = some r := h
  clear h
  obtain rfl := Option.some.inj H
  go_enter Try.func11, Try.ntmps11
  go_wp2
  go_ret
  exact ⟨by first | rfl | (simp; done) | (simp [*]; done), by repeat (first | exact Drawn0.refl _ | apply Drawn0.step)⟩
end Go.Proofs.Ytdalpaobkmoomaa.X
end

section
namespace Go.Proofs.Ytdalpaobkmoomaa.X
open Go.RowKit Go.Proofs.YtdalpaobkmoomaaW.PrintWords Go.Proofs.YtdalpaobkmoomaaW.PrintLast Go.Proofs.YtdalpaobkmoomaaW.PrintMore
/-- A row of numbers of the call's own. -/
def OR (w : World) (base : Nat) (v : Value) (xs : List Int) : Prop := w.ownsRow base 3 1 v xs.length (nums .i64 xs)
theorem OR_of_R {w : World} {base : Nat} {ok : Nat → Prop} {v : Value} {xs : List Int} (h : Kd.R (Kd.int .i64) 3 w base ok v xs) : OR w base v xs := by
  obtain ⟨inner, ho⟩ := Kd.R_own h
  obtain ⟨_, inner', ho', hr⟩ := h
  have hi : inner' = nums .i64 xs := by
    have h1 : inner'.length = xs.length := by have h0 : inner'.length = xs.length * 1 := ho'.1; omega
    apply List.ext_getElem?
    intro j
    by_cases hj : j < xs.length
    · have h2 := hr.2 j xs[j] (List.getElem?_eq_getElem hj)
      change List.take 1 (List.drop (j * 1) inner') = [Value.int .i64 xs[j]] at h2
      rw [Nat.mul_one, List.drop_eq_getElem_cons (by omega)] at h2
      simp only [List.take_succ_cons, List.take_zero, List.cons.injEq, and_true] at h2
      rw [List.getElem?_eq_getElem (by omega), h2]
      simp [nums, List.getElem?_eq_getElem hj]
    · rw [List.getElem?_eq_none (by omega), List.getElem?_eq_none (by simp [nums]; omega)]
  unfold OR
  rw [← hi]
  exact ho'
theorem OR.len {w : World} {base : Nat} {v : Value} {xs : List Int} (h : OR w base v xs) : xs.length ≤ 9223372036854775807 := by
  rcases h.2 with ⟨_, h1⟩ | ⟨g, cap, cur, _, _, _, h1, h2, _⟩
  · omega
  · unfold maxLen at h2
    omega
theorem OR.form {w : World} {base : Nat} {v : Value} {xs : List Int} (h : OR w base v xs) : (v = .slice none 0 0 ∧ xs = []) ∨ ∃ g cap, v = .slice (some ⟨g, 0, none⟩) xs.length cap ∧ base ≤ g ∧ g < w.heap.size ∧ (∃ cells, w.heap[g]? = some (.cells cells 3 (0, 0))) ∧ ∀ j, j < xs.length → w.cell? ⟨g, j, none⟩ = some (.int .i64 (rd xs j)) := by
  rcases h.2 with ⟨h1, h2⟩ | ⟨g, cap, cur, rfl, hb, hg, h1, h2, h3, h4⟩
  · exact .inl ⟨h1, List.eq_nil_of_length_eq_zero h2⟩
  · refine .inr ⟨g, cap, rfl, hb, (Array.getElem?_eq_some_iff.1 hg).1, ⟨cur, hg⟩, fun j hj => ?_⟩
    have h' : w.ownsRow base 3 1 (.slice (some ⟨g, 0, none⟩) xs.length cap) xs.length (nums .i64 xs) := h
    rw [h'.cellAt j (by omega)]
    simp [nums, rd, List.getD_eq_getElem?_getD, List.getElem?_eq_getElem hj]
/-- append of one number to a row of the call's own: the row goes on, in its place or in a new one; what it held is still read where it lay. -/
theorem ap_keep {ops : Array Oper} {rest : List Oper} {o : Oper} {a : Act} {Q : Exit → Act → World → Prop} {w0 W : World} (base : Nat) (hgd : o.guard = none) (s x : Operand) (ho : o.op = .call { callee := .builtin .append, args := #[s, x], argTypes := #[22, 22] })
    (v : Value) (xs : List Int) (y : Int) (hs : a.eval s = v) (hx : a.eval x = .slice (some ⟨W.heap.size, 0, none⟩) 1 1) (HO : OR W base v xs) (HB : Below base w0 W) (hbase : base ≤ W.heap.size) (hl : xs.length < 1099511627776)
    (h : ∀ v1 w1, OR w1 base v1 (xs ++ [y]) → Below base w0 w1 → (v1.ownBlock = v.ownBlock ∨ ∃ b, v1.ownBlock = some b ∧ W.heap.size ≤ b) → W.grownBy w1 v.ownBlock →
      (∀ b o u, v.ownBlock = some b → o < xs.length → W.cell? ⟨b, o, none⟩ = some u → w1.cell? ⟨b, o, none⟩ = some u) → wpList Try.prog ops Q rest (a.put o.dst v1) w1) :
    wpList Try.prog ops Q (o :: rest) a (W.alloc (.cells #[.int .i64 y] 3)) := by
  obtain ⟨i0, hi, hzz⟩ := Option.map_eq_some_iff.1 info3
  simp only [Prod.mk.injEq] at hzz
  obtain ⟨hz0, hz1, hz2⟩ := hzz
  have hcat : nums .i64 (xs ++ [y]) = nums .i64 xs ++ [.int .i64 y] := by simp [nums]
  rcases HO.2 with ⟨hv, hn⟩ | ⟨g, cap, cur, hv, hb, hg, h1, h2, h3, h4⟩
  · refine wpList_append_own_at (W.alloc (.cells #[.int .i64 y] 3)) hgd s x 22 ho base 3 i0 (.int .i64 0) 1 8 Try.underlying22 hi hz0 hz1 hz2 rfl (by omega) v xs.length (nums .i64 xs) hs (World.ownsRow.alloc HO _) ⟨W.heap.size, 0, none⟩ 1 1 [.int .i64 y] hx rfl
      (World.news_of_block (cs := #[.int .i64 y]) (t := 3) (fr := (0, 0)) (heap_alloc_new W _)) (by simp [Value.oneCell']) (by simp only [maxLen]; omega) (by omega) (by simp; omega) ?_
    intro v1 w1 hown hgr _ hat
    subst hv
    refine h v1 w1 ?_ ((HB.alloc hbase _).grown hgr (by simp; omega) (fun k hk => by cases hk)) ?_ (World.grownBy.trans (World.grownBy_alloc W _ _) hgr) (fun b o u hb => by cases hb)
    · unfold OR
      rw [hcat, List.length_append]
      exact hown
    · rcases hat with hat | hat
      · exact .inl hat
      · exact .inr ⟨_, hat, by simp⟩
  · subst hv
    have hO : W.ownsRow base 3 1 (.slice (some ⟨g, 0, none⟩) xs.length cap) xs.length (nums .i64 xs) := HO
    have hOa : (W.alloc (.cells #[.int .i64 y] 3)).ownsRow base 3 1 (.slice (some ⟨g, 0, none⟩) xs.length cap) xs.length (nums .i64 xs) := World.ownsRow.alloc hO _
    have hglt : g < W.heap.size := (Array.getElem?_eq_some_iff.1 hg).1
    have hga : (W.alloc (.cells #[.int .i64 y] 3)).heap[g]? = some (.cells cur 3 (0, 0)) := (heap_alloc_old W _ hglt).trans hg
    refine wpList_append_arg (W.alloc (.cells #[.int .i64 y] 3)) hgd s x 22 ho 3 i0 (.int .i64 0) 1 8 Try.underlying22 hi hz0 hz1 hz2 rfl (by omega) g 0 xs.length cap (nums .i64 xs) hs (by simp [nums]) (fun j u hj => ?_) ⟨W.heap.size, 0, none⟩ 1 1 [.int .i64 y] hx rfl
      (World.news_of_block (cs := #[.int .i64 y]) (t := 3) (fr := (0, 0)) (heap_alloc_new W _)) (by simp [Value.oneCell']) (fun hr j hj => ?_) (by simp only [maxLen]; omega) (by omega) (fun hr => ?_) (fun hr v1 w1 hown hgr => ?_)
    · have hjl : j < xs.length := by have := (List.getElem?_eq_some_iff.1 hj).1; simpa [nums] using this
      rw [Nat.zero_add, hOa.cellAt j (by omega), hj]
    · have hj0 : j = 0 := by simpa using hj
      subst hj0
      refine ⟨?_, hOa.frozenAt _⟩
      rw [cell_of_row _ g _ cur 3 (0, 0) hga, Array.getElem?_eq_getElem (by omega)]
      rfl
    · have hst := hOa.stored (0 + xs.length * 1) (.int .i64 y)
      have hw : (W.alloc (.cells #[.int .i64 y] 3)).setCells g (0 + xs.length * 1) [.int .i64 y] = (W.alloc (.cells #[.int .i64 y] 3)).setCell ⟨g, 0 + xs.length * 1, none⟩ (.int .i64 y) := rfl
      rw [hw]
      have hgr := World.grownBy.trans (World.grownBy_alloc W (.cells #[.int .i64 y] 3) (some g)) hst.2
      refine h _ _ ?_ ((HB.alloc hbase _).grown hst.2 (by simp; omega) (fun k hk => by injection hk with hk; omega)) (.inl rfl) hgr (fun b o u hb ho hc => ?_)
      · unfold OR
        rw [hcat, List.length_append]
        refine ⟨by simp [nums], .inr ⟨g, cap, cur.setIfInBounds (0 + xs.length * 1) (.int .i64 y), rfl, hb, heap_setCell_same _ g _ cur 3 _ hga, hr, h2, by simpa using h3, ?_⟩⟩
        have hnl : xs.length < cur.size := by omega
        have h4' : cur.toList.take xs.length = nums .i64 xs := by simpa using h4
        simp only [Nat.zero_add, Nat.mul_one, Array.toList_setIfInBounds, List.length_singleton]
        rw [List.take_set, List.take_succ_eq_append_getElem (by simpa using hnl), h4']
        rw [List.set_append_right _ _ (by simp [nums])]
        simp [nums]
      · simp only [Value.ownBlock, Option.some.injEq] at hb
        subst hb
        have hca : (W.alloc (.cells #[.int .i64 y] 3)).cell? ⟨g, o, none⟩ = some u := by
          rw [cell_of_row _ g _ cur 3 (0, 0) hga]
          rw [cell_of_row _ g _ cur 3 (0, 0) hg] at hc
          exact hc
        rw [cell_of_row _ g _ (cur.setIfInBounds (0 + xs.length * 1) (.int .i64 y)) 3 (0, 0) (heap_setCell_same _ g _ cur 3 _ hga), Array.getElem?_setIfInBounds_ne (by omega)]
        rw [cell_of_row _ g _ cur 3 (0, 0) hga] at hca
        exact hca
    · have hnew : ∃ b, v1.ownBlock = some b ∧ W.heap.size ≤ b := by
        rcases hown.2 with ⟨_, h0⟩ | ⟨g', cap', cur', rfl, hb', _⟩
        · omega
        · exact ⟨g', rfl, by have : (W.alloc (.cells #[.int .i64 y] 3)).heap.size = W.heap.size + 1 := by simp
                             omega⟩
      have hgr2 : W.grownBy w1 (some g) := by
        have := World.grownBy.trans (World.grownBy_alloc W (.cells #[.int .i64 y] 3) none) hgr
        exact ⟨this.os, this.tape, this.output, this.size, fun i hi _ => this.block i hi (by simp)⟩
      refine h v1 w1 ?_ ((HB.alloc hbase _).grown hgr (by simp; omega) (fun k hk => by cases hk)) (.inr hnew) hgr2 (fun b o u hb ho hc => ?_)
      · unfold OR
        rw [hcat, List.length_append]
        exact own_weaken hown (by simp; omega)
      · simp only [Value.ownBlock, Option.some.injEq] at hb
        subst hb
        have hbl := hgr.block g (by simp; omega) (by simp)
        rw [cell_of_row _ g _ cur 3 (0, 0) hg] at hc
        rw [cell_of_row _ g _ cur 3 (0, 0) (hbl.trans hga)]
        exact hc
end Go.Proofs.Ytdalpaobkmoomaa.X
end

section
namespace Go.Proofs.Ytdalpaobkmoomaa.X
open Go.RowKit Go.Proofs.YtdalpaobkmoomaaW.PrintWords Go.Proofs.YtdalpaobkmoomaaW.PrintLast Go.Proofs.YtdalpaobkmoomaaW.PrintMore
/-- Lists in memory of the call's own that share nothing. -/
structure Lists (w : World) (base g : Nat) (vs : List Value) (ls : List (List Int)) : Prop where
  blk : w.heap[g]? = some (.cells vs.toArray 22 (0, 0))
  low : base ≤ g
  len : vs.length = ls.length
  own : ∀ (j : Nat) (v : Value) (l : List Int), vs[j]? = some v → ls[j]? = some l → OR w base v l
  apart : ∀ (i j : Nat) (v v' : Value), i ≠ j → vs[i]? = some v → vs[j]? = some v' → v.ownBlock = none ∨ v.ownBlock ≠ v'.ownBlock
theorem OR.ne {w : World} {base g t : Nat} {cells : Array Value} {v : Value} {xs : List Int} (h : OR w base v xs) (hb : w.heap[g]? = some (.cells cells t (0, 0))) (ht : t ≠ 3) : v.ownBlock ≠ some g := by
  intro he
  obtain ⟨c, hc⟩ := own_typed h g he
  rw [hb] at hc
  simp only [Option.some.injEq, Obj.cells.injEq] at hc
  exact ht hc.2.1
theorem Lists.store {w : World} {base g : Nat} {vs : List Value} {ls : List (List Int)} (h : Lists w base g vs ls) {i gi cap : Nat} {l : List Int} (hv : vs[i]? = some (.slice (some ⟨gi, 0, none⟩) l.length cap)) (hl : ls[i]? = some l) (k : Nat) (y : Int) :
    Lists (w.setCell ⟨gi, k, none⟩ (.int .i64 y)) base g vs (ls.set i (l.set k y)) := by
  have hO := h.own i _ l hv hl
  have hne := hO.ne h.blk (by decide)
  have hgi : g ≠ gi := fun e => hne (by rw [e]; rfl)
  refine ⟨(Below.heap_setCell w ⟨gi, k, none⟩ _ g hgi).trans h.blk, h.low, by rw [List.length_set]; exact h.len, fun j v q hj hq => ?_, h.apart⟩
  have hil := (List.getElem?_eq_some_iff.1 hl).1
  by_cases hji : j = i
  · subst hji
    rw [hv] at hj
    obtain rfl := Option.some.inj hj
    rw [List.getElem?_set_self hil] at hq
    obtain rfl := Option.some.inj hq
    have hs := (World.ownsRow.stored (show w.ownsRow base 3 1 (.slice (some ⟨gi, 0, none⟩) l.length cap) l.length (nums .i64 l) from hO) k (.int .i64 y)).1
    unfold OR
    rw [List.length_set]
    have : nums .i64 (l.set k y) = (nums .i64 l).set k (.int .i64 y) := by simp [nums, List.map_set]
    rw [this]
    exact hs
  · rw [List.getElem?_set_ne (fun e => hji e.symm)] at hq
    have hOj := h.own j v q hj hq
    refine own_move hOj (fun k' hk' => Below.heap_setCell w ⟨gi, k, none⟩ _ k' (fun e => ?_))
    rcases h.apart j i v _ hji hj hv with h0 | h0
    · rw [h0] at hk'; cases hk'
    · exact h0 (hk'.trans (by rw [show k' = gi from e]; rfl))
def mark (i : Nat) : Int := -1000 - (i : Int)
theorem mark_set {l : List Int} {k : Nat} (hk : k < l.length) (m : Int) : (List.replicate k m ++ l.drop k).set k m = List.replicate (k + 1) m ++ l.drop (k + 1) := by
  rw [List.set_append_right _ _ (by simp)]
  have : l.drop k = l[k] :: l.drop (k + 1) := List.drop_eq_getElem_cons hk
  rw [this]
  simp only [List.length_replicate, Nat.sub_self, List.set_cons_zero]
  rw [List.replicate_succ']
  simp
/-- Behind the marks: those from i on are whole yet; all are read. -/
structure Half (w : World) (base g : Nat) (vs : List Value) (ls : List (List Int)) (i : Nat) : Prop where
  blk : w.heap[g]? = some (.cells vs.toArray 22 (0, 0))
  low : base ≤ g
  len : vs.length = ls.length
  own : ∀ (j : Nat) (v : Value) (l : List Int), i ≤ j → vs[j]? = some v → ls[j]? = some l → OR w base v l
  rds : ∀ (j : Nat) (v : Value) (l : List Int), vs[j]? = some v → ls[j]? = some l → ∃ A c, v = .slice A l.length c ∧ ∀ k, k < l.length → ∃ gj, A = some ⟨gj, 0, none⟩ ∧ w.cell? ⟨gj, k, none⟩ = some (.int .i64 (rd l k))
  apart : ∀ (i j : Nat) (v v' : Value), i ≠ j → vs[i]? = some v → vs[j]? = some v' → v.ownBlock = none ∨ v.ownBlock ≠ v'.ownBlock
  lt : ∀ (j : Nat) (v : Value) (b : Nat), vs[j]? = some v → v.ownBlock = some b → b < w.heap.size
theorem half_of {w : World} {base g : Nat} {vs : List Value} {ls : List (List Int)} (h : Lists w base g vs ls) : Half w base g vs ls 0 := by
  have hl : ∀ (j : Nat) (v : Value), vs[j]? = some v → ∃ l, ls[j]? = some l := fun j v hv => ⟨_, List.getElem?_eq_getElem (by rw [← h.len]; exact (List.getElem?_eq_some_iff.1 hv).1)⟩
  refine ⟨h.blk, h.low, h.len, fun j v l _ => h.own j v l, fun j v l hv hl => ?_, h.apart, fun j v b hv hb => ?_⟩
  · rcases (h.own j v l hv hl).form with ⟨rfl, rfl⟩ | ⟨gj, cap, rfl, _, _, _, hc⟩
    · exact ⟨none, 0, rfl, fun k hk => by simp at hk⟩
    · exact ⟨_, cap, rfl, fun k hk => ⟨gj, rfl, hc k hk⟩⟩
  · obtain ⟨l, hl⟩ := hl j v hv
    exact own_lt (h.own j v l hv hl) b hb
/-- A list that is gone on with. -/
structure On (w : World) (base g : Nat) (vs : List Value) (ls : List (List Int)) (i : Nat) (l : List Int) (x : Value) (xs : List Int) : Prop where
  half : Half w base g vs ls (i + 1)
  own : OR w base x xs
  long : l.length ≤ xs.length
  at_ : ls[i]? = some l
  only : ∀ (j : Nat) (v : Value) (b : Nat), vs[j]? = some v → v.ownBlock = some b → x.ownBlock = some b → j = i
theorem Half.begin {w : World} {base g : Nat} {vs : List Value} {ls : List (List Int)} {i : Nat} (h : Half w base g vs ls i) {v : Value} {l : List Int} (hv : vs[i]? = some v) (hl : ls[i]? = some l) : On w base g vs ls i l v l := by
  refine ⟨⟨h.blk, h.low, h.len, fun j v l hj => h.own j v l (by omega), h.rds, h.apart, h.lt⟩, h.own i v l (Nat.le_refl _) hv hl, Nat.le_refl _, hl, fun j v' b hv' hb hb' => ?_⟩
  by_cases hji : j = i
  · exact hji
  · rcases h.apart j i v' v hji hv' hv with h0 | h0
    · rw [h0] at hb; cases hb
    · exact absurd (hb.trans hb'.symm) h0
theorem On.step {w w1 : World} {base g : Nat} {vs : List Value} {ls : List (List Int)} {i : Nat} {l : List Int} {x x1 : Value} {xs : List Int} (h : On w base g vs ls i l x xs) (y : Int) (ho : OR w1 base x1 (xs ++ [y]))
    (hat : x1.ownBlock = x.ownBlock ∨ ∃ b, x1.ownBlock = some b ∧ w.heap.size ≤ b) (hg : w.grownBy w1 x.ownBlock) (hc : ∀ b o u, x.ownBlock = some b → o < xs.length → w.cell? ⟨b, o, none⟩ = some u → w1.cell? ⟨b, o, none⟩ = some u) :
    On w1 base g vs ls i l x1 (xs ++ [y]) := by
  have hH := h.half
  have hgl : g < w.heap.size := (Array.getElem?_eq_some_iff.1 hH.blk).1
  have hgx : some g ≠ x.ownBlock := fun e => (h.own.ne hH.blk (by decide)) e.symm
  refine ⟨⟨(hg.block g hgl hgx).trans hH.blk, hH.low, hH.len, fun j v q hj hv hq => ?_, fun j v q hv hq => ?_, hH.apart, fun j v b hv hb => Nat.lt_of_lt_of_le (hH.lt j v b hv hb) hg.size⟩, ho, by have := h.long; simp; omega, h.at_, fun j v b hv hb hb1 => ?_⟩
  · refine own_move (hH.own j v q hj hv hq) (fun k hk => hg.block k (hH.lt j v k hv hk) (fun e => ?_))
    have := h.only j v k hv hk e.symm
    omega
  · obtain ⟨A, c, rfl, hr⟩ := hH.rds j v q hv hq
    refine ⟨A, c, rfl, fun k hk => ?_⟩
    obtain ⟨gj, rfl, hcell⟩ := hr k hk
    refine ⟨gj, rfl, ?_⟩
    by_cases hx : x.ownBlock = some gj
    · have hji := h.only j _ gj hv rfl hx
      subst hji
      rw [h.at_] at hq
      obtain rfl := Option.some.inj hq
      exact hc gj k _ hx (Nat.lt_of_lt_of_le hk h.long) hcell
    · have hb := hg.block gj (hH.lt j _ gj hv rfl) (fun e => hx e.symm)
      unfold World.cell? at hcell ⊢
      rw [hb]
      exact hcell
  · rcases hat with h0 | ⟨b', h0, hb'⟩
    · exact h.only j v b hv hb (h0 ▸ hb1)
    · have := hH.lt j v b hv hb
      rw [h0] at hb1
      have := Option.some.inj hb1
      omega
/-- What Apart leaves: all blocks but those of the lists. -/
structure Bel (vs : List Value) (base : Nat) (w w' : World) : Prop where
  below : Below base w w'
  kept : ∀ k, k < w.heap.size → (∀ v ∈ vs, v.ownBlock ≠ some k) → w'.heap[k]? = w.heap[k]?
theorem Bel.set {vs : List Value} {base gi k n c : Nat} {w w' : World} (h : Bel vs base w w') (hg : base ≤ gi) (hv : Value.slice (some ⟨gi, 0, none⟩) n c ∈ vs) (u : Value) : Bel vs base w (w'.setCell ⟨gi, k, none⟩ u) :=
  ⟨h.below.setCell hg _, fun j hj hn => (Below.heap_setCell w' ⟨gi, k, none⟩ u j (fun e => hn _ hv (by rw [e]; rfl))).trans (h.kept j hj hn)⟩
theorem Bel.grow {vs : List Value} {base : Nat} {w w' w1 : World} {o : Option Nat} (h : Bel vs base w w') (hb : Below base w w1) (hg : w'.grownBy w1 o) (ho : ∀ b, o = some b → (∃ v ∈ vs, v.ownBlock = some b) ∨ w.heap.size ≤ b) : Bel vs base w w1 :=
  ⟨hb, fun j hj hn => (hg.block j (Nat.lt_of_lt_of_le hj h.below.size) (fun e => by
    rcases ho j e.symm with ⟨v, hv, he⟩ | h1
    · exact hn v hv he
    · omega)).trans (h.kept j hj hn)⟩
set_option maxHeartbeats 4000000 in
set_option maxRecDepth 100000 in
theorem Apart_walk (base g n c : Nat) (vs : List Value) (ls : List (List Int)) (w : World) (hL : Lists w base g vs ls) (hn : vs.length = n) (hnb : n ≤ 100000) (hlen : ∀ l ∈ ls, l.length ≤ 1000000) (hb0 : base ≤ w.heap.size) :
    Calls Try.prog 15 #[.slice (some ⟨g, 0, none⟩) n c] w fun e w' => e = .returned (.bool true) ∧ Bel vs base w w' := by
  have hu24 := Try.underlying24
  have hu22 := Try.underlying22
  have HL := Aside0.mk hL
  have HN := Aside0.mk hn
  have HLE := Aside0.mk hlen
  have HB : Aside0 (Bel vs base w w) := ⟨⟨Below.refl base w, fun _ _ _ => rfl⟩⟩
  clear hL hn hlen
  go_enter Try.func15, Try.ntmps15
  go_wp2
  go_loopw [3] (fun v3 wr => ∃ (i : Nat) (ls1 : List (List Int)), v3 = .int .i64 (i : Int) ∧ Aside0 (i ≤ n) ∧ Aside0 (Lists wr base g vs ls1) ∧ Aside0 (Bel vs base w wr) ∧ Aside0 (∀ l ∈ ls1, l.length ≤ 1000000) ∧ Aside0 (∀ (j : Nat) (l : List Int), j < i → ls1[j]? = some l → l = List.replicate l.length (mark j))) (fun v3 _ => n - (intOf v3).toNat)
  case atStart => exact ⟨0, ls, rfl, ⟨by omega⟩, HL, HB, HLE, ⟨fun j l hj => by omega⟩⟩
  case round =>
    clear HL HB HLE
    obtain ⟨i, ls1, rfl, HI, HL, HB, HLE, HM⟩ := hrel
    by_cases hlt : i < n
    · obtain ⟨v, hv⟩ : ∃ v, vs[i]? = some v := ⟨_, List.getElem?_eq_getElem (by rw [HN.out]; exact hlt)⟩
      obtain ⟨l, hl⟩ : ∃ l, ls1[i]? = some l := ⟨_, List.getElem?_eq_getElem (by rw [← HL.out.len, HN.out]; exact hlt)⟩
      have hll := HLE.out l (List.mem_of_getElem? hl)
      obtain ⟨A, lc, rfl⟩ := own_slice (HL.out.own i v l hv hl)
      have HV := Aside0.mk hv
      have HLL := Aside0.mk hl
      have HLT := Aside0.mk hlt
      clear hv hl
      go_wp2
      go_loopw [4] (fun v4 wr2 => ∃ k : Nat, v4 = .int .i64 (k : Int) ∧ Aside0 (k ≤ l.length) ∧ Aside0 (Lists wr2 base g vs (ls1.set i (List.replicate k (mark i) ++ l.drop k))) ∧ Aside0 (Bel vs base w wr2)) (fun v4 _ => l.length - (intOf v4).toNat)
      case atStart =>
        refine ⟨0, rfl, ⟨by omega⟩, ⟨?_⟩, HB⟩
        have := HLL.out
        simp only [List.replicate_zero, List.nil_append, List.drop_zero]
        rw [show ls1.set i l = ls1 from List.ext_getElem? fun j => by
          by_cases hj : j = i
          · subst hj
            rw [List.getElem?_set_self (List.getElem?_eq_some_iff.1 this).1, this]
          · rw [List.getElem?_set_ne (fun e => hj e.symm)]]
        exact HL.out
      case round =>
        clear HL HB
        obtain ⟨k, rfl, HK, HL, HB⟩ := hrel
        have hcv := (blk_cell HL.out.blk i).trans (show vs.toArray[i]? = some (Value.slice A l.length lc) by simpa using HV.out)
        have hlen2 : (List.replicate k (mark i) ++ l.drop k).length = l.length := by
          have := HK.out
          simp
          omega
        have hset : (ls1.set i (List.replicate k (mark i) ++ l.drop k))[i]? = some (List.replicate k (mark i) ++ l.drop k) := List.getElem?_set_self (List.getElem?_eq_some_iff.1 HLL.out).1
        by_cases hk : k < l.length
        · have hO := HL.out.own i _ _ HV.out hset
          rcases hO.form with ⟨_, hnil⟩ | ⟨gi, cap, he, hbg, hgl, ⟨cells, hgb⟩, hcell⟩
          · rw [hnil] at hlen2
            simp only [List.length_nil] at hlen2
            omega
          · rw [hlen2] at he hcell
            simp only [Value.slice.injEq, true_and] at he
            obtain ⟨rfl, rfl⟩ := he
            have hcc := hcell k hk
            have hfz := blk_frozen hgb k
            have HS := Aside0.mk (hlen2)
            have HSE := Aside0.mk hset
            have HGB := Aside0.mk hgb
            have HK2 := Aside0.mk hk
            have HV2 : Aside0 (vs[i]? = some (.slice (some ⟨gi, 0, none⟩) (List.replicate k (mark i) ++ l.drop k).length lc)) := ⟨by rw [HS.out]; exact HV.out⟩
            generalize rd (List.replicate k (mark i) ++ l.drop k) (k : Int) = old at hcc
            clear hcell hO hset hlen2 hgb
            go_wp2
            have HL2 := HL.out.store HV2.out HSE.out k (mark i)
            go_roundw
            case rel => exact ⟨k + 1, by go_num, ⟨by have := HK2.out; omega⟩, ⟨by
              have h1 := HL2
              rw [List.set_set, mark_set HK2.out] at h1
              exact h1⟩, ⟨HB.out.set hbg (List.mem_of_getElem? HV.out) _⟩⟩
            case measure => have := HK2.out; simp [intOf]; omega
        · have hke : k = l.length := by have := HK.out; omega
          subst hke
          have hk' : ¬ ((l.length : Int) < (l.length : Int)) := by omega
          go_wp2
          go_roundw
          case rel =>
            refine ⟨i + 1, ls1.set i (List.replicate l.length (mark i)), by go_num, ⟨by have := HLT.out; omega⟩, ⟨by have h1 := HL.out; rw [List.drop_length, List.append_nil] at h1; exact h1⟩, HB, ⟨fun q hq => ?_⟩, ⟨fun j q hj hq => ?_⟩⟩
            · rcases List.mem_or_eq_of_mem_set hq with hq | rfl
              · exact HLE.out q hq
              · simpa using hll
            · by_cases hji : j = i
              · subst hji
                rw [List.getElem?_set_self (List.getElem?_eq_some_iff.1 HLL.out).1] at hq
                obtain rfl := Option.some.inj hq
                simp
              · rw [List.getElem?_set_ne (fun e => hji e.symm)] at hq
                exact HM.out j q (by omega) hq
          case measure => have := HLT.out; simp [intOf]; omega
    · have hie : i = n := by have := HI.out; omega
      subst hie
      have hk' : ¬ ((i : Int) < (i : Int)) := by omega
      have HH0 : Aside0 (Half wr base g vs ls1 0) := ⟨half_of HL.out⟩
      have HW0 := Aside0.mk (Nat.le_trans hb0 HB.out.below.size)
      clear HL
      go_wp2
      clear hk'
      go_loopw [5] (fun v5 wr2 => ∃ (q : Nat), v5 = .int .i64 (q : Int) ∧ Aside0 (q ≤ i) ∧ Aside0 (Half wr2 base g vs ls1 q) ∧ Aside0 (Bel vs base w wr2) ∧ Aside0 (base ≤ wr2.heap.size)) (fun v5 _ => i - (intOf v5).toNat)
      case atStart => exact ⟨0, rfl, ⟨by omega⟩, HH0, HB, HW0⟩
      case round =>
        clear HH0 HB HW0
        obtain ⟨q, rfl, HQ, HH, HB, HW⟩ := hrel
        by_cases hlt : q < i
        · obtain ⟨v, hv⟩ : ∃ v, vs[q]? = some v := ⟨_, List.getElem?_eq_getElem (by rw [HN.out]; exact hlt)⟩
          obtain ⟨l, hl⟩ : ∃ l, ls1[q]? = some l := ⟨_, List.getElem?_eq_getElem (by rw [← HH.out.len, HN.out]; exact hlt)⟩
          have hll := HLE.out l (List.mem_of_getElem? hl)
          have HV := Aside0.mk hv
          have HLL := Aside0.mk hl
          have HLT := Aside0.mk hlt
          have hcv := (blk_cell HH.out.blk q).trans (show vs.toArray[q]? = some v by simpa using hv)
          have HX := Aside0.mk (HH.out.begin hv hl)
          clear hv hl
          go_wp2
          clear hcv
          go_loopw [7, 6] (fun v7 v6 wr2 => ∃ (k : Nat) (xs : List Int), v7 = .int .i64 (k : Int) ∧ Aside0 (k ≤ 6) ∧ Aside0 (On wr2 base g vs ls1 q l v6 xs) ∧ Aside0 (xs.length ≤ 1000000 + k) ∧ Aside0 (∀ b, v6.ownBlock = some b → (∃ v ∈ vs, v.ownBlock = some b) ∨ w.heap.size ≤ b) ∧ Aside0 (Bel vs base w wr2) ∧ Aside0 (base ≤ wr2.heap.size)) (fun v7 _ _ => 6 - (intOf v7).toNat)
          case atStart => exact ⟨0, l, rfl, ⟨by omega⟩, HX, ⟨by omega⟩, ⟨fun b hb => .inl ⟨_, List.mem_of_getElem? HV.out, hb⟩⟩, HB, HW⟩
          case round =>
            clear HX HB HW HH
            obtain ⟨k, xs, rfl, HK, HX, HXL, HOB, HB, HW⟩ := hrel
            by_cases hk : k < 6
            · have HK2 := Aside0.mk hk
              obtain ⟨Ax, cx, rfl⟩ := own_slice HX.out.own
              have hk2 : (k : Int) < 6 := by omega
              go_wp2_with ((with_reducible refine gate_builtin (b := .append) (xs := #[.tmp 47, .tmp 50]) rfl ?_); (refine ap_keep base rfl (.tmp 47) (.tmp 50) rfl (.slice Ax xs.length cx) xs (-5000 - (q : Int)) rfl rfl HX.out.own HB.out.below HW.out (by have := HXL.out; have := HK.out; omega) ?_; intro v1 w1 ho1 hb1 hat1 hg1 hc1; have HX1 := Aside0.mk (HX.out.step (-5000 - (q : Int)) ho1 hat1 hg1 hc1); have HB1 := Aside0.mk (HB.out.grow hb1 hg1 HOB.out); have HOB1 : Aside0 (∀ b, v1.ownBlock = some b → (∃ v ∈ vs, v.ownBlock = some b) ∨ w.heap.size ≤ b) := ⟨fun b hb => by rcases hat1 with h1 | ⟨b', h1, h2⟩; (exact HOB.out b (h1 ▸ hb)); (rw [h1] at hb; injection hb with hb; have := HB.out.below.size; exact .inr (by omega))⟩; have HW1 := Aside0.mk (Nat.le_trans HW.out hg1.size); clear ho1 hat1 hg1 hc1 hb1))
              go_roundw
              case rel => exact ⟨k + 1, xs ++ [-5000 - (q : Int)], by go_num, ⟨by have := HK2.out; omega⟩, HX1, ⟨by have := HXL.out; simp; omega⟩, HOB1, HB1, HW1⟩
              case measure => have := HK2.out; simp [intOf]; omega
            · have hk2 : ¬ ((k : Int) < 6) := by omega
              go_wp2
              go_roundw
              case rel => exact ⟨q + 1, by go_num, ⟨by have := HLT.out; omega⟩, ⟨HX.out.half⟩, HB, HW⟩
              case measure => have := HLT.out; simp [intOf]; omega
        · have hqe : q = i := by have := HQ.out; omega
          subst hqe
          have hk' : ¬ ((q : Int) < (q : Int)) := by omega
          go_wp2
          clear hk'
          go_loopw [8] (fun v8 wr2 => ∃ (p : Nat), v8 = .int .i64 (p : Int) ∧ Aside0 (p ≤ q) ∧ Aside0 (Half wr2 base g vs ls1 q) ∧ Aside0 (Bel vs base w wr2)) (fun v8 _ => q - (intOf v8).toNat)
          case atStart => exact ⟨0, rfl, ⟨by omega⟩, HH, HB⟩
          case round =>
            clear HH HB
            obtain ⟨p, rfl, HP, HH, HB⟩ := hrel
            by_cases hlt : p < q
            · obtain ⟨v, hv⟩ : ∃ v, vs[p]? = some v := ⟨_, List.getElem?_eq_getElem (by rw [HN.out]; exact hlt)⟩
              obtain ⟨l, hl⟩ : ∃ l, ls1[p]? = some l := ⟨_, List.getElem?_eq_getElem (by rw [← HH.out.len, HN.out]; exact hlt)⟩
              have hll := HLE.out l (List.mem_of_getElem? hl)
              have hmk := HM.out p l hlt hl
              obtain ⟨A, lc, rfl, hrd⟩ := HH.out.rds p v l hv hl
              have hcv := (blk_cell HH.out.blk p).trans (show vs.toArray[p]? = some (Value.slice A l.length lc) by simpa using hv)
              have HV := Aside0.mk hcv
              have HMK := Aside0.mk hmk
              have HRD := Aside0.mk hrd
              have HLT := Aside0.mk hlt
              clear hv hl hmk hcv hrd
              go_wp2
              go_loopw [9] (fun v9 wr2 => ∃ (k : Nat), v9 = .int .i64 (k : Int) ∧ Aside0 (k ≤ l.length) ∧ Aside0 (Bel vs base w wr2) ∧ Aside0 (Half wr2 base g vs ls1 q) ∧ Aside0 (wr2.cell? ⟨g, p, none⟩ = some (.slice A l.length lc)) ∧ Aside0 (∀ k, k < l.length → ∃ gj, A = some ⟨gj, 0, none⟩ ∧ wr2.cell? ⟨gj, k, none⟩ = some (.int .i64 (rd l k)))) (fun v9 _ => l.length - (intOf v9).toNat)
              case atStart => exact ⟨0, rfl, ⟨by omega⟩, HB, HH, HV, HRD⟩
              case round =>
                clear HH HB HV HRD
                obtain ⟨k, rfl, HK, HB, HH, HV, HRD⟩ := hrel
                have hcv := HV.out
                by_cases hk : k < l.length
                · obtain ⟨gj, rfl, hcc⟩ := HRD.out k hk
                  have hval : rd l (k : Int) = -1000 - (p : Int) := by
                    have h1 := HMK.out
                    unfold rd
                    rw [Int.toNat_natCast, h1, List.getD_eq_getElem?_getD, List.getElem?_replicate, if_pos hk]
                    rfl
                  rw [hval] at hcc
                  have HK2 := Aside0.mk hk
                  clear hval
                  go_wp2
                  go_roundw
                  case rel => exact ⟨k + 1, by go_num, ⟨by have := HK2.out; omega⟩, HB, HH, HV, HRD⟩
                  case measure => have := HK2.out; simp [intOf]; omega
                · have hke : k = l.length := by have := HK.out; omega
                  subst hke
                  have hk' : ¬ ((l.length : Int) < (l.length : Int)) := by omega
                  go_wp2
                  go_roundw
                  case rel => exact ⟨p + 1, by go_num, ⟨by have := HLT.out; omega⟩, HH, HB⟩
                  case measure => have := HLT.out; simp [intOf]; omega
            · have hpe : p = q := by have := HP.out; omega
              subst hpe
              have hk' : ¬ ((p : Int) < (p : Int)) := by omega
              go_wp2
              go_ret
              exact ⟨rfl, HB.out⟩
end Go.Proofs.Ytdalpaobkmoomaa.X
end

section
namespace Go.Proofs.Ytdalpaobkmoomaa.X
open Go.RowKit Go.Proofs.YtdalpaobkmoomaaW.PrintWords Go.Proofs.YtdalpaobkmoomaaW.PrintLast Go.Proofs.YtdalpaobkmoomaaW.PrintMore
attribute [local go_sem] max2_int min2_int max_two min_two max_three min_three max_four min_four   -- for this text's walks alone
set_option linter.unusedVariables false
set_option linter.unusedSimpArgs false
mutual
def tutorlaw06_much.j0 : Nat → List (List Int) → Bool → Option (Bool)
  | 0, _, _ => none
  | k + 1, x1, x16 => if x16 = true then (some true) else (tutorlaw06_much.l0 k x1 0)
def tutorlaw06_much.l0 : Nat → List (List Int) → Int → Option (Bool)
  | 0, _, _ => none
  | k + 1, x1, x5 => if x5 < (x1.length : Int) then (if 0 ≤ x5 then (if ((rd_L1 x1 x5).length : Int) > 400 then (some true) else (tutorlaw06_much.l0 k x1 (wrap64 (x5 + 1)))) else (none)) else (some false)
end
def tutorlaw06_much.f (k : Nat) (a0 : Int) (l1 : List (List Int)) : Option (Bool) := if a0 > 200 then (if a0 ≤ 65536 then (tutorlaw06_much.j0 k l1 true) else (tutorlaw06_much.j0 k l1 (decide ((l1.length : Int) > 60)))) else (tutorlaw06_much.j0 k l1 (decide ((l1.length : Int) > 60)))
set_option maxHeartbeats 8000000 in
set_option maxRecDepth 100000 in
theorem tutorlaw06_much.calls (k : Nat) (a0 : Int) (A1 : Option Addr) (c1 : Nat) (l1 : List (List Int)) (r : Bool) (w : World) (hr1 : Kd.C (Kd.slice 3 (Kd.int .i64)) w A1 l1.length l1) (hc1 : l1.length ≤ c1) (h : tutorlaw06_much.f k a0 l1 = some r) :
    Calls Try.prog 8 #[.int .i64 a0, .slice A1 l1.length c1] w fun e w' => e = .returned (.bool r) ∧ Drawn0 w w' := by
  have HR1 := Aside0.mk hr1
  have HC1 := Aside0.mk hc1
  clear hr1 hc1
  have H : (if a0 > 200 then (if a0 ≤ 65536 then (tutorlaw06_much.j0 k l1 true) else (tutorlaw06_much.j0 k l1 (decide ((l1.length : Int) > 60)))) else (tutorlaw06_much.j0 k l1 (decide ((l1.length : Int) > 60)))) = some r := h
  clear h
  have HC3 := Aside0.mk H
  clear H
  go_enter Try.func8, Try.ntmps8
  go_upto_region 1 with (fail)
  go_cut [16] (fun v16 wc => ∃ (kq : Nat) (x16_2 : Bool), v16 = .bool x16_2 ∧ Aside0 (tutorlaw06_much.j0 kq l1 x16_2 = some r) ∧ Aside0 (kq ≤ k) ∧ Drawn0 w wc)
  case first =>
    have H := HC3.out
    clear HC3
    by_cases c4 : a0 > 200
    · rw [if_pos c4] at H
      have c4b0 : decide (200 < a0) = true := decide_eq_true c4
      clear c4
      (first | rw [c4b0] | (simp only [i64_w, i32_w]; rw [c4b0]) | skip)
      by_cases c5 : a0 ≤ 65536
      · rw [if_pos c5] at H
        have c5b0 : decide (a0 ≤ 65536) = true := decide_eq_true c5
        clear c5
        have H' := Aside0.mk H
        clear H
        go_wp2
        go_meet
        case rel => exact ⟨_, (true), (by first | rfl | (simp; done) | (simp [*]; done)), H', ⟨by first | omega | exact Nat.le_refl _⟩, by repeat (first | exact Drawn0.refl _ | apply Drawn0.step)⟩
      · rw [if_neg c5] at H
        have c5b0 : decide (a0 ≤ 65536) = false := decide_eq_false c5
        clear c5
        have H' := Aside0.mk H
        clear H
        go_wp2
        go_meet
        case rel => exact ⟨_, (decide ((l1.length : Int) > 60)), (by first | rfl | (simp; done) | (simp [*]; done)), H', ⟨by first | omega | exact Nat.le_refl _⟩, by repeat (first | exact Drawn0.refl _ | apply Drawn0.step)⟩
    · rw [if_neg c4] at H
      have c4b0 : decide (200 < a0) = false := decide_eq_false c4
      clear c4
      (first | rw [c4b0] | (simp only [i64_w, i32_w]; rw [c4b0]) | skip)
      have H' := Aside0.mk H
      clear H
      go_wp2
      go_meet
      case rel => exact ⟨_, (decide ((l1.length : Int) > 60)), (by first | rfl | (simp; done) | (simp [*]; done)), H', ⟨by first | omega | exact Nat.le_refl _⟩, by repeat (first | exact Drawn0.refl _ | apply Drawn0.step)⟩
  case rest =>
    clear HC3
    try clear c1
    try clear p2
    try clear c4
    try clear c4b0
    try clear c5
    try clear c5b0
    obtain ⟨kq, x16_2, rfl, HA, HJ2, ⟨mc2, rfl⟩⟩ := hcut
    cases kq with
    | zero => exact absurd HA.out (by simp [tutorlaw06_much.j0])
    | succ kj2 =>
      have H := HA.out
      clear HA
      simp only [tutorlaw06_much.j0] at H
      by_cases c6 : x16_2 = true
      · subst c6
        have H1 : (some true) = some r := by rw [if_pos rfl] at H; exact H
        clear H
        have H := H1
        clear H1
        obtain rfl := Option.some.inj H
        go_wp2
        go_ret
        exact ⟨by first | rfl | (simp; done) | (simp [*]; done), by repeat (first | exact Drawn0.refl _ | apply Drawn0.step)⟩
      · replace c6 := Bool.eq_false_iff.mpr c6
        subst c6
        have H1 : (tutorlaw06_much.l0 kj2 l1 0) = some r := by rw [if_neg (show ¬ (false = true) by decide)] at H; exact H
        clear H
        have H := H1
        clear H1
        have H' := Aside0.mk H
        clear H
        go_wp2
        go_loopg [5] kj2 (fun kq v5 w' => ∃ (x5_2 : Int), v5 = .int .i64 x5_2 ∧ Aside0 (tutorlaw06_much.l0 kq l1 x5_2 = some r) ∧ Aside0 (kq ≤ kj2) ∧ Drawn0 w w')
        case atStart => exact ⟨(0), (by first | rfl | (simp; done) | (simp [*]; done)), H', ⟨Nat.le_refl _⟩, by repeat (first | exact Drawn0.refl _ | apply Drawn0.step)⟩
        case round =>
          clear H'
          try clear c1
          try clear c2
          try clear p2
          try clear c4
          try clear c4b0
          try clear c5
          try clear c5b0
          try clear c6
          try clear p2
          obtain ⟨x5_2, rfl, HA, HK2, ⟨m2, rfl⟩⟩ := hrel
          cases gk with
          | zero => exact absurd HA.out (by simp [tutorlaw06_much.l0])
          | succ k2 =>
            have H := HA.out
            clear HA
            simp only [tutorlaw06_much.l0] at H
            by_cases c7 : x5_2 < (l1.length : Int)
            · rw [if_pos c7] at H
              have c7b0 : decide (x5_2 < (l1.length : Int)) = true := decide_eq_true c7
              clear c7
              by_cases c8 : 0 ≤ x5_2
              · rw [if_pos c8] at H
                have c8b0 : decide (0 ≤ x5_2) = true := decide_eq_true c8
                clear c8
                by_cases c9 : ((rd_L1 l1 x5_2).length : Int) > 400
                · rw [if_pos c9] at H
                  have c9b0 : decide (400 < ((rd_L1 l1 x5_2).length : Int)) = true := decide_eq_true c9
                  have c9b1 : decide (400 < (rd_L1 l1 x5_2).length) = true := decide_eq_true (by omega)
                  clear c9
                  obtain rfl := Option.some.inj H
                  have p101 : 0 ≤ (x5_2 : Int) := of_decide_eq_true (by first | (with_reducible assumption) | assumption)
                  have q101 : x5_2 < (l1.length : Int) := of_decide_eq_true (by first | (with_reducible assumption) | assumption)
                  obtain ⟨ad101, A101_0, c101_0, e101, hx101_0, hl101_0, hi101_0⟩ := at_L1 HR1.out x5_2 p101 q101
                  cases e101
                  have HR101_0 := Aside0.mk hi101_0
                  have HC101_0 := Aside0.mk hl101_0
                  clear hi101_0 hl101_0
                  replace p101 := eq_true p101
                  replace q101 := eq_true q101
                  go_wp2
                  go_ret
                  exact ⟨by first | rfl | (simp; done) | (simp [*]; done), by repeat (first | exact Drawn0.refl _ | apply Drawn0.step)⟩
                · rw [if_neg c9] at H
                  have c9b0 : decide (400 < ((rd_L1 l1 x5_2).length : Int)) = false := decide_eq_false c9
                  have c9b1 : decide (400 < (rd_L1 l1 x5_2).length) = false := decide_eq_false (by omega)
                  clear c9
                  have H' := Aside0.mk H
                  clear H
                  have p101 : 0 ≤ (x5_2 : Int) := of_decide_eq_true (by first | (with_reducible assumption) | assumption)
                  have q101 : x5_2 < (l1.length : Int) := of_decide_eq_true (by first | (with_reducible assumption) | assumption)
                  obtain ⟨ad101, A101_0, c101_0, e101, hx101_0, hl101_0, hi101_0⟩ := at_L1 HR1.out x5_2 p101 q101
                  cases e101
                  have HR101_0 := Aside0.mk hi101_0
                  have HC101_0 := Aside0.mk hl101_0
                  clear hi101_0 hl101_0
                  replace p101 := eq_true p101
                  replace q101 := eq_true q101
                  go_wp2
                  go_roundg k2
                  case measure => have := HJ2.out; have := HK2.out; omega
                  case rel => exact ⟨(wrap64 (x5_2 + 1)), (by first | rfl | (simp; done) | (simp [*]; done)), H', ⟨by have := HJ2.out; have := HK2.out; omega⟩, by repeat (first | exact Drawn0.refl _ | apply Drawn0.step)⟩
              · rw [if_neg c8] at H
                exact absurd H (by simp)
            · rw [if_neg c7] at H
              have c7b0 : decide (x5_2 < (l1.length : Int)) = false := decide_eq_false c7
              clear c7
              obtain rfl := Option.some.inj H
              go_wp2
              go_ret
              exact ⟨by first | rfl | (simp; done) | (simp [*]; done), by repeat (first | exact Drawn0.refl _ | apply Drawn0.step)⟩
end Go.Proofs.Ytdalpaobkmoomaa.X
end
