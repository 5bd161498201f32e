/- Texts of the statement BlockHopcrofts, one behind the other: Go functions as Lean functions, the machine's calls, the plain law. -/
import Derived.Test.YtdalpaobkmoomaaMBlockHopcrofts4
set_option linter.unusedVariables false
set_option linter.unusedSimpArgs false
section
namespace Go.Proofs.Ytdalpaobkmoomaa.X
open Go.RowKit Go.Proofs.YtdalpaobkmoomaaW.PrintWords Go.Proofs.YtdalpaobkmoomaaW.PrintLast Go.Proofs.YtdalpaobkmoomaaW.PrintMore
def upd {α : Type} (f : Nat → α) (i : Nat) (v : α) : Nat → α := fun j => if j = i then v else f j
theorem upd_at {α : Type} (f : Nat → α) (i : Nat) (v : α) : upd f i v i = v := by simp [upd]
theorem upd_ne {α : Type} (f : Nat → α) {i j : Nat} (v : α) (h : j ≠ i) : upd f i v j = f j := by simp [upd, h]
def lst (n : Nat) (f : Nat → Nat) : List Int := (List.range n).map fun i => (f i : Int)
theorem lst_len (n : Nat) (f : Nat → Nat) : (lst n f).length = n := by simp [lst]
theorem rd_lst {n : Nat} (f : Nat → Nat) {i : Nat} (h : i < n) : rd (lst n f) (i : Int) = (f i : Int) := by
  simp [rd, lst, List.getD_eq_getElem?_getD, List.getElem?_map, List.getElem?_range h]
theorem lst_get {n : Nat} (f : Nat → Nat) {i : Nat} (h : i < n) : (lst n f)[i]? = some (f i : Int) := by
  simp [lst, List.getElem?_map, List.getElem?_range h]
theorem lst_congr {n : Nat} {f g : Nat → Nat} (h : ∀ i, i < n → f i = g i) : lst n f = lst n g := by
  unfold lst
  apply List.map_congr_left
  intro i hi
  rw [h i (List.mem_range.1 hi)]
theorem lst_set {n : Nat} (f : Nat → Nat) {i : Nat} (_h : i < n) (v : Nat) : (lst n f).set i (v : Int) = lst n (upd f i v) := by
  apply List.ext_getElem?
  intro j
  by_cases hj : j < n
  · rw [lst_get _ hj, List.getElem?_set, lst_len, lst_get _ hj]
    by_cases e : i = j
    · subst e; simp [upd_at, hj]
    · rw [if_neg e, upd_ne _ _ (fun h => e h.symm)]
  · rw [List.getElem?_eq_none (by simpa [lst_len] using hj), List.getElem?_eq_none (by simpa [lst_len] using hj)]
theorem lst_succ (n : Nat) (f : Nat → Nat) : lst (n + 1) f = lst n f ++ [(f n : Int)] := by simp [lst, List.range_succ]
def slst (n : Nat) (A B : Nat → Nat) : List (Int × Int) := (List.range n).map fun i => ((A i : Int), (B i : Int))
theorem slst_len (n : Nat) (A B : Nat → Nat) : (slst n A B).length = n := by simp [slst]
theorem slst_get {n : Nat} (A B : Nat → Nat) {i : Nat} (h : i < n) : (slst n A B)[i]? = some ((A i : Int), (B i : Int)) := by
  simp [slst, List.getElem?_map, List.getElem?_range h]
theorem slst_set {n : Nat} (A B : Nat → Nat) {i : Nat} (_h : i < n) (v : Nat) : (slst n A B).set i ((v : Int), (B i : Int)) = slst n (upd A i v) B := by
  apply List.ext_getElem?
  intro j
  by_cases hj : j < n
  · rw [slst_get _ _ hj, List.getElem?_set, slst_len, slst_get _ _ hj]
    by_cases e : i = j
    · subst e; simp [upd_at, hj]
    · rw [if_neg e, upd_ne _ _ (fun h => e h.symm)]
  · rw [List.getElem?_eq_none (by simpa [slst_len] using hj), List.getElem?_eq_none (by simpa [slst_len] using hj)]
theorem slst_snoc (n : Nat) (A B : Nat → Nat) (a b : Nat) : slst (n + 1) (upd A n a) (upd B n b) = slst n A B ++ [((a : Int), (b : Int))] := by
  unfold slst
  rw [List.range_succ, List.map_append]
  congr 1
  · apply List.map_congr_left
    intro i hi
    have := List.mem_range.1 hi
    rw [upd_ne _ _ (by omega), upd_ne _ _ (by omega)]
  · simp [upd_at]
/-- What a Part holds: n numbers, N classes; C the class, R the row, P the place, A and B from and to. -/
structure Inv (n N : Nat) (C R P A B : Nat → Nat) : Prop where
  ip : ∀ i, i < n → P i < n ∧ R (P i) = i
  pi : ∀ p, p < n → R p < n ∧ P (R p) = p
  cn : ∀ i, i < n → C i < N
  sp : ∀ c, c < N → A c < B c ∧ B c ≤ n
  at' : ∀ i, i < n → A (C i) ≤ P i ∧ P i < B (C i)
  only : ∀ i, i < n → ∀ c, c < N → A c ≤ P i → P i < B c → C i = c
theorem Inv.some {n N : Nat} {C R P A B : Nat → Nat} (h : Inv n N C R P A B) {c : Nat} (hc : c < N) {p : Nat} (h1 : A c ≤ p) (h2 : p < B c) : R p < n ∧ P (R p) = p ∧ C (R p) = c := by
  have h3 := (h.sp c hc).2
  have h4 := h.pi p (by omega)
  exact ⟨h4.1, h4.2, h.only (R p) h4.1 c hc (by omega) (by omega)⟩
theorem few_nat : ∀ (n : Nat) (l : List Nat), l.Nodup → (∀ x ∈ l, x < n) → l.length ≤ n := by
  intro n
  induction n with
  | zero =>
    intro l _ h
    cases l with
    | nil => simp
    | cons a r => exact absurd (h a (by simp)) (by omega)
  | succ n ih =>
    intro l hn h
    have h1 := ih (l.erase n) (hn.erase n) (fun x hx => by
      have h2 := h x (List.mem_of_mem_erase hx)
      have h3 : x ≠ n := fun e => by rw [e] at hx; exact (hn.not_mem_erase) hx
      omega)
    have h2 := List.length_erase_le (a := n) (l := l)
    by_cases hm : n ∈ l
    · rw [List.length_erase_of_mem hm] at h1
      omega
    · rw [List.erase_of_not_mem hm] at h1
      omega
/-- No more classes than numbers. -/
theorem Inv.few {n N : Nat} {C R P A B : Nat → Nat} (h : Inv n N C R P A B) : N ≤ n := by
  have h1 := few_nat n ((List.range N).map fun c => R (A c)) (by
    rw [List.nodup_iff_pairwise_ne, List.pairwise_map]
    refine (List.pairwise_lt_range).imp_of_mem (fun {a b} ha hb hab e => ?_)
    have ha' := List.mem_range.1 ha
    have hb' := List.mem_range.1 hb
    have g1 := h.some ha' (p := A a) (Nat.le_refl _) (h.sp a ha').1
    have g2 := h.some hb' (p := A b) (Nat.le_refl _) (h.sp b hb').1
    rw [e] at g1
    have := g1.2.2.symm.trans g2.2.2
    omega) (fun x hx => by
    obtain ⟨c, hc, rfl⟩ := List.mem_map.1 hx
    have hc' := List.mem_range.1 hc
    exact (h.some hc' (p := A c) (Nat.le_refl _) (h.sp c hc').1).1)
  simpa using h1
theorem inv_new {n : Nat} (h : 0 < n) : Inv n 1 (fun _ => 0) (fun i => i) (fun i => i) (fun _ => 0) (fun _ => n) where
  ip := fun i hi => ⟨hi, rfl⟩
  pi := fun i hi => ⟨hi, rfl⟩
  cn := fun _ _ => Nat.zero_lt_one
  sp := fun _ _ => ⟨h, Nat.le_refl _⟩
  at' := fun i hi => ⟨Nat.zero_le _, hi⟩
  only := fun i _ c hc _ _ => by omega
/-- While the numbers of a list are brought to the fronts of their classes. -/
structure Mark (n N : Nat) (C A B : Nat → Nat) (l : List Nat) (D : Nat → Bool) (M : Nat → Nat) (T : List Nat) (R P : Nat → Nat) : Prop where
  inv : Inv n N C R P A B
  rm : ∀ c, c < N → A c + M c ≤ B c
  dn : ∀ i, i < n → (D i = true ↔ P i < A (C i) + M (C i))
  dl : ∀ i, i < n → (D i = true ↔ i ∈ l)
  nd : T.Nodup
  tm : ∀ c, c ∈ T ↔ c < N ∧ 0 < M c
theorem mark_start {n N : Nat} {C R P A B : Nat → Nat} (h : Inv n N C R P A B) : Mark n N C A B [] (fun _ => false) (fun _ => 0) [] R P where
  inv := h
  rm := fun c hc => by have := h.sp c hc; omega
  dn := fun i hi => by have := h.at' i hi; simp; omega
  dl := fun i _ => by simp
  nd := List.nodup_nil
  tm := fun c => by simp
theorem Mark.few {n N : Nat} {C A B : Nat → Nat} {l : List Nat} {D : Nat → Bool} {M : Nat → Nat} {T : List Nat} {R P : Nat → Nat} (h : Mark n N C A B l D M T R P) : T.length ≤ n :=
  Nat.le_trans (few_nat N T h.nd (fun x hx => ((h.tm x).1 hx).1)) h.inv.few
theorem Mark.skip {n N : Nat} {C A B : Nat → Nat} {l : List Nat} {D : Nat → Bool} {M : Nat → Nat} {T : List Nat} {R P : Nat → Nat} (h : Mark n N C A B l D M T R P) {i : Nat} (hi : i < n) (hd : D i = true) : Mark n N C A B (l ++ [i]) D M T R P where
  inv := h.inv
  rm := h.rm
  dn := h.dn
  dl := fun j hj => by
    rw [h.dl j hj, List.mem_append, List.mem_singleton]
    constructor
    · exact .inl
    · rintro (h1 | h1)
      · exact h1
      · subst h1; exact (h.dl j hj).1 hd
  nd := h.nd
  tm := h.tm
theorem Mark.room {n N : Nat} {C A B : Nat → Nat} {l : List Nat} {D : Nat → Bool} {M : Nat → Nat} {T : List Nat} {R P : Nat → Nat} (h : Mark n N C A B l D M T R P) {i : Nat} (hi : i < n) (hd : D i = false) : C i < N ∧ A (C i) + M (C i) ≤ P i ∧ P i < B (C i) ∧ B (C i) ≤ n ∧ R (A (C i) + M (C i)) < n ∧ P (R (A (C i) + M (C i))) = A (C i) + M (C i) ∧ C (R (A (C i) + M (C i))) = C i := by
  have h1 := h.inv.at' i hi
  have h2 := h.inv.cn i hi
  have h3 : ¬ P i < A (C i) + M (C i) := fun hh => by rw [(h.dn i hi).2 hh] at hd; cases hd
  have h4 := h.inv.some h2 (p := A (C i) + M (C i)) (by omega) (by omega)
  exact ⟨h2, by omega, h1.2, (h.inv.sp _ h2).2, h4⟩
theorem Mark.step {n N : Nat} {C A B : Nat → Nat} {l : List Nat} {D : Nat → Bool} {M : Nat → Nat} {T : List Nat} {R P : Nat → Nat} (h : Mark n N C A B l D M T R P) {i : Nat} (hi : i < n) (hd : D i = false) {T' : List Nat} (hT : T' = if M (C i) = 0 then T ++ [C i] else T) :
    Mark n N C A B (l ++ [i]) (upd D i true) (upd M (C i) (M (C i) + 1)) T' (upd (upd R (A (C i) + M (C i)) i) (P i) (R (A (C i) + M (C i)))) (upd (upd P i (A (C i) + M (C i))) (R (A (C i) + M (C i))) (P i)) := by
  obtain ⟨r1, r2, r3, r4, r5, r6, r7⟩ := h.room hi hd
  generalize hq : A (C i) + M (C i) = q at *
  generalize ho : R q = o at *
  have hip := h.inv.ip i hi
  -- i = o just where P i = q
  have hio : i = o ↔ P i = q := ⟨fun e => by subst e; exact r6, fun e => by rw [← ho, ← e, hip.2]⟩
  have hP : ∀ j, upd (upd P i q) o (P i) j = if j = o then P i else if j = i then q else P j := fun j => rfl
  have hR : ∀ p, upd (upd R q i) (P i) o p = if p = P i then o else if p = q then i else R p := fun p => rfl
  have inv : Inv n N C (upd (upd R q i) (P i) o) (upd (upd P i q) o (P i)) A B := by
    refine ⟨fun j hj => ?_, fun p hp => ?_, h.inv.cn, h.inv.sp, fun j hj => ?_, fun j hj c hc => ?_⟩
    · have hj' := h.inv.ip j hj
      rw [hP, hR]
      by_cases e1 : j = o
      · rw [if_pos e1, if_pos rfl]
        exact ⟨hip.1, e1.symm⟩
      · rw [if_neg e1]
        by_cases e2 : j = i
        · rw [if_pos e2]
          have : ¬ q = P i := fun e => e1 (e2.trans (hio.2 e.symm))
          rw [if_neg this, if_pos rfl]
          exact ⟨by omega, e2.symm⟩
        · rw [if_neg e2]
          have n1 : ¬ P j = P i := fun e => e2 (by rw [← hj'.2, e, hip.2])
          have n2 : ¬ P j = q := fun e => e1 (by rw [← hj'.2, e, ho])
          rw [if_neg n1, if_neg n2]
          exact hj'
    · have hp' := h.inv.pi p hp
      rw [hR]
      by_cases e1 : p = P i
      · rw [if_pos e1]
        refine ⟨r5, ?_⟩
        rw [hP, if_pos rfl, e1]
      · rw [if_neg e1]
        by_cases e2 : p = q
        · rw [if_pos e2]
          refine ⟨hi, ?_⟩
          have : ¬ i = o := fun e => e1 (e2.trans (hio.1 e).symm)
          rw [hP, if_neg this, if_pos rfl, e2]
        · rw [if_neg e2]
          refine ⟨hp'.1, ?_⟩
          have n1 : ¬ R p = o := fun e => e2 (by rw [← hp'.2, e, r6])
          have n2 : ¬ R p = i := fun e => e1 (by rw [← hp'.2, e])
          rw [hP, if_neg n1, if_neg n2]
          exact hp'.2
    · have hj' := h.inv.at' j hj
      have hj2 := h.inv.at' i hi
      rw [hP]
      by_cases e1 : j = o
      · rw [if_pos e1, e1, r7]
        exact hj2
      · rw [if_neg e1]
        by_cases e2 : j = i
        · rw [if_pos e2, e2]
          omega
        · rw [if_neg e2]
          exact hj'
    · rw [hP]
      by_cases e1 : j = o
      · rw [if_pos e1, e1, r7]
        exact h.inv.only i hi c hc
      · rw [if_neg e1]
        by_cases e2 : j = i
        · rw [if_pos e2, e2]
          intro h1 h2
          have := h.inv.only o r5 c hc (by omega) (by omega)
          rw [← this, r7]
        · rw [if_neg e2]
          exact h.inv.only j hj c hc
  refine ⟨inv, fun c hc => ?_, fun j hj => ?_, fun j hj => ?_, ?_, fun c => ?_⟩
  · by_cases e : c = C i
    · subst e
      rw [upd_at]
      omega
    · rw [upd_ne _ _ e]
      exact h.rm c hc
  · have hdn := h.dn j hj
    rw [hP]
    by_cases e1 : j = i
    · subst e1
      rw [upd_at, upd_at]
      by_cases e2 : j = o
      · rw [if_pos e2]
        have := hio.1 e2
        simp
        omega
      · rw [if_neg e2, if_pos rfl]
        simp
        omega
    · rw [upd_ne _ _ e1]
      by_cases e2 : j = o
      · rw [if_pos e2, e2, r7, upd_at]
        have hne : ¬ P i = q := fun e => e1 (e2.trans (hio.2 e).symm)
        have hDo : D o = false := by
          cases hh : D o with
          | false => rfl
          | true =>
            have := (h.dn o r5).1 hh
            rw [r7, r6, hq] at this
            omega
        rw [hDo]
        simp
        omega
      · rw [if_neg e2, if_neg e1]
        by_cases e3 : C j = C i
        · rw [e3, upd_at, hdn, e3, hq]
          have : ¬ P j = q := fun e => e2 (by rw [← (h.inv.ip j hj).2, e, ho])
          omega
        · rw [upd_ne _ _ e3]
          exact hdn
  · by_cases e1 : j = i
    · subst e1
      rw [upd_at]
      simp
    · rw [upd_ne _ _ e1, h.dl j hj, List.mem_append, List.mem_singleton]
      constructor
      · exact .inl
      · rintro (h1 | h1)
        · exact h1
        · exact absurd h1 e1
  · rw [hT]
    by_cases e : M (C i) = 0
    · rw [if_pos e]
      refine List.nodup_append.2 ⟨h.nd, by simp, fun a ha b hb => ?_⟩
      rw [List.mem_singleton] at hb
      subst hb
      rintro rfl
      have := (h.tm _).1 ha
      omega
    · rw [if_neg e]
      exact h.nd
  · rw [hT]
    by_cases e : M (C i) = 0
    · rw [if_pos e, List.mem_append, List.mem_singleton, h.tm]
      by_cases e1 : c = C i
      · subst e1
        rw [upd_at]
        simp [r1]
      · rw [upd_ne _ _ e1]
        simp [e1]
    · rw [if_neg e, h.tm]
      by_cases e1 : c = C i
      · subst e1
        rw [upd_at]
        omega
      · rw [upd_ne _ _ e1]
/-- One class cut, by the classes as they were: those of class c that are in go to a new class. -/
structure St where
  C : Nat → Nat
  N : Nat
  made : List Nat
def cutOf (n : Nat) (C0 : Nat → Nat) (D : Nat → Bool) (c : Nat) (s : St) : St :=
  if (∃ i, i < n ∧ C0 i = c ∧ D i = true) ∧ (∃ i, i < n ∧ C0 i = c ∧ D i = false) then ⟨fun i => if C0 i = c ∧ D i = true then s.N else s.C i, s.N + 1, s.made ++ [s.N]⟩ else s
def cuts (n : Nat) (C0 : Nat → Nat) (D : Nat → Bool) : List Nat → St → St
  | [], s => s
  | c :: r, s => cuts n C0 D r (cutOf n C0 D c s)
/-- Behind a new class stands the rest of the old one. -/
def Beh (n N : Nat) (C R B : Nat → Nat) (N0 : Nat) (C0 : Nat → Nat) : Prop := ∀ f, N0 ≤ f → f < N → B f < n ∧ ∀ i, i < n → C i = f → C (R (B f)) = C0 i
/-- While the touched classes are cut: those in rest are as they were. -/
structure Cut (n N0 : Nat) (C0 A0 B0 : Nat → Nat) (D : Nat → Bool) (M R P : Nat → Nat) (rest : List Nat) (s : St) (A B : Nat → Nat) : Prop where
  inv : Inv n s.N s.C R P A B
  rm : ∀ c, c < N0 → A0 c + M c ≤ B0 c
  pos : ∀ c ∈ rest, c < N0 ∧ 0 < M c
  nd : rest.Nodup
  le : N0 ≤ s.N ∧ s.N + rest.length ≤ N0 + n
  ml : s.N = N0 + s.made.length
  cn : ∀ i, i < n → C0 i < N0
  dn : ∀ i, i < n → (D i = true ↔ P i < A0 (C0 i) + M (C0 i))
  same : ∀ c ∈ rest, A c = A0 c ∧ B c = B0 c ∧ ∀ i, i < n → (s.C i = c ↔ C0 i = c)
  beh : Beh n s.N s.C R B N0 C0
theorem Mark.cut {n N : Nat} {C A B : Nat → Nat} {l : List Nat} {D : Nat → Bool} {M : Nat → Nat} {T : List Nat} {R P : Nat → Nat} (h : Mark n N C A B l D M T R P) {T' : List Nat} (hp : T'.Perm T) (hl : T.length ≤ n) : Cut n N C A B D M R P T' ⟨C, N, []⟩ A B where
  inv := h.inv
  rm := h.rm
  pos := fun c hc => (h.tm c).1 (hp.subset hc)
  nd := hp.nodup_iff.2 h.nd
  le := ⟨Nat.le_refl _, by rw [hp.length_eq]; show N + _ ≤ _; omega⟩
  ml := rfl
  cn := h.inv.cn
  dn := h.dn
  same := fun _ _ => ⟨rfl, rfl, fun _ _ => Iff.rfl⟩
  beh := fun f h1 h2 => absurd h2 (by show ¬ f < N; omega)
section
variable {n N0 : Nat} {C0 A0 B0 : Nat → Nat} {D : Nat → Bool} {M R P : Nat → Nat} {c : Nat} {rest : List Nat} {s : St} {A B : Nat → Nat}
/-- The whole class is in: it stays. -/
theorem Cut.whole (h : Cut n N0 C0 A0 B0 D M R P (c :: rest) s A B) (hm : A c + M c = B c) : Cut n N0 C0 A0 B0 D M R P rest s A B ∧ cutOf n C0 D c s = s := by
  obtain ⟨e1, e2, e3⟩ := h.same c List.mem_cons_self
  obtain ⟨p1, p2⟩ := h.pos c List.mem_cons_self
  refine ⟨⟨h.inv, h.rm, fun x hx => h.pos x (List.mem_cons_of_mem _ hx), (List.nodup_cons.1 h.nd).2, ⟨h.le.1, by have := h.le.2; simp at this; omega⟩, h.ml, h.cn, h.dn, fun x hx => h.same x (List.mem_cons_of_mem _ hx), h.beh⟩, ?_⟩
  unfold cutOf
  rw [if_neg]
  rintro ⟨_, i, hi, hc, hd⟩
  have h1 := h.inv.at' i hi
  rw [(e3 i hi).2 hc] at h1
  have h2 := (h.dn i hi).2 (by rw [hc, ← e1]; omega)
  rw [h2] at hd
  cases hd
theorem Cut.here (h : Cut n N0 C0 A0 B0 D M R P (c :: rest) s A B) : c < s.N ∧ c < N0 ∧ 0 < M c ∧ A c + M c ≤ B c ∧ B c ≤ n := by
  obtain ⟨e1, e2, e3⟩ := h.same c List.mem_cons_self
  obtain ⟨p1, p2⟩ := h.pos c List.mem_cons_self
  have := h.rm c p1
  have := h.le.1
  exact ⟨by omega, p1, p2, by omega, (h.inv.sp c (by omega)).2⟩
/-- The front is cut off. -/
theorem Cut.part (h : Cut n N0 C0 A0 B0 D M R P (c :: rest) s A B) (hm : ¬ A c + M c = B c) :
    Cut n N0 C0 A0 B0 D M R P rest (cutOf n C0 D c s) (upd (upd A s.N (A c)) c (A c + M c)) (upd B s.N (A c + M c)) ∧ cutOf n C0 D c s = ⟨fun i => if C0 i = c ∧ D i = true then s.N else s.C i, s.N + 1, s.made ++ [s.N]⟩ ∧
    ∀ i, i < n → ((C0 i = c ∧ D i = true) ↔ (A c ≤ P i ∧ P i < A c + M c)) := by
  obtain ⟨e1, e2, e3⟩ := h.same c List.mem_cons_self
  obtain ⟨q1, p1, p2, q2, q3⟩ := h.here
  have hin : ∀ i, i < n → ((C0 i = c ∧ D i = true) ↔ (A c ≤ P i ∧ P i < A c + M c)) := fun i hi => by
    constructor
    · rintro ⟨hc, hd⟩
      have h1 := h.inv.at' i hi
      rw [(e3 i hi).2 hc] at h1
      have := (h.dn i hi).1 hd
      rw [hc, ← e1] at this
      exact ⟨h1.1, this⟩
    · rintro ⟨h1, h2⟩
      have hc := (e3 i hi).1 (h.inv.only i hi c q1 h1 (by omega))
      exact ⟨hc, (h.dn i hi).2 (by rw [hc, ← e1]; exact h2)⟩
  have hcut : cutOf n C0 D c s = ⟨fun i => if C0 i = c ∧ D i = true then s.N else s.C i, s.N + 1, s.made ++ [s.N]⟩ := by
    unfold cutOf
    rw [if_pos]
    constructor
    · have h1 := h.inv.some q1 (p := A c) (Nat.le_refl _) (by omega)
      have h2 := (hin _ h1.1).2 ⟨by omega, by omega⟩
      exact ⟨_, h1.1, h2⟩
    · have h1 := h.inv.some q1 (p := B c - 1) (by omega) (by omega)
      refine ⟨_, h1.1, (e3 _ h1.1).1 h1.2.2, ?_⟩
      cases hd : D (R (B c - 1)) with
      | false => rfl
      | true =>
        have := ((hin _ h1.1).1 ⟨(e3 _ h1.1).1 h1.2.2, hd⟩).2
        omega
  have hfresh : ∀ x, x < s.N → x ≠ s.N := fun x hx => by omega
  have nda := List.nodup_cons.1 h.nd
  refine ⟨?_, hcut, hin⟩
  rw [hcut]
  have hA : ∀ x, upd (upd A s.N (A c)) c (A c + M c) x = if x = c then A c + M c else if x = s.N then A c else A x := fun x => rfl
  have hB : ∀ x, upd B s.N (A c + M c) x = if x = s.N then A c + M c else B x := fun x => rfl
  refine ⟨⟨h.inv.ip, h.inv.pi, fun i hi => ?_, fun x hx => ?_, fun i hi => ?_, fun i hi x hx => ?_⟩, h.rm, fun x hx => h.pos x (List.mem_cons_of_mem _ hx), nda.2, ⟨by have := h.le.1; show N0 ≤ s.N + 1; omega, by have := h.le.2; simp at this; show s.N + 1 + _ ≤ _; omega⟩, by have := h.ml; show s.N + 1 = N0 + (s.made ++ [s.N]).length; simp; omega, h.cn, h.dn, fun x hx => ?_, fun f f1 f2 => ?_⟩
  · have := h.inv.cn i hi
    show (if C0 i = c ∧ D i = true then s.N else s.C i) < s.N + 1
    split <;> omega
  · have hx' : x < s.N + 1 := hx
    rw [hA, hB]
    by_cases x1 : x = c
    · rw [if_pos x1, if_neg (by omega), x1]
      omega
    · rw [if_neg x1]
      by_cases x2 : x = s.N
      · rw [if_pos x2, if_pos x2]
        omega
      · rw [if_neg x2, if_neg x2]
        exact h.inv.sp x (by omega)
  · show upd (upd A s.N (A c)) c (A c + M c) (if C0 i = c ∧ D i = true then s.N else s.C i) ≤ P i ∧ P i < upd B s.N (A c + M c) (if C0 i = c ∧ D i = true then s.N else s.C i)
    rw [hA, hB]
    have h1 := h.inv.at' i hi
    have h2 := h.inv.cn i hi
    by_cases g : C0 i = c ∧ D i = true
    · rw [if_pos g, if_neg (by omega), if_pos rfl, if_pos rfl]
      exact (hin i hi).1 g
    · rw [if_neg g]
      have hn : ¬ (A c ≤ P i ∧ P i < A c + M c) := fun hh => g ((hin i hi).2 hh)
      by_cases x1 : s.C i = c
      · rw [if_pos x1, if_neg (by omega)]
        rw [x1] at h1 ⊢
        omega
      · rw [if_neg x1, if_neg (by omega), if_neg (by omega)]
        exact h1
  · have hx' : x < s.N + 1 := hx
    show upd (upd A s.N (A c)) c (A c + M c) x ≤ P i → P i < upd B s.N (A c + M c) x → (if C0 i = c ∧ D i = true then s.N else s.C i) = x
    rw [hA, hB]
    intro h1 h2
    by_cases x1 : x = c
    · rw [if_pos x1] at h1
      rw [if_neg (by omega)] at h2
      rw [if_neg (fun g => by have := (hin i hi).1 g; omega)]
      exact h.inv.only i hi x (by omega) (by rw [x1]; omega) h2
    · rw [if_neg x1] at h1
      by_cases x2 : x = s.N
      · rw [if_pos x2] at h1 h2
        rw [if_pos ((hin i hi).2 ⟨h1, h2⟩)]
        exact x2.symm
      · rw [if_neg x2] at h1 h2
        have h3 := h.inv.only i hi x (by omega) h1 h2
        rw [if_neg (fun g => x1 (by rw [← h3]; exact (e3 i hi).2 g.1))]
        exact h3
  · obtain ⟨g1, g2, g3⟩ := h.same x (List.mem_cons_of_mem _ hx)
    have xN : x ≠ s.N := by have := (h.pos x (List.mem_cons_of_mem _ hx)).1; have := h.le.1; omega
    have xc : x ≠ c := fun e => nda.1 (e ▸ hx)
    refine ⟨by rw [hA, if_neg xc, if_neg xN]; exact g1, by rw [hB, if_neg xN]; exact g2, fun i hi => ?_⟩
    show (if C0 i = c ∧ D i = true then s.N else s.C i) = x ↔ C0 i = x
    by_cases g : C0 i = c ∧ D i = true
    · rw [if_pos g]
      constructor
      · intro e; exact absurd e.symm xN
      · intro e; exact absurd (e.symm.trans g.1) xc
    · rw [if_neg g]
      exact g3 i hi
  · have f2' : f < s.N + 1 := f2
    rw [hB]
    by_cases x1 : f = s.N
    · rw [if_pos x1]
      refine ⟨by omega, fun i hi hf => ?_⟩
      have hf' : (if C0 i = c ∧ D i = true then s.N else s.C i) = f := hf
      have hci : C0 i = c ∧ D i = true := by
        by_cases g : C0 i = c ∧ D i = true
        · exact g
        · rw [if_neg g] at hf'
          have := h.inv.cn i hi
          omega
      have h4 := h.inv.some q1 (p := A c + M c) (by omega) (by omega)
      show (if C0 (R (A c + M c)) = c ∧ D (R (A c + M c)) = true then s.N else s.C (R (A c + M c))) = C0 i
      rw [if_neg (fun g => by have := (hin _ h4.1).1 g; omega), hci.1]
      exact h4.2.2
    · rw [if_neg x1]
      obtain ⟨b1, b2⟩ := h.beh f f1 (by omega)
      refine ⟨b1, fun i hi hf => ?_⟩
      have hf' : (if C0 i = c ∧ D i = true then s.N else s.C i) = f := hf
      have hsi : s.C i = f := by
        by_cases g : C0 i = c ∧ D i = true
        · rw [if_pos g] at hf'
          exact absurd hf'.symm x1
        · rw [if_neg g] at hf'
          exact hf'
      have h4 := (h.inv.pi _ b1).1
      have h5 := b2 i hi hsi
      show (if C0 (R (B f)) = c ∧ D (R (B f)) = true then s.N else s.C (R (B f))) = C0 i
      rw [if_neg (fun g => by
        have h6 := (e3 _ h4).2 g.1
        have h7 : s.C i = c := (e3 i hi).2 (by rw [← h5]; exact h6)
        omega)]
      exact h5
end
end Go.Proofs.Ytdalpaobkmoomaa.X
end

section
namespace Go.Proofs.Ytdalpaobkmoomaa.X
open Go.RowKit Go.Proofs.YtdalpaobkmoomaaW.PrintWords Go.Proofs.YtdalpaobkmoomaaW.PrintLast Go.Proofs.YtdalpaobkmoomaaW.PrintMore
attribute [local go_sem] max2_int min2_int max_two min_two max_three min_three max_four min_four   -- for this text's walks alone
set_option linter.unusedVariables false
set_option linter.unusedSimpArgs false
mutual
def block_before.l0 : Nat → List (List Int) → Int → Int → Int → Int → Int → Int → List Int → List Int → Option ((List (List Int)))
  | 0, _, _, _, _, _, _, _, _, _ => none
  | k + 1, x3, x14, x15, x300000, x300001, x300002, x300003, x300004, x300005 => if x15 < x14 then (block_before.l1 k x3 x15 x14 x15 x300001 0 x300000 x300001 x300002 x300003 x300004 x300005) else (some x3)
def block_before.l1 : Nat → List (List Int) → Int → Int → Int → Int → Int → Int → Int → Int → Int → List Int → List Int → Option ((List (List Int)))
  | 0, _, _, _, _, _, _, _, _, _, _, _, _ => none
  | k + 1, x3, x4, x14, x15, x19, x20, x300000, x300001, x300002, x300003, x300004, x300005 => if x20 < x19 then (if 0 ≤ (wrap64 ((wrap64 (x4 * x300001)) + x20)) then (if (wrap64 ((wrap64 (x4 * x300001)) + x20)) < (x300004.length : Int) then (if 0 ≤ (wrap64 ((wrap64 ((rd x300004 (wrap64 ((wrap64 (x4 * x300001)) + x20))) * x300001)) + x20)) then (if (wrap64 ((wrap64 ((rd x300004 (wrap64 ((wrap64 (x4 * x300001)) + x20))) * x300001)) + x20)) < (x3.length : Int) then (if (rd_L1 x3 (wrap64 ((wrap64 ((rd x300004 (wrap64 ((wrap64 (x4 * x300001)) + x20))) * x300001)) + x20))).length < 17592186044416 then (block_before.l1 k (x3.set ((wrap64 ((wrap64 ((rd x300004 (wrap64 ((wrap64 (x4 * x300001)) + x20))) * x300001)) + x20)) : Int).toNat ((rd_L1 x3 (wrap64 ((wrap64 ((rd x300004 (wrap64 ((wrap64 (x4 * x300001)) + x20))) * x300001)) + x20))) ++ [x4])) x4 x14 x15 x19 (wrap64 (x20 + 1)) x300000 x300001 x300002 x300003 x300004 x300005) else (none)) else (none)) else (none)) else (none)) else (none)) else (block_before.l0 k x3 x14 (wrap64 (x15 + 1)) x300000 x300001 x300002 x300003 x300004 x300005)
end
def block_before.f (k : Nat) (a0_0 : Int) (a0_1 : Int) (a0_2 : Int) (a0_3 : Int) (l0_4 : List Int) (l0_5 : List Int) : Option ((List (List Int))) := if 0 ≤ (wrap64 (a0_3 * a0_1)) then (if (wrap64 (a0_3 * a0_1) : Int).toNat ≤ 11728124029610 then (block_before.l0 k (List.replicate (wrap64 (a0_3 * a0_1) : Int).toNat []) a0_3 0 a0_0 a0_1 a0_2 a0_3 l0_4 l0_5) else (none)) else (none)
def block_before.T9 : Bool × List (List Nat × List Nat) := (true, [([], []), ([], []), ([], []), ([2], [2]), ([1, 3], [1, 3]), ([], []), ([4, 5], [4, 5]), ([], []), ([], []), ([], []), ([9], [9]), ([8, 10], [8, 10]), ([], []), ([11, 12], [11, 12]), ([7, 13], [7, 13]), ([14], [14]), ([], []), ([16], [16]), ([15, 17], [15, 17]), ([0, 6, 0, 1, 2, 3, 4, 5, 6, 7, 8, 9, 10, 11, 12, 13, 14, 15, 16, 17, 18], [0, 6]), ([19, 18, 18, 0, 1, 2, 3, 4, 5, 6, 7, 8, 9, 10, 11, 12, 13, 14, 15, 16, 17, 18], [18, 19])])
def block_before.B9 : List Nat := [0, 0, 0, 4, 14, 0, 62, 0, 0, 0, 512, 1792, 0, 7936, 16256, 32640, 0, 65536, 262016, 524287, 1048575]
theorem block_before.tab9 : rtab .any (opsOf Try.f35 9) = block_before.T9 := by kernel_rfl
theorem block_before.bits9 : waitsOk block_before.T9.2 block_before.B9 = true := by kernel_rfl
set_option maxHeartbeats 8000000 in
set_option maxRecDepth 100000 in
theorem block_before.calls (k : Nat) (a0_0 : Int) (a0_1 : Int) (a0_2 : Int) (a0_3 : Int) (A0_4 : Option Addr) (c0_4 : Nat) (l0_4 : List Int) (A0_5 : Option Addr) (c0_5 : Nat) (l0_5 : List Int) (r : List (List Int)) (w : World) (hr0_4 : Kd.C (Kd.int .i64) w A0_4 l0_4.length l0_4) (hc0_4 : l0_4.length ≤ c0_4) (hr0_5 : Kd.C (Kd.int .i64) w A0_5 l0_5.length l0_5) (hc0_5 : l0_5.length ≤ c0_5) (h : block_before.f k a0_0 a0_1 a0_2 a0_3 l0_4 l0_5 = some r) :
    Calls Try.prog 35 #[.agg #[.int .i64 a0_0, .int .i64 a0_1, .int .i64 a0_2, .int .i64 a0_3, .slice A0_4 l0_4.length c0_4, .slice A0_5 l0_5.length c0_5]] w fun e w' => ∃ v0_ : Value, e = .returned (v0_) ∧ Kd.S (Kd.slice 3 (Kd.int .i64)) 22 w' w.heap.size (fun _ => True) v0_ r ∧ Below w.heap.size w w' := by
  have hu53 := Try.underlying53
  have HR0_4 := Aside0.mk hr0_4
  have HC0_4 := Aside0.mk hc0_4
  clear hr0_4 hc0_4
  have HR0_5 := Aside0.mk hr0_5
  have HC0_5 := Aside0.mk hc0_5
  clear hr0_5 hc0_5
  have HB := Aside0.mk (Below.refl w.heap.size w)
  have H : (if 0 ≤ (wrap64 (a0_3 * a0_1)) then (if (wrap64 (a0_3 * a0_1) : Int).toNat ≤ 11728124029610 then (block_before.l0 k (List.replicate (wrap64 (a0_3 * a0_1) : Int).toNat []) a0_3 0 a0_0 a0_1 a0_2 a0_3 l0_4 l0_5) else (none)) else (none)) = some r := h
  clear h
  obtain ⟨ji2, hji2⟩ : ∃ j_ : Int, (wrap64 (a0_3 * a0_1)) = j_ := ⟨_, rfl⟩
  replace H : (if 0 ≤ (ji2) then (if (ji2 : Int).toNat ≤ 11728124029610 then (block_before.l0 k (List.replicate (ji2 : Int).toNat []) a0_3 0 a0_0 a0_1 a0_2 a0_3 l0_4 l0_5) else (none)) else (none)) = some r := by first | (rw [hji2] at H; exact H) | (simp only [hji2] at H ⊢; exact H)
  have hji2w : (IntKind.i64.wrap (a0_3 * a0_1)) = ji2 := (i64_w _).trans hji2
  by_cases c3 : 0 ≤ (ji2)
  · rw [if_pos c3] at H
    have c3b0 := eq_true c3
    have c3b1 : decide (0 ≤ (ji2)) = true := decide_eq_true c3
    clear c3
    by_cases c4 : (ji2 : Int).toNat ≤ 11728124029610
    · rw [if_pos c4] at H
      have c4b0 := eq_true c4
      have c4b1 : decide ((ji2 : Int).toNat ≤ 11728124029610) = true := decide_eq_true c4
      clear c4
      obtain ⟨y300, hy300⟩ : ∃ y_ : List (List Int), y_ = (List.replicate (ji2 : Int).toNat []) := ⟨_, rfl⟩
      replace H : (block_before.l0 k y300 a0_3 0 a0_0 a0_1 a0_2 a0_3 l0_4 l0_5) = some r := by first | (rw [hy300]; with_reducible exact H) | (have H2_ := (Option.bind_some _ _).symm.trans H; rw [hy300]; with_reducible exact H2_) | (have H2_ := (Option.bind_some _ _).symm.trans H; with_reducible exact H2_) | with_reducible exact H | (rw [hy300]; exact H) | exact H
      have Ny300 := Aside0.mk hy300
      clear hy300
      have H' := Aside0.mk H
      clear H
      go_enter Try.func35, Try.ntmps35
      go_wp2_with (first | ((with_reducible refine gate_dst (N := 1) rfl ?_); refine box_event ?hg (N := 1) ?hd (cs := #[.int .i64 a0_0, .int .i64 a0_1, .int .i64 a0_2, .int .i64 a0_3, .slice A0_4 l0_4.length c0_4, .slice A0_5 l0_5.length c0_5]) (t := 53) ?hr ?_; (case hd => rfl); (case hg => rfl); (case hr => first | (go_simp; done) | (go_simp; rfl)); intro gb299 hg w5 hbox hb; have n0_ := Aside0.mk (below_step (by repeat (first | (with_reducible first | exact HB.out | apply below_alloc | apply pw_below_drewN | apply below_drew1) | exact HB.out)) hb); have n1_ := Aside0.mk (hbox); have n2_ := Aside0.mk ((by rw [hg]; exact (below_size (by repeat (first | (with_reducible first | exact HB.out | apply below_alloc | apply pw_below_drewN | apply below_drew1) | exact HB.out))) : w.heap.size ≤ gb299)); have n3_ := Aside0.mk ((by rw [hg]; exact (below_size (by repeat (first | (with_reducible first | exact HB.out | apply below_alloc | apply pw_below_drewN | apply below_drew1) | exact HB.out))) : w.heap.size ≤ gb299)); clear HB; have HB := n0_; have BK299 := n1_; have GW299 := n2_; have GE299 := n3_; clear n0_ n1_ n2_ n3_; clear hb hbox hg; have hcz6_0 : w5.cell? ⟨gb299, 0, none⟩ = some (.int .i64 a0_0) := (blk_cell BK299.out 0).trans rfl; have hcz6_1 : w5.cell? ⟨gb299, 1, none⟩ = some (.int .i64 a0_1) := (blk_cell BK299.out 1).trans rfl; have hcz6_2 : w5.cell? ⟨gb299, 2, none⟩ = some (.int .i64 a0_2) := (blk_cell BK299.out 2).trans rfl; have hcz6_3 : w5.cell? ⟨gb299, 3, none⟩ = some (.int .i64 a0_3) := (blk_cell BK299.out 3).trans rfl; have hcz6_4 : w5.cell? ⟨gb299, 4, none⟩ = some (.slice A0_4 l0_4.length c0_4) := (blk_cell BK299.out 4).trans rfl; have hcz6_5 : w5.cell? ⟨gb299, 5, none⟩ = some (.slice A0_5 l0_5.length c0_5) := (blk_cell BK299.out 5).trans rfl; have hfz6_0 := blk_frozen BK299.out 0; have hfz6_1 := blk_frozen BK299.out 1; have hfz6_2 := blk_frozen BK299.out 2; have hfz6_3 := blk_frozen BK299.out 3; have hfz6_4 := blk_frozen BK299.out 4; have hfz6_5 := blk_frozen BK299.out 5) | ((with_reducible refine gate_dst (N := 12) rfl ?_); refine Kd.S_make (Kd.slice 3 (Kd.int .i64)) _ 22 rfl (N := 12) rfl 24 _ _ rfl ji2 rfl rfl Try.underlying24 (.slice none 0 0) 24 info22 rfl (by decide) (by omega) [] (ok := fun _ => True) (okp := fun _ => True) ⟨_, rfl, Kd.R_nil _ _ _ _ _⟩ (fun _ hk => hk) trivial (of_decide_eq_true (by first | (with_reducible assumption) | assumption)) (Nat.le_trans (Nat.mul_le_mul_right _ (of_decide_eq_true (by first | (with_reducible assumption) | assumption) : ji2.toNat ≤ 11728124029610)) (by omega)) (Below.refl _ _) (Nat.le_refl _) ?_; intro v301 w7 ho8 hb hg_ hnew_; clear hg_ hnew_; (first | rw [← Ny300.out] at ho8 | (simp only [Int.reduceToNat] at ho8; rw [← Ny300.out] at ho8)); have n0_ := Aside0.mk (Kd.S_lower ho8 (below_size (by repeat (first | (with_reducible first | exact HB.out | apply below_alloc | apply pw_below_drewN | apply below_drew1 | refine below_set ?_ GE299.out) | exact HB.out)))); have n1_ := Aside0.mk (blk_below (g := gb299) (o := .cells #[.int .i64 a0_0, .int .i64 a0_1, .int .i64 a0_2, .int .i64 a0_3, .slice A0_4 l0_4.length c0_4, .slice A0_5 l0_5.length c0_5] 53 (0, 0)) (by (with_reducible repeat (first | refine blk_drewN ?_ _ | refine blk_drew ?_ | refine blk_alloc ?_ _)); exact BK299.out) hb); have n2_ := Aside0.mk (below_step (by repeat (first | (with_reducible first | exact HB.out | apply below_alloc | apply pw_below_drewN | apply below_drew1 | refine below_set ?_ GE299.out) | exact HB.out)) hb); clear BK299; clear HB; have HO302 := n0_; have BK299 := n1_; have HB := n2_; clear n0_ n1_ n2_; clear hb ho8; have hcz9_0 : w7.cell? ⟨gb299, 0, none⟩ = some (.int .i64 a0_0) := (blk_cell BK299.out 0).trans rfl; have hcz9_1 : w7.cell? ⟨gb299, 1, none⟩ = some (.int .i64 a0_1) := (blk_cell BK299.out 1).trans rfl; have hcz9_2 : w7.cell? ⟨gb299, 2, none⟩ = some (.int .i64 a0_2) := (blk_cell BK299.out 2).trans rfl; have hcz9_3 : w7.cell? ⟨gb299, 3, none⟩ = some (.int .i64 a0_3) := (blk_cell BK299.out 3).trans rfl; have hcz9_4 : w7.cell? ⟨gb299, 4, none⟩ = some (.slice A0_4 l0_4.length c0_4) := (blk_cell BK299.out 4).trans rfl; have hcz9_5 : w7.cell? ⟨gb299, 5, none⟩ = some (.slice A0_5 l0_5.length c0_5) := (blk_cell BK299.out 5).trans rfl; have hfz9_0 := blk_frozen BK299.out 0; have hfz9_1 := blk_frozen BK299.out 1; have hfz9_2 := blk_frozen BK299.out 2; have hfz9_3 := blk_frozen BK299.out 3; have hfz9_4 := blk_frozen BK299.out 4; have hfz9_5 := blk_frozen BK299.out 5))
      go_loopg [15] k (fun kq v15 w' => ∃ (x3_1 : List (List Int)) (x15_1 : Int), v15 = .int .i64 x15_1 ∧ Aside0 (block_before.l0 kq x3_1 a0_3 x15_1 a0_0 a0_1 a0_2 a0_3 l0_4 l0_5 = some r) ∧ Aside0 (kq ≤ k) ∧ Aside0 (Kd.S (Kd.slice 3 (Kd.int .i64)) 22 w' w.heap.size (fun _ => True) v301 x3_1) ∧ Aside0 (w'.heap[gb299]? = some (.cells #[.int .i64 a0_0, .int .i64 a0_1, .int .i64 a0_2, .int .i64 a0_3, (.slice A0_4 l0_4.length c0_4), (.slice A0_5 l0_5.length c0_5)] 53 (0, 0))) ∧ Aside0 (Below w.heap.size w w'))
      case atStart => exact ⟨(y300), (0), (by first | rfl | (simp; done) | (simp [*]; done)), H', ⟨Nat.le_refl _⟩, ⟨by (with_reducible repeat (first | apply Kd.S_alloc | apply Kd.S_drewN | apply Kd.S_drew)); exact HO302.out⟩, ⟨by (with_reducible repeat (first | refine blk_drewN ?_ _ | refine blk_drew ?_ | refine blk_alloc ?_ _)); exact BK299.out⟩, ⟨by repeat (first | (with_reducible first | exact HB.out | apply below_alloc | apply pw_below_drewN | apply below_drew1 | refine below_set ?_ GE299.out) | exact HB.out)⟩⟩
      case round =>
        clear H'
        try clear p2
        try clear c3
        try clear c3b0
        try clear c3b1
        try clear c4
        try clear c4b0
        try clear c4b1
        try clear p6
        try clear hcz6_0
        try clear hcz6_1
        try clear hcz6_2
        try clear hcz6_3
        try clear hcz6_4
        try clear hcz6_5
        try clear hcz9_0
        try clear hcz9_1
        try clear hcz9_2
        try clear hcz9_3
        try clear hcz9_4
        try clear hcz9_5
        try clear hfz6_0
        try clear hfz6_1
        try clear hfz6_2
        try clear hfz6_3
        try clear hfz6_4
        try clear hfz6_5
        try clear hfz9_0
        try clear hfz9_1
        try clear hfz9_2
        try clear hfz9_3
        try clear hfz9_4
        try clear hfz9_5
        obtain ⟨x3_1, x15_1, rfl, HA, HK1, HO_3, BK299, HB⟩ := hrel
        cases gk with
        | zero => exact absurd HA.out (by simp [block_before.l0])
        | succ k1 =>
          have H := HA.out
          clear HA
          simp only [block_before.l0] at H
          by_cases c10 : x15_1 < a0_3
          · rw [if_pos c10] at H
            have c10b0 : decide (x15_1 < a0_3) = true := decide_eq_true c10
            clear c10
            have H' := Aside0.mk H
            clear H
            have hcz11_0 : wr.cell? ⟨gb299, 0, none⟩ = some (.int .i64 a0_0) := (blk_cell BK299.out 0).trans rfl
            have hcz11_1 : wr.cell? ⟨gb299, 1, none⟩ = some (.int .i64 a0_1) := (blk_cell BK299.out 1).trans rfl
            have hcz11_2 : wr.cell? ⟨gb299, 2, none⟩ = some (.int .i64 a0_2) := (blk_cell BK299.out 2).trans rfl
            have hcz11_3 : wr.cell? ⟨gb299, 3, none⟩ = some (.int .i64 a0_3) := (blk_cell BK299.out 3).trans rfl
            have hcz11_4 : wr.cell? ⟨gb299, 4, none⟩ = some (.slice A0_4 l0_4.length c0_4) := (blk_cell BK299.out 4).trans rfl
            have hcz11_5 : wr.cell? ⟨gb299, 5, none⟩ = some (.slice A0_5 l0_5.length c0_5) := (blk_cell BK299.out 5).trans rfl
            have hfz11_0 := blk_frozen BK299.out 0
            have hfz11_1 := blk_frozen BK299.out 1
            have hfz11_2 := blk_frozen BK299.out 2
            have hfz11_3 := blk_frozen BK299.out 3
            have hfz11_4 := blk_frozen BK299.out 4
            have hfz11_5 := blk_frozen BK299.out 5
            go_wp2
            go_loopg [20] k1 (fun kq v20 w' => ∃ (x3_2 : List (List Int)) (x20_2 : Int), v20 = .int .i64 x20_2 ∧ Aside0 (block_before.l1 kq x3_2 x15_1 a0_3 x15_1 a0_1 x20_2 a0_0 a0_1 a0_2 a0_3 l0_4 l0_5 = some r) ∧ Aside0 (kq ≤ k1) ∧ Aside0 (Kd.S (Kd.slice 3 (Kd.int .i64)) 22 w' w.heap.size (fun _ => True) v301 x3_2) ∧ Aside0 (w'.heap[gb299]? = some (.cells #[.int .i64 a0_0, .int .i64 a0_1, .int .i64 a0_2, .int .i64 a0_3, (.slice A0_4 l0_4.length c0_4), (.slice A0_5 l0_5.length c0_5)] 53 (0, 0))) ∧ Aside0 (Below w.heap.size w w'))
            case atStart => exact ⟨(x3_1), (0), (by first | rfl | (simp; done) | (simp [*]; done)), H', ⟨Nat.le_refl _⟩, ⟨by (with_reducible repeat (first | apply Kd.S_alloc | apply Kd.S_drewN | apply Kd.S_drew)); exact HO_3.out⟩, ⟨by (with_reducible repeat (first | refine blk_drewN ?_ _ | refine blk_drew ?_ | refine blk_alloc ?_ _)); exact BK299.out⟩, ⟨by repeat (first | (with_reducible first | exact HB.out | apply below_alloc | apply pw_below_drewN | apply below_drew1 | refine below_set ?_ GE299.out) | exact HB.out)⟩⟩
            case round =>
              clear H'
              try clear c1
              try clear p2
              try clear c3
              try clear c3b0
              try clear c3b1
              try clear c4
              try clear c4b0
              try clear c4b1
              try clear p6
              try clear c10
              try clear c10b0
              try clear hcz11_0
              try clear hcz11_1
              try clear hcz11_2
              try clear hcz11_3
              try clear hcz11_4
              try clear hcz11_5
              try clear hcz6_0
              try clear hcz6_1
              try clear hcz6_2
              try clear hcz6_3
              try clear hcz6_4
              try clear hcz6_5
              try clear hcz9_0
              try clear hcz9_1
              try clear hcz9_2
              try clear hcz9_3
              try clear hcz9_4
              try clear hcz9_5
              try clear hfz11_0
              try clear hfz11_1
              try clear hfz11_2
              try clear hfz11_3
              try clear hfz11_4
              try clear hfz11_5
              try clear hfz6_0
              try clear hfz6_1
              try clear hfz6_2
              try clear hfz6_3
              try clear hfz6_4
              try clear hfz6_5
              try clear hfz9_0
              try clear hfz9_1
              try clear hfz9_2
              try clear hfz9_3
              try clear hfz9_4
              try clear hfz9_5
              try clear p2
              try clear p6
              obtain ⟨x3_2, x20_2, rfl, HA, HK2, HO_3, BK299, HB⟩ := hrel
              cases gk with
              | zero => exact absurd HA.out (by simp [block_before.l1])
              | succ k2 =>
                have H := HA.out
                clear HA
                simp only [block_before.l1] at H
                by_cases c12 : x20_2 < a0_1
                · rw [if_pos c12] at H
                  have c12b0 : decide (x20_2 < a0_1) = true := decide_eq_true c12
                  clear c12
                  obtain ⟨ji13, hji13⟩ : ∃ j_ : Int, (wrap64 ((wrap64 (x15_1 * a0_1)) + x20_2)) = j_ := ⟨_, rfl⟩
                  replace H : (if 0 ≤ (ji13) then (if (ji13) < (l0_4.length : Int) then (if 0 ≤ (wrap64 ((wrap64 ((rd l0_4 (ji13)) * a0_1)) + x20_2)) then (if (wrap64 ((wrap64 ((rd l0_4 (ji13)) * a0_1)) + x20_2)) < (x3_2.length : Int) then (if (rd_L1 x3_2 (wrap64 ((wrap64 ((rd l0_4 (ji13)) * a0_1)) + x20_2))).length < 17592186044416 then (block_before.l1 k2 (x3_2.set ((wrap64 ((wrap64 ((rd l0_4 (ji13)) * a0_1)) + x20_2)) : Int).toNat ((rd_L1 x3_2 (wrap64 ((wrap64 ((rd l0_4 (ji13)) * a0_1)) + x20_2))) ++ [x15_1])) x15_1 a0_3 x15_1 a0_1 (wrap64 (x20_2 + 1)) a0_0 a0_1 a0_2 a0_3 l0_4 l0_5) else (none)) else (none)) else (none)) else (none)) else (none)) = some r := by first | (rw [hji13] at H; exact H) | (simp only [hji13] at H ⊢; exact H)
                  have hji13w : (IntKind.i64.wrap ((wrap64 (x15_1 * a0_1)) + x20_2)) = ji13 := (i64_w _).trans hji13
                  by_cases c14 : 0 ≤ (ji13)
                  · rw [if_pos c14] at H
                    have c14b0 : decide (0 ≤ (ji13)) = true := decide_eq_true c14
                    clear c14
                    by_cases c15 : (ji13) < (l0_4.length : Int)
                    · rw [if_pos c15] at H
                      have c15b0 : decide ((ji13) < (l0_4.length : Int)) = true := decide_eq_true c15
                      clear c15
                      obtain ⟨ji16, hji16⟩ : ∃ j_ : Int, (wrap64 ((wrap64 ((rd l0_4 (ji13)) * a0_1)) + x20_2)) = j_ := ⟨_, rfl⟩
                      replace H : (if 0 ≤ (ji16) then (if (ji16) < (x3_2.length : Int) then (if (rd_L1 x3_2 (ji16)).length < 17592186044416 then (block_before.l1 k2 (x3_2.set ((ji16) : Int).toNat ((rd_L1 x3_2 (ji16)) ++ [x15_1])) x15_1 a0_3 x15_1 a0_1 (wrap64 (x20_2 + 1)) a0_0 a0_1 a0_2 a0_3 l0_4 l0_5) else (none)) else (none)) else (none)) = some r := by first | (rw [hji16] at H; exact H) | (simp only [hji16] at H ⊢; exact H)
                      have hji16w : (IntKind.i64.wrap ((wrap64 ((rd l0_4 (ji13)) * a0_1)) + x20_2)) = ji16 := (i64_w _).trans hji16
                      by_cases c17 : 0 ≤ (ji16)
                      · rw [if_pos c17] at H
                        have c17b0 : decide (0 ≤ (ji16)) = true := decide_eq_true c17
                        clear c17
                        by_cases c18 : (ji16) < (x3_2.length : Int)
                        · rw [if_pos c18] at H
                          have c18b0 : decide ((ji16) < (x3_2.length : Int)) = true := decide_eq_true c18
                          clear c18
                          by_cases c19 : (rd_L1 x3_2 (ji16)).length < 17592186044416
                          · rw [if_pos c19] at H
                            have LMc19 := Aside0.mk c19
                            clear c19
                            obtain ⟨y305, hy305⟩ : ∃ y_ : List Int, y_ = ((rd_L1 x3_2 (ji16)) ++ [x15_1]) := ⟨_, rfl⟩
                            replace H : (block_before.l1 k2 (x3_2.set ((ji16) : Int).toNat y305) x15_1 a0_3 x15_1 a0_1 (wrap64 (x20_2 + 1)) a0_0 a0_1 a0_2 a0_3 l0_4 l0_5) = some r := by first | (rw [hy305]; with_reducible exact H) | (have H2_ := (Option.bind_some _ _).symm.trans H; rw [hy305]; with_reducible exact H2_) | (have H2_ := (Option.bind_some _ _).symm.trans H; with_reducible exact H2_) | with_reducible exact H | (rw [hy305]; exact H) | exact H
                            have Ny305 := Aside0.mk hy305
                            clear hy305
                            obtain ⟨y308, hy308⟩ : ∃ y_ : List (List Int), y_ = (x3_2.set ((ji16) : Int).toNat y305) := ⟨_, rfl⟩
                            replace H : (block_before.l1 k2 y308 x15_1 a0_3 x15_1 a0_1 (wrap64 (x20_2 + 1)) a0_0 a0_1 a0_2 a0_3 l0_4 l0_5) = some r := by first | (rw [hy308]; with_reducible exact H) | (have H2_ := (Option.bind_some _ _).symm.trans H; rw [hy308]; with_reducible exact H2_) | (have H2_ := (Option.bind_some _ _).symm.trans H; with_reducible exact H2_) | with_reducible exact H | (rw [hy308]; exact H) | exact H
                            have Ny308 := Aside0.mk hy308
                            clear hy308
                            have H' := Aside0.mk H
                            clear H
                            have hcz21_0 : wr.cell? ⟨gb299, 0, none⟩ = some (.int .i64 a0_0) := (blk_cell BK299.out 0).trans rfl
                            have hcz21_1 : wr.cell? ⟨gb299, 1, none⟩ = some (.int .i64 a0_1) := (blk_cell BK299.out 1).trans rfl
                            have hcz21_2 : wr.cell? ⟨gb299, 2, none⟩ = some (.int .i64 a0_2) := (blk_cell BK299.out 2).trans rfl
                            have hcz21_3 : wr.cell? ⟨gb299, 3, none⟩ = some (.int .i64 a0_3) := (blk_cell BK299.out 3).trans rfl
                            have hcz21_4 : wr.cell? ⟨gb299, 4, none⟩ = some (.slice A0_4 l0_4.length c0_4) := (blk_cell BK299.out 4).trans rfl
                            have hcz21_5 : wr.cell? ⟨gb299, 5, none⟩ = some (.slice A0_5 l0_5.length c0_5) := (blk_cell BK299.out 5).trans rfl
                            have hfz21_0 := blk_frozen BK299.out 0
                            have hfz21_1 := blk_frozen BK299.out 1
                            have hfz21_2 := blk_frozen BK299.out 2
                            have hfz21_3 := blk_frozen BK299.out 3
                            have hfz21_4 := blk_frozen BK299.out 4
                            have hfz21_5 := blk_frozen BK299.out 5
                            have p303 : 0 ≤ ((ji13) : Int) := of_decide_eq_true (by first | (with_reducible assumption) | assumption)
                            have q303 : (ji13) < (l0_4.length : Int) := of_decide_eq_true (by first | (with_reducible assumption) | assumption)
                            obtain ⟨ad303, e303, hx303_0⟩ := Kd.at_int HR0_4.out (ji13) p303 q303
                            cases e303
                            replace hx303_0 := (HB.out.cell (World.block_lt_of_cell? w _ hx303_0)).trans hx303_0
                            replace p303 := eq_true p303
                            replace q303 := eq_true q303
                            try go_wp2
                            have n0_ := Aside0.mk (Kd.S_drew HO_3.out)
                            have n1_ := Aside0.mk (blk_drew BK299.out)
                            have n2_ := Aside0.mk (below_drew1 HB.out)
                            clear HO_3
                            clear BK299
                            clear HB
                            have HO_3 := n0_
                            have BK299 := n1_
                            have HB := n2_
                            clear n0_ n1_ n2_
                            obtain ⟨Ao23, co23, eo23⟩ := Kd.S_slice HO_3.out
                            (first | subst eo23 | (injection eo23 with f1_ f2_ f3_; have f4_ := f1_.symm; have f5_ := f3_.symm; clear f1_ f2_ f3_; subst f4_; subst f5_))
                            have p304 : 0 ≤ ((ji16) : Int) := of_decide_eq_true (by first | (with_reducible assumption) | assumption)
                            have q304 : (ji16) < (x3_2.length : Int) := of_decide_eq_true (by first | (with_reducible assumption) | assumption)
                            obtain ⟨ad304, A304_0, c304_0, e304, hx304_0, hl304_0, hi304_0⟩ := at_L1 (Kd.S_reads' HO_3.out).2.2 (ji16) p304 q304
                            cases e304
                            obtain ⟨ce304, hce304, hMe304, hcc304⟩ := Kd.S_get HO_3.out [] (ji16) p304 (by first | exact q304 | exact of_decide_eq_true (by first | (with_reducible assumption) | assumption) | (have e_ := (Kd.S_reads' HO_3.out).1; omega))
                            obtain ⟨ve304_0, rfl, ge304_0⟩ := hMe304
                            have hv304_0 := hcc304 0 _ rfl
                            rw [Nat.add_zero, show ((Kd.slice 3 (Kd.int .i64))).sz = 1 from rfl, Nat.mul_one] at hv304_0
                            replace hv304_0 := Option.some.inj (hv304_0.symm.trans hx304_0)
                            rw [hv304_0] at ge304_0
                            have HL304_0 := Aside0.mk (show Kd.R (Kd.int .i64) 3 _ _ _ _ (rd_L1 x3_2 (ji16)) from ge304_0)
                            clear hv304_0 ge304_0
                            have HX304_0 := Aside0.mk hx304_0
                            clear hcc304 hce304
                            have HR304_0 := Aside0.mk hi304_0
                            have HC304_0 := Aside0.mk hl304_0
                            clear hi304_0 hl304_0
                            replace p304 := eq_true p304
                            replace q304 := eq_true q304
                            obtain ⟨go24, co24, eo24, gb24, gl24, cl24, HG24⟩ := Kd.S_form HO_3.out (by have h_ : ((ji16) : Int) < ((x3_2.length : Int) : Int) := of_decide_eq_true (by first | (with_reducible assumption) | assumption); have h2_ : 0 ≤ ((ji16) : Int) := (of_decide_eq_true (by first | (with_reducible assumption) | assumption)); omega)
                            (first | cases eo24 | (injection eo24 with ea_ en_ ec_; (first | subst ea_ | (injection ea_ with ea_; subst ea_)); subst ec_; clear en_))
                            have GB24 := Aside0.mk gb24
                            have GG24 := Aside0.mk HG24
                            clear gb24 gl24 HG24
                            (first | simp only [add_plain] at hx304_0 | skip)
                            obtain ⟨oki24, ce24, hcl24, hM24, hcc24, _, _, hH24⟩ := Kd.S_elem HO_3.out [] ((ji16) : Int) (of_decide_eq_true (by first | (with_reducible assumption) | assumption)) (by have h_ : ((ji16) : Int) < ((x3_2.length : Int) : Int) := of_decide_eq_true (by first | (with_reducible assumption) | assumption); first | exact h_ | (have e_ := (Kd.S_reads' HO_3.out).1; omega) | simpa using h_)
                            obtain ⟨ve24_0, rfl, ge24_0⟩ := hM24
                            have hv24 := hcc24 0 _ rfl
                            have hX24 := HX304_0.out
                            (try simp only [add_plain] at hX24)
                            (try simp only [Nat.add_zero] at hv24)
                            (try rw [show ((Kd.slice 3 (Kd.int .i64))).sz = 1 from rfl, Nat.mul_one] at hv24)
                            replace hv24 := Option.some.inj (hv24.symm.trans hX24)
                            subst hv24
                            clear hX24 hcc24 hcl24
                            have UU24 := Aside0.mk (show Kd.R (Kd.int .i64) 3 _ w.heap.size oki24 (.slice A304_0 (rd_L1 x3_2 (ji16)).length c304_0) (rd_L1 x3_2 (ji16)) from ge24_0)
                            have HH24 := Aside0.mk hH24
                            have HN24 := Aside0.mk (Kd.S_reads' HO_3.out).1
                            clear hH24 ge24_0
                            refine start_ (n := 21) (S := fun w' => w'.cell? ⟨gb299, 0, none⟩ = some (.int .i64 a0_0) ∧ w'.cell? ⟨gb299, 1, none⟩ = some (.int .i64 a0_1) ∧ w'.cell? ⟨gb299, 2, none⟩ = some (.int .i64 a0_2) ∧ w'.cell? ⟨gb299, 3, none⟩ = some (.int .i64 a0_3) ∧ w'.cell? ⟨gb299, 4, none⟩ = some (.slice (some ad303) l0_4.length c0_4) ∧ w'.cell? ⟨gb299, 5, none⟩ = some (.slice A0_5 l0_5.length c0_5) ∧ w'.cell? ⟨go24, ((ji16)).toNat, none⟩ = some (.slice A304_0 (rd_L1 x3_2 (ji16)).length c304_0)) (ds := [20]) #[false, false, false, false, false, false, false, false, false, false, false, false, false, false, false, false, false, false, false, false, false] (by kernel_rfl) rfl rfl ⟨(blk_cell BK299.out 0).trans rfl, (blk_cell BK299.out 1).trans rfl, (blk_cell BK299.out 2).trans rfl, (blk_cell BK299.out 3).trans rfl, (blk_cell BK299.out 4).trans rfl, (blk_cell BK299.out 5).trans rfl, hx304_0⟩ (fun hHeld => ?_); refine with_tabW block_before.tab9 block_before.bits9 (fun HT_ HW_ => ?_)
                            generalize wr.drew = w22 at HO_3 BK299 HB GG24 HH24 HL304_0 HR304_0 HX304_0 UU24 hx304_0 hHeld ⊢
                            refine pure_ (i := 0) (N := some 33) (v := ?_) (a' := ?_) #[true, false, false, false, false, false, false, false, false, false, false, false, false, false, false, false, false, false, false, false, false] rfl rfl (any_of HT_.out (by kernel_rfl)) (fun _ _ _ h => h) (Or.inl ⟨by rfl, ?_⟩) ?_ ?_
                            rotate_left
                            · intro w'
                              go_simp
                              with_reducible rfl
                            rotate_left
                            · simp only [Act.put, List.setIfInBounds_toArray, List.set_cons_zero, List.set_cons_succ, i64_w, i32_w]
                              rfl
                            refine pure_ (i := 1) (N := some 34) (v := ?_) (a' := ?_) #[true, true, false, false, false, false, false, false, false, false, false, false, false, false, false, false, false, false, false, false, false] rfl rfl (any_of HT_.out (by kernel_rfl)) (fun _ _ _ h => h) (Or.inl ⟨by rfl, ?_⟩) ?_ ?_
                            rotate_left
                            · intro w'
                              go_simp
                              with_reducible rfl
                            rotate_left
                            · simp only [Act.put, List.setIfInBounds_toArray, List.set_cons_zero, List.set_cons_succ, i64_w, i32_w]
                              rfl
                            refine pure_ (i := 2) (N := some 35) (v := ?_) (a' := ?_) #[true, true, true, false, false, false, false, false, false, false, false, false, false, false, false, false, false, false, false, false, false] rfl rfl (any_of HT_.out (by kernel_rfl)) (fun _ _ _ h => h) (Or.inl ⟨by rfl, ?_⟩) ?_ ?_
                            rotate_left
                            · intro w'
                              go_simp
                              with_reducible rfl
                            rotate_left
                            · simp only [Act.put, List.setIfInBounds_toArray, List.set_cons_zero, List.set_cons_succ, i64_w, i32_w]
                              rfl
                            refine pure_ (i := 5) (N := some 38) (v := ?_) (a' := ?_) #[true, true, true, false, false, true, false, false, false, false, false, false, false, false, false, false, false, false, false, false, false] rfl rfl (any_of HT_.out (by kernel_rfl)) (fun _ _ _ h => h) (Or.inl ⟨by rfl, ?_⟩) ?_ ?_
                            rotate_left
                            · intro w'
                              go_simp
                              with_reducible rfl
                            rotate_left
                            · simp only [Act.put, List.setIfInBounds_toArray, List.set_cons_zero, List.set_cons_succ, i64_w, i32_w]
                              rfl
                            refine pure_ (i := 7) (N := some 40) (v := ?_) (a' := ?_) #[true, true, true, false, false, true, false, true, false, false, false, false, false, false, false, false, false, false, false, false, false] rfl rfl (any_of HT_.out (by kernel_rfl)) (fun _ _ _ h => h) (Or.inl ⟨by rfl, ?_⟩) ?_ ?_
                            rotate_left
                            · intro w'
                              go_simp
                              with_reducible rfl
                            rotate_left
                            · simp only [Act.put, List.setIfInBounds_toArray, List.set_cons_zero, List.set_cons_succ, i64_w, i32_w]
                              rfl
                            refine pure_ (i := 8) (N := some 41) (v := ?_) (a' := ?_) #[true, true, true, false, false, true, false, true, true, false, false, false, false, false, false, false, false, false, false, false, false] rfl rfl (any_of HT_.out (by kernel_rfl)) (fun _ _ _ h => h) (Or.inl ⟨by rfl, ?_⟩) ?_ ?_
                            rotate_left
                            · intro w'
                              go_simp
                              with_reducible rfl
                            rotate_left
                            · simp only [Act.put, List.setIfInBounds_toArray, List.set_cons_zero, List.set_cons_succ, i64_w, i32_w]
                              rfl
                            refine pure_ (i := 9) (N := some 42) (v := ?_) (a' := ?_) #[true, true, true, false, false, true, false, true, true, true, false, false, false, false, false, false, false, false, false, false, false] rfl rfl (any_of HT_.out (by kernel_rfl)) (fun _ _ _ h => h) (Or.inl ⟨by rfl, ?_⟩) ?_ ?_
                            rotate_left
                            · intro w'
                              go_simp
                              with_reducible rfl
                            rotate_left
                            · simp only [Act.put, List.setIfInBounds_toArray, List.set_cons_zero, List.set_cons_succ, i64_w, i32_w]
                              rfl
                            refine pure_ (i := 12) (N := some 45) (v := ?_) (a' := ?_) #[true, true, true, false, false, true, false, true, true, true, false, false, true, false, false, false, false, false, false, false, false] rfl rfl (any_of HT_.out (by kernel_rfl)) (fun _ _ _ h => h) (Or.inl ⟨by rfl, ?_⟩) ?_ ?_
                            rotate_left
                            · intro w'
                              go_simp
                              with_reducible rfl
                            rotate_left
                            · simp only [Act.put, List.setIfInBounds_toArray, List.set_cons_zero, List.set_cons_succ, i64_w, i32_w]
                              rfl
                            refine pure_ (i := 16) (N := some 49) (v := ?_) (a' := ?_) #[true, true, true, false, false, true, false, true, true, true, false, false, true, false, false, false, true, false, false, false, false] rfl rfl (any_of HT_.out (by kernel_rfl)) (fun _ _ _ h => h) (Or.inl ⟨by rfl, ?_⟩) ?_ ?_
                            rotate_left
                            · intro w'
                              go_simp
                              with_reducible rfl
                            rotate_left
                            · simp only [Act.put, List.setIfInBounds_toArray, List.set_cons_zero, List.set_cons_succ, i64_w, i32_w]
                              rfl
                            refine take_ (i := 3) (N := some 36) (v := ?_) (a' := ?_) #[true, true, true, true, false, true, false, true, true, true, false, false, true, false, false, false, true, false, false, false, false] rfl rfl (take_ofW HT_.out HW_.out (by kernel_rfl)) (fun _ _ _ h => h) (Or.inl ⟨by rfl, ?_⟩) hHeld ?_ ?_
                            rotate_left
                            · rintro w' ⟨s0, s1, s2, s3, s4, s5, s6⟩
                              go_simp
                              with_reducible rfl
                            rotate_left
                            · simp only [Act.put, List.setIfInBounds_toArray, List.set_cons_zero, List.set_cons_succ, i64_w, i32_w]
                              rfl
                            refine pure_ (i := 4) (N := some 37) (v := ?_) (a' := ?_) #[true, true, true, true, true, true, false, true, true, true, false, false, true, false, false, false, true, false, false, false, false] rfl rfl (any_of HT_.out (by kernel_rfl)) (fun _ _ _ h => h) (Or.inl ⟨by rfl, ?_⟩) ?_ ?_
                            rotate_left
                            · intro w'
                              go_simp
                              with_reducible rfl
                            rotate_left
                            · simp only [Act.put, List.setIfInBounds_toArray, List.set_cons_zero, List.set_cons_succ, i64_w, i32_w]
                              rfl
                            refine pure_ (i := 6) (N := some 39) (v := ?_) (a' := ?_) #[true, true, true, true, true, true, true, true, true, true, false, false, true, false, false, false, true, false, false, false, false] rfl rfl (any_of HT_.out (by kernel_rfl)) (fun _ _ _ h => h) (Or.inl ⟨by rfl, ?_⟩) ?_ ?_
                            rotate_left
                            · intro w'
                              go_simp
                              with_reducible rfl
                            rotate_left
                            · simp only [Act.put, List.setIfInBounds_toArray, List.set_cons_zero, List.set_cons_succ, i64_w, i32_w]
                              rfl
                            refine take_ (i := 10) (N := some 43) (v := ?_) (a' := ?_) #[true, true, true, true, true, true, true, true, true, true, true, false, true, false, false, false, true, false, false, false, false] rfl rfl (take_ofW HT_.out HW_.out (by kernel_rfl)) (fun _ _ _ h => h) (Or.inl ⟨by rfl, ?_⟩) hHeld ?_ ?_
                            rotate_left
                            · rintro w' ⟨s0, s1, s2, s3, s4, s5, s6⟩
                              go_simp
                              with_reducible rfl
                            rotate_left
                            · simp only [Act.put, List.setIfInBounds_toArray, List.set_cons_zero, List.set_cons_succ, i64_w, i32_w]
                              rfl
                            refine pure_ (i := 11) (N := some 44) (v := ?_) (a' := ?_) #[true, true, true, true, true, true, true, true, true, true, true, true, true, false, false, false, true, false, false, false, false] rfl rfl (any_of HT_.out (by kernel_rfl)) (fun _ _ _ h => h) (Or.inl ⟨by rfl, ?_⟩) ?_ ?_
                            rotate_left
                            · intro w'
                              go_simp
                              with_reducible rfl
                            rotate_left
                            · simp only [Act.put, List.setIfInBounds_toArray, List.set_cons_zero, List.set_cons_succ, i64_w, i32_w]
                              rfl
                            refine pure_ (i := 13) (N := some 46) (v := ?_) (a' := ?_) #[true, true, true, true, true, true, true, true, true, true, true, true, true, true, false, false, true, false, false, false, false] rfl rfl (any_of HT_.out (by kernel_rfl)) (fun _ _ _ h => h) (Or.inl ⟨by rfl, ?_⟩) ?_ ?_
                            rotate_left
                            · intro w'
                              go_simp
                              with_reducible rfl
                            rotate_left
                            · simp only [Act.put, List.setIfInBounds_toArray, List.set_cons_zero, List.set_cons_succ, i64_w, i32_w]
                              rfl
                            refine pure_ (i := 14) (N := some 47) (v := ?_) (a' := ?_) #[true, true, true, true, true, true, true, true, true, true, true, true, true, true, true, false, true, false, false, false, false] rfl rfl (any_of HT_.out (by kernel_rfl)) (fun _ _ _ h => h) (Or.inl ⟨by rfl, ?_⟩) ?_ ?_
                            rotate_left
                            · intro w'
                              go_simp
                              with_reducible rfl
                            rotate_left
                            · simp only [Act.put, List.setIfInBounds_toArray, List.set_cons_zero, List.set_cons_succ, i64_w, i32_w]
                              rfl
                            refine take_ (i := 15) (N := some 48) (v := ?_) (a' := ?_) #[true, true, true, true, true, true, true, true, true, true, true, true, true, true, true, true, true, false, false, false, false] rfl rfl (take_ofW HT_.out HW_.out (by kernel_rfl)) (fun _ _ _ h => h) (Or.inl ⟨by rfl, ?_⟩) hHeld ?_ ?_
                            rotate_left
                            · rintro w' ⟨s0, s1, s2, s3, s4, s5, s6⟩
                              go_simp
                              with_reducible rfl
                            rotate_left
                            · simp only [Act.put, List.setIfInBounds_toArray, List.set_cons_zero, List.set_cons_succ, i64_w, i32_w]
                              rfl
                            refine one_ (i := 17) (N := some 50) #[true, true, true, true, true, true, true, true, true, true, true, true, true, true, true, true, true, true, false, false, false] rfl rfl (one_of HT_.out (by kernel_rfl)) (by decide) (fun K hK => ?_)
                            refine value_ (w1 := ?_) (v := ?_) (by rfl) rfl ?_ ?_
                            rotate_left 2
                            · go_simp
                              constructor
                              · rfl
                              · rfl
                            refine hK.out _ _ ⟨(blk_cell (blk_alloc BK299.out _) 0).trans rfl, (blk_cell (blk_alloc BK299.out _) 1).trans rfl, (blk_cell (blk_alloc BK299.out _) 2).trans rfl, (blk_cell (blk_alloc BK299.out _) 3).trans rfl, (blk_cell (blk_alloc BK299.out _) 4).trans rfl, (blk_cell (blk_alloc BK299.out _) 5).trans rfl, (World.cell?_alloc_lt _ _ _ (World.block_lt_of_cell? _ _ (hHeld.2.2.2.2.2.2))).trans (hHeld.2.2.2.2.2.2)⟩ (fun hHeld => ?_)
                            clear hK K
                            refine norm_ (a' := ?_) ?_ ?_
                            rotate_left
                            · show Act.put _ (some 50) _ = _
                              simp only [Act.put, List.setIfInBounds_toArray, List.set_cons_zero, List.set_cons_succ, i64_w, i32_w]
                              rfl
                            refine one_ (i := 18) (N := some 51) #[true, true, true, true, true, true, true, true, true, true, true, true, true, true, true, true, true, true, true, false, false] rfl rfl (one_of HT_.out (by kernel_rfl)) (by decide) (fun K hK => ?_)
                            refine Kd.R_append_step (Kd.int .i64) (w0 := w) w.heap.size (by rfl) (.tmp 48) (.tmp 50) 22 3 (.int .i64 0) 8 rfl Try.underlying22 info3 rfl (by decide) (by omega) (.slice A304_0 (rd_L1 x3_2 (ji16)).length c304_0) (rd_L1 x3_2 (ji16)) x15_1 [.int .i64 x15_1] (fun k_ => oki24 k_ ∨ ((fun _ => True)) k_ ∧ w22.heap.size ≤ k_) (fun _ => False) rfl rfl ?aP (fun _ hk => hk.elim) ?aF ?aO ?aB ?aS ?aL ?_
                            (case aP => exact rfl)
                            (case aB => exact (by repeat (first | (with_reducible first | exact HB.out | apply below_alloc | apply pw_below_drewN | apply below_drew1 | refine below_set ?_ GE299.out) | exact HB.out)))
                            (case aF => exact (fun k_ hk => .inr ⟨trivial, hk⟩))
                            (case aO => exact (by (with_reducible repeat (first | apply Kd.R_alloc | apply Kd.R_drewN | apply Kd.R_drew)); exact Kd.R_mono UU24.out (fun _ hk => .inl hk)))
                            (case aS => exact (below_size (by repeat (first | (with_reducible first | exact HB.out | apply below_alloc | apply pw_below_drewN | apply below_drew1 | refine below_set ?_ GE299.out) | exact HB.out))))
                            (case aL => have := LMc19.out; omega)
                            intro v306 w25 ho hb hg hat
                            (first | have HS6_ := cell_grown hg (hHeld.2.2.2.2.2.2) (by first | (rw [add_block]; exact (fun e_ => ((HL304_0.out.1 _ e_.symm).2) rfl)) | (show some (Addr.add _ _).block ≠ _; rw [add_block]; exact (fun e_ => ((HL304_0.out.1 _ e_.symm).2) rfl)) | exact (fun e_ => ((HL304_0.out.1 _ e_.symm).2) rfl)) | have HS6_ := cell_grown hg (cell_unalloc (hHeld.2.2.2.2.2.2) (by first | (rw [add_block]; exact Kd.S_lt HO_3.out _ rfl) | (show (Addr.add _ _).block < _; rw [add_block]; exact Kd.S_lt HO_3.out _ rfl) | exact Kd.S_lt HO_3.out _ rfl)) (by first | (rw [add_block]; exact (fun e_ => ((HL304_0.out.1 _ e_.symm).2) rfl)) | (show some (Addr.add _ _).block ≠ _; rw [add_block]; exact (fun e_ => ((HL304_0.out.1 _ e_.symm).2) rfl)) | exact (fun e_ => ((HL304_0.out.1 _ e_.symm).2) rfl)))
                            rw [← Ny305.out] at ho
                            have n0_ := Aside0.mk (blk_grown (g := gb299) (o := .cells #[.int .i64 a0_0, .int .i64 a0_1, .int .i64 a0_2, .int .i64 a0_3, .slice (some ad303) l0_4.length c0_4, .slice A0_5 l0_5.length c0_5] 53 (0, 0)) (by (with_reducible repeat (first | refine blk_drewN ?_ _ | refine blk_drew ?_ | refine blk_alloc ?_ _)); exact BK299.out) hg (Kd.R_ne HL304_0.out BK299.out (by decide)))
                            have n1_ := Aside0.mk (hb)
                            have n2_ := Aside0.mk (Kd.H_grown (Kd.H_widen (by repeat (first | exact HH24.out | refine Kd.H_alloc ?_ _ | refine Kd.H_drewN ?_ _ | refine Kd.H_drew ?_))) hg (fun k_ e_ => .inl (UU24.out.1 k_ e_)))
                            have n3_ := Aside0.mk (ho)
                            clear BK299
                            clear HB
                            clear HH24
                            clear HO_3
                            clear UU24
                            clear HL304_0
                            have BK299 := n0_
                            have HB := n1_
                            have HH24 := n2_
                            have HO307 := n3_
                            clear n0_ n1_ n2_ n3_
                            clear ho hb hg hat
                            have p20 : 0 ≤ ((ji16) : Int) := of_decide_eq_true (by first | (with_reducible assumption) | assumption)
                            have q20 : ((ji16) : Int) < ((x3_2.length : Int) : Int) := of_decide_eq_true (by first | (with_reducible assumption) | assumption)
                            replace p20 := eq_true p20
                            replace q20 := eq_true q20
                            obtain ⟨Ao28, co28, eo28⟩ := Kd.R_slice HO307.out
                            (first | subst eo28 | (injection eo28 with f1_ f2_ f3_; have f4_ := f1_.symm; have f5_ := f3_.symm; clear f1_ f2_ f3_; subst f4_; subst f5_))
                            obtain ⟨_, _, hraw26, _, _, hcc26, _⟩ := Kd.H_raw HH24.out (of_decide_eq_true (by first | (with_reducible assumption) | assumption)) (by have h_ : ((ji16) : Int) < ((x3_2.length : Int) : Int) := of_decide_eq_true (by first | (with_reducible assumption) | assumption); first | exact h_ | (have e_ := (HN24.out); omega) | simpa using h_)
                            obtain ⟨_, hfr26⟩ := Kd.H_at HH24.out (of_decide_eq_true (by first | (with_reducible assumption) | assumption)) (by have h_ : ((ji16) : Int) < ((x3_2.length : Int) : Int) := of_decide_eq_true (by first | (with_reducible assumption) | assumption); first | exact h_ | (have e_ := (HN24.out); omega) | simpa using h_)
                            have hx26_0 := hcc26 0 _ rfl
                            have hf26_0 := hfr26 0
                            (try simp only [Nat.add_zero] at hx26_0 hf26_0)
                            (try rw [show ((Kd.slice 3 (Kd.int .i64))).sz = 1 from rfl, Nat.mul_one] at hx26_0)
                            (try rw [show ((Kd.slice 3 (Kd.int .i64))).sz = 1 from rfl, Nat.mul_one] at hf26_0)
                            have HP26 := Kd.S_seg0 HH24.out (of_decide_eq_true (by first | (with_reducible assumption) | assumption)) (by have h_ : ((ji16) : Int) < ((x3_2.length : Int) : Int) := of_decide_eq_true (by first | (with_reducible assumption) | assumption); first | exact h_ | (have e_ := (HN24.out); omega) | simpa using h_) (seg := [.slice Ao28 y305.length co28]) (j := 0) (show 1 ≤ 1 from by decide) (x' := y305) (Kd.M_row HO307.out) (fun _ hk => hk)
                            (try simp only [show ((Kd.slice 3 (Kd.int .i64))).sz = 1 from rfl, Nat.mul_one, Nat.add_zero] at HP26)
                            clear hcc26 hfr26
                            have HNB299_go24 := Aside0.mk (show gb299 ≠ go24 from by have h_ := Kd.R_ne hraw26 BK299.out (by decide); intro e_; exact h_ (by rw [e_]; rfl))
                            have HS26 := HP26.1
                            rw [← Ny308.out] at HS26
                            have HQ26 := Aside0.mk HS26
                            obtain ⟨_, hgg26⟩ := Kd.R_typed hraw26 go24 rfl
                            have GG26_ := Aside0.mk hgg26
                            clear HP26 HS26 hgg26
                            refine hK.out _ _ ⟨(blk_cell BK299.out 0).trans rfl, (blk_cell BK299.out 1).trans rfl, (blk_cell BK299.out 2).trans rfl, (blk_cell BK299.out 3).trans rfl, (blk_cell BK299.out 4).trans rfl, (blk_cell BK299.out 5).trans rfl, HS6_⟩ (fun hHeld => ?_)
                            clear hK K
                            refine norm_ (a' := ?_) ?_ ?_
                            rotate_left
                            · show Act.put _ (some 51) _ = _
                              simp only [Act.put, List.setIfInBounds_toArray, List.set_cons_zero, List.set_cons_succ, i64_w, i32_w]
                              rfl
                            refine pure_ (i := 19) (N := some 52) (v := ?_) (a' := ?_) #[true, true, true, true, true, true, true, true, true, true, true, true, true, true, true, true, true, true, true, true, false] rfl rfl (any_of HT_.out (by kernel_rfl)) (fun _ _ _ h => h) (Or.inl ⟨by rfl, ?_⟩) ?_ ?_
                            rotate_left
                            · intro w'
                              go_simp
                              with_reducible rfl
                            rotate_left
                            · simp only [Act.put, List.setIfInBounds_toArray, List.set_cons_zero, List.set_cons_succ, i64_w, i32_w]
                              rfl
                            refine last_ (i := 20) (N := none) #[true, true, true, true, true, true, true, true, true, true, true, true, true, true, true, true, true, true, true, true, true] rfl rfl (one_of HT_.out (by kernel_rfl)) (by decide) (fun K hK => ?_)
                            refine skip_ (w1 := ?_) (by rfl) rfl ?_ ?_
                            rotate_left
                            · go_simp
                              rfl
                            refine hK.out _ _ ?_
                            clear hK K
                            refine done_ (done_of HT_.out (by kernel_rfl)) ?_
                            try go_wp2
                            go_roundg k2
                            case measure => have := HK1.out; have := HK2.out; omega
                            case rel => exact ⟨(y308), (wrap64 (x20_2 + 1)), (by first | rfl | (simp; done) | (simp [*]; done)), H', ⟨by have := HK1.out; have := HK2.out; omega⟩, ⟨by (with_reducible repeat (first | apply Kd.S_alloc | apply Kd.S_drewN | apply Kd.S_drew)); exact HQ26.out⟩, ⟨by (with_reducible repeat (first | refine blk_drewN ?_ _ | refine blk_drew ?_ | refine blk_alloc ?_ _)); refine blk_far ?_ HNB299_go24.out _; (with_reducible repeat (first | refine blk_drewN ?_ _ | refine blk_drew ?_ | refine blk_alloc ?_ _)); exact BK299.out⟩, ⟨by repeat (first | (with_reducible first | exact HB.out | apply below_alloc | apply pw_below_drewN | apply below_drew1 | refine below_set ?_ GB24.out | refine below_set ?_ GE299.out) | exact HB.out)⟩⟩
                          · rw [if_neg c19] at H
                            exact absurd H (by simp)
                        · rw [if_neg c18] at H
                          exact absurd H (by simp)
                      · rw [if_neg c17] at H
                        exact absurd H (by simp)
                    · rw [if_neg c15] at H
                      exact absurd H (by simp)
                  · rw [if_neg c14] at H
                    exact absurd H (by simp)
                · rw [if_neg c12] at H
                  have c12b0 : decide (x20_2 < a0_1) = false := decide_eq_false c12
                  clear c12
                  have H' := Aside0.mk H
                  clear H
                  go_wp2
                  go_roundg k2
                  case measure => have := HK1.out; have := HK2.out; omega
                  case rel => exact ⟨(x3_2), (wrap64 (x15_1 + 1)), (by first | rfl | (simp; done) | (simp [*]; done)), H', ⟨by have := HK1.out; have := HK2.out; omega⟩, ⟨by (with_reducible repeat (first | apply Kd.S_alloc | apply Kd.S_drewN | apply Kd.S_drew)); exact HO_3.out⟩, ⟨by (with_reducible repeat (first | refine blk_drewN ?_ _ | refine blk_drew ?_ | refine blk_alloc ?_ _)); exact BK299.out⟩, ⟨by repeat (first | (with_reducible first | exact HB.out | apply below_alloc | apply pw_below_drewN | apply below_drew1 | refine below_set ?_ GE299.out) | exact HB.out)⟩⟩
          · rw [if_neg c10] at H
            have c10b0 : decide (x15_1 < a0_3) = false := decide_eq_false c10
            clear c10
            obtain rfl := Option.some.inj H
            go_wp2
            go_ret
            exact ⟨_, by first | rfl | (simp [errW_none, errW_some] <;> rfl) | (simp only [← hji2]; first | rfl | (simp [errW_none, errW_some] <;> rfl)) | (simp [*, errW_none, errW_some] <;> rfl), by (with_reducible repeat (first | apply Kd.S_alloc | apply Kd.S_drewN | apply Kd.S_drew)); exact HO_3.out, by repeat (first | (with_reducible first | exact HB.out | apply below_alloc | apply pw_below_drewN | apply below_drew1 | refine below_set ?_ GE299.out) | exact HB.out)⟩
    · rw [if_neg c4] at H
      exact absurd H (by simp)
  · rw [if_neg c3] at H
    exact absurd H (by simp)
end Go.Proofs.Ytdalpaobkmoomaa.X
end

section
namespace Go.Proofs.Ytdalpaobkmoomaa.X
open Go.RowKit Go.Proofs.YtdalpaobkmoomaaW.PrintWords Go.Proofs.YtdalpaobkmoomaaW.PrintLast Go.Proofs.YtdalpaobkmoomaaW.PrintMore
attribute [local go_sem] max2_int min2_int max_two min_two max_three min_three max_four min_four   -- for this text's walks alone
set_option linter.unusedVariables false
set_option linter.unusedSimpArgs false
def machine_says.f (a0_0 : Int) (a0_1 : Int) (a0_2 : Int) (a0_3 : Int) (l0_4 : List Int) (l0_5 : List Int) : Option (Int) := if a0_0 = 1 then (some a0_3) else (some (wrap64 (a0_3 * a0_1)))
set_option maxHeartbeats 8000000 in
set_option maxRecDepth 100000 in
theorem machine_says.calls (a0_0 : Int) (a0_1 : Int) (a0_2 : Int) (a0_3 : Int) (A0_4 : Option Addr) (c0_4 : Nat) (l0_4 : List Int) (A0_5 : Option Addr) (c0_5 : Nat) (l0_5 : List Int) (r : Int) (w : World) (hr0_4 : Kd.C (Kd.int .i64) w A0_4 l0_4.length l0_4) (hc0_4 : l0_4.length ≤ c0_4) (hr0_5 : Kd.C (Kd.int .i64) w A0_5 l0_5.length l0_5) (hc0_5 : l0_5.length ≤ c0_5) (h : machine_says.f a0_0 a0_1 a0_2 a0_3 l0_4 l0_5 = some r) :
    Calls Try.prog 57 #[.agg #[.int .i64 a0_0, .int .i64 a0_1, .int .i64 a0_2, .int .i64 a0_3, .slice A0_4 l0_4.length c0_4, .slice A0_5 l0_5.length c0_5]] w fun e w' => e = .returned (.int .i64 r) ∧ Below w.heap.size w w' := by
  have hu53 := Try.underlying53
  have HR0_4 := Aside0.mk hr0_4
  have HC0_4 := Aside0.mk hc0_4
  clear hr0_4 hc0_4
  have HR0_5 := Aside0.mk hr0_5
  have HC0_5 := Aside0.mk hc0_5
  clear hr0_5 hc0_5
  have HB := Aside0.mk (Below.refl w.heap.size w)
  have H : (if a0_0 = 1 then (some a0_3) else (some (wrap64 (a0_3 * a0_1)))) = some r := h
  clear h
  by_cases c2 : a0_0 = 1
  · rw [if_pos c2] at H
    have c2b0 : (a0_0 == 1) = true := beq_iff_eq.mpr c2
    have c2b1 : (a0_0 != 1) = false := bne_eq_false_iff_eq.mpr c2
    clear c2
    obtain rfl := Option.some.inj H
    go_enter Try.func57, Try.ntmps57
    go_wp2_with (first | ((with_reducible refine gate_dst (N := 1) rfl ?_); refine box_event ?hg (N := 1) ?hd (cs := #[.int .i64 a0_0, .int .i64 a0_1, .int .i64 a0_2, .int .i64 a0_3, .slice A0_4 l0_4.length c0_4, .slice A0_5 l0_5.length c0_5]) (t := 53) ?hr ?_; (case hd => rfl); (case hg => rfl); (case hr => first | (go_simp; done) | (go_simp; rfl)); intro gb291 hg w3 hbox hb; have n0_ := Aside0.mk (below_step (by repeat (first | (with_reducible first | exact HB.out | apply below_alloc | apply pw_below_drewN | apply below_drew1) | exact HB.out)) hb); have n1_ := Aside0.mk (hbox); have n2_ := Aside0.mk ((by rw [hg]; exact (below_size (by repeat (first | (with_reducible first | exact HB.out | apply below_alloc | apply pw_below_drewN | apply below_drew1) | exact HB.out))) : w.heap.size ≤ gb291)); have n3_ := Aside0.mk ((by rw [hg]; exact (below_size (by repeat (first | (with_reducible first | exact HB.out | apply below_alloc | apply pw_below_drewN | apply below_drew1) | exact HB.out))) : w.heap.size ≤ gb291)); clear HB; have HB := n0_; have BK291 := n1_; have GW291 := n2_; have GE291 := n3_; clear n0_ n1_ n2_ n3_; clear hb hbox hg; have hcz4_0 : w3.cell? ⟨gb291, 0, none⟩ = some (.int .i64 a0_0) := (blk_cell BK291.out 0).trans rfl; have hcz4_1 : w3.cell? ⟨gb291, 1, none⟩ = some (.int .i64 a0_1) := (blk_cell BK291.out 1).trans rfl; have hcz4_2 : w3.cell? ⟨gb291, 2, none⟩ = some (.int .i64 a0_2) := (blk_cell BK291.out 2).trans rfl; have hcz4_3 : w3.cell? ⟨gb291, 3, none⟩ = some (.int .i64 a0_3) := (blk_cell BK291.out 3).trans rfl; have hcz4_4 : w3.cell? ⟨gb291, 4, none⟩ = some (.slice A0_4 l0_4.length c0_4) := (blk_cell BK291.out 4).trans rfl; have hcz4_5 : w3.cell? ⟨gb291, 5, none⟩ = some (.slice A0_5 l0_5.length c0_5) := (blk_cell BK291.out 5).trans rfl; have hfz4_0 := blk_frozen BK291.out 0; have hfz4_1 := blk_frozen BK291.out 1; have hfz4_2 := blk_frozen BK291.out 2; have hfz4_3 := blk_frozen BK291.out 3; have hfz4_4 := blk_frozen BK291.out 4; have hfz4_5 := blk_frozen BK291.out 5))
    go_ret
    exact ⟨by first | rfl | (simp [errW_none, errW_some] <;> rfl) | (simp [*, errW_none, errW_some] <;> rfl), by repeat (first | (with_reducible first | exact HB.out | apply below_alloc | apply pw_below_drewN | apply below_drew1 | refine below_set ?_ GE291.out) | exact HB.out)⟩
  · rw [if_neg c2] at H
    have c2b0 : (a0_0 == 1) = false := beq_eq_false_iff_ne.mpr c2
    have c2b1 : (a0_0 != 1) = true := bne_iff_ne.mpr c2
    obtain rfl := Option.some.inj H
    go_enter Try.func57, Try.ntmps57
    go_wp2_with (first | ((with_reducible refine gate_dst (N := 1) rfl ?_); refine box_event ?hg (N := 1) ?hd (cs := #[.int .i64 a0_0, .int .i64 a0_1, .int .i64 a0_2, .int .i64 a0_3, .slice A0_4 l0_4.length c0_4, .slice A0_5 l0_5.length c0_5]) (t := 53) ?hr ?_; (case hd => rfl); (case hg => rfl); (case hr => first | (go_simp; done) | (go_simp; rfl)); intro gb291 hg w5 hbox hb; have n0_ := Aside0.mk (below_step (by repeat (first | (with_reducible first | exact HB.out | apply below_alloc | apply pw_below_drewN | apply below_drew1) | exact HB.out)) hb); have n1_ := Aside0.mk (hbox); have n2_ := Aside0.mk ((by rw [hg]; exact (below_size (by repeat (first | (with_reducible first | exact HB.out | apply below_alloc | apply pw_below_drewN | apply below_drew1) | exact HB.out))) : w.heap.size ≤ gb291)); have n3_ := Aside0.mk ((by rw [hg]; exact (below_size (by repeat (first | (with_reducible first | exact HB.out | apply below_alloc | apply pw_below_drewN | apply below_drew1) | exact HB.out))) : w.heap.size ≤ gb291)); clear HB; have HB := n0_; have BK291 := n1_; have GW291 := n2_; have GE291 := n3_; clear n0_ n1_ n2_ n3_; clear hb hbox hg; have hcz6_0 : w5.cell? ⟨gb291, 0, none⟩ = some (.int .i64 a0_0) := (blk_cell BK291.out 0).trans rfl; have hcz6_1 : w5.cell? ⟨gb291, 1, none⟩ = some (.int .i64 a0_1) := (blk_cell BK291.out 1).trans rfl; have hcz6_2 : w5.cell? ⟨gb291, 2, none⟩ = some (.int .i64 a0_2) := (blk_cell BK291.out 2).trans rfl; have hcz6_3 : w5.cell? ⟨gb291, 3, none⟩ = some (.int .i64 a0_3) := (blk_cell BK291.out 3).trans rfl; have hcz6_4 : w5.cell? ⟨gb291, 4, none⟩ = some (.slice A0_4 l0_4.length c0_4) := (blk_cell BK291.out 4).trans rfl; have hcz6_5 : w5.cell? ⟨gb291, 5, none⟩ = some (.slice A0_5 l0_5.length c0_5) := (blk_cell BK291.out 5).trans rfl; have hfz6_0 := blk_frozen BK291.out 0; have hfz6_1 := blk_frozen BK291.out 1; have hfz6_2 := blk_frozen BK291.out 2; have hfz6_3 := blk_frozen BK291.out 3; have hfz6_4 := blk_frozen BK291.out 4; have hfz6_5 := blk_frozen BK291.out 5))
    go_ret
    exact ⟨by first | rfl | (simp [errW_none, errW_some] <;> rfl) | (simp [*, errW_none, errW_some] <;> rfl), by repeat (first | (with_reducible first | exact HB.out | apply below_alloc | apply pw_below_drewN | apply below_drew1 | refine below_set ?_ GE291.out) | exact HB.out)⟩
end Go.Proofs.Ytdalpaobkmoomaa.X
end

section
namespace Go.Proofs.Ytdalpaobkmoomaa.X
open Go.RowKit Go.Proofs.YtdalpaobkmoomaaW.PrintWords Go.Proofs.YtdalpaobkmoomaaW.PrintLast Go.Proofs.YtdalpaobkmoomaaW.PrintMore
attribute [local go_sem] max2_int min2_int max_two min_two max_three min_three max_four min_four   -- for this text's walks alone
set_option linter.unusedVariables false
set_option linter.unusedSimpArgs false
mutual
def machine_head.j0 : Nat → Bool → Int → Int → Int → Int → List Int → List Int → Option (Int)
  | 0, _, _, _, _, _, _, _ => none
  | k + 1, x3, x293000, x293001, x293002, x293003, x293004, x293005 => if x3 = true then (some 30) else (if x293001 < 1 then (machine_head.j1 k (decide (x293001 < 1)) x293000 x293001 x293002 x293003 x293004 x293005) else (machine_head.j1 k (decide (x293001 > 64)) x293000 x293001 x293002 x293003 x293004 x293005))
def machine_head.j1 : Nat → Bool → Int → Int → Int → Int → List Int → List Int → Option (Int)
  | 0, _, _, _, _, _, _, _ => none
  | k + 1, x12, x293000, x293001, x293002, x293003, x293004, x293005 => if x12 = true then (some 1) else (if x293000 = 1 then (machine_head.j2 k (x293002 != 2) x293000 x293001 x293002 x293003 x293004 x293005) else (machine_head.j2 k false x293000 x293001 x293002 x293003 x293004 x293005))
def machine_head.j2 : Nat → Bool → Int → Int → Int → Int → List Int → List Int → Option (Int)
  | 0, _, _, _, _, _, _, _ => none
  | k + 1, x19, x293000, x293001, x293002, x293003, x293004, x293005 => if x19 = true then (some 33) else (if x293002 < 1 then (machine_head.j3 k (decide (x293002 < 1)) x293000 x293001 x293002 x293003 x293004 x293005) else (machine_head.j3 k (decide (x293002 > 64)) x293000 x293001 x293002 x293003 x293004 x293005))
def machine_head.j3 : Nat → Bool → Int → Int → Int → Int → List Int → List Int → Option (Int)
  | 0, _, _, _, _, _, _, _ => none
  | k + 1, x28, x293000, x293001, x293002, x293003, x293004, x293005 => if x28 = true then (some 33) else (if x293003 < 1 then (machine_head.j4 k (decide (x293003 < 1)) x293000 x293001 x293002 x293003 x293004 x293005) else (machine_head.j4 k (decide (x293003 > 1024)) x293000 x293001 x293002 x293003 x293004 x293005))
def machine_head.j4 : Nat → Bool → Int → Int → Int → Int → List Int → List Int → Option (Int)
  | 0, _, _, _, _, _, _, _ => none
  | k + 1, x35, x293000, x293001, x293002, x293003, x293004, x293005 => if x35 = true then (some 3) else (if (x293004.length : Int) = (wrap64 (x293003 * x293001)) then ((machine_says.f x293000 x293001 x293002 x293003 x293004 x293005).bind fun t293 => (if (x293005.length : Int) = t293 then (some 0) else (some 31))) else (some 31))
end
def machine_head.f (k : Nat) (a0_0 : Int) (a0_1 : Int) (a0_2 : Int) (a0_3 : Int) (l0_4 : List Int) (l0_5 : List Int) : Option (Int) := if a0_0 = 1 then (machine_head.j0 k false a0_0 a0_1 a0_2 a0_3 l0_4 l0_5) else (machine_head.j0 k (a0_0 != 2) a0_0 a0_1 a0_2 a0_3 l0_4 l0_5)
set_option maxHeartbeats 8000000 in
set_option maxRecDepth 100000 in
theorem machine_head.calls (k : Nat) (a0_0 : Int) (a0_1 : Int) (a0_2 : Int) (a0_3 : Int) (A0_4 : Option Addr) (c0_4 : Nat) (l0_4 : List Int) (A0_5 : Option Addr) (c0_5 : Nat) (l0_5 : List Int) (r : Int) (w : World) (hr0_4 : Kd.C (Kd.int .i64) w A0_4 l0_4.length l0_4) (hc0_4 : l0_4.length ≤ c0_4) (hr0_5 : Kd.C (Kd.int .i64) w A0_5 l0_5.length l0_5) (hc0_5 : l0_5.length ≤ c0_5) (h : machine_head.f k a0_0 a0_1 a0_2 a0_3 l0_4 l0_5 = some r) :
    Calls Try.prog 43 #[.agg #[.int .i64 a0_0, .int .i64 a0_1, .int .i64 a0_2, .int .i64 a0_3, .slice A0_4 l0_4.length c0_4, .slice A0_5 l0_5.length c0_5]] w fun e w' => e = .returned (.int .i64 r) ∧ Below w.heap.size w w' := by
  have hu53 := Try.underlying53
  have HR0_4 := Aside0.mk hr0_4
  have HC0_4 := Aside0.mk hc0_4
  clear hr0_4 hc0_4
  have HR0_5 := Aside0.mk hr0_5
  have HC0_5 := Aside0.mk hc0_5
  clear hr0_5 hc0_5
  have HB := Aside0.mk (Below.refl w.heap.size w)
  have H : (if a0_0 = 1 then (machine_head.j0 k false a0_0 a0_1 a0_2 a0_3 l0_4 l0_5) else (machine_head.j0 k (a0_0 != 2) a0_0 a0_1 a0_2 a0_3 l0_4 l0_5)) = some r := h
  clear h
  have HC2 := Aside0.mk H
  clear H
  go_enter Try.func43, Try.ntmps43
  go_upto_region 1 with (first | ((with_reducible refine gate_dst (N := 1) rfl ?_); refine box_event ?hg (N := 1) ?hd (cs := #[.int .i64 a0_0, .int .i64 a0_1, .int .i64 a0_2, .int .i64 a0_3, .slice A0_4 l0_4.length c0_4, .slice A0_5 l0_5.length c0_5]) (t := 53) ?hr ?_; (case hd => rfl); (case hg => rfl); (case hr => first | (go_simp; done) | (go_simp; rfl)); intro gb292 hg w3 hbox hb; have n0_ := Aside0.mk (below_step (by repeat (first | (with_reducible first | exact HB.out | apply below_alloc | apply pw_below_drewN | apply below_drew1) | exact HB.out)) hb); have n1_ := Aside0.mk (hbox); have n2_ := Aside0.mk ((by rw [hg]; exact (below_size (by repeat (first | (with_reducible first | exact HB.out | apply below_alloc | apply pw_below_drewN | apply below_drew1) | exact HB.out))) : w.heap.size ≤ gb292)); have n3_ := Aside0.mk ((by rw [hg]; exact (below_size (by repeat (first | (with_reducible first | exact HB.out | apply below_alloc | apply pw_below_drewN | apply below_drew1) | exact HB.out))) : w.heap.size ≤ gb292)); clear HB; have HB := n0_; have BK292 := n1_; have GW292 := n2_; have GE292 := n3_; clear n0_ n1_ n2_ n3_; clear hb hbox hg))
  (try simp only [Act.put, List.setIfInBounds_toArray, List.set_cons_zero, List.set_cons_succ])
  go_cut [3] (fun v3 wc => ∃ (kq : Nat) (x3_1 : Bool), v3 = .bool x3_1 ∧ Aside0 (machine_head.j0 kq x3_1 a0_0 a0_1 a0_2 a0_3 l0_4 l0_5 = some r) ∧ Aside0 (kq ≤ k) ∧ Aside0 (wc.heap[gb292]? = some (.cells #[.int .i64 a0_0, .int .i64 a0_1, .int .i64 a0_2, .int .i64 a0_3, (.slice A0_4 l0_4.length c0_4), (.slice A0_5 l0_5.length c0_5)] 53 (0, 0))) ∧ Aside0 (Below w.heap.size w wc))
  case first =>
    have H := HC2.out
    clear HC2
    by_cases c4 : a0_0 = 1
    · rw [if_pos c4] at H
      have c4b0 : (a0_0 == 1) = true := beq_iff_eq.mpr c4
      have c4b1 : (a0_0 != 1) = false := bne_eq_false_iff_eq.mpr c4
      clear c4
      (first | rw [c4b0] | (simp only [i64_w, i32_w]; rw [c4b0]) | skip)
      have H' := Aside0.mk H
      clear H
      have hcz5_0 : w3.cell? ⟨gb292, 0, none⟩ = some (.int .i64 a0_0) := (blk_cell BK292.out 0).trans rfl
      have hcz5_1 : w3.cell? ⟨gb292, 1, none⟩ = some (.int .i64 a0_1) := (blk_cell BK292.out 1).trans rfl
      have hcz5_2 : w3.cell? ⟨gb292, 2, none⟩ = some (.int .i64 a0_2) := (blk_cell BK292.out 2).trans rfl
      have hcz5_3 : w3.cell? ⟨gb292, 3, none⟩ = some (.int .i64 a0_3) := (blk_cell BK292.out 3).trans rfl
      have hcz5_4 : w3.cell? ⟨gb292, 4, none⟩ = some (.slice A0_4 l0_4.length c0_4) := (blk_cell BK292.out 4).trans rfl
      have hcz5_5 : w3.cell? ⟨gb292, 5, none⟩ = some (.slice A0_5 l0_5.length c0_5) := (blk_cell BK292.out 5).trans rfl
      have hfz5_0 := blk_frozen BK292.out 0
      have hfz5_1 := blk_frozen BK292.out 1
      have hfz5_2 := blk_frozen BK292.out 2
      have hfz5_3 := blk_frozen BK292.out 3
      have hfz5_4 := blk_frozen BK292.out 4
      have hfz5_5 := blk_frozen BK292.out 5
      go_wp2
      go_meet
      case rel => exact ⟨_, (false), (by first | rfl | (simp; done) | (simp [*]; done)), H', ⟨by first | omega | exact Nat.le_refl _⟩, ⟨by (with_reducible repeat (first | refine blk_drewN ?_ _ | refine blk_drew ?_ | refine blk_alloc ?_ _)); exact BK292.out⟩, ⟨by repeat (first | (with_reducible first | exact HB.out | apply below_alloc | apply pw_below_drewN | apply below_drew1 | refine below_set ?_ GE292.out) | exact HB.out)⟩⟩
    · rw [if_neg c4] at H
      have c4b0 : (a0_0 == 1) = false := beq_eq_false_iff_ne.mpr c4
      have c4b1 : (a0_0 != 1) = true := bne_iff_ne.mpr c4
      (first | rw [c4b0] | (simp only [i64_w, i32_w]; rw [c4b0]) | skip)
      have H' := Aside0.mk H
      clear H
      have hcz6_0 : w3.cell? ⟨gb292, 0, none⟩ = some (.int .i64 a0_0) := (blk_cell BK292.out 0).trans rfl
      have hcz6_1 : w3.cell? ⟨gb292, 1, none⟩ = some (.int .i64 a0_1) := (blk_cell BK292.out 1).trans rfl
      have hcz6_2 : w3.cell? ⟨gb292, 2, none⟩ = some (.int .i64 a0_2) := (blk_cell BK292.out 2).trans rfl
      have hcz6_3 : w3.cell? ⟨gb292, 3, none⟩ = some (.int .i64 a0_3) := (blk_cell BK292.out 3).trans rfl
      have hcz6_4 : w3.cell? ⟨gb292, 4, none⟩ = some (.slice A0_4 l0_4.length c0_4) := (blk_cell BK292.out 4).trans rfl
      have hcz6_5 : w3.cell? ⟨gb292, 5, none⟩ = some (.slice A0_5 l0_5.length c0_5) := (blk_cell BK292.out 5).trans rfl
      have hfz6_0 := blk_frozen BK292.out 0
      have hfz6_1 := blk_frozen BK292.out 1
      have hfz6_2 := blk_frozen BK292.out 2
      have hfz6_3 := blk_frozen BK292.out 3
      have hfz6_4 := blk_frozen BK292.out 4
      have hfz6_5 := blk_frozen BK292.out 5
      go_wp2
      go_meet
      case rel => exact ⟨_, ((a0_0 != 2)), (by first | rfl | (simp; done) | (simp [*]; done)), H', ⟨by first | omega | exact Nat.le_refl _⟩, ⟨by (with_reducible repeat (first | refine blk_drewN ?_ _ | refine blk_drew ?_ | refine blk_alloc ?_ _)); exact BK292.out⟩, ⟨by repeat (first | (with_reducible first | exact HB.out | apply below_alloc | apply pw_below_drewN | apply below_drew1 | refine below_set ?_ GE292.out) | exact HB.out)⟩⟩
  case rest =>
    clear HC2
    try clear p2
    try clear c4
    try clear c4b0
    try clear c4b1
    try clear hcz5_0
    try clear hcz5_1
    try clear hcz5_2
    try clear hcz5_3
    try clear hcz5_4
    try clear hcz5_5
    try clear hcz6_0
    try clear hcz6_1
    try clear hcz6_2
    try clear hcz6_3
    try clear hcz6_4
    try clear hcz6_5
    try clear hfz5_0
    try clear hfz5_1
    try clear hfz5_2
    try clear hfz5_3
    try clear hfz5_4
    try clear hfz5_5
    try clear hfz6_0
    try clear hfz6_1
    try clear hfz6_2
    try clear hfz6_3
    try clear hfz6_4
    try clear hfz6_5
    obtain ⟨kq, x3_1, rfl, HA, HJ1, BK292, HB⟩ := hcut
    cases kq with
    | zero => exact absurd HA.out (by simp [machine_head.j0])
    | succ kj1 =>
      have H := HA.out
      clear HA
      simp only [machine_head.j0] at H
      by_cases c7 : x3_1 = true
      · subst c7
        have H1 : (some 30) = some r := by rw [if_pos rfl] at H; exact H
        clear H
        have H := H1
        clear H1
        obtain rfl := Option.some.inj H
        go_wp2
        go_ret
        exact ⟨by first | rfl | (simp [errW_none, errW_some] <;> rfl) | (simp [*, errW_none, errW_some] <;> rfl), by repeat (first | (with_reducible first | exact HB.out | apply below_alloc | apply pw_below_drewN | apply below_drew1 | refine below_set ?_ GE292.out) | exact HB.out)⟩
      · replace c7 := Bool.eq_false_iff.mpr c7
        subst c7
        have H1 : (if a0_1 < 1 then (machine_head.j1 kj1 (decide (a0_1 < 1)) a0_0 a0_1 a0_2 a0_3 l0_4 l0_5) else (machine_head.j1 kj1 (decide (a0_1 > 64)) a0_0 a0_1 a0_2 a0_3 l0_4 l0_5)) = some r := by rw [if_neg (show ¬ (false = true) by decide)] at H; exact H
        clear H
        have H := H1
        clear H1
        have HC8 := Aside0.mk H
        clear H
        have hcz9_0 : wc.cell? ⟨gb292, 0, none⟩ = some (.int .i64 a0_0) := (blk_cell BK292.out 0).trans rfl
        have hcz9_1 : wc.cell? ⟨gb292, 1, none⟩ = some (.int .i64 a0_1) := (blk_cell BK292.out 1).trans rfl
        have hcz9_2 : wc.cell? ⟨gb292, 2, none⟩ = some (.int .i64 a0_2) := (blk_cell BK292.out 2).trans rfl
        have hcz9_3 : wc.cell? ⟨gb292, 3, none⟩ = some (.int .i64 a0_3) := (blk_cell BK292.out 3).trans rfl
        have hcz9_4 : wc.cell? ⟨gb292, 4, none⟩ = some (.slice A0_4 l0_4.length c0_4) := (blk_cell BK292.out 4).trans rfl
        have hcz9_5 : wc.cell? ⟨gb292, 5, none⟩ = some (.slice A0_5 l0_5.length c0_5) := (blk_cell BK292.out 5).trans rfl
        have hfz9_0 := blk_frozen BK292.out 0
        have hfz9_1 := blk_frozen BK292.out 1
        have hfz9_2 := blk_frozen BK292.out 2
        have hfz9_3 := blk_frozen BK292.out 3
        have hfz9_4 := blk_frozen BK292.out 4
        have hfz9_5 := blk_frozen BK292.out 5
        go_upto_if 12 with (fail)
        go_cut [12] (fun v12 wc => ∃ (kq : Nat) (x12_7 : Bool), v12 = .bool x12_7 ∧ Aside0 (machine_head.j1 kq x12_7 a0_0 a0_1 a0_2 a0_3 l0_4 l0_5 = some r) ∧ Aside0 (kq ≤ kj1) ∧ Aside0 (wc.heap[gb292]? = some (.cells #[.int .i64 a0_0, .int .i64 a0_1, .int .i64 a0_2, .int .i64 a0_3, (.slice A0_4 l0_4.length c0_4), (.slice A0_5 l0_5.length c0_5)] 53 (0, 0))) ∧ Aside0 (Below w.heap.size w wc))
        case first =>
          have H := HC8.out
          clear HC8
          by_cases c10 : a0_1 < 1
          · rw [if_pos c10] at H
            have c10b0 : decide (a0_1 < 1) = true := decide_eq_true c10
            clear c10
            (first | rw [c10b0] | (simp only [i64_w, i32_w]; rw [c10b0]) | skip)
            have H' := Aside0.mk H
            clear H
            go_wp2
            go_meet
            case rel => exact ⟨_, (decide (a0_1 < 1)), (by first | rfl | (simp; done) | (simp [*]; done)), H', ⟨by have := HJ1.out; first | omega | exact Nat.le_refl _⟩, ⟨by (with_reducible repeat (first | refine blk_drewN ?_ _ | refine blk_drew ?_ | refine blk_alloc ?_ _)); exact BK292.out⟩, ⟨by repeat (first | (with_reducible first | exact HB.out | apply below_alloc | apply pw_below_drewN | apply below_drew1 | refine below_set ?_ GE292.out) | exact HB.out)⟩⟩
          · rw [if_neg c10] at H
            have c10b0 : decide (a0_1 < 1) = false := decide_eq_false c10
            clear c10
            (first | rw [c10b0] | (simp only [i64_w, i32_w]; rw [c10b0]) | skip)
            have H' := Aside0.mk H
            clear H
            have hcz11_0 : wc.cell? ⟨gb292, 0, none⟩ = some (.int .i64 a0_0) := (blk_cell BK292.out 0).trans rfl
            have hcz11_1 : wc.cell? ⟨gb292, 1, none⟩ = some (.int .i64 a0_1) := (blk_cell BK292.out 1).trans rfl
            have hcz11_2 : wc.cell? ⟨gb292, 2, none⟩ = some (.int .i64 a0_2) := (blk_cell BK292.out 2).trans rfl
            have hcz11_3 : wc.cell? ⟨gb292, 3, none⟩ = some (.int .i64 a0_3) := (blk_cell BK292.out 3).trans rfl
            have hcz11_4 : wc.cell? ⟨gb292, 4, none⟩ = some (.slice A0_4 l0_4.length c0_4) := (blk_cell BK292.out 4).trans rfl
            have hcz11_5 : wc.cell? ⟨gb292, 5, none⟩ = some (.slice A0_5 l0_5.length c0_5) := (blk_cell BK292.out 5).trans rfl
            have hfz11_0 := blk_frozen BK292.out 0
            have hfz11_1 := blk_frozen BK292.out 1
            have hfz11_2 := blk_frozen BK292.out 2
            have hfz11_3 := blk_frozen BK292.out 3
            have hfz11_4 := blk_frozen BK292.out 4
            have hfz11_5 := blk_frozen BK292.out 5
            go_wp2
            go_meet
            case rel => exact ⟨_, (decide (a0_1 > 64)), (by first | rfl | (simp; done) | (simp [*]; done)), H', ⟨by have := HJ1.out; first | omega | exact Nat.le_refl _⟩, ⟨by (with_reducible repeat (first | refine blk_drewN ?_ _ | refine blk_drew ?_ | refine blk_alloc ?_ _)); exact BK292.out⟩, ⟨by repeat (first | (with_reducible first | exact HB.out | apply below_alloc | apply pw_below_drewN | apply below_drew1 | refine below_set ?_ GE292.out) | exact HB.out)⟩⟩
        case rest =>
          clear HC8
          try clear c1
          try clear p2
          try clear c4
          try clear c4b0
          try clear c4b1
          try clear c7
          try clear c10
          try clear c10b0
          try clear hcz11_0
          try clear hcz11_1
          try clear hcz11_2
          try clear hcz11_3
          try clear hcz11_4
          try clear hcz11_5
          try clear hcz5_0
          try clear hcz5_1
          try clear hcz5_2
          try clear hcz5_3
          try clear hcz5_4
          try clear hcz5_5
          try clear hcz6_0
          try clear hcz6_1
          try clear hcz6_2
          try clear hcz6_3
          try clear hcz6_4
          try clear hcz6_5
          try clear hcz9_0
          try clear hcz9_1
          try clear hcz9_2
          try clear hcz9_3
          try clear hcz9_4
          try clear hcz9_5
          try clear hfz11_0
          try clear hfz11_1
          try clear hfz11_2
          try clear hfz11_3
          try clear hfz11_4
          try clear hfz11_5
          try clear hfz5_0
          try clear hfz5_1
          try clear hfz5_2
          try clear hfz5_3
          try clear hfz5_4
          try clear hfz5_5
          try clear hfz6_0
          try clear hfz6_1
          try clear hfz6_2
          try clear hfz6_3
          try clear hfz6_4
          try clear hfz6_5
          try clear hfz9_0
          try clear hfz9_1
          try clear hfz9_2
          try clear hfz9_3
          try clear hfz9_4
          try clear hfz9_5
          try clear p2
          obtain ⟨kq, x12_7, rfl, HA, HJ7, BK292, HB⟩ := hcut
          cases kq with
          | zero => exact absurd HA.out (by simp [machine_head.j1])
          | succ kj7 =>
            have H := HA.out
            clear HA
            simp only [machine_head.j1] at H
            by_cases c12 : x12_7 = true
            · subst c12
              have H1 : (some 1) = some r := by rw [if_pos rfl] at H; exact H
              clear H
              have H := H1
              clear H1
              obtain rfl := Option.some.inj H
              go_wp2
              go_ret
              exact ⟨by first | rfl | (simp [errW_none, errW_some] <;> rfl) | (simp [*, errW_none, errW_some] <;> rfl), by repeat (first | (with_reducible first | exact HB.out | apply below_alloc | apply pw_below_drewN | apply below_drew1 | refine below_set ?_ GE292.out) | exact HB.out)⟩
            · replace c12 := Bool.eq_false_iff.mpr c12
              subst c12
              have H1 : (if a0_0 = 1 then (machine_head.j2 kj7 (a0_2 != 2) a0_0 a0_1 a0_2 a0_3 l0_4 l0_5) else (machine_head.j2 kj7 false a0_0 a0_1 a0_2 a0_3 l0_4 l0_5)) = some r := by rw [if_neg (show ¬ (false = true) by decide)] at H; exact H
              clear H
              have H := H1
              clear H1
              have HC13 := Aside0.mk H
              clear H
              go_upto_region 4 with (fail)
              go_cut [19] (fun v19 wc => ∃ (kq : Nat) (x19_12 : Bool), v19 = .bool x19_12 ∧ Aside0 (machine_head.j2 kq x19_12 a0_0 a0_1 a0_2 a0_3 l0_4 l0_5 = some r) ∧ Aside0 (kq ≤ kj7) ∧ Aside0 (wc.heap[gb292]? = some (.cells #[.int .i64 a0_0, .int .i64 a0_1, .int .i64 a0_2, .int .i64 a0_3, (.slice A0_4 l0_4.length c0_4), (.slice A0_5 l0_5.length c0_5)] 53 (0, 0))) ∧ Aside0 (Below w.heap.size w wc))
              case first =>
                have H := HC13.out
                clear HC13
                by_cases c14 : a0_0 = 1
                · rw [if_pos c14] at H
                  have c14b0 : (a0_0 == 1) = true := beq_iff_eq.mpr c14
                  have c14b1 : (a0_0 != 1) = false := bne_eq_false_iff_eq.mpr c14
                  clear c14
                  (first | rw [c14b0] | (simp only [i64_w, i32_w]; rw [c14b0]) | skip)
                  have H' := Aside0.mk H
                  clear H
                  have hcz15_0 : wc.cell? ⟨gb292, 0, none⟩ = some (.int .i64 a0_0) := (blk_cell BK292.out 0).trans rfl
                  have hcz15_1 : wc.cell? ⟨gb292, 1, none⟩ = some (.int .i64 a0_1) := (blk_cell BK292.out 1).trans rfl
                  have hcz15_2 : wc.cell? ⟨gb292, 2, none⟩ = some (.int .i64 a0_2) := (blk_cell BK292.out 2).trans rfl
                  have hcz15_3 : wc.cell? ⟨gb292, 3, none⟩ = some (.int .i64 a0_3) := (blk_cell BK292.out 3).trans rfl
                  have hcz15_4 : wc.cell? ⟨gb292, 4, none⟩ = some (.slice A0_4 l0_4.length c0_4) := (blk_cell BK292.out 4).trans rfl
                  have hcz15_5 : wc.cell? ⟨gb292, 5, none⟩ = some (.slice A0_5 l0_5.length c0_5) := (blk_cell BK292.out 5).trans rfl
                  have hfz15_0 := blk_frozen BK292.out 0
                  have hfz15_1 := blk_frozen BK292.out 1
                  have hfz15_2 := blk_frozen BK292.out 2
                  have hfz15_3 := blk_frozen BK292.out 3
                  have hfz15_4 := blk_frozen BK292.out 4
                  have hfz15_5 := blk_frozen BK292.out 5
                  go_wp2
                  go_meet
                  case rel => exact ⟨_, ((a0_2 != 2)), (by first | rfl | (simp; done) | (simp [*]; done)), H', ⟨by have := HJ1.out; have := HJ7.out; first | omega | exact Nat.le_refl _⟩, ⟨by (with_reducible repeat (first | refine blk_drewN ?_ _ | refine blk_drew ?_ | refine blk_alloc ?_ _)); exact BK292.out⟩, ⟨by repeat (first | (with_reducible first | exact HB.out | apply below_alloc | apply pw_below_drewN | apply below_drew1 | refine below_set ?_ GE292.out) | exact HB.out)⟩⟩
                · rw [if_neg c14] at H
                  have c14b0 : (a0_0 == 1) = false := beq_eq_false_iff_ne.mpr c14
                  have c14b1 : (a0_0 != 1) = true := bne_iff_ne.mpr c14
                  (first | rw [c14b0] | (simp only [i64_w, i32_w]; rw [c14b0]) | skip)
                  have H' := Aside0.mk H
                  clear H
                  have hcz16_0 : wc.cell? ⟨gb292, 0, none⟩ = some (.int .i64 a0_0) := (blk_cell BK292.out 0).trans rfl
                  have hcz16_1 : wc.cell? ⟨gb292, 1, none⟩ = some (.int .i64 a0_1) := (blk_cell BK292.out 1).trans rfl
                  have hcz16_2 : wc.cell? ⟨gb292, 2, none⟩ = some (.int .i64 a0_2) := (blk_cell BK292.out 2).trans rfl
                  have hcz16_3 : wc.cell? ⟨gb292, 3, none⟩ = some (.int .i64 a0_3) := (blk_cell BK292.out 3).trans rfl
                  have hcz16_4 : wc.cell? ⟨gb292, 4, none⟩ = some (.slice A0_4 l0_4.length c0_4) := (blk_cell BK292.out 4).trans rfl
                  have hcz16_5 : wc.cell? ⟨gb292, 5, none⟩ = some (.slice A0_5 l0_5.length c0_5) := (blk_cell BK292.out 5).trans rfl
                  have hfz16_0 := blk_frozen BK292.out 0
                  have hfz16_1 := blk_frozen BK292.out 1
                  have hfz16_2 := blk_frozen BK292.out 2
                  have hfz16_3 := blk_frozen BK292.out 3
                  have hfz16_4 := blk_frozen BK292.out 4
                  have hfz16_5 := blk_frozen BK292.out 5
                  go_wp2
                  go_meet
                  case rel => exact ⟨_, (false), (by first | rfl | (simp; done) | (simp [*]; done)), H', ⟨by have := HJ1.out; have := HJ7.out; first | omega | exact Nat.le_refl _⟩, ⟨by (with_reducible repeat (first | refine blk_drewN ?_ _ | refine blk_drew ?_ | refine blk_alloc ?_ _)); exact BK292.out⟩, ⟨by repeat (first | (with_reducible first | exact HB.out | apply below_alloc | apply pw_below_drewN | apply below_drew1 | refine below_set ?_ GE292.out) | exact HB.out)⟩⟩
              case rest =>
                clear HC13
                try clear c1
                try clear p2
                try clear c4
                try clear c4b0
                try clear c4b1
                try clear c7
                try clear c10
                try clear c10b0
                try clear c12
                try clear c14
                try clear c14b0
                try clear c14b1
                try clear hcz11_0
                try clear hcz11_1
                try clear hcz11_2
                try clear hcz11_3
                try clear hcz11_4
                try clear hcz11_5
                try clear hcz15_0
                try clear hcz15_1
                try clear hcz15_2
                try clear hcz15_3
                try clear hcz15_4
                try clear hcz15_5
                try clear hcz16_0
                try clear hcz16_1
                try clear hcz16_2
                try clear hcz16_3
                try clear hcz16_4
                try clear hcz16_5
                try clear hcz5_0
                try clear hcz5_1
                try clear hcz5_2
                try clear hcz5_3
                try clear hcz5_4
                try clear hcz5_5
                try clear hcz6_0
                try clear hcz6_1
                try clear hcz6_2
                try clear hcz6_3
                try clear hcz6_4
                try clear hcz6_5
                try clear hcz9_0
                try clear hcz9_1
                try clear hcz9_2
                try clear hcz9_3
                try clear hcz9_4
                try clear hcz9_5
                try clear hfz11_0
                try clear hfz11_1
                try clear hfz11_2
                try clear hfz11_3
                try clear hfz11_4
                try clear hfz11_5
                try clear hfz15_0
                try clear hfz15_1
                try clear hfz15_2
                try clear hfz15_3
                try clear hfz15_4
                try clear hfz15_5
                try clear hfz16_0
                try clear hfz16_1
                try clear hfz16_2
                try clear hfz16_3
                try clear hfz16_4
                try clear hfz16_5
                try clear hfz5_0
                try clear hfz5_1
                try clear hfz5_2
                try clear hfz5_3
                try clear hfz5_4
                try clear hfz5_5
                try clear hfz6_0
                try clear hfz6_1
                try clear hfz6_2
                try clear hfz6_3
                try clear hfz6_4
                try clear hfz6_5
                try clear hfz9_0
                try clear hfz9_1
                try clear hfz9_2
                try clear hfz9_3
                try clear hfz9_4
                try clear hfz9_5
                try clear p2
                obtain ⟨kq, x19_12, rfl, HA, HJ12, BK292, HB⟩ := hcut
                cases kq with
                | zero => exact absurd HA.out (by simp [machine_head.j2])
                | succ kj12 =>
                  have H := HA.out
                  clear HA
                  simp only [machine_head.j2] at H
                  by_cases c17 : x19_12 = true
                  · subst c17
                    have H1 : (some 33) = some r := by rw [if_pos rfl] at H; exact H
                    clear H
                    have H := H1
                    clear H1
                    obtain rfl := Option.some.inj H
                    go_wp2
                    go_ret
                    exact ⟨by first | rfl | (simp [errW_none, errW_some] <;> rfl) | (simp [*, errW_none, errW_some] <;> rfl), by repeat (first | (with_reducible first | exact HB.out | apply below_alloc | apply pw_below_drewN | apply below_drew1 | refine below_set ?_ GE292.out) | exact HB.out)⟩
                  · replace c17 := Bool.eq_false_iff.mpr c17
                    subst c17
                    have H1 : (if a0_2 < 1 then (machine_head.j3 kj12 (decide (a0_2 < 1)) a0_0 a0_1 a0_2 a0_3 l0_4 l0_5) else (machine_head.j3 kj12 (decide (a0_2 > 64)) a0_0 a0_1 a0_2 a0_3 l0_4 l0_5)) = some r := by rw [if_neg (show ¬ (false = true) by decide)] at H; exact H
                    clear H
                    have H := H1
                    clear H1
                    have HC18 := Aside0.mk H
                    clear H
                    have hcz19_0 : wc.cell? ⟨gb292, 0, none⟩ = some (.int .i64 a0_0) := (blk_cell BK292.out 0).trans rfl
                    have hcz19_1 : wc.cell? ⟨gb292, 1, none⟩ = some (.int .i64 a0_1) := (blk_cell BK292.out 1).trans rfl
                    have hcz19_2 : wc.cell? ⟨gb292, 2, none⟩ = some (.int .i64 a0_2) := (blk_cell BK292.out 2).trans rfl
                    have hcz19_3 : wc.cell? ⟨gb292, 3, none⟩ = some (.int .i64 a0_3) := (blk_cell BK292.out 3).trans rfl
                    have hcz19_4 : wc.cell? ⟨gb292, 4, none⟩ = some (.slice A0_4 l0_4.length c0_4) := (blk_cell BK292.out 4).trans rfl
                    have hcz19_5 : wc.cell? ⟨gb292, 5, none⟩ = some (.slice A0_5 l0_5.length c0_5) := (blk_cell BK292.out 5).trans rfl
                    have hfz19_0 := blk_frozen BK292.out 0
                    have hfz19_1 := blk_frozen BK292.out 1
                    have hfz19_2 := blk_frozen BK292.out 2
                    have hfz19_3 := blk_frozen BK292.out 3
                    have hfz19_4 := blk_frozen BK292.out 4
                    have hfz19_5 := blk_frozen BK292.out 5
                    go_upto_if 28 with (fail)
                    go_cut [28] (fun v28 wc => ∃ (kq : Nat) (x28_17 : Bool), v28 = .bool x28_17 ∧ Aside0 (machine_head.j3 kq x28_17 a0_0 a0_1 a0_2 a0_3 l0_4 l0_5 = some r) ∧ Aside0 (kq ≤ kj12) ∧ Aside0 (wc.heap[gb292]? = some (.cells #[.int .i64 a0_0, .int .i64 a0_1, .int .i64 a0_2, .int .i64 a0_3, (.slice A0_4 l0_4.length c0_4), (.slice A0_5 l0_5.length c0_5)] 53 (0, 0))) ∧ Aside0 (Below w.heap.size w wc))
                    case first =>
                      have H := HC18.out
                      clear HC18
                      by_cases c20 : a0_2 < 1
                      · rw [if_pos c20] at H
                        have c20b0 : decide (a0_2 < 1) = true := decide_eq_true c20
                        clear c20
                        (first | rw [c20b0] | (simp only [i64_w, i32_w]; rw [c20b0]) | skip)
                        have H' := Aside0.mk H
                        clear H
                        go_wp2
                        go_meet
                        case rel => exact ⟨_, (decide (a0_2 < 1)), (by first | rfl | (simp; done) | (simp [*]; done)), H', ⟨by have := HJ1.out; have := HJ7.out; have := HJ12.out; first | omega | exact Nat.le_refl _⟩, ⟨by (with_reducible repeat (first | refine blk_drewN ?_ _ | refine blk_drew ?_ | refine blk_alloc ?_ _)); exact BK292.out⟩, ⟨by repeat (first | (with_reducible first | exact HB.out | apply below_alloc | apply pw_below_drewN | apply below_drew1 | refine below_set ?_ GE292.out) | exact HB.out)⟩⟩
                      · rw [if_neg c20] at H
                        have c20b0 : decide (a0_2 < 1) = false := decide_eq_false c20
                        clear c20
                        (first | rw [c20b0] | (simp only [i64_w, i32_w]; rw [c20b0]) | skip)
                        have H' := Aside0.mk H
                        clear H
                        have hcz21_0 : wc.cell? ⟨gb292, 0, none⟩ = some (.int .i64 a0_0) := (blk_cell BK292.out 0).trans rfl
                        have hcz21_1 : wc.cell? ⟨gb292, 1, none⟩ = some (.int .i64 a0_1) := (blk_cell BK292.out 1).trans rfl
                        have hcz21_2 : wc.cell? ⟨gb292, 2, none⟩ = some (.int .i64 a0_2) := (blk_cell BK292.out 2).trans rfl
                        have hcz21_3 : wc.cell? ⟨gb292, 3, none⟩ = some (.int .i64 a0_3) := (blk_cell BK292.out 3).trans rfl
                        have hcz21_4 : wc.cell? ⟨gb292, 4, none⟩ = some (.slice A0_4 l0_4.length c0_4) := (blk_cell BK292.out 4).trans rfl
                        have hcz21_5 : wc.cell? ⟨gb292, 5, none⟩ = some (.slice A0_5 l0_5.length c0_5) := (blk_cell BK292.out 5).trans rfl
                        have hfz21_0 := blk_frozen BK292.out 0
                        have hfz21_1 := blk_frozen BK292.out 1
                        have hfz21_2 := blk_frozen BK292.out 2
                        have hfz21_3 := blk_frozen BK292.out 3
                        have hfz21_4 := blk_frozen BK292.out 4
                        have hfz21_5 := blk_frozen BK292.out 5
                        go_wp2
                        go_meet
                        case rel => exact ⟨_, (decide (a0_2 > 64)), (by first | rfl | (simp; done) | (simp [*]; done)), H', ⟨by have := HJ1.out; have := HJ7.out; have := HJ12.out; first | omega | exact Nat.le_refl _⟩, ⟨by (with_reducible repeat (first | refine blk_drewN ?_ _ | refine blk_drew ?_ | refine blk_alloc ?_ _)); exact BK292.out⟩, ⟨by repeat (first | (with_reducible first | exact HB.out | apply below_alloc | apply pw_below_drewN | apply below_drew1 | refine below_set ?_ GE292.out) | exact HB.out)⟩⟩
                    case rest =>
                      clear HC18
                      try clear c1
                      try clear c2
                      try clear p2
                      try clear c4
                      try clear c4b0
                      try clear c4b1
                      try clear c7
                      try clear c10
                      try clear c10b0
                      try clear c12
                      try clear c14
                      try clear c14b0
                      try clear c14b1
                      try clear c17
                      try clear c20
                      try clear c20b0
                      try clear hcz11_0
                      try clear hcz11_1
                      try clear hcz11_2
                      try clear hcz11_3
                      try clear hcz11_4
                      try clear hcz11_5
                      try clear hcz15_0
                      try clear hcz15_1
                      try clear hcz15_2
                      try clear hcz15_3
                      try clear hcz15_4
                      try clear hcz15_5
                      try clear hcz16_0
                      try clear hcz16_1
                      try clear hcz16_2
                      try clear hcz16_3
                      try clear hcz16_4
                      try clear hcz16_5
                      try clear hcz19_0
                      try clear hcz19_1
                      try clear hcz19_2
                      try clear hcz19_3
                      try clear hcz19_4
                      try clear hcz19_5
                      try clear hcz21_0
                      try clear hcz21_1
                      try clear hcz21_2
                      try clear hcz21_3
                      try clear hcz21_4
                      try clear hcz21_5
                      try clear hcz5_0
                      try clear hcz5_1
                      try clear hcz5_2
                      try clear hcz5_3
                      try clear hcz5_4
                      try clear hcz5_5
                      try clear hcz6_0
                      try clear hcz6_1
                      try clear hcz6_2
                      try clear hcz6_3
                      try clear hcz6_4
                      try clear hcz6_5
                      try clear hcz9_0
                      try clear hcz9_1
                      try clear hcz9_2
                      try clear hcz9_3
                      try clear hcz9_4
                      try clear hcz9_5
                      try clear hfz11_0
                      try clear hfz11_1
                      try clear hfz11_2
                      try clear hfz11_3
                      try clear hfz11_4
                      try clear hfz11_5
                      try clear hfz15_0
                      try clear hfz15_1
                      try clear hfz15_2
                      try clear hfz15_3
                      try clear hfz15_4
                      try clear hfz15_5
                      try clear hfz16_0
                      try clear hfz16_1
                      try clear hfz16_2
                      try clear hfz16_3
                      try clear hfz16_4
                      try clear hfz16_5
                      try clear hfz19_0
                      try clear hfz19_1
                      try clear hfz19_2
                      try clear hfz19_3
                      try clear hfz19_4
                      try clear hfz19_5
                      try clear hfz21_0
                      try clear hfz21_1
                      try clear hfz21_2
                      try clear hfz21_3
                      try clear hfz21_4
                      try clear hfz21_5
                      try clear hfz5_0
                      try clear hfz5_1
                      try clear hfz5_2
                      try clear hfz5_3
                      try clear hfz5_4
                      try clear hfz5_5
                      try clear hfz6_0
                      try clear hfz6_1
                      try clear hfz6_2
                      try clear hfz6_3
                      try clear hfz6_4
                      try clear hfz6_5
                      try clear hfz9_0
                      try clear hfz9_1
                      try clear hfz9_2
                      try clear hfz9_3
                      try clear hfz9_4
                      try clear hfz9_5
                      try clear p2
                      obtain ⟨kq, x28_17, rfl, HA, HJ17, BK292, HB⟩ := hcut
                      cases kq with
                      | zero => exact absurd HA.out (by simp [machine_head.j3])
                      | succ kj17 =>
                        have H := HA.out
                        clear HA
                        simp only [machine_head.j3] at H
                        by_cases c22 : x28_17 = true
                        · subst c22
                          have H1 : (some 33) = some r := by rw [if_pos rfl] at H; exact H
                          clear H
                          have H := H1
                          clear H1
                          obtain rfl := Option.some.inj H
                          go_wp2
                          go_ret
                          exact ⟨by first | rfl | (simp [errW_none, errW_some] <;> rfl) | (simp [*, errW_none, errW_some] <;> rfl), by repeat (first | (with_reducible first | exact HB.out | apply below_alloc | apply pw_below_drewN | apply below_drew1 | refine below_set ?_ GE292.out) | exact HB.out)⟩
                        · replace c22 := Bool.eq_false_iff.mpr c22
                          subst c22
                          have H1 : (if a0_3 < 1 then (machine_head.j4 kj17 (decide (a0_3 < 1)) a0_0 a0_1 a0_2 a0_3 l0_4 l0_5) else (machine_head.j4 kj17 (decide (a0_3 > 1024)) a0_0 a0_1 a0_2 a0_3 l0_4 l0_5)) = some r := by rw [if_neg (show ¬ (false = true) by decide)] at H; exact H
                          clear H
                          have H := H1
                          clear H1
                          have HC23 := Aside0.mk H
                          clear H
                          have hcz24_0 : wc.cell? ⟨gb292, 0, none⟩ = some (.int .i64 a0_0) := (blk_cell BK292.out 0).trans rfl
                          have hcz24_1 : wc.cell? ⟨gb292, 1, none⟩ = some (.int .i64 a0_1) := (blk_cell BK292.out 1).trans rfl
                          have hcz24_2 : wc.cell? ⟨gb292, 2, none⟩ = some (.int .i64 a0_2) := (blk_cell BK292.out 2).trans rfl
                          have hcz24_3 : wc.cell? ⟨gb292, 3, none⟩ = some (.int .i64 a0_3) := (blk_cell BK292.out 3).trans rfl
                          have hcz24_4 : wc.cell? ⟨gb292, 4, none⟩ = some (.slice A0_4 l0_4.length c0_4) := (blk_cell BK292.out 4).trans rfl
                          have hcz24_5 : wc.cell? ⟨gb292, 5, none⟩ = some (.slice A0_5 l0_5.length c0_5) := (blk_cell BK292.out 5).trans rfl
                          have hfz24_0 := blk_frozen BK292.out 0
                          have hfz24_1 := blk_frozen BK292.out 1
                          have hfz24_2 := blk_frozen BK292.out 2
                          have hfz24_3 := blk_frozen BK292.out 3
                          have hfz24_4 := blk_frozen BK292.out 4
                          have hfz24_5 := blk_frozen BK292.out 5
                          go_upto_if 35 with (fail)
                          go_cut [35] (fun v35 wc => ∃ (kq : Nat) (x35_22 : Bool), v35 = .bool x35_22 ∧ Aside0 (machine_head.j4 kq x35_22 a0_0 a0_1 a0_2 a0_3 l0_4 l0_5 = some r) ∧ Aside0 (kq ≤ kj17) ∧ Aside0 (wc.heap[gb292]? = some (.cells #[.int .i64 a0_0, .int .i64 a0_1, .int .i64 a0_2, .int .i64 a0_3, (.slice A0_4 l0_4.length c0_4), (.slice A0_5 l0_5.length c0_5)] 53 (0, 0))) ∧ Aside0 (Below w.heap.size w wc))
                          case first =>
                            have H := HC23.out
                            clear HC23
                            by_cases c25 : a0_3 < 1
                            · rw [if_pos c25] at H
                              have c25b0 : decide (a0_3 < 1) = true := decide_eq_true c25
                              clear c25
                              (first | rw [c25b0] | (simp only [i64_w, i32_w]; rw [c25b0]) | skip)
                              have H' := Aside0.mk H
                              clear H
                              go_wp2
                              go_meet
                              case rel => exact ⟨_, (decide (a0_3 < 1)), (by first | rfl | (simp; done) | (simp [*]; done)), H', ⟨by have := HJ1.out; have := HJ7.out; have := HJ12.out; have := HJ17.out; first | omega | exact Nat.le_refl _⟩, ⟨by (with_reducible repeat (first | refine blk_drewN ?_ _ | refine blk_drew ?_ | refine blk_alloc ?_ _)); exact BK292.out⟩, ⟨by repeat (first | (with_reducible first | exact HB.out | apply below_alloc | apply pw_below_drewN | apply below_drew1 | refine below_set ?_ GE292.out) | exact HB.out)⟩⟩
                            · rw [if_neg c25] at H
                              have c25b0 : decide (a0_3 < 1) = false := decide_eq_false c25
                              clear c25
                              (first | rw [c25b0] | (simp only [i64_w, i32_w]; rw [c25b0]) | skip)
                              have H' := Aside0.mk H
                              clear H
                              have hcz26_0 : wc.cell? ⟨gb292, 0, none⟩ = some (.int .i64 a0_0) := (blk_cell BK292.out 0).trans rfl
                              have hcz26_1 : wc.cell? ⟨gb292, 1, none⟩ = some (.int .i64 a0_1) := (blk_cell BK292.out 1).trans rfl
                              have hcz26_2 : wc.cell? ⟨gb292, 2, none⟩ = some (.int .i64 a0_2) := (blk_cell BK292.out 2).trans rfl
                              have hcz26_3 : wc.cell? ⟨gb292, 3, none⟩ = some (.int .i64 a0_3) := (blk_cell BK292.out 3).trans rfl
                              have hcz26_4 : wc.cell? ⟨gb292, 4, none⟩ = some (.slice A0_4 l0_4.length c0_4) := (blk_cell BK292.out 4).trans rfl
                              have hcz26_5 : wc.cell? ⟨gb292, 5, none⟩ = some (.slice A0_5 l0_5.length c0_5) := (blk_cell BK292.out 5).trans rfl
                              have hfz26_0 := blk_frozen BK292.out 0
                              have hfz26_1 := blk_frozen BK292.out 1
                              have hfz26_2 := blk_frozen BK292.out 2
                              have hfz26_3 := blk_frozen BK292.out 3
                              have hfz26_4 := blk_frozen BK292.out 4
                              have hfz26_5 := blk_frozen BK292.out 5
                              go_wp2
                              go_meet
                              case rel => exact ⟨_, (decide (a0_3 > 1024)), (by first | rfl | (simp; done) | (simp [*]; done)), H', ⟨by have := HJ1.out; have := HJ7.out; have := HJ12.out; have := HJ17.out; first | omega | exact Nat.le_refl _⟩, ⟨by (with_reducible repeat (first | refine blk_drewN ?_ _ | refine blk_drew ?_ | refine blk_alloc ?_ _)); exact BK292.out⟩, ⟨by repeat (first | (with_reducible first | exact HB.out | apply below_alloc | apply pw_below_drewN | apply below_drew1 | refine below_set ?_ GE292.out) | exact HB.out)⟩⟩
                          case rest =>
                            clear HC23
                            try clear c1
                            try clear c2
                            try clear p2
                            try clear c4
                            try clear c4b0
                            try clear c4b1
                            try clear c7
                            try clear c10
                            try clear c10b0
                            try clear c12
                            try clear c14
                            try clear c14b0
                            try clear c14b1
                            try clear c17
                            try clear c20
                            try clear c20b0
                            try clear c22
                            try clear c25
                            try clear c25b0
                            try clear hcz11_0
                            try clear hcz11_1
                            try clear hcz11_2
                            try clear hcz11_3
                            try clear hcz11_4
                            try clear hcz11_5
                            try clear hcz15_0
                            try clear hcz15_1
                            try clear hcz15_2
                            try clear hcz15_3
                            try clear hcz15_4
                            try clear hcz15_5
                            try clear hcz16_0
                            try clear hcz16_1
                            try clear hcz16_2
                            try clear hcz16_3
                            try clear hcz16_4
                            try clear hcz16_5
                            try clear hcz19_0
                            try clear hcz19_1
                            try clear hcz19_2
                            try clear hcz19_3
                            try clear hcz19_4
                            try clear hcz19_5
                            try clear hcz21_0
                            try clear hcz21_1
                            try clear hcz21_2
                            try clear hcz21_3
                            try clear hcz21_4
                            try clear hcz21_5
                            try clear hcz24_0
                            try clear hcz24_1
                            try clear hcz24_2
                            try clear hcz24_3
                            try clear hcz24_4
                            try clear hcz24_5
                            try clear hcz26_0
                            try clear hcz26_1
                            try clear hcz26_2
                            try clear hcz26_3
                            try clear hcz26_4
                            try clear hcz26_5
                            try clear hcz5_0
                            try clear hcz5_1
                            try clear hcz5_2
                            try clear hcz5_3
                            try clear hcz5_4
                            try clear hcz5_5
                            try clear hcz6_0
                            try clear hcz6_1
                            try clear hcz6_2
                            try clear hcz6_3
                            try clear hcz6_4
                            try clear hcz6_5
                            try clear hcz9_0
                            try clear hcz9_1
                            try clear hcz9_2
                            try clear hcz9_3
                            try clear hcz9_4
                            try clear hcz9_5
                            try clear hfz11_0
                            try clear hfz11_1
                            try clear hfz11_2
                            try clear hfz11_3
                            try clear hfz11_4
                            try clear hfz11_5
                            try clear hfz15_0
                            try clear hfz15_1
                            try clear hfz15_2
                            try clear hfz15_3
                            try clear hfz15_4
                            try clear hfz15_5
                            try clear hfz16_0
                            try clear hfz16_1
                            try clear hfz16_2
                            try clear hfz16_3
                            try clear hfz16_4
                            try clear hfz16_5
                            try clear hfz19_0
                            try clear hfz19_1
                            try clear hfz19_2
                            try clear hfz19_3
                            try clear hfz19_4
                            try clear hfz19_5
                            try clear hfz21_0
                            try clear hfz21_1
                            try clear hfz21_2
                            try clear hfz21_3
                            try clear hfz21_4
                            try clear hfz21_5
                            try clear hfz24_0
                            try clear hfz24_1
                            try clear hfz24_2
                            try clear hfz24_3
                            try clear hfz24_4
                            try clear hfz24_5
                            try clear hfz26_0
                            try clear hfz26_1
                            try clear hfz26_2
                            try clear hfz26_3
                            try clear hfz26_4
                            try clear hfz26_5
                            try clear hfz5_0
                            try clear hfz5_1
                            try clear hfz5_2
                            try clear hfz5_3
                            try clear hfz5_4
                            try clear hfz5_5
                            try clear hfz6_0
                            try clear hfz6_1
                            try clear hfz6_2
                            try clear hfz6_3
                            try clear hfz6_4
                            try clear hfz6_5
                            try clear hfz9_0
                            try clear hfz9_1
                            try clear hfz9_2
                            try clear hfz9_3
                            try clear hfz9_4
                            try clear hfz9_5
                            try clear p2
                            obtain ⟨kq, x35_22, rfl, HA, HJ22, BK292, HB⟩ := hcut
                            cases kq with
                            | zero => exact absurd HA.out (by simp [machine_head.j4])
                            | succ kj22 =>
                              have H := HA.out
                              clear HA
                              simp only [machine_head.j4] at H
                              by_cases c27 : x35_22 = true
                              · subst c27
                                have H1 : (some 3) = some r := by rw [if_pos rfl] at H; exact H
                                clear H
                                have H := H1
                                clear H1
                                obtain rfl := Option.some.inj H
                                go_wp2
                                go_ret
                                exact ⟨by first | rfl | (simp [errW_none, errW_some] <;> rfl) | (simp [*, errW_none, errW_some] <;> rfl), by repeat (first | (with_reducible first | exact HB.out | apply below_alloc | apply pw_below_drewN | apply below_drew1 | refine below_set ?_ GE292.out) | exact HB.out)⟩
                              · replace c27 := Bool.eq_false_iff.mpr c27
                                subst c27
                                have H1 : (if (l0_4.length : Int) = (wrap64 (a0_3 * a0_1)) then ((machine_says.f a0_0 a0_1 a0_2 a0_3 l0_4 l0_5).bind fun t293 => (if (l0_5.length : Int) = t293 then (some 0) else (some 31))) else (some 31)) = some r := by rw [if_neg (show ¬ (false = true) by decide)] at H; exact H
                                clear H
                                have H := H1
                                clear H1
                                by_cases c28 : (l0_4.length : Int) = (wrap64 (a0_3 * a0_1))
                                · rw [if_pos c28] at H
                                  have c28b0 : ((l0_4.length : Int) == (wrap64 (a0_3 * a0_1))) = true := beq_iff_eq.mpr c28
                                  have c28b1 : ((l0_4.length : Int) != (wrap64 (a0_3 * a0_1))) = false := bne_eq_false_iff_eq.mpr c28
                                  clear c28
                                  replace H := Option.bind_eq_some_iff.mp H
                                  obtain ⟨t293, A290, H⟩ := H
                                  replace H : (if (l0_5.length : Int) = t293 then (some 0) else (some 31)) = some r := H
                                  have A29 := Aside0.mk A290
                                  clear A290
                                  by_cases c30 : (l0_5.length : Int) = t293
                                  · rw [if_pos c30] at H
                                    have c30b0 : ((l0_5.length : Int) == t293) = true := beq_iff_eq.mpr c30
                                    have c30b1 : ((l0_5.length : Int) != t293) = false := bne_eq_false_iff_eq.mpr c30
                                    clear c30
                                    obtain rfl := Option.some.inj H
                                    have hcz31_0 : wc.cell? ⟨gb292, 0, none⟩ = some (.int .i64 a0_0) := (blk_cell BK292.out 0).trans rfl
                                    have hcz31_1 : wc.cell? ⟨gb292, 1, none⟩ = some (.int .i64 a0_1) := (blk_cell BK292.out 1).trans rfl
                                    have hcz31_2 : wc.cell? ⟨gb292, 2, none⟩ = some (.int .i64 a0_2) := (blk_cell BK292.out 2).trans rfl
                                    have hcz31_3 : wc.cell? ⟨gb292, 3, none⟩ = some (.int .i64 a0_3) := (blk_cell BK292.out 3).trans rfl
                                    have hcz31_4 : wc.cell? ⟨gb292, 4, none⟩ = some (.slice A0_4 l0_4.length c0_4) := (blk_cell BK292.out 4).trans rfl
                                    have hcz31_5 : wc.cell? ⟨gb292, 5, none⟩ = some (.slice A0_5 l0_5.length c0_5) := (blk_cell BK292.out 5).trans rfl
                                    have hfz31_0 := blk_frozen BK292.out 0
                                    have hfz31_1 := blk_frozen BK292.out 1
                                    have hfz31_2 := blk_frozen BK292.out 2
                                    have hfz31_3 := blk_frozen BK292.out 3
                                    have hfz31_4 := blk_frozen BK292.out 4
                                    have hfz31_5 := blk_frozen BK292.out 5
                                    try go_wp2
                                    have n0_ := Aside0.mk (blk_drew BK292.out)
                                    have n1_ := Aside0.mk (below_drew1 HB.out)
                                    clear BK292
                                    clear HB
                                    have BK292 := n0_
                                    have HB := n1_
                                    clear n0_ n1_
                                    refine start_ (n := 7) (S := fun w' => w'.cell? ⟨gb292, 0, none⟩ = some (.int .i64 a0_0) ∧ w'.cell? ⟨gb292, 1, none⟩ = some (.int .i64 a0_1) ∧ w'.cell? ⟨gb292, 2, none⟩ = some (.int .i64 a0_2) ∧ w'.cell? ⟨gb292, 3, none⟩ = some (.int .i64 a0_3) ∧ w'.cell? ⟨gb292, 4, none⟩ = some (.slice A0_4 l0_4.length c0_4) ∧ w'.cell? ⟨gb292, 5, none⟩ = some (.slice A0_5 l0_5.length c0_5)) (ds := []) #[false, false, false, false, false, false, false] (by kernel_rfl) rfl rfl ⟨(blk_cell BK292.out 0).trans rfl, (blk_cell BK292.out 1).trans rfl, (blk_cell BK292.out 2).trans rfl, (blk_cell BK292.out 3).trans rfl, (blk_cell BK292.out 4).trans rfl, (blk_cell BK292.out 5).trans rfl⟩ (fun hHeld => ?_)
                                    generalize wc.drew = w32 at BK292 HB hHeld ⊢
                                    refine pure_ (i := 0) (N := some 52) (v := ?_) (a' := ?_) #[true, false, false, false, false, false, false] rfl rfl (by kernel_rfl) (fun _ _ _ h => h) (Or.inl ⟨by rfl, ?_⟩) ?_ ?_
                                    rotate_left
                                    · intro w'
                                      go_simp
                                      with_reducible rfl
                                    rotate_left
                                    · simp only [Act.put, List.setIfInBounds_toArray, List.set_cons_zero, List.set_cons_succ, i64_w, i32_w]
                                      rfl
                                    refine take_ (i := 1) (N := some 53) (v := ?_) (a' := ?_) #[true, true, false, false, false, false, false] rfl rfl (by kernel_rfl) (fun _ _ _ h => h) (Or.inl ⟨by rfl, ?_⟩) hHeld ?_ ?_
                                    rotate_left
                                    · rintro w' ⟨s0, s1, s2, s3, s4, s5⟩
                                      go_simp
                                      with_reducible rfl
                                    rotate_left
                                    · simp only [Act.put, List.setIfInBounds_toArray, List.set_cons_zero, List.set_cons_succ, i64_w, i32_w]
                                      rfl
                                    refine pure_ (i := 2) (N := some 54) (v := ?_) (a' := ?_) #[true, true, true, false, false, false, false] rfl rfl (by kernel_rfl) (fun _ _ _ h => h) (Or.inl ⟨by rfl, ?_⟩) ?_ ?_
                                    rotate_left
                                    · intro w'
                                      go_simp
                                      with_reducible rfl
                                    rotate_left
                                    · simp only [Act.put, List.setIfInBounds_toArray, List.set_cons_zero, List.set_cons_succ, i64_w, i32_w]
                                      rfl
                                    refine take_ (i := 3) (N := some 55) (v := ?_) (a' := ?_) #[true, true, true, true, false, false, false] rfl rfl (by kernel_rfl) (fun _ _ _ h => h) (Or.inl ⟨by rfl, ?_⟩) hHeld ?_ ?_
                                    rotate_left
                                    · rintro w' ⟨s0, s1, s2, s3, s4, s5⟩
                                      go_simp
                                      with_reducible rfl
                                    rotate_left
                                    · simp only [Act.put, List.setIfInBounds_toArray, List.set_cons_zero, List.set_cons_succ, i64_w, i32_w]
                                      rfl
                                    refine one_ (i := 4) (N := some 56) #[true, true, true, true, true, false, false] rfl rfl (by kernel_rfl) (by decide) (fun K hK => ?_)
                                    refine goes_ Try.func57 (by kernel_rfl) rfl #[.agg #[.int .i64 a0_0, .int .i64 a0_1, .int .i64 a0_2, .int .i64 a0_3, .slice A0_4 l0_4.length c0_4, .slice A0_5 l0_5.length c0_5]] (by rfl) rfl rfl (by (try simp only [List.map_toArray, List.map_cons, List.map_nil]); first | done | rfl | (simp only [List.length_drop, List.length_take]; rfl)) ?_
                                    with_reducible refine (machine_says.calls a0_0 a0_1 a0_2 a0_3 _ _ l0_4 _ _ l0_5 t293 _ ?side1 ?side2 ?side3 ?side4 A29.out).mono ?_
                                    (case side1 => repeat (first | exact (Kd.C_below HR0_4.out HB.out) | (with_reducible refine Kd.C_alloc ?_ _) | (with_reducible refine Kd.C_drewN ?_ _) | (with_reducible refine Kd.C_drew ?_)))
                                    (case side2 => exact HC0_4.out)
                                    (case side3 => repeat (first | exact (Kd.C_below HR0_5.out HB.out) | (with_reducible refine Kd.C_alloc ?_ _) | (with_reducible refine Kd.C_drewN ?_ _) | (with_reducible refine Kd.C_drew ?_)))
                                    (case side4 => exact HC0_5.out)
                                    rintro e w33 ⟨rfl, hb⟩
                                    refine ⟨_, rfl, ?_⟩
                                    have n0_ := Aside0.mk (blk_below (g := gb292) (o := .cells #[.int .i64 a0_0, .int .i64 a0_1, .int .i64 a0_2, .int .i64 a0_3, .slice A0_4 l0_4.length c0_4, .slice A0_5 l0_5.length c0_5] 53 (0, 0)) (by (with_reducible repeat (first | refine blk_drewN ?_ _ | refine blk_drew ?_ | refine blk_alloc ?_ _)); exact BK292.out) hb)
                                    have n1_ := Aside0.mk (below_step (by repeat (first | (with_reducible first | exact HB.out | apply below_alloc | apply pw_below_drewN | apply below_drew1 | refine below_set ?_ GE292.out) | exact HB.out)) hb)
                                    clear BK292
                                    clear HB
                                    have BK292 := n0_
                                    have HB := n1_
                                    clear n0_ n1_
                                    (try clear hb)
                                    (try clear hb2)
                                    (try clear hk)
                                    (try clear hi)
                                    refine hK.out _ _ ⟨(blk_cell BK292.out 0).trans rfl, (blk_cell BK292.out 1).trans rfl, (blk_cell BK292.out 2).trans rfl, (blk_cell BK292.out 3).trans rfl, (blk_cell BK292.out 4).trans rfl, (blk_cell BK292.out 5).trans rfl⟩ (fun hHeld => ?_)
                                    clear hK K
                                    refine norm_ (a' := ?_) ?_ ?_
                                    rotate_left
                                    · show Act.put _ (some 56) _ = _
                                      simp only [Act.put, List.setIfInBounds_toArray, List.set_cons_zero, List.set_cons_succ, i64_w, i32_w]
                                      rfl
                                    refine pure_ (i := 5) (N := some 57) (v := ?_) (a' := ?_) #[true, true, true, true, true, true, false] rfl rfl (by kernel_rfl) (fun _ _ _ h => h) (Or.inl ⟨by rfl, ?_⟩) ?_ ?_
                                    rotate_left
                                    · intro w'
                                      go_simp
                                      with_reducible rfl
                                    rotate_left
                                    · simp only [Act.put, List.setIfInBounds_toArray, List.set_cons_zero, List.set_cons_succ, i64_w, i32_w]
                                      rfl
                                    refine pure_ (i := 6) (N := some 42) (v := ?_) (a' := ?_) #[true, true, true, true, true, true, true] rfl rfl (by kernel_rfl) (fun _ _ _ h => h) (Or.inl ⟨by rfl, ?_⟩) ?_ ?_
                                    rotate_left
                                    · intro w'
                                      go_simp
                                      with_reducible rfl
                                    rotate_left
                                    · simp only [Act.put, List.setIfInBounds_toArray, List.set_cons_zero, List.set_cons_succ, i64_w, i32_w]
                                      rfl
                                    refine done_ (by kernel_rfl) ?_
                                    try go_wp2
                                    go_ret
                                    exact ⟨by first | rfl | (simp [errW_none, errW_some] <;> rfl) | (simp [*, errW_none, errW_some] <;> rfl), by repeat (first | (with_reducible first | exact HB.out | apply below_alloc | apply pw_below_drewN | apply below_drew1 | refine below_set ?_ GE292.out) | exact HB.out)⟩
                                  · rw [if_neg c30] at H
                                    have c30b0 : ((l0_5.length : Int) == t293) = false := beq_eq_false_iff_ne.mpr c30
                                    have c30b1 : ((l0_5.length : Int) != t293) = true := bne_iff_ne.mpr c30
                                    obtain rfl := Option.some.inj H
                                    have hcz34_0 : wc.cell? ⟨gb292, 0, none⟩ = some (.int .i64 a0_0) := (blk_cell BK292.out 0).trans rfl
                                    have hcz34_1 : wc.cell? ⟨gb292, 1, none⟩ = some (.int .i64 a0_1) := (blk_cell BK292.out 1).trans rfl
                                    have hcz34_2 : wc.cell? ⟨gb292, 2, none⟩ = some (.int .i64 a0_2) := (blk_cell BK292.out 2).trans rfl
                                    have hcz34_3 : wc.cell? ⟨gb292, 3, none⟩ = some (.int .i64 a0_3) := (blk_cell BK292.out 3).trans rfl
                                    have hcz34_4 : wc.cell? ⟨gb292, 4, none⟩ = some (.slice A0_4 l0_4.length c0_4) := (blk_cell BK292.out 4).trans rfl
                                    have hcz34_5 : wc.cell? ⟨gb292, 5, none⟩ = some (.slice A0_5 l0_5.length c0_5) := (blk_cell BK292.out 5).trans rfl
                                    have hfz34_0 := blk_frozen BK292.out 0
                                    have hfz34_1 := blk_frozen BK292.out 1
                                    have hfz34_2 := blk_frozen BK292.out 2
                                    have hfz34_3 := blk_frozen BK292.out 3
                                    have hfz34_4 := blk_frozen BK292.out 4
                                    have hfz34_5 := blk_frozen BK292.out 5
                                    try go_wp2
                                    have n0_ := Aside0.mk (blk_drew BK292.out)
                                    have n1_ := Aside0.mk (below_drew1 HB.out)
                                    clear BK292
                                    clear HB
                                    have BK292 := n0_
                                    have HB := n1_
                                    clear n0_ n1_
                                    refine start_ (n := 7) (S := fun w' => w'.cell? ⟨gb292, 0, none⟩ = some (.int .i64 a0_0) ∧ w'.cell? ⟨gb292, 1, none⟩ = some (.int .i64 a0_1) ∧ w'.cell? ⟨gb292, 2, none⟩ = some (.int .i64 a0_2) ∧ w'.cell? ⟨gb292, 3, none⟩ = some (.int .i64 a0_3) ∧ w'.cell? ⟨gb292, 4, none⟩ = some (.slice A0_4 l0_4.length c0_4) ∧ w'.cell? ⟨gb292, 5, none⟩ = some (.slice A0_5 l0_5.length c0_5)) (ds := []) #[false, false, false, false, false, false, false] (by kernel_rfl) rfl rfl ⟨(blk_cell BK292.out 0).trans rfl, (blk_cell BK292.out 1).trans rfl, (blk_cell BK292.out 2).trans rfl, (blk_cell BK292.out 3).trans rfl, (blk_cell BK292.out 4).trans rfl, (blk_cell BK292.out 5).trans rfl⟩ (fun hHeld => ?_)
                                    generalize wc.drew = w35 at BK292 HB hHeld ⊢
                                    refine pure_ (i := 0) (N := some 52) (v := ?_) (a' := ?_) #[true, false, false, false, false, false, false] rfl rfl (by kernel_rfl) (fun _ _ _ h => h) (Or.inl ⟨by rfl, ?_⟩) ?_ ?_
                                    rotate_left
                                    · intro w'
                                      go_simp
                                      with_reducible rfl
                                    rotate_left
                                    · simp only [Act.put, List.setIfInBounds_toArray, List.set_cons_zero, List.set_cons_succ, i64_w, i32_w]
                                      rfl
                                    refine take_ (i := 1) (N := some 53) (v := ?_) (a' := ?_) #[true, true, false, false, false, false, false] rfl rfl (by kernel_rfl) (fun _ _ _ h => h) (Or.inl ⟨by rfl, ?_⟩) hHeld ?_ ?_
                                    rotate_left
                                    · rintro w' ⟨s0, s1, s2, s3, s4, s5⟩
                                      go_simp
                                      with_reducible rfl
                                    rotate_left
                                    · simp only [Act.put, List.setIfInBounds_toArray, List.set_cons_zero, List.set_cons_succ, i64_w, i32_w]
                                      rfl
                                    refine pure_ (i := 2) (N := some 54) (v := ?_) (a' := ?_) #[true, true, true, false, false, false, false] rfl rfl (by kernel_rfl) (fun _ _ _ h => h) (Or.inl ⟨by rfl, ?_⟩) ?_ ?_
                                    rotate_left
                                    · intro w'
                                      go_simp
                                      with_reducible rfl
                                    rotate_left
                                    · simp only [Act.put, List.setIfInBounds_toArray, List.set_cons_zero, List.set_cons_succ, i64_w, i32_w]
                                      rfl
                                    refine take_ (i := 3) (N := some 55) (v := ?_) (a' := ?_) #[true, true, true, true, false, false, false] rfl rfl (by kernel_rfl) (fun _ _ _ h => h) (Or.inl ⟨by rfl, ?_⟩) hHeld ?_ ?_
                                    rotate_left
                                    · rintro w' ⟨s0, s1, s2, s3, s4, s5⟩
                                      go_simp
                                      with_reducible rfl
                                    rotate_left
                                    · simp only [Act.put, List.setIfInBounds_toArray, List.set_cons_zero, List.set_cons_succ, i64_w, i32_w]
                                      rfl
                                    refine one_ (i := 4) (N := some 56) #[true, true, true, true, true, false, false] rfl rfl (by kernel_rfl) (by decide) (fun K hK => ?_)
                                    refine goes_ Try.func57 (by kernel_rfl) rfl #[.agg #[.int .i64 a0_0, .int .i64 a0_1, .int .i64 a0_2, .int .i64 a0_3, .slice A0_4 l0_4.length c0_4, .slice A0_5 l0_5.length c0_5]] (by rfl) rfl rfl (by (try simp only [List.map_toArray, List.map_cons, List.map_nil]); first | done | rfl | (simp only [List.length_drop, List.length_take]; rfl)) ?_
                                    with_reducible refine (machine_says.calls a0_0 a0_1 a0_2 a0_3 _ _ l0_4 _ _ l0_5 t293 _ ?side1 ?side2 ?side3 ?side4 A29.out).mono ?_
                                    (case side1 => repeat (first | exact (Kd.C_below HR0_4.out HB.out) | (with_reducible refine Kd.C_alloc ?_ _) | (with_reducible refine Kd.C_drewN ?_ _) | (with_reducible refine Kd.C_drew ?_)))
                                    (case side2 => exact HC0_4.out)
                                    (case side3 => repeat (first | exact (Kd.C_below HR0_5.out HB.out) | (with_reducible refine Kd.C_alloc ?_ _) | (with_reducible refine Kd.C_drewN ?_ _) | (with_reducible refine Kd.C_drew ?_)))
                                    (case side4 => exact HC0_5.out)
                                    rintro e w36 ⟨rfl, hb⟩
                                    refine ⟨_, rfl, ?_⟩
                                    have n0_ := Aside0.mk (blk_below (g := gb292) (o := .cells #[.int .i64 a0_0, .int .i64 a0_1, .int .i64 a0_2, .int .i64 a0_3, .slice A0_4 l0_4.length c0_4, .slice A0_5 l0_5.length c0_5] 53 (0, 0)) (by (with_reducible repeat (first | refine blk_drewN ?_ _ | refine blk_drew ?_ | refine blk_alloc ?_ _)); exact BK292.out) hb)
                                    have n1_ := Aside0.mk (below_step (by repeat (first | (with_reducible first | exact HB.out | apply below_alloc | apply pw_below_drewN | apply below_drew1 | refine below_set ?_ GE292.out) | exact HB.out)) hb)
                                    clear BK292
                                    clear HB
                                    have BK292 := n0_
                                    have HB := n1_
                                    clear n0_ n1_
                                    (try clear hb)
                                    (try clear hb2)
                                    (try clear hk)
                                    (try clear hi)
                                    refine hK.out _ _ ⟨(blk_cell BK292.out 0).trans rfl, (blk_cell BK292.out 1).trans rfl, (blk_cell BK292.out 2).trans rfl, (blk_cell BK292.out 3).trans rfl, (blk_cell BK292.out 4).trans rfl, (blk_cell BK292.out 5).trans rfl⟩ (fun hHeld => ?_)
                                    clear hK K
                                    refine norm_ (a' := ?_) ?_ ?_
                                    rotate_left
                                    · show Act.put _ (some 56) _ = _
                                      simp only [Act.put, List.setIfInBounds_toArray, List.set_cons_zero, List.set_cons_succ, i64_w, i32_w]
                                      rfl
                                    refine pure_ (i := 5) (N := some 57) (v := ?_) (a' := ?_) #[true, true, true, true, true, true, false] rfl rfl (by kernel_rfl) (fun _ _ _ h => h) (Or.inl ⟨by rfl, ?_⟩) ?_ ?_
                                    rotate_left
                                    · intro w'
                                      go_simp
                                      with_reducible rfl
                                    rotate_left
                                    · simp only [Act.put, List.setIfInBounds_toArray, List.set_cons_zero, List.set_cons_succ, i64_w, i32_w]
                                      rfl
                                    refine pure_ (i := 6) (N := some 42) (v := ?_) (a' := ?_) #[true, true, true, true, true, true, true] rfl rfl (by kernel_rfl) (fun _ _ _ h => h) (Or.inl ⟨by rfl, ?_⟩) ?_ ?_
                                    rotate_left
                                    · intro w'
                                      go_simp
                                      with_reducible rfl
                                    rotate_left
                                    · simp only [Act.put, List.setIfInBounds_toArray, List.set_cons_zero, List.set_cons_succ, i64_w, i32_w]
                                      rfl
                                    refine done_ (by kernel_rfl) ?_
                                    try go_wp2
                                    go_ret
                                    exact ⟨by first | rfl | (simp [errW_none, errW_some] <;> rfl) | (simp [*, errW_none, errW_some] <;> rfl), by repeat (first | (with_reducible first | exact HB.out | apply below_alloc | apply pw_below_drewN | apply below_drew1 | refine below_set ?_ GE292.out) | exact HB.out)⟩
                                · rw [if_neg c28] at H
                                  have c28b0 : ((l0_4.length : Int) == (wrap64 (a0_3 * a0_1))) = false := beq_eq_false_iff_ne.mpr c28
                                  have c28b1 : ((l0_4.length : Int) != (wrap64 (a0_3 * a0_1))) = true := bne_iff_ne.mpr c28
                                  obtain rfl := Option.some.inj H
                                  have hcz37_0 : wc.cell? ⟨gb292, 0, none⟩ = some (.int .i64 a0_0) := (blk_cell BK292.out 0).trans rfl
                                  have hcz37_1 : wc.cell? ⟨gb292, 1, none⟩ = some (.int .i64 a0_1) := (blk_cell BK292.out 1).trans rfl
                                  have hcz37_2 : wc.cell? ⟨gb292, 2, none⟩ = some (.int .i64 a0_2) := (blk_cell BK292.out 2).trans rfl
                                  have hcz37_3 : wc.cell? ⟨gb292, 3, none⟩ = some (.int .i64 a0_3) := (blk_cell BK292.out 3).trans rfl
                                  have hcz37_4 : wc.cell? ⟨gb292, 4, none⟩ = some (.slice A0_4 l0_4.length c0_4) := (blk_cell BK292.out 4).trans rfl
                                  have hcz37_5 : wc.cell? ⟨gb292, 5, none⟩ = some (.slice A0_5 l0_5.length c0_5) := (blk_cell BK292.out 5).trans rfl
                                  have hfz37_0 := blk_frozen BK292.out 0
                                  have hfz37_1 := blk_frozen BK292.out 1
                                  have hfz37_2 := blk_frozen BK292.out 2
                                  have hfz37_3 := blk_frozen BK292.out 3
                                  have hfz37_4 := blk_frozen BK292.out 4
                                  have hfz37_5 := blk_frozen BK292.out 5
                                  go_wp2
                                  go_ret
                                  exact ⟨by first | rfl | (simp [errW_none, errW_some] <;> rfl) | (simp [*, errW_none, errW_some] <;> rfl), by repeat (first | (with_reducible first | exact HB.out | apply below_alloc | apply pw_below_drewN | apply below_drew1 | refine below_set ?_ GE292.out) | exact HB.out)⟩
end Go.Proofs.Ytdalpaobkmoomaa.X
end

section
namespace Go.Proofs.Ytdalpaobkmoomaa.X
open Go.RowKit Go.Proofs.YtdalpaobkmoomaaW.PrintWords Go.Proofs.YtdalpaobkmoomaaW.PrintLast Go.Proofs.YtdalpaobkmoomaaW.PrintMore
attribute [local go_sem] max2_int min2_int max_two min_two max_three min_three max_four min_four   -- for this text's walks alone
set_option linter.unusedVariables false
set_option linter.unusedSimpArgs false
def machine_beyond.l0 : Nat → List Int → Int → Int → Int → Option (Int)
  | 0, _, _, _, _ => none
  | k + 1, x0, x1, x7, x8 => if x8 < x7 then (if 0 ≤ x8 then (if x8 < (x0.length : Int) then (if (IntKind.u64.wrap (rd x0 x8)) ≥ (IntKind.u64.wrap (x1)) then (some x8) else (machine_beyond.l0 k x0 x1 x7 (wrap64 (x8 + 1)))) else (none)) else (none)) else (some (-1))
def machine_beyond.f (k : Nat) (l0 : List Int) (a1 : Int) : Option (Int) := machine_beyond.l0 k l0 a1 (l0.length : Int) 0
set_option maxHeartbeats 8000000 in
set_option maxRecDepth 100000 in
theorem machine_beyond.calls (k : Nat) (A0 : Option Addr) (c0 : Nat) (l0 : List Int) (a1 : Int) (r : Int) (w : World) (hr0 : Kd.C (Kd.int .i64) w A0 l0.length l0) (hc0 : l0.length ≤ c0) (h : machine_beyond.f k l0 a1 = some r) :
    Calls Try.prog 44 #[.slice A0 l0.length c0, .int .i64 a1] w fun e w' => e = .returned (.int .i64 r) ∧ Drawn0 w w' := by
  have HR0 := Aside0.mk hr0
  have HC0 := Aside0.mk hc0
  clear hr0 hc0
  have H : (machine_beyond.l0 k l0 a1 (l0.length : Int) 0) = some r := h
  clear h
  have H' := Aside0.mk H
  clear H
  go_enter Try.func44, Try.ntmps44
  go_wp2
  go_loopg [8] k (fun kq v8 w' => ∃ (x8_1 : Int), v8 = .int .i64 x8_1 ∧ Aside0 (machine_beyond.l0 kq l0 a1 (l0.length : Int) x8_1 = some r) ∧ Aside0 (kq ≤ k) ∧ Drawn0 w w')
  case atStart => exact ⟨(0), (by first | rfl | (simp; done) | (simp [*]; done)), H', ⟨Nat.le_refl _⟩, by repeat (first | exact Drawn0.refl _ | apply Drawn0.step)⟩
  case round =>
    clear H'
    try clear p2
    obtain ⟨x8_1, rfl, HA, HK1, ⟨m1, rfl⟩⟩ := hrel
    cases gk with
    | zero => exact absurd HA.out (by simp [machine_beyond.l0])
    | succ k1 =>
      have H := HA.out
      clear HA
      simp only [machine_beyond.l0] at H
      by_cases c3 : x8_1 < (l0.length : Int)
      · rw [if_pos c3] at H
        have c3b0 : decide (x8_1 < (l0.length : Int)) = true := decide_eq_true c3
        clear c3
        by_cases c4 : 0 ≤ x8_1
        · rw [if_pos c4] at H
          have c4b0 : decide (0 ≤ x8_1) = true := decide_eq_true c4
          clear c4
          by_cases c5 : x8_1 < (l0.length : Int)
          · rw [if_pos c5] at H
            have c5b0 : decide (x8_1 < (l0.length : Int)) = true := decide_eq_true c5
            clear c5
            by_cases c6 : (IntKind.u64.wrap (rd l0 x8_1)) ≥ (IntKind.u64.wrap (a1))
            · rw [if_pos c6] at H
              have c6b0 : decide ((IntKind.u64.wrap (a1)) ≤ (IntKind.u64.wrap (rd l0 x8_1))) = true := decide_eq_true c6
              clear c6
              obtain rfl := Option.some.inj H
              have p294 : 0 ≤ (x8_1 : Int) := of_decide_eq_true (by first | (with_reducible assumption) | assumption)
              have q294 : x8_1 < (l0.length : Int) := of_decide_eq_true (by first | (with_reducible assumption) | assumption)
              obtain ⟨ad294, e294, hx294_0⟩ := Kd.at_int HR0.out x8_1 p294 q294
              cases e294
              replace p294 := eq_true p294
              replace q294 := eq_true q294
              go_wp2
              go_ret
              exact ⟨by first | rfl | (simp; done) | (simp [*]; done), by repeat (first | exact Drawn0.refl _ | apply Drawn0.step)⟩
            · rw [if_neg c6] at H
              have c6b0 : decide ((IntKind.u64.wrap (a1)) ≤ (IntKind.u64.wrap (rd l0 x8_1))) = false := decide_eq_false c6
              clear c6
              have H' := Aside0.mk H
              clear H
              have p294 : 0 ≤ (x8_1 : Int) := of_decide_eq_true (by first | (with_reducible assumption) | assumption)
              have q294 : x8_1 < (l0.length : Int) := of_decide_eq_true (by first | (with_reducible assumption) | assumption)
              obtain ⟨ad294, e294, hx294_0⟩ := Kd.at_int HR0.out x8_1 p294 q294
              cases e294
              replace p294 := eq_true p294
              replace q294 := eq_true q294
              go_wp2
              go_roundg k1
              case measure => have := HK1.out; omega
              case rel => exact ⟨(wrap64 (x8_1 + 1)), (by first | rfl | (simp; done) | (simp [*]; done)), H', ⟨by have := HK1.out; omega⟩, by repeat (first | exact Drawn0.refl _ | apply Drawn0.step)⟩
          · rw [if_neg c5] at H
            exact absurd H (by simp)
        · rw [if_neg c4] at H
          exact absurd H (by simp)
      · rw [if_neg c3] at H
        have c3b0 : decide (x8_1 < (l0.length : Int)) = false := decide_eq_false c3
        clear c3
        obtain rfl := Option.some.inj H
        go_wp2
        go_ret
        exact ⟨by first | rfl | (simp; done) | (simp [*]; done), by repeat (first | exact Drawn0.refl _ | apply Drawn0.step)⟩
end Go.Proofs.Ytdalpaobkmoomaa.X
end

section
namespace Go.Proofs.Ytdalpaobkmoomaa.X
open Go.RowKit Go.Proofs.YtdalpaobkmoomaaW.PrintWords Go.Proofs.YtdalpaobkmoomaaW.PrintLast Go.Proofs.YtdalpaobkmoomaaW.PrintMore
attribute [local go_sem] max2_int min2_int max_two min_two max_three min_three max_four min_four   -- for this text's walks alone
set_option linter.unusedVariables false
set_option linter.unusedSimpArgs false
def machine_Check.f (k : Nat) (a0_0 : Int) (a0_1 : Int) (a0_2 : Int) (a0_3 : Int) (l0_4 : List Int) (l0_5 : List Int) : Option (Int × Int) := (machine_head.f k a0_0 a0_1 a0_2 a0_3 l0_4 l0_5).bind fun t296 => (if t296 = 0 then ((machine_beyond.f k l0_4 a0_3).bind fun t297 => (if t297 ≥ 0 then (some (t297, 32)) else ((machine_beyond.f k l0_5 a0_2).bind fun t298 => (if t298 ≥ 0 then (some (t298, 33)) else (some (0, 0)))))) else (some (0, t296)))
set_option maxHeartbeats 8000000 in
set_option maxRecDepth 100000 in
theorem machine_Check.calls (k : Nat) (a0_0 : Int) (a0_1 : Int) (a0_2 : Int) (a0_3 : Int) (A0_4 : Option Addr) (c0_4 : Nat) (l0_4 : List Int) (A0_5 : Option Addr) (c0_5 : Nat) (l0_5 : List Int) (r1 : Int) (r2 : Int) (w : World) (hr0_4 : Kd.C (Kd.int .i64) w A0_4 l0_4.length l0_4) (hc0_4 : l0_4.length ≤ c0_4) (hr0_5 : Kd.C (Kd.int .i64) w A0_5 l0_5.length l0_5) (hc0_5 : l0_5.length ≤ c0_5) (h : machine_Check.f k a0_0 a0_1 a0_2 a0_3 l0_4 l0_5 = some (r1, r2)) :
    Calls Try.prog 33 #[.agg #[.int .i64 a0_0, .int .i64 a0_1, .int .i64 a0_2, .int .i64 a0_3, .slice A0_4 l0_4.length c0_4, .slice A0_5 l0_5.length c0_5]] w fun e w' => e = .returned (.tuple #[.int .i64 r1, .int .i64 r2]) ∧ Below w.heap.size w w' := by
  have hu53 := Try.underlying53
  have HR0_4 := Aside0.mk hr0_4
  have HC0_4 := Aside0.mk hc0_4
  clear hr0_4 hc0_4
  have HR0_5 := Aside0.mk hr0_5
  have HC0_5 := Aside0.mk hc0_5
  clear hr0_5 hc0_5
  have HB := Aside0.mk (Below.refl w.heap.size w)
  have H : ((machine_head.f k a0_0 a0_1 a0_2 a0_3 l0_4 l0_5).bind fun t296 => (if t296 = 0 then ((machine_beyond.f k l0_4 a0_3).bind fun t297 => (if t297 ≥ 0 then (some (t297, 32)) else ((machine_beyond.f k l0_5 a0_2).bind fun t298 => (if t298 ≥ 0 then (some (t298, 33)) else (some (0, 0)))))) else (some (0, t296)))) = some (r1, r2) := h
  clear h
  replace H := Option.bind_eq_some_iff.mp H
  obtain ⟨t296, A20, H⟩ := H
  replace H : (if t296 = 0 then ((machine_beyond.f k l0_4 a0_3).bind fun t297 => (if t297 ≥ 0 then (some (t297, 32)) else ((machine_beyond.f k l0_5 a0_2).bind fun t298 => (if t298 ≥ 0 then (some (t298, 33)) else (some (0, 0)))))) else (some (0, t296))) = some (r1, r2) := H
  have A2 := Aside0.mk A20
  clear A20
  by_cases c3 : t296 = 0
  · rw [if_pos c3] at H
    have c3b0 : (t296 == 0) = true := beq_iff_eq.mpr c3
    have c3b1 : (t296 != 0) = false := bne_eq_false_iff_eq.mpr c3
    clear c3
    replace H := Option.bind_eq_some_iff.mp H
    obtain ⟨t297, A40, H⟩ := H
    replace H : (if t297 ≥ 0 then (some (t297, 32)) else ((machine_beyond.f k l0_5 a0_2).bind fun t298 => (if t298 ≥ 0 then (some (t298, 33)) else (some (0, 0))))) = some (r1, r2) := H
    have A4 := Aside0.mk A40
    clear A40
    by_cases c5 : t297 ≥ 0
    · rw [if_pos c5] at H
      have c5b0 : decide (0 ≤ t297) = true := decide_eq_true c5
      clear c5
      simp only [Option.some.injEq, Prod.mk.injEq] at H
      obtain ⟨rfl, rfl⟩ := H
      go_enter Try.func33, Try.ntmps33
      go_wp2_with (first | ((with_reducible refine gate_dst (N := 1) rfl ?_); refine box_event ?hg (N := 1) ?hd (cs := #[.int .i64 a0_0, .int .i64 a0_1, .int .i64 a0_2, .int .i64 a0_3, .slice A0_4 l0_4.length c0_4, .slice A0_5 l0_5.length c0_5]) (t := 53) ?hr ?_; (case hd => rfl); (case hg => rfl); (case hr => first | (go_simp; done) | (go_simp; rfl)); intro gb295 hg w6 hbox hb; have n0_ := Aside0.mk (below_step (by repeat (first | (with_reducible first | exact HB.out | apply below_alloc | apply pw_below_drewN | apply below_drew1) | exact HB.out)) hb); have n1_ := Aside0.mk (hbox); have n2_ := Aside0.mk ((by rw [hg]; exact (below_size (by repeat (first | (with_reducible first | exact HB.out | apply below_alloc | apply pw_below_drewN | apply below_drew1) | exact HB.out))) : w.heap.size ≤ gb295)); have n3_ := Aside0.mk ((by rw [hg]; exact (below_size (by repeat (first | (with_reducible first | exact HB.out | apply below_alloc | apply pw_below_drewN | apply below_drew1) | exact HB.out))) : w.heap.size ≤ gb295)); clear HB; have HB := n0_; have BK295 := n1_; have GW295 := n2_; have GE295 := n3_; clear n0_ n1_ n2_ n3_; clear hb hbox hg; have hcz7_0 : w6.cell? ⟨gb295, 0, none⟩ = some (.int .i64 a0_0) := (blk_cell BK295.out 0).trans rfl; have hcz7_1 : w6.cell? ⟨gb295, 1, none⟩ = some (.int .i64 a0_1) := (blk_cell BK295.out 1).trans rfl; have hcz7_2 : w6.cell? ⟨gb295, 2, none⟩ = some (.int .i64 a0_2) := (blk_cell BK295.out 2).trans rfl; have hcz7_3 : w6.cell? ⟨gb295, 3, none⟩ = some (.int .i64 a0_3) := (blk_cell BK295.out 3).trans rfl; have hcz7_4 : w6.cell? ⟨gb295, 4, none⟩ = some (.slice A0_4 l0_4.length c0_4) := (blk_cell BK295.out 4).trans rfl; have hcz7_5 : w6.cell? ⟨gb295, 5, none⟩ = some (.slice A0_5 l0_5.length c0_5) := (blk_cell BK295.out 5).trans rfl; have hfz7_0 := blk_frozen BK295.out 0; have hfz7_1 := blk_frozen BK295.out 1; have hfz7_2 := blk_frozen BK295.out 2; have hfz7_3 := blk_frozen BK295.out 3; have hfz7_4 := blk_frozen BK295.out 4; have hfz7_5 := blk_frozen BK295.out 5) | ((with_reducible refine gate_callee (f := 43) rfl ?_); refine goesL_ (some 8) rfl rfl Try.func43 (by kernel_rfl) rfl #[.agg #[.int .i64 a0_0, .int .i64 a0_1, .int .i64 a0_2, .int .i64 a0_3, .slice A0_4 l0_4.length c0_4, .slice A0_5 l0_5.length c0_5]] rfl (by (try simp only [List.map_toArray, List.map_cons, List.map_nil]); first | done | rfl | (simp only [List.length_drop, List.length_take]; rfl)) ?_; (with_reducible refine (machine_head.calls k a0_0 a0_1 a0_2 a0_3 _ _ l0_4 _ _ l0_5 t296 _ ?side1 ?side2 ?side3 ?side4 A2.out).mono ?_); (case side1 => repeat (first | exact (Kd.C_below HR0_4.out HB.out) | (with_reducible refine Kd.C_alloc ?_ _) | (with_reducible refine Kd.C_drewN ?_ _) | (with_reducible refine Kd.C_drew ?_))); (case side2 => exact HC0_4.out); (case side3 => repeat (first | exact (Kd.C_below HR0_5.out HB.out) | (with_reducible refine Kd.C_alloc ?_ _) | (with_reducible refine Kd.C_drewN ?_ _) | (with_reducible refine Kd.C_drew ?_))); (case side4 => exact HC0_5.out); rintro e w8 ⟨rfl, hb⟩; refine ⟨_, rfl, ?_⟩; have n0_ := Aside0.mk (blk_below (g := gb295) (o := .cells #[.int .i64 a0_0, .int .i64 a0_1, .int .i64 a0_2, .int .i64 a0_3, .slice A0_4 l0_4.length c0_4, .slice A0_5 l0_5.length c0_5] 53 (0, 0)) (by (with_reducible repeat (first | refine blk_drewN ?_ _ | refine blk_drew ?_ | refine blk_alloc ?_ _)); exact BK295.out) hb); have n1_ := Aside0.mk (below_step (by repeat (first | (with_reducible first | exact HB.out | apply below_alloc | apply pw_below_drewN | apply below_drew1 | refine below_set ?_ GE295.out) | exact HB.out)) hb); clear BK295; clear HB; have BK295 := n0_; have HB := n1_; clear n0_ n1_; (try clear hb); (try clear hb2); (try clear hk); (try clear hi); have hcz9_0 : w8.cell? ⟨gb295, 0, none⟩ = some (.int .i64 a0_0) := (blk_cell BK295.out 0).trans rfl; have hcz9_1 : w8.cell? ⟨gb295, 1, none⟩ = some (.int .i64 a0_1) := (blk_cell BK295.out 1).trans rfl; have hcz9_2 : w8.cell? ⟨gb295, 2, none⟩ = some (.int .i64 a0_2) := (blk_cell BK295.out 2).trans rfl; have hcz9_3 : w8.cell? ⟨gb295, 3, none⟩ = some (.int .i64 a0_3) := (blk_cell BK295.out 3).trans rfl; have hcz9_4 : w8.cell? ⟨gb295, 4, none⟩ = some (.slice A0_4 l0_4.length c0_4) := (blk_cell BK295.out 4).trans rfl; have hcz9_5 : w8.cell? ⟨gb295, 5, none⟩ = some (.slice A0_5 l0_5.length c0_5) := (blk_cell BK295.out 5).trans rfl; have hfz9_0 := blk_frozen BK295.out 0; have hfz9_1 := blk_frozen BK295.out 1; have hfz9_2 := blk_frozen BK295.out 2; have hfz9_3 := blk_frozen BK295.out 3; have hfz9_4 := blk_frozen BK295.out 4; have hfz9_5 := blk_frozen BK295.out 5) | ((with_reducible refine gate_callee (f := 44) rfl ?_); refine goesL_ (some 16) rfl rfl Try.func44 (by kernel_rfl) rfl #[.slice A0_4 l0_4.length c0_4, .int .i64 a0_3] rfl (by (try simp only [List.map_toArray, List.map_cons, List.map_nil]); first | done | rfl | (simp only [List.length_drop, List.length_take]; rfl)) ?_; (with_reducible refine (machine_beyond.calls k _ _ l0_4 a0_3 t297 _ ?side1 ?side2 A4.out).mono ?_); (case side1 => repeat (first | exact (Kd.C_below HR0_4.out HB.out) | (with_reducible refine Kd.C_alloc ?_ _) | (with_reducible refine Kd.C_drewN ?_ _) | (with_reducible refine Kd.C_drew ?_))); (case side2 => exact HC0_4.out); rintro e w' ⟨rfl, ⟨nd, rfl⟩⟩; refine ⟨_, rfl, ?_⟩))
      go_ret2
      exact ⟨by first | rfl | (simp [errW_none, errW_some] <;> rfl) | (simp [*, errW_none, errW_some] <;> rfl), by repeat (first | (with_reducible first | exact HB.out | apply below_alloc | apply pw_below_drewN | apply below_drew1 | refine below_set ?_ GE295.out) | exact HB.out)⟩
    · rw [if_neg c5] at H
      have c5b0 : decide (0 ≤ t297) = false := decide_eq_false c5
      clear c5
      replace H := Option.bind_eq_some_iff.mp H
      obtain ⟨t298, A100, H⟩ := H
      replace H : (if t298 ≥ 0 then (some (t298, 33)) else (some (0, 0))) = some (r1, r2) := H
      have A10 := Aside0.mk A100
      clear A100
      by_cases c11 : t298 ≥ 0
      · rw [if_pos c11] at H
        have c11b0 : decide (0 ≤ t298) = true := decide_eq_true c11
        clear c11
        simp only [Option.some.injEq, Prod.mk.injEq] at H
        obtain ⟨rfl, rfl⟩ := H
        go_enter Try.func33, Try.ntmps33
        go_wp2_with (first | ((with_reducible refine gate_dst (N := 1) rfl ?_); refine box_event ?hg (N := 1) ?hd (cs := #[.int .i64 a0_0, .int .i64 a0_1, .int .i64 a0_2, .int .i64 a0_3, .slice A0_4 l0_4.length c0_4, .slice A0_5 l0_5.length c0_5]) (t := 53) ?hr ?_; (case hd => rfl); (case hg => rfl); (case hr => first | (go_simp; done) | (go_simp; rfl)); intro gb295 hg w12 hbox hb; have n0_ := Aside0.mk (below_step (by repeat (first | (with_reducible first | exact HB.out | apply below_alloc | apply pw_below_drewN | apply below_drew1) | exact HB.out)) hb); have n1_ := Aside0.mk (hbox); have n2_ := Aside0.mk ((by rw [hg]; exact (below_size (by repeat (first | (with_reducible first | exact HB.out | apply below_alloc | apply pw_below_drewN | apply below_drew1) | exact HB.out))) : w.heap.size ≤ gb295)); have n3_ := Aside0.mk ((by rw [hg]; exact (below_size (by repeat (first | (with_reducible first | exact HB.out | apply below_alloc | apply pw_below_drewN | apply below_drew1) | exact HB.out))) : w.heap.size ≤ gb295)); clear HB; have HB := n0_; have BK295 := n1_; have GW295 := n2_; have GE295 := n3_; clear n0_ n1_ n2_ n3_; clear hb hbox hg; have hcz13_0 : w12.cell? ⟨gb295, 0, none⟩ = some (.int .i64 a0_0) := (blk_cell BK295.out 0).trans rfl; have hcz13_1 : w12.cell? ⟨gb295, 1, none⟩ = some (.int .i64 a0_1) := (blk_cell BK295.out 1).trans rfl; have hcz13_2 : w12.cell? ⟨gb295, 2, none⟩ = some (.int .i64 a0_2) := (blk_cell BK295.out 2).trans rfl; have hcz13_3 : w12.cell? ⟨gb295, 3, none⟩ = some (.int .i64 a0_3) := (blk_cell BK295.out 3).trans rfl; have hcz13_4 : w12.cell? ⟨gb295, 4, none⟩ = some (.slice A0_4 l0_4.length c0_4) := (blk_cell BK295.out 4).trans rfl; have hcz13_5 : w12.cell? ⟨gb295, 5, none⟩ = some (.slice A0_5 l0_5.length c0_5) := (blk_cell BK295.out 5).trans rfl; have hfz13_0 := blk_frozen BK295.out 0; have hfz13_1 := blk_frozen BK295.out 1; have hfz13_2 := blk_frozen BK295.out 2; have hfz13_3 := blk_frozen BK295.out 3; have hfz13_4 := blk_frozen BK295.out 4; have hfz13_5 := blk_frozen BK295.out 5) | ((with_reducible refine gate_callee (f := 43) rfl ?_); refine goesL_ (some 8) rfl rfl Try.func43 (by kernel_rfl) rfl #[.agg #[.int .i64 a0_0, .int .i64 a0_1, .int .i64 a0_2, .int .i64 a0_3, .slice A0_4 l0_4.length c0_4, .slice A0_5 l0_5.length c0_5]] rfl (by (try simp only [List.map_toArray, List.map_cons, List.map_nil]); first | done | rfl | (simp only [List.length_drop, List.length_take]; rfl)) ?_; (with_reducible refine (machine_head.calls k a0_0 a0_1 a0_2 a0_3 _ _ l0_4 _ _ l0_5 t296 _ ?side1 ?side2 ?side3 ?side4 A2.out).mono ?_); (case side1 => repeat (first | exact (Kd.C_below HR0_4.out HB.out) | (with_reducible refine Kd.C_alloc ?_ _) | (with_reducible refine Kd.C_drewN ?_ _) | (with_reducible refine Kd.C_drew ?_))); (case side2 => exact HC0_4.out); (case side3 => repeat (first | exact (Kd.C_below HR0_5.out HB.out) | (with_reducible refine Kd.C_alloc ?_ _) | (with_reducible refine Kd.C_drewN ?_ _) | (with_reducible refine Kd.C_drew ?_))); (case side4 => exact HC0_5.out); rintro e w14 ⟨rfl, hb⟩; refine ⟨_, rfl, ?_⟩; have n0_ := Aside0.mk (blk_below (g := gb295) (o := .cells #[.int .i64 a0_0, .int .i64 a0_1, .int .i64 a0_2, .int .i64 a0_3, .slice A0_4 l0_4.length c0_4, .slice A0_5 l0_5.length c0_5] 53 (0, 0)) (by (with_reducible repeat (first | refine blk_drewN ?_ _ | refine blk_drew ?_ | refine blk_alloc ?_ _)); exact BK295.out) hb); have n1_ := Aside0.mk (below_step (by repeat (first | (with_reducible first | exact HB.out | apply below_alloc | apply pw_below_drewN | apply below_drew1 | refine below_set ?_ GE295.out) | exact HB.out)) hb); clear BK295; clear HB; have BK295 := n0_; have HB := n1_; clear n0_ n1_; (try clear hb); (try clear hb2); (try clear hk); (try clear hi); have hcz15_0 : w14.cell? ⟨gb295, 0, none⟩ = some (.int .i64 a0_0) := (blk_cell BK295.out 0).trans rfl; have hcz15_1 : w14.cell? ⟨gb295, 1, none⟩ = some (.int .i64 a0_1) := (blk_cell BK295.out 1).trans rfl; have hcz15_2 : w14.cell? ⟨gb295, 2, none⟩ = some (.int .i64 a0_2) := (blk_cell BK295.out 2).trans rfl; have hcz15_3 : w14.cell? ⟨gb295, 3, none⟩ = some (.int .i64 a0_3) := (blk_cell BK295.out 3).trans rfl; have hcz15_4 : w14.cell? ⟨gb295, 4, none⟩ = some (.slice A0_4 l0_4.length c0_4) := (blk_cell BK295.out 4).trans rfl; have hcz15_5 : w14.cell? ⟨gb295, 5, none⟩ = some (.slice A0_5 l0_5.length c0_5) := (blk_cell BK295.out 5).trans rfl; have hfz15_0 := blk_frozen BK295.out 0; have hfz15_1 := blk_frozen BK295.out 1; have hfz15_2 := blk_frozen BK295.out 2; have hfz15_3 := blk_frozen BK295.out 3; have hfz15_4 := blk_frozen BK295.out 4; have hfz15_5 := blk_frozen BK295.out 5) | ((with_reducible refine gate_callee (f := 44) rfl ?_); refine goesL_ (some 16) rfl rfl Try.func44 (by kernel_rfl) rfl #[.slice A0_4 l0_4.length c0_4, .int .i64 a0_3] rfl (by (try simp only [List.map_toArray, List.map_cons, List.map_nil]); first | done | rfl | (simp only [List.length_drop, List.length_take]; rfl)) ?_; (with_reducible refine (machine_beyond.calls k _ _ l0_4 a0_3 t297 _ ?side1 ?side2 A4.out).mono ?_); (case side1 => repeat (first | exact (Kd.C_below HR0_4.out HB.out) | (with_reducible refine Kd.C_alloc ?_ _) | (with_reducible refine Kd.C_drewN ?_ _) | (with_reducible refine Kd.C_drew ?_))); (case side2 => exact HC0_4.out); rintro e w' ⟨rfl, ⟨nd, rfl⟩⟩; refine ⟨_, rfl, ?_⟩) | ((with_reducible refine gate_callee (f := 44) rfl ?_); refine goesL_ (some 24) rfl rfl Try.func44 (by kernel_rfl) rfl #[.slice A0_5 l0_5.length c0_5, .int .i64 a0_2] rfl (by (try simp only [List.map_toArray, List.map_cons, List.map_nil]); first | done | rfl | (simp only [List.length_drop, List.length_take]; rfl)) ?_; (with_reducible refine (machine_beyond.calls k _ _ l0_5 a0_2 t298 _ ?side1 ?side2 A10.out).mono ?_); (case side1 => repeat (first | exact (Kd.C_below HR0_5.out (by repeat (first | (with_reducible first | exact HB.out | apply below_alloc | apply pw_below_drewN | apply below_drew1 | refine below_set ?_ GE295.out) | exact HB.out))) | (with_reducible refine Kd.C_alloc ?_ _) | (with_reducible refine Kd.C_drewN ?_ _) | (with_reducible refine Kd.C_drew ?_))); (case side2 => exact HC0_5.out); rintro e w' ⟨rfl, ⟨nd, rfl⟩⟩; refine ⟨_, rfl, ?_⟩))
        go_ret2
        exact ⟨by first | rfl | (simp [errW_none, errW_some] <;> rfl) | (simp [*, errW_none, errW_some] <;> rfl), by repeat (first | (with_reducible first | exact HB.out | apply below_alloc | apply pw_below_drewN | apply below_drew1 | refine below_set ?_ GE295.out) | exact HB.out)⟩
      · rw [if_neg c11] at H
        have c11b0 : decide (0 ≤ t298) = false := decide_eq_false c11
        clear c11
        simp only [Option.some.injEq, Prod.mk.injEq] at H
        obtain ⟨rfl, rfl⟩ := H
        go_enter Try.func33, Try.ntmps33
        go_wp2_with (first | ((with_reducible refine gate_dst (N := 1) rfl ?_); refine box_event ?hg (N := 1) ?hd (cs := #[.int .i64 a0_0, .int .i64 a0_1, .int .i64 a0_2, .int .i64 a0_3, .slice A0_4 l0_4.length c0_4, .slice A0_5 l0_5.length c0_5]) (t := 53) ?hr ?_; (case hd => rfl); (case hg => rfl); (case hr => first | (go_simp; done) | (go_simp; rfl)); intro gb295 hg w16 hbox hb; have n0_ := Aside0.mk (below_step (by repeat (first | (with_reducible first | exact HB.out | apply below_alloc | apply pw_below_drewN | apply below_drew1) | exact HB.out)) hb); have n1_ := Aside0.mk (hbox); have n2_ := Aside0.mk ((by rw [hg]; exact (below_size (by repeat (first | (with_reducible first | exact HB.out | apply below_alloc | apply pw_below_drewN | apply below_drew1) | exact HB.out))) : w.heap.size ≤ gb295)); have n3_ := Aside0.mk ((by rw [hg]; exact (below_size (by repeat (first | (with_reducible first | exact HB.out | apply below_alloc | apply pw_below_drewN | apply below_drew1) | exact HB.out))) : w.heap.size ≤ gb295)); clear HB; have HB := n0_; have BK295 := n1_; have GW295 := n2_; have GE295 := n3_; clear n0_ n1_ n2_ n3_; clear hb hbox hg; have hcz17_0 : w16.cell? ⟨gb295, 0, none⟩ = some (.int .i64 a0_0) := (blk_cell BK295.out 0).trans rfl; have hcz17_1 : w16.cell? ⟨gb295, 1, none⟩ = some (.int .i64 a0_1) := (blk_cell BK295.out 1).trans rfl; have hcz17_2 : w16.cell? ⟨gb295, 2, none⟩ = some (.int .i64 a0_2) := (blk_cell BK295.out 2).trans rfl; have hcz17_3 : w16.cell? ⟨gb295, 3, none⟩ = some (.int .i64 a0_3) := (blk_cell BK295.out 3).trans rfl; have hcz17_4 : w16.cell? ⟨gb295, 4, none⟩ = some (.slice A0_4 l0_4.length c0_4) := (blk_cell BK295.out 4).trans rfl; have hcz17_5 : w16.cell? ⟨gb295, 5, none⟩ = some (.slice A0_5 l0_5.length c0_5) := (blk_cell BK295.out 5).trans rfl; have hfz17_0 := blk_frozen BK295.out 0; have hfz17_1 := blk_frozen BK295.out 1; have hfz17_2 := blk_frozen BK295.out 2; have hfz17_3 := blk_frozen BK295.out 3; have hfz17_4 := blk_frozen BK295.out 4; have hfz17_5 := blk_frozen BK295.out 5) | ((with_reducible refine gate_callee (f := 43) rfl ?_); refine goesL_ (some 8) rfl rfl Try.func43 (by kernel_rfl) rfl #[.agg #[.int .i64 a0_0, .int .i64 a0_1, .int .i64 a0_2, .int .i64 a0_3, .slice A0_4 l0_4.length c0_4, .slice A0_5 l0_5.length c0_5]] rfl (by (try simp only [List.map_toArray, List.map_cons, List.map_nil]); first | done | rfl | (simp only [List.length_drop, List.length_take]; rfl)) ?_; (with_reducible refine (machine_head.calls k a0_0 a0_1 a0_2 a0_3 _ _ l0_4 _ _ l0_5 t296 _ ?side1 ?side2 ?side3 ?side4 A2.out).mono ?_); (case side1 => repeat (first | exact (Kd.C_below HR0_4.out HB.out) | (with_reducible refine Kd.C_alloc ?_ _) | (with_reducible refine Kd.C_drewN ?_ _) | (with_reducible refine Kd.C_drew ?_))); (case side2 => exact HC0_4.out); (case side3 => repeat (first | exact (Kd.C_below HR0_5.out HB.out) | (with_reducible refine Kd.C_alloc ?_ _) | (with_reducible refine Kd.C_drewN ?_ _) | (with_reducible refine Kd.C_drew ?_))); (case side4 => exact HC0_5.out); rintro e w18 ⟨rfl, hb⟩; refine ⟨_, rfl, ?_⟩; have n0_ := Aside0.mk (blk_below (g := gb295) (o := .cells #[.int .i64 a0_0, .int .i64 a0_1, .int .i64 a0_2, .int .i64 a0_3, .slice A0_4 l0_4.length c0_4, .slice A0_5 l0_5.length c0_5] 53 (0, 0)) (by (with_reducible repeat (first | refine blk_drewN ?_ _ | refine blk_drew ?_ | refine blk_alloc ?_ _)); exact BK295.out) hb); have n1_ := Aside0.mk (below_step (by repeat (first | (with_reducible first | exact HB.out | apply below_alloc | apply pw_below_drewN | apply below_drew1 | refine below_set ?_ GE295.out) | exact HB.out)) hb); clear BK295; clear HB; have BK295 := n0_; have HB := n1_; clear n0_ n1_; (try clear hb); (try clear hb2); (try clear hk); (try clear hi); have hcz19_0 : w18.cell? ⟨gb295, 0, none⟩ = some (.int .i64 a0_0) := (blk_cell BK295.out 0).trans rfl; have hcz19_1 : w18.cell? ⟨gb295, 1, none⟩ = some (.int .i64 a0_1) := (blk_cell BK295.out 1).trans rfl; have hcz19_2 : w18.cell? ⟨gb295, 2, none⟩ = some (.int .i64 a0_2) := (blk_cell BK295.out 2).trans rfl; have hcz19_3 : w18.cell? ⟨gb295, 3, none⟩ = some (.int .i64 a0_3) := (blk_cell BK295.out 3).trans rfl; have hcz19_4 : w18.cell? ⟨gb295, 4, none⟩ = some (.slice A0_4 l0_4.length c0_4) := (blk_cell BK295.out 4).trans rfl; have hcz19_5 : w18.cell? ⟨gb295, 5, none⟩ = some (.slice A0_5 l0_5.length c0_5) := (blk_cell BK295.out 5).trans rfl; have hfz19_0 := blk_frozen BK295.out 0; have hfz19_1 := blk_frozen BK295.out 1; have hfz19_2 := blk_frozen BK295.out 2; have hfz19_3 := blk_frozen BK295.out 3; have hfz19_4 := blk_frozen BK295.out 4; have hfz19_5 := blk_frozen BK295.out 5) | ((with_reducible refine gate_callee (f := 44) rfl ?_); refine goesL_ (some 16) rfl rfl Try.func44 (by kernel_rfl) rfl #[.slice A0_4 l0_4.length c0_4, .int .i64 a0_3] rfl (by (try simp only [List.map_toArray, List.map_cons, List.map_nil]); first | done | rfl | (simp only [List.length_drop, List.length_take]; rfl)) ?_; (with_reducible refine (machine_beyond.calls k _ _ l0_4 a0_3 t297 _ ?side1 ?side2 A4.out).mono ?_); (case side1 => repeat (first | exact (Kd.C_below HR0_4.out HB.out) | (with_reducible refine Kd.C_alloc ?_ _) | (with_reducible refine Kd.C_drewN ?_ _) | (with_reducible refine Kd.C_drew ?_))); (case side2 => exact HC0_4.out); rintro e w' ⟨rfl, ⟨nd, rfl⟩⟩; refine ⟨_, rfl, ?_⟩) | ((with_reducible refine gate_callee (f := 44) rfl ?_); refine goesL_ (some 24) rfl rfl Try.func44 (by kernel_rfl) rfl #[.slice A0_5 l0_5.length c0_5, .int .i64 a0_2] rfl (by (try simp only [List.map_toArray, List.map_cons, List.map_nil]); first | done | rfl | (simp only [List.length_drop, List.length_take]; rfl)) ?_; (with_reducible refine (machine_beyond.calls k _ _ l0_5 a0_2 t298 _ ?side1 ?side2 A10.out).mono ?_); (case side1 => repeat (first | exact (Kd.C_below HR0_5.out (by repeat (first | (with_reducible first | exact HB.out | apply below_alloc | apply pw_below_drewN | apply below_drew1 | refine below_set ?_ GE295.out) | exact HB.out))) | (with_reducible refine Kd.C_alloc ?_ _) | (with_reducible refine Kd.C_drewN ?_ _) | (with_reducible refine Kd.C_drew ?_))); (case side2 => exact HC0_5.out); rintro e w' ⟨rfl, ⟨nd, rfl⟩⟩; refine ⟨_, rfl, ?_⟩))
        go_ret2
        exact ⟨by first | rfl | (simp [errW_none, errW_some] <;> rfl) | (simp [*, errW_none, errW_some] <;> rfl), by repeat (first | (with_reducible first | exact HB.out | apply below_alloc | apply pw_below_drewN | apply below_drew1 | refine below_set ?_ GE295.out) | exact HB.out)⟩
  · rw [if_neg c3] at H
    have c3b0 : (t296 == 0) = false := beq_eq_false_iff_ne.mpr c3
    have c3b1 : (t296 != 0) = true := bne_iff_ne.mpr c3
    simp only [Option.some.injEq, Prod.mk.injEq] at H
    obtain ⟨rfl, rfl⟩ := H
    go_enter Try.func33, Try.ntmps33
    go_wp2_with (first | ((with_reducible refine gate_dst (N := 1) rfl ?_); refine box_event ?hg (N := 1) ?hd (cs := #[.int .i64 a0_0, .int .i64 a0_1, .int .i64 a0_2, .int .i64 a0_3, .slice A0_4 l0_4.length c0_4, .slice A0_5 l0_5.length c0_5]) (t := 53) ?hr ?_; (case hd => rfl); (case hg => rfl); (case hr => first | (go_simp; done) | (go_simp; rfl)); intro gb295 hg w20 hbox hb; have n0_ := Aside0.mk (below_step (by repeat (first | (with_reducible first | exact HB.out | apply below_alloc | apply pw_below_drewN | apply below_drew1) | exact HB.out)) hb); have n1_ := Aside0.mk (hbox); have n2_ := Aside0.mk ((by rw [hg]; exact (below_size (by repeat (first | (with_reducible first | exact HB.out | apply below_alloc | apply pw_below_drewN | apply below_drew1) | exact HB.out))) : w.heap.size ≤ gb295)); have n3_ := Aside0.mk ((by rw [hg]; exact (below_size (by repeat (first | (with_reducible first | exact HB.out | apply below_alloc | apply pw_below_drewN | apply below_drew1) | exact HB.out))) : w.heap.size ≤ gb295)); clear HB; have HB := n0_; have BK295 := n1_; have GW295 := n2_; have GE295 := n3_; clear n0_ n1_ n2_ n3_; clear hb hbox hg; have hcz21_0 : w20.cell? ⟨gb295, 0, none⟩ = some (.int .i64 a0_0) := (blk_cell BK295.out 0).trans rfl; have hcz21_1 : w20.cell? ⟨gb295, 1, none⟩ = some (.int .i64 a0_1) := (blk_cell BK295.out 1).trans rfl; have hcz21_2 : w20.cell? ⟨gb295, 2, none⟩ = some (.int .i64 a0_2) := (blk_cell BK295.out 2).trans rfl; have hcz21_3 : w20.cell? ⟨gb295, 3, none⟩ = some (.int .i64 a0_3) := (blk_cell BK295.out 3).trans rfl; have hcz21_4 : w20.cell? ⟨gb295, 4, none⟩ = some (.slice A0_4 l0_4.length c0_4) := (blk_cell BK295.out 4).trans rfl; have hcz21_5 : w20.cell? ⟨gb295, 5, none⟩ = some (.slice A0_5 l0_5.length c0_5) := (blk_cell BK295.out 5).trans rfl; have hfz21_0 := blk_frozen BK295.out 0; have hfz21_1 := blk_frozen BK295.out 1; have hfz21_2 := blk_frozen BK295.out 2; have hfz21_3 := blk_frozen BK295.out 3; have hfz21_4 := blk_frozen BK295.out 4; have hfz21_5 := blk_frozen BK295.out 5) | ((with_reducible refine gate_callee (f := 43) rfl ?_); refine goesL_ (some 8) rfl rfl Try.func43 (by kernel_rfl) rfl #[.agg #[.int .i64 a0_0, .int .i64 a0_1, .int .i64 a0_2, .int .i64 a0_3, .slice A0_4 l0_4.length c0_4, .slice A0_5 l0_5.length c0_5]] rfl (by (try simp only [List.map_toArray, List.map_cons, List.map_nil]); first | done | rfl | (simp only [List.length_drop, List.length_take]; rfl)) ?_; (with_reducible refine (machine_head.calls k a0_0 a0_1 a0_2 a0_3 _ _ l0_4 _ _ l0_5 t296 _ ?side1 ?side2 ?side3 ?side4 A2.out).mono ?_); (case side1 => repeat (first | exact (Kd.C_below HR0_4.out HB.out) | (with_reducible refine Kd.C_alloc ?_ _) | (with_reducible refine Kd.C_drewN ?_ _) | (with_reducible refine Kd.C_drew ?_))); (case side2 => exact HC0_4.out); (case side3 => repeat (first | exact (Kd.C_below HR0_5.out HB.out) | (with_reducible refine Kd.C_alloc ?_ _) | (with_reducible refine Kd.C_drewN ?_ _) | (with_reducible refine Kd.C_drew ?_))); (case side4 => exact HC0_5.out); rintro e w22 ⟨rfl, hb⟩; refine ⟨_, rfl, ?_⟩; have n0_ := Aside0.mk (blk_below (g := gb295) (o := .cells #[.int .i64 a0_0, .int .i64 a0_1, .int .i64 a0_2, .int .i64 a0_3, .slice A0_4 l0_4.length c0_4, .slice A0_5 l0_5.length c0_5] 53 (0, 0)) (by (with_reducible repeat (first | refine blk_drewN ?_ _ | refine blk_drew ?_ | refine blk_alloc ?_ _)); exact BK295.out) hb); have n1_ := Aside0.mk (below_step (by repeat (first | (with_reducible first | exact HB.out | apply below_alloc | apply pw_below_drewN | apply below_drew1 | refine below_set ?_ GE295.out) | exact HB.out)) hb); clear BK295; clear HB; have BK295 := n0_; have HB := n1_; clear n0_ n1_; (try clear hb); (try clear hb2); (try clear hk); (try clear hi)))
    go_ret2
    exact ⟨by first | rfl | (simp [errW_none, errW_some] <;> rfl) | (simp [*, errW_none, errW_some] <;> rfl), by repeat (first | (with_reducible first | exact HB.out | apply below_alloc | apply pw_below_drewN | apply below_drew1 | refine below_set ?_ GE295.out) | exact HB.out)⟩
end Go.Proofs.Ytdalpaobkmoomaa.X
end

section
namespace Go.Proofs.Ytdalpaobkmoomaa.X
open Go.RowKit Go.Proofs.YtdalpaobkmoomaaW.PrintWords Go.Proofs.YtdalpaobkmoomaaW.PrintLast Go.Proofs.YtdalpaobkmoomaaW.PrintMore
def In64 (x : Int) : Prop := -9223372036854775808 ≤ x ∧ x ≤ 9223372036854775807
theorem wf64 {x : Int} (h : (Lit.int .i64 x).wf = true) : In64 x := by
  simp [Lit.wf, IntKind.min, IntKind.max, IntKind.signed, IntKind.bits] at h
  unfold In64
  omega
theorem wfs {l : List Int} (h : ∀ x ∈ l, (Lit.int .i64 x).wf = true) : ∀ x ∈ l, In64 x := fun x hx => wf64 (h x hx)
theorem w64i {i : Int} (h0 : -9223372036854775808 ≤ i) (h : i ≤ 9223372036854775807) : wrap64 i = i := by unfold wrap64; omega
theorem w64j {i : Nat} (h : i < 4611686018427387904) : wrap64 ((i : Int) + 1) = ((i + 1 : Nat) : Int) := by unfold wrap64; omega
theorem rdj {xs : List Int} {i : Nat} (h : i < xs.length) : rd xs (i : Int) = xs[i] := by simp [rd, List.getD_eq_getElem?_getD, List.getElem?_eq_getElem h]
/-- Where the first number stands that is not below a bound. -/
def firstBad (hi : Int) : List Int → Int → Int
  | [], _ => -1
  | x :: r, i => if x < 0 ∨ x ≥ hi then i else firstBad hi r (i + 1)
theorem u64_ge {x hi : Int} (hx : In64 x) (h : In64 hi) (h0 : 0 ≤ hi) : (IntKind.u64.wrap x ≥ IntKind.u64.wrap hi) ↔ (x < 0 ∨ x ≥ hi) := by
  unfold In64 at *
  have e1 : IntKind.u64.wrap hi = hi := IntWalk.u64_in _ ⟨h0, by omega⟩
  rw [e1]
  by_cases hn : 0 ≤ x
  · rw [IntWalk.u64_in x ⟨hn, by omega⟩]
    omega
  · have e2 : IntKind.u64.wrap x = x + 18446744073709551616 := by
      simp only [IntKind.wrap, IntKind.signed, IntKind.bits]
      simp
      omega
    rw [e2]
    omega
theorem bey_l0 (l : List Int) (hi : Int) (hb : l.length ≤ 4611686018427387903) (hl : ∀ x ∈ l, In64 x) (hh : In64 hi) (h0 : 0 ≤ hi) : ∀ (d k i : Nat), i + d = l.length → d < k → machine_beyond.l0 k l hi (l.length : Int) (i : Int) = some (firstBad hi (l.drop i) i) := by
  intro d
  induction d with
  | zero =>
    intro k i h hk
    obtain ⟨k, rfl⟩ : ∃ m, k = m + 1 := ⟨k - 1, by omega⟩
    rw [machine_beyond.l0, if_neg (by omega), List.drop_of_length_le (by omega)]
    rfl
  | succ d ih =>
    intro k i h hk
    obtain ⟨k, rfl⟩ : ∃ m, k = m + 1 := ⟨k - 1, by omega⟩
    have hi' : i < l.length := by omega
    rw [machine_beyond.l0, if_pos (by omega), if_pos (by omega), if_pos (by omega), rdj hi', List.drop_eq_getElem_cons hi', firstBad]
    have hx := u64_ge (hl l[i] (List.getElem_mem hi')) hh h0
    by_cases hc : l[i] < 0 ∨ l[i] ≥ hi
    · rw [if_pos (hx.2 hc), if_pos hc]
    · rw [if_neg (fun h => hc (hx.1 h)), if_neg hc, w64j (by omega), ih k (i + 1) (by omega) (by omega)]
      rfl
theorem bey_f {l : List Int} {hi : Int} {k : Nat} (hb : l.length ≤ 100000) (hl : ∀ x ∈ l, In64 x) (hh : In64 hi) (h0 : 0 ≤ hi) (hk : 100000 < k) : machine_beyond.f k l hi = some (firstBad hi l 0) := by
  unfold machine_beyond.f
  exact bey_l0 l hi (by omega) hl hh h0 l.length k 0 (by omega) (by omega)
def headErr (kd K O N : Int) (nx out : List Int) : Int :=
  if kd ≠ 1 ∧ kd ≠ 2 then 30 else if K < 1 ∨ K > 64 then 1 else if (kd = 1 ∧ O ≠ 2) ∨ O < 1 ∨ O > 64 then 33 else if N < 1 ∨ N > 1024 then 3
  else if (nx.length : Int) ≠ N * K ∨ (out.length : Int) ≠ (if kd = 1 then N else N * K) then 31 else 0
theorem head_prog (kd K O N : Int) (nx out : List Int) {k : Nat} (hk : 10 ≤ k) : machine_head.f k kd K O N nx out = some (headErr kd K O N nx out) := by
  obtain ⟨k, rfl⟩ : ∃ m, k = m + 6 := ⟨k - 6, by omega⟩
  have hw : 1 ≤ K → K ≤ 64 → 1 ≤ N → N ≤ 1024 → wrap64 (N * K) = N * K := fun h1 h2 h3 h4 => by
    have : N * K ≤ 1024 * 64 := Int.mul_le_mul h4 h2 (by omega) (by omega)
    have : 0 ≤ N * K := Int.mul_nonneg (by omega) (by omega)
    exact w64i (by omega) (by omega)
  unfold headErr
  grind [machine_head.f, machine_head.j0, machine_head.j1, machine_head.j2, machine_head.j3, machine_head.j4, machine_says.f]
/-- Which machines are right, and where the first fault is. -/
def mcheck (kd K O N : Int) (nx out : List Int) : Int × Int :=
  if headErr kd K O N nx out ≠ 0 then (0, headErr kd K O N nx out) else if firstBad N nx 0 ≥ 0 then (firstBad N nx 0, 32) else if firstBad O out 0 ≥ 0 then (firstBad O out 0, 33) else (0, 0)
theorem head_size {kd K O N : Int} {nx out : List Int} (h : headErr kd K O N nx out = 0) : nx.length ≤ 65536 ∧ out.length ≤ 65536 := by
  unfold headErr at h
  have hw : 1 ≤ K → K ≤ 64 → 1 ≤ N → N ≤ 1024 → N * K ≤ 1024 * 64 := fun h1 h2 h3 h4 => Int.mul_le_mul h4 h2 (by omega) (by omega)
  grind
theorem head_bounds {kd K O N : Int} {nx out : List Int} (h : headErr kd K O N nx out = 0) : (kd = 1 ∨ kd = 2) ∧ (1 ≤ K ∧ K ≤ 64) ∧ (1 ≤ O ∧ O ≤ 64) ∧ (1 ≤ N ∧ N ≤ 1024) ∧ (kd = 1 → O = 2) ∧ (nx.length : Int) = N * K ∧ (out.length : Int) = (if kd = 1 then N else N * K) := by
  unfold headErr at h
  grind (splits := 30)
theorem mach_prog {kd K O N : Int} {nx out : List Int} (hn : ∀ x ∈ nx, In64 x) (ho : ∀ x ∈ out, In64 x) {k : Nat} (hk : 200000 ≤ k) : machine_Check.f k kd K O N nx out = some (mcheck kd K O N nx out) := by
  unfold machine_Check.f mcheck
  rw [head_prog kd K O N nx out (by omega), Option.bind_some]
  by_cases h : headErr kd K O N nx out = 0
  · have hs := head_size h
    have hb := head_bounds h
    rw [if_pos h, if_neg (by simpa using h), bey_f (by omega) hn (by unfold In64; omega) (by omega) (by omega), Option.bind_some, bey_f (by omega) ho (by unfold In64; omega) (by omega) (by omega), Option.bind_some]
    grind
  · rw [if_neg h, if_pos h]
theorem ref_m1 (kd K O N : Int) (nx out : List Int) (hb : out.length ≤ 100000) : ∀ (d k i : Nat), i + d = out.length → d < k → tutorref03_Check.l1 k (i : Int) kd K O N nx out = some (if firstBad O (out.drop i) i ≥ 0 then (firstBad O (out.drop i) i, 33) else (0, 0)) := by
  intro d
  induction d with
  | zero =>
    intro k i h hk
    obtain ⟨k, rfl⟩ : ∃ m, k = m + 1 := ⟨k - 1, by omega⟩
    rw [tutorref03_Check.l1, if_neg (by omega), List.drop_of_length_le (by omega)]
    rfl
  | succ d ih =>
    intro k i h hk
    obtain ⟨k, rfl⟩ : ∃ m, k = m + 1 := ⟨k - 1, by omega⟩
    have hi' : i < out.length := by omega
    rw [tutorref03_Check.l1, if_pos (by omega), if_pos (by omega), rdj hi', List.drop_eq_getElem_cons hi', firstBad, w64j (by omega), ih k (i + 1) (by omega) (by omega)]
    grind
theorem ref_m0 (kd K O N : Int) (nx out : List Int) (hb : out.length ≤ 100000) (hb2 : nx.length ≤ 100000) : ∀ (d k i : Nat), i + d = nx.length → d + 100001 < k → tutorref03_Check.l0 k (i : Int) kd K O N nx out = some (if firstBad N (nx.drop i) i ≥ 0 then (firstBad N (nx.drop i) i, 32) else if firstBad O out 0 ≥ 0 then (firstBad O out 0, 33) else (0, 0)) := by
  intro d
  induction d with
  | zero =>
    intro k i h hk
    obtain ⟨k, rfl⟩ : ∃ m, k = m + 1 := ⟨k - 1, by omega⟩
    have h1 := ref_m1 kd K O N nx out hb out.length k 0 (by omega) (by omega)
    rw [tutorref03_Check.l0, if_neg (by omega), List.drop_of_length_le (by omega)]
    rw [List.drop_zero] at h1
    exact h1
  | succ d ih =>
    intro k i h hk
    obtain ⟨k, rfl⟩ : ∃ m, k = m + 1 := ⟨k - 1, by omega⟩
    have hi' : i < nx.length := by omega
    rw [tutorref03_Check.l0, if_pos (by omega), if_pos (by omega), rdj hi', List.drop_eq_getElem_cons hi', firstBad, w64j (by omega), ih k (i + 1) (by omega) (by omega)]
    grind
theorem mach_ref {kd K O N : Int} {nx out : List Int} {k : Nat} (hk : 300000 ≤ k) : tutorref03_Check.f k kd K O N nx out = some (mcheck kd K O N nx out) := by
  obtain ⟨k, rfl⟩ : ∃ m, k = m + 6 := ⟨k - 6, by omega⟩
  have hw : 1 ≤ K → K ≤ 64 → 1 ≤ N → N ≤ 1024 → wrap64 (N * K) = N * K ∧ N * K ≤ 65536 := fun h1 h2 h3 h4 => by
    have h5 : N * K ≤ 1024 * 64 := Int.mul_le_mul h4 h2 (by omega) (by omega)
    have : 0 ≤ N * K := Int.mul_nonneg (by omega) (by omega)
    exact ⟨w64i (by omega) (by omega), by omega⟩
  have hl := fun (h1 : out.length ≤ 100000) (h2 : nx.length ≤ 100000) => ref_m0 kd K O N nx out h1 h2 nx.length k 0 (by omega) (by omega)
  rw [List.drop_zero] at hl
  unfold mcheck headErr
  grind (splits := 40) [tutorref03_Check.f, tutorref03_Check.j0, tutorref03_Check.j1, tutorref03_Check.j2, tutorref03_Check.j3, tutorref03_Check.j4, tutorref03_Check.j5]
theorem firstBad_none {hi : Int} : ∀ (l : List Int) (i : Int), 0 ≤ i → (firstBad hi l i < 0 ↔ ∀ x ∈ l, 0 ≤ x ∧ x < hi)
  | [], i, _ => by simp [firstBad]
  | x :: r, i, h => by
    have := firstBad_none (hi := hi) r (i + 1) (by omega)
    rw [List.forall_mem_cons, ← this, firstBad]
    split
    · exact ⟨fun _ => by omega, fun h => by omega⟩
    · exact ⟨fun h => ⟨by omega, h⟩, fun h => h.2⟩
theorem mcheck_ok {kd K O N : Int} {nx out : List Int} (h : (mcheck kd K O N nx out).2 = 0) : headErr kd K O N nx out = 0 ∧ (∀ x ∈ nx, 0 ≤ x ∧ x < N) ∧ (∀ x ∈ out, 0 ≤ x ∧ x < O) := by
  have h1 := firstBad_none (hi := N) nx 0 (by omega)
  have h2 := firstBad_none (hi := O) out 0 (by omega)
  unfold mcheck at h
  grind
end Go.Proofs.Ytdalpaobkmoomaa.X
end
