/- Texts of the statement BlockPlays, one behind the other: Go functions as Lean functions, the machine's calls, the plain law. -/
import Derived.Test.YtdalpaobkmoomaaMBlockPlays0
import Derived.Test.YtdalpaobkmoomaaMBlockPlays2
import Derived.Test.YtdalpaobkmoomaaMBlockPlays3
import Derived.Laws.StructEq
import Derived.Test.YtdalpaobkmoomaaProg
set_option linter.unusedVariables false
set_option linter.unusedSimpArgs false
section
namespace Go.Proofs.Ytdalpaobkmoomaa.X
open Go.RowKit Go.Proofs.YtdalpaobkmoomaaW.PrintWords Go.Proofs.YtdalpaobkmoomaaW.PrintLast Go.Proofs.YtdalpaobkmoomaaW.PrintMore
attribute [local go_sem] max2_int min2_int max_two min_two max_three min_three max_four min_four   -- for this text's walks alone
set_option linter.unusedVariables false
set_option linter.unusedSimpArgs false
def errW : Option Int → Value
  | none => .nilIface
  | some c => .iface 0 (.int .i64 c)
theorem errW_none : errW none = .nilIface := rfl
theorem errW_some (c : Int) : errW (some c) = .iface 0 (.int .i64 c) := rfl
theorem info3 : (Try.prog.info? 3).map (fun i => (i.zero, i.size, i.bytes)) = some (some (.int .i64 0), 1, 8) := by kernel_rfl
theorem info4 : (Try.prog.info? 4).map (fun i => (i.zero, i.size, i.bytes)) = some (some (.bool false), 1, 1) := by kernel_rfl
def rd_L1 (xs : List (List Int)) (i : Int) : (List Int) := xs.getD i.toNat ([] : List Int)
theorem at_L1 {w : World} {A : Option Addr} {n : Nat} {xs : List (List Int)} (h : Kd.C (Kd.slice 3 (Kd.int .i64)) w A n xs) (i : Int) (h0 : 0 ≤ i) (h1 : i < n) : ∃ ad A0 c0, A = some ad ∧ w.cell? (ad.add i.toNat) = some (.slice A0 (rd_L1 xs i).length c0) ∧ (rd_L1 xs i).length ≤ c0 ∧ (Kd.int .i64).C w A0 (rd_L1 xs i).length (rd_L1 xs i) := by
  obtain ⟨ad, c, e, _, hK, hc0⟩ := Kd.C_get h ([] : List Int) i h0 h1
  have hc : ∀ j u, c[j]? = some u → w.cell? (ad.add (i.toNat * 1 + j)) = some u := hc0
  obtain ⟨A0, c0, rfl, l0, g0⟩ := hK
  exact ⟨ad, A0, c0, e, by have hq := hc 0 _ rfl; rwa [Nat.mul_one, Nat.add_zero] at hq, l0, g0⟩
end Go.Proofs.Ytdalpaobkmoomaa.X
end

section
namespace Go.Proofs.Ytdalpaobkmoomaa.X
open Go.RowKit Go.Proofs.YtdalpaobkmoomaaW.PrintWords Go.Proofs.YtdalpaobkmoomaaW.PrintLast Go.Proofs.YtdalpaobkmoomaaW.PrintMore
def upd {α : Type} (f : Nat → α) (i : Nat) (v : α) : Nat → α := fun j => if j = i then v else f j
theorem upd_at {α : Type} (f : Nat → α) (i : Nat) (v : α) : upd f i v i = v := by simp [upd]
theorem upd_ne {α : Type} (f : Nat → α) {i j : Nat} (v : α) (h : j ≠ i) : upd f i v j = f j := by simp [upd, h]
def lst (n : Nat) (f : Nat → Nat) : List Int := (List.range n).map fun i => (f i : Int)
theorem lst_len (n : Nat) (f : Nat → Nat) : (lst n f).length = n := by simp [lst]
theorem rd_lst {n : Nat} (f : Nat → Nat) {i : Nat} (h : i < n) : rd (lst n f) (i : Int) = (f i : Int) := by
  simp [rd, lst, List.getD_eq_getElem?_getD, List.getElem?_map, List.getElem?_range h]
theorem lst_get {n : Nat} (f : Nat → Nat) {i : Nat} (h : i < n) : (lst n f)[i]? = some (f i : Int) := by
  simp [lst, List.getElem?_map, List.getElem?_range h]
theorem lst_congr {n : Nat} {f g : Nat → Nat} (h : ∀ i, i < n → f i = g i) : lst n f = lst n g := by
  unfold lst
  apply List.map_congr_left
  intro i hi
  rw [h i (List.mem_range.1 hi)]
theorem lst_set {n : Nat} (f : Nat → Nat) {i : Nat} (_h : i < n) (v : Nat) : (lst n f).set i (v : Int) = lst n (upd f i v) := by
  apply List.ext_getElem?
  intro j
  by_cases hj : j < n
  · rw [lst_get _ hj, List.getElem?_set, lst_len, lst_get _ hj]
    by_cases e : i = j
    · subst e; simp [upd_at, hj]
    · rw [if_neg e, upd_ne _ _ (fun h => e h.symm)]
  · rw [List.getElem?_eq_none (by simpa [lst_len] using hj), List.getElem?_eq_none (by simpa [lst_len] using hj)]
theorem lst_succ (n : Nat) (f : Nat → Nat) : lst (n + 1) f = lst n f ++ [(f n : Int)] := by simp [lst, List.range_succ]
def slst (n : Nat) (A B : Nat → Nat) : List (Int × Int) := (List.range n).map fun i => ((A i : Int), (B i : Int))
theorem slst_len (n : Nat) (A B : Nat → Nat) : (slst n A B).length = n := by simp [slst]
theorem slst_get {n : Nat} (A B : Nat → Nat) {i : Nat} (h : i < n) : (slst n A B)[i]? = some ((A i : Int), (B i : Int)) := by
  simp [slst, List.getElem?_map, List.getElem?_range h]
theorem slst_set {n : Nat} (A B : Nat → Nat) {i : Nat} (_h : i < n) (v : Nat) : (slst n A B).set i ((v : Int), (B i : Int)) = slst n (upd A i v) B := by
  apply List.ext_getElem?
  intro j
  by_cases hj : j < n
  · rw [slst_get _ _ hj, List.getElem?_set, slst_len, slst_get _ _ hj]
    by_cases e : i = j
    · subst e; simp [upd_at, hj]
    · rw [if_neg e, upd_ne _ _ (fun h => e h.symm)]
  · rw [List.getElem?_eq_none (by simpa [slst_len] using hj), List.getElem?_eq_none (by simpa [slst_len] using hj)]
theorem slst_snoc (n : Nat) (A B : Nat → Nat) (a b : Nat) : slst (n + 1) (upd A n a) (upd B n b) = slst n A B ++ [((a : Int), (b : Int))] := by
  unfold slst
  rw [List.range_succ, List.map_append]
  congr 1
  · apply List.map_congr_left
    intro i hi
    have := List.mem_range.1 hi
    rw [upd_ne _ _ (by omega), upd_ne _ _ (by omega)]
  · simp [upd_at]
/-- What a Part holds: n numbers, N classes; C the class, R the row, P the place, A and B from and to. -/
structure Inv (n N : Nat) (C R P A B : Nat → Nat) : Prop where
  ip : ∀ i, i < n → P i < n ∧ R (P i) = i
  pi : ∀ p, p < n → R p < n ∧ P (R p) = p
  cn : ∀ i, i < n → C i < N
  sp : ∀ c, c < N → A c < B c ∧ B c ≤ n
  at' : ∀ i, i < n → A (C i) ≤ P i ∧ P i < B (C i)
  only : ∀ i, i < n → ∀ c, c < N → A c ≤ P i → P i < B c → C i = c
theorem Inv.some {n N : Nat} {C R P A B : Nat → Nat} (h : Inv n N C R P A B) {c : Nat} (hc : c < N) {p : Nat} (h1 : A c ≤ p) (h2 : p < B c) : R p < n ∧ P (R p) = p ∧ C (R p) = c := by
  have h3 := (h.sp c hc).2
  have h4 := h.pi p (by omega)
  exact ⟨h4.1, h4.2, h.only (R p) h4.1 c hc (by omega) (by omega)⟩
theorem few_nat : ∀ (n : Nat) (l : List Nat), l.Nodup → (∀ x ∈ l, x < n) → l.length ≤ n := by
  intro n
  induction n with
  | zero =>
    intro l _ h
    cases l with
    | nil => simp
    | cons a r => exact absurd (h a (by simp)) (by omega)
  | succ n ih =>
    intro l hn h
    have h1 := ih (l.erase n) (hn.erase n) (fun x hx => by
      have h2 := h x (List.mem_of_mem_erase hx)
      have h3 : x ≠ n := fun e => by rw [e] at hx; exact (hn.not_mem_erase) hx
      omega)
    have h2 := List.length_erase_le (a := n) (l := l)
    by_cases hm : n ∈ l
    · rw [List.length_erase_of_mem hm] at h1
      omega
    · rw [List.erase_of_not_mem hm] at h1
      omega
/-- No more classes than numbers. -/
theorem Inv.few {n N : Nat} {C R P A B : Nat → Nat} (h : Inv n N C R P A B) : N ≤ n := by
  have h1 := few_nat n ((List.range N).map fun c => R (A c)) (by
    rw [List.nodup_iff_pairwise_ne, List.pairwise_map]
    refine (List.pairwise_lt_range).imp_of_mem (fun {a b} ha hb hab e => ?_)
    have ha' := List.mem_range.1 ha
    have hb' := List.mem_range.1 hb
    have g1 := h.some ha' (p := A a) (Nat.le_refl _) (h.sp a ha').1
    have g2 := h.some hb' (p := A b) (Nat.le_refl _) (h.sp b hb').1
    rw [e] at g1
    have := g1.2.2.symm.trans g2.2.2
    omega) (fun x hx => by
    obtain ⟨c, hc, rfl⟩ := List.mem_map.1 hx
    have hc' := List.mem_range.1 hc
    exact (h.some hc' (p := A c) (Nat.le_refl _) (h.sp c hc').1).1)
  simpa using h1
theorem inv_new {n : Nat} (h : 0 < n) : Inv n 1 (fun _ => 0) (fun i => i) (fun i => i) (fun _ => 0) (fun _ => n) where
  ip := fun i hi => ⟨hi, rfl⟩
  pi := fun i hi => ⟨hi, rfl⟩
  cn := fun _ _ => Nat.zero_lt_one
  sp := fun _ _ => ⟨h, Nat.le_refl _⟩
  at' := fun i hi => ⟨Nat.zero_le _, hi⟩
  only := fun i _ c hc _ _ => by omega
/-- While the numbers of a list are brought to the fronts of their classes. -/
structure Mark (n N : Nat) (C A B : Nat → Nat) (l : List Nat) (D : Nat → Bool) (M : Nat → Nat) (T : List Nat) (R P : Nat → Nat) : Prop where
  inv : Inv n N C R P A B
  rm : ∀ c, c < N → A c + M c ≤ B c
  dn : ∀ i, i < n → (D i = true ↔ P i < A (C i) + M (C i))
  dl : ∀ i, i < n → (D i = true ↔ i ∈ l)
  nd : T.Nodup
  tm : ∀ c, c ∈ T ↔ c < N ∧ 0 < M c
theorem mark_start {n N : Nat} {C R P A B : Nat → Nat} (h : Inv n N C R P A B) : Mark n N C A B [] (fun _ => false) (fun _ => 0) [] R P where
  inv := h
  rm := fun c hc => by have := h.sp c hc; omega
  dn := fun i hi => by have := h.at' i hi; simp; omega
  dl := fun i _ => by simp
  nd := List.nodup_nil
  tm := fun c => by simp
theorem Mark.few {n N : Nat} {C A B : Nat → Nat} {l : List Nat} {D : Nat → Bool} {M : Nat → Nat} {T : List Nat} {R P : Nat → Nat} (h : Mark n N C A B l D M T R P) : T.length ≤ n :=
  Nat.le_trans (few_nat N T h.nd (fun x hx => ((h.tm x).1 hx).1)) h.inv.few
theorem Mark.skip {n N : Nat} {C A B : Nat → Nat} {l : List Nat} {D : Nat → Bool} {M : Nat → Nat} {T : List Nat} {R P : Nat → Nat} (h : Mark n N C A B l D M T R P) {i : Nat} (hi : i < n) (hd : D i = true) : Mark n N C A B (l ++ [i]) D M T R P where
  inv := h.inv
  rm := h.rm
  dn := h.dn
  dl := fun j hj => by
    rw [h.dl j hj, List.mem_append, List.mem_singleton]
    constructor
    · exact .inl
    · rintro (h1 | h1)
      · exact h1
      · subst h1; exact (h.dl j hj).1 hd
  nd := h.nd
  tm := h.tm
theorem Mark.room {n N : Nat} {C A B : Nat → Nat} {l : List Nat} {D : Nat → Bool} {M : Nat → Nat} {T : List Nat} {R P : Nat → Nat} (h : Mark n N C A B l D M T R P) {i : Nat} (hi : i < n) (hd : D i = false) : C i < N ∧ A (C i) + M (C i) ≤ P i ∧ P i < B (C i) ∧ B (C i) ≤ n ∧ R (A (C i) + M (C i)) < n ∧ P (R (A (C i) + M (C i))) = A (C i) + M (C i) ∧ C (R (A (C i) + M (C i))) = C i := by
  have h1 := h.inv.at' i hi
  have h2 := h.inv.cn i hi
  have h3 : ¬ P i < A (C i) + M (C i) := fun hh => by rw [(h.dn i hi).2 hh] at hd; cases hd
  have h4 := h.inv.some h2 (p := A (C i) + M (C i)) (by omega) (by omega)
  exact ⟨h2, by omega, h1.2, (h.inv.sp _ h2).2, h4⟩
theorem Mark.step {n N : Nat} {C A B : Nat → Nat} {l : List Nat} {D : Nat → Bool} {M : Nat → Nat} {T : List Nat} {R P : Nat → Nat} (h : Mark n N C A B l D M T R P) {i : Nat} (hi : i < n) (hd : D i = false) {T' : List Nat} (hT : T' = if M (C i) = 0 then T ++ [C i] else T) :
    Mark n N C A B (l ++ [i]) (upd D i true) (upd M (C i) (M (C i) + 1)) T' (upd (upd R (A (C i) + M (C i)) i) (P i) (R (A (C i) + M (C i)))) (upd (upd P i (A (C i) + M (C i))) (R (A (C i) + M (C i))) (P i)) := by
  obtain ⟨r1, r2, r3, r4, r5, r6, r7⟩ := h.room hi hd
  generalize hq : A (C i) + M (C i) = q at *
  generalize ho : R q = o at *
  have hip := h.inv.ip i hi
  -- i = o just where P i = q
  have hio : i = o ↔ P i = q := ⟨fun e => by subst e; exact r6, fun e => by rw [← ho, ← e, hip.2]⟩
  have hP : ∀ j, upd (upd P i q) o (P i) j = if j = o then P i else if j = i then q else P j := fun j => rfl
  have hR : ∀ p, upd (upd R q i) (P i) o p = if p = P i then o else if p = q then i else R p := fun p => rfl
  have inv : Inv n N C (upd (upd R q i) (P i) o) (upd (upd P i q) o (P i)) A B := by
    refine ⟨fun j hj => ?_, fun p hp => ?_, h.inv.cn, h.inv.sp, fun j hj => ?_, fun j hj c hc => ?_⟩
    · have hj' := h.inv.ip j hj
      rw [hP, hR]
      by_cases e1 : j = o
      · rw [if_pos e1, if_pos rfl]
        exact ⟨hip.1, e1.symm⟩
      · rw [if_neg e1]
        by_cases e2 : j = i
        · rw [if_pos e2]
          have : ¬ q = P i := fun e => e1 (e2.trans (hio.2 e.symm))
          rw [if_neg this, if_pos rfl]
          exact ⟨by omega, e2.symm⟩
        · rw [if_neg e2]
          have n1 : ¬ P j = P i := fun e => e2 (by rw [← hj'.2, e, hip.2])
          have n2 : ¬ P j = q := fun e => e1 (by rw [← hj'.2, e, ho])
          rw [if_neg n1, if_neg n2]
          exact hj'
    · have hp' := h.inv.pi p hp
      rw [hR]
      by_cases e1 : p = P i
      · rw [if_pos e1]
        refine ⟨r5, ?_⟩
        rw [hP, if_pos rfl, e1]
      · rw [if_neg e1]
        by_cases e2 : p = q
        · rw [if_pos e2]
          refine ⟨hi, ?_⟩
          have : ¬ i = o := fun e => e1 (e2.trans (hio.1 e).symm)
          rw [hP, if_neg this, if_pos rfl, e2]
        · rw [if_neg e2]
          refine ⟨hp'.1, ?_⟩
          have n1 : ¬ R p = o := fun e => e2 (by rw [← hp'.2, e, r6])
          have n2 : ¬ R p = i := fun e => e1 (by rw [← hp'.2, e])
          rw [hP, if_neg n1, if_neg n2]
          exact hp'.2
    · have hj' := h.inv.at' j hj
      have hj2 := h.inv.at' i hi
      rw [hP]
      by_cases e1 : j = o
      · rw [if_pos e1, e1, r7]
        exact hj2
      · rw [if_neg e1]
        by_cases e2 : j = i
        · rw [if_pos e2, e2]
          omega
        · rw [if_neg e2]
          exact hj'
    · rw [hP]
      by_cases e1 : j = o
      · rw [if_pos e1, e1, r7]
        exact h.inv.only i hi c hc
      · rw [if_neg e1]
        by_cases e2 : j = i
        · rw [if_pos e2, e2]
          intro h1 h2
          have := h.inv.only o r5 c hc (by omega) (by omega)
          rw [← this, r7]
        · rw [if_neg e2]
          exact h.inv.only j hj c hc
  refine ⟨inv, fun c hc => ?_, fun j hj => ?_, fun j hj => ?_, ?_, fun c => ?_⟩
  · by_cases e : c = C i
    · subst e
      rw [upd_at]
      omega
    · rw [upd_ne _ _ e]
      exact h.rm c hc
  · have hdn := h.dn j hj
    rw [hP]
    by_cases e1 : j = i
    · subst e1
      rw [upd_at, upd_at]
      by_cases e2 : j = o
      · rw [if_pos e2]
        have := hio.1 e2
        simp
        omega
      · rw [if_neg e2, if_pos rfl]
        simp
        omega
    · rw [upd_ne _ _ e1]
      by_cases e2 : j = o
      · rw [if_pos e2, e2, r7, upd_at]
        have hne : ¬ P i = q := fun e => e1 (e2.trans (hio.2 e).symm)
        have hDo : D o = false := by
          cases hh : D o with
          | false => rfl
          | true =>
            have := (h.dn o r5).1 hh
            rw [r7, r6, hq] at this
            omega
        rw [hDo]
        simp
        omega
      · rw [if_neg e2, if_neg e1]
        by_cases e3 : C j = C i
        · rw [e3, upd_at, hdn, e3, hq]
          have : ¬ P j = q := fun e => e2 (by rw [← (h.inv.ip j hj).2, e, ho])
          omega
        · rw [upd_ne _ _ e3]
          exact hdn
  · by_cases e1 : j = i
    · subst e1
      rw [upd_at]
      simp
    · rw [upd_ne _ _ e1, h.dl j hj, List.mem_append, List.mem_singleton]
      constructor
      · exact .inl
      · rintro (h1 | h1)
        · exact h1
        · exact absurd h1 e1
  · rw [hT]
    by_cases e : M (C i) = 0
    · rw [if_pos e]
      refine List.nodup_append.2 ⟨h.nd, by simp, fun a ha b hb => ?_⟩
      rw [List.mem_singleton] at hb
      subst hb
      rintro rfl
      have := (h.tm _).1 ha
      omega
    · rw [if_neg e]
      exact h.nd
  · rw [hT]
    by_cases e : M (C i) = 0
    · rw [if_pos e, List.mem_append, List.mem_singleton, h.tm]
      by_cases e1 : c = C i
      · subst e1
        rw [upd_at]
        simp [r1]
      · rw [upd_ne _ _ e1]
        simp [e1]
    · rw [if_neg e, h.tm]
      by_cases e1 : c = C i
      · subst e1
        rw [upd_at]
        omega
      · rw [upd_ne _ _ e1]
/-- One class cut, by the classes as they were: those of class c that are in go to a new class. -/
structure St where
  C : Nat → Nat
  N : Nat
  made : List Nat
def cutOf (n : Nat) (C0 : Nat → Nat) (D : Nat → Bool) (c : Nat) (s : St) : St :=
  if (∃ i, i < n ∧ C0 i = c ∧ D i = true) ∧ (∃ i, i < n ∧ C0 i = c ∧ D i = false) then ⟨fun i => if C0 i = c ∧ D i = true then s.N else s.C i, s.N + 1, s.made ++ [s.N]⟩ else s
def cuts (n : Nat) (C0 : Nat → Nat) (D : Nat → Bool) : List Nat → St → St
  | [], s => s
  | c :: r, s => cuts n C0 D r (cutOf n C0 D c s)
/-- While the touched classes are cut: those in rest are as they were. -/
structure Cut (n N0 : Nat) (C0 A0 B0 : Nat → Nat) (D : Nat → Bool) (M R P : Nat → Nat) (rest : List Nat) (s : St) (A B : Nat → Nat) : Prop where
  inv : Inv n s.N s.C R P A B
  rm : ∀ c, c < N0 → A0 c + M c ≤ B0 c
  pos : ∀ c ∈ rest, c < N0 ∧ 0 < M c
  nd : rest.Nodup
  le : N0 ≤ s.N ∧ s.N + rest.length ≤ N0 + n
  ml : s.N = N0 + s.made.length
  cn : ∀ i, i < n → C0 i < N0
  dn : ∀ i, i < n → (D i = true ↔ P i < A0 (C0 i) + M (C0 i))
  same : ∀ c ∈ rest, A c = A0 c ∧ B c = B0 c ∧ ∀ i, i < n → (s.C i = c ↔ C0 i = c)
theorem Mark.cut {n N : Nat} {C A B : Nat → Nat} {l : List Nat} {D : Nat → Bool} {M : Nat → Nat} {T : List Nat} {R P : Nat → Nat} (h : Mark n N C A B l D M T R P) {T' : List Nat} (hp : T'.Perm T) (hl : T.length ≤ n) : Cut n N C A B D M R P T' ⟨C, N, []⟩ A B where
  inv := h.inv
  rm := h.rm
  pos := fun c hc => (h.tm c).1 (hp.subset hc)
  nd := hp.nodup_iff.2 h.nd
  le := ⟨Nat.le_refl _, by rw [hp.length_eq]; show N + _ ≤ _; omega⟩
  ml := rfl
  cn := h.inv.cn
  dn := h.dn
  same := fun _ _ => ⟨rfl, rfl, fun _ _ => Iff.rfl⟩
section
variable {n N0 : Nat} {C0 A0 B0 : Nat → Nat} {D : Nat → Bool} {M R P : Nat → Nat} {c : Nat} {rest : List Nat} {s : St} {A B : Nat → Nat}
/-- The whole class is in: it stays. -/
theorem Cut.whole (h : Cut n N0 C0 A0 B0 D M R P (c :: rest) s A B) (hm : A c + M c = B c) : Cut n N0 C0 A0 B0 D M R P rest s A B ∧ cutOf n C0 D c s = s := by
  obtain ⟨e1, e2, e3⟩ := h.same c List.mem_cons_self
  obtain ⟨p1, p2⟩ := h.pos c List.mem_cons_self
  refine ⟨⟨h.inv, h.rm, fun x hx => h.pos x (List.mem_cons_of_mem _ hx), (List.nodup_cons.1 h.nd).2, ⟨h.le.1, by have := h.le.2; simp at this; omega⟩, h.ml, h.cn, h.dn, fun x hx => h.same x (List.mem_cons_of_mem _ hx)⟩, ?_⟩
  unfold cutOf
  rw [if_neg]
  rintro ⟨_, i, hi, hc, hd⟩
  have h1 := h.inv.at' i hi
  rw [(e3 i hi).2 hc] at h1
  have h2 := (h.dn i hi).2 (by rw [hc, ← e1]; omega)
  rw [h2] at hd
  cases hd
theorem Cut.here (h : Cut n N0 C0 A0 B0 D M R P (c :: rest) s A B) : c < s.N ∧ c < N0 ∧ 0 < M c ∧ A c + M c ≤ B c ∧ B c ≤ n := by
  obtain ⟨e1, e2, e3⟩ := h.same c List.mem_cons_self
  obtain ⟨p1, p2⟩ := h.pos c List.mem_cons_self
  have := h.rm c p1
  have := h.le.1
  exact ⟨by omega, p1, p2, by omega, (h.inv.sp c (by omega)).2⟩
/-- The front is cut off. -/
theorem Cut.part (h : Cut n N0 C0 A0 B0 D M R P (c :: rest) s A B) (hm : ¬ A c + M c = B c) :
    Cut n N0 C0 A0 B0 D M R P rest (cutOf n C0 D c s) (upd (upd A s.N (A c)) c (A c + M c)) (upd B s.N (A c + M c)) ∧ cutOf n C0 D c s = ⟨fun i => if C0 i = c ∧ D i = true then s.N else s.C i, s.N + 1, s.made ++ [s.N]⟩ ∧
    ∀ i, i < n → ((C0 i = c ∧ D i = true) ↔ (A c ≤ P i ∧ P i < A c + M c)) := by
  obtain ⟨e1, e2, e3⟩ := h.same c List.mem_cons_self
  obtain ⟨q1, p1, p2, q2, q3⟩ := h.here
  have hin : ∀ i, i < n → ((C0 i = c ∧ D i = true) ↔ (A c ≤ P i ∧ P i < A c + M c)) := fun i hi => by
    constructor
    · rintro ⟨hc, hd⟩
      have h1 := h.inv.at' i hi
      rw [(e3 i hi).2 hc] at h1
      have := (h.dn i hi).1 hd
      rw [hc, ← e1] at this
      exact ⟨h1.1, this⟩
    · rintro ⟨h1, h2⟩
      have hc := (e3 i hi).1 (h.inv.only i hi c q1 h1 (by omega))
      exact ⟨hc, (h.dn i hi).2 (by rw [hc, ← e1]; exact h2)⟩
  have hcut : cutOf n C0 D c s = ⟨fun i => if C0 i = c ∧ D i = true then s.N else s.C i, s.N + 1, s.made ++ [s.N]⟩ := by
    unfold cutOf
    rw [if_pos]
    constructor
    · have h1 := h.inv.some q1 (p := A c) (Nat.le_refl _) (by omega)
      have h2 := (hin _ h1.1).2 ⟨by omega, by omega⟩
      exact ⟨_, h1.1, h2⟩
    · have h1 := h.inv.some q1 (p := B c - 1) (by omega) (by omega)
      refine ⟨_, h1.1, (e3 _ h1.1).1 h1.2.2, ?_⟩
      cases hd : D (R (B c - 1)) with
      | false => rfl
      | true =>
        have := ((hin _ h1.1).1 ⟨(e3 _ h1.1).1 h1.2.2, hd⟩).2
        omega
  have hfresh : ∀ x, x < s.N → x ≠ s.N := fun x hx => by omega
  have nda := List.nodup_cons.1 h.nd
  refine ⟨?_, hcut, hin⟩
  rw [hcut]
  have hA : ∀ x, upd (upd A s.N (A c)) c (A c + M c) x = if x = c then A c + M c else if x = s.N then A c else A x := fun x => rfl
  have hB : ∀ x, upd B s.N (A c + M c) x = if x = s.N then A c + M c else B x := fun x => rfl
  refine ⟨⟨h.inv.ip, h.inv.pi, fun i hi => ?_, fun x hx => ?_, fun i hi => ?_, fun i hi x hx => ?_⟩, h.rm, fun x hx => h.pos x (List.mem_cons_of_mem _ hx), nda.2, ⟨by have := h.le.1; show N0 ≤ s.N + 1; omega, by have := h.le.2; simp at this; show s.N + 1 + _ ≤ _; omega⟩, by have := h.ml; show s.N + 1 = N0 + (s.made ++ [s.N]).length; simp; omega, h.cn, h.dn, fun x hx => ?_⟩
  · have := h.inv.cn i hi
    show (if C0 i = c ∧ D i = true then s.N else s.C i) < s.N + 1
    split <;> omega
  · have hx' : x < s.N + 1 := hx
    rw [hA, hB]
    by_cases x1 : x = c
    · rw [if_pos x1, if_neg (by omega), x1]
      omega
    · rw [if_neg x1]
      by_cases x2 : x = s.N
      · rw [if_pos x2, if_pos x2]
        omega
      · rw [if_neg x2, if_neg x2]
        exact h.inv.sp x (by omega)
  · show upd (upd A s.N (A c)) c (A c + M c) (if C0 i = c ∧ D i = true then s.N else s.C i) ≤ P i ∧ P i < upd B s.N (A c + M c) (if C0 i = c ∧ D i = true then s.N else s.C i)
    rw [hA, hB]
    have h1 := h.inv.at' i hi
    have h2 := h.inv.cn i hi
    by_cases g : C0 i = c ∧ D i = true
    · rw [if_pos g, if_neg (by omega), if_pos rfl, if_pos rfl]
      exact (hin i hi).1 g
    · rw [if_neg g]
      have hn : ¬ (A c ≤ P i ∧ P i < A c + M c) := fun hh => g ((hin i hi).2 hh)
      by_cases x1 : s.C i = c
      · rw [if_pos x1, if_neg (by omega)]
        rw [x1] at h1 ⊢
        omega
      · rw [if_neg x1, if_neg (by omega), if_neg (by omega)]
        exact h1
  · have hx' : x < s.N + 1 := hx
    show upd (upd A s.N (A c)) c (A c + M c) x ≤ P i → P i < upd B s.N (A c + M c) x → (if C0 i = c ∧ D i = true then s.N else s.C i) = x
    rw [hA, hB]
    intro h1 h2
    by_cases x1 : x = c
    · rw [if_pos x1] at h1
      rw [if_neg (by omega)] at h2
      rw [if_neg (fun g => by have := (hin i hi).1 g; omega)]
      exact h.inv.only i hi x (by omega) (by rw [x1]; omega) h2
    · rw [if_neg x1] at h1
      by_cases x2 : x = s.N
      · rw [if_pos x2] at h1 h2
        rw [if_pos ((hin i hi).2 ⟨h1, h2⟩)]
        exact x2.symm
      · rw [if_neg x2] at h1 h2
        have h3 := h.inv.only i hi x (by omega) h1 h2
        rw [if_neg (fun g => x1 (by rw [← h3]; exact (e3 i hi).2 g.1))]
        exact h3
  · obtain ⟨g1, g2, g3⟩ := h.same x (List.mem_cons_of_mem _ hx)
    have xN : x ≠ s.N := by have := (h.pos x (List.mem_cons_of_mem _ hx)).1; have := h.le.1; omega
    have xc : x ≠ c := fun e => nda.1 (e ▸ hx)
    refine ⟨by rw [hA, if_neg xc, if_neg xN]; exact g1, by rw [hB, if_neg xN]; exact g2, fun i hi => ?_⟩
    show (if C0 i = c ∧ D i = true then s.N else s.C i) = x ↔ C0 i = x
    by_cases g : C0 i = c ∧ D i = true
    · rw [if_pos g]
      constructor
      · intro e; exact absurd e.symm xN
      · intro e; exact absurd (e.symm.trans g.1) xc
    · rw [if_neg g]
      exact g3 i hi
end
end Go.Proofs.Ytdalpaobkmoomaa.X
end

section
namespace Go.Proofs.Ytdalpaobkmoomaa.X
open Go.RowKit Go.Proofs.YtdalpaobkmoomaaW.PrintWords Go.Proofs.YtdalpaobkmoomaaW.PrintLast Go.Proofs.YtdalpaobkmoomaaW.PrintMore
attribute [local go_sem] max2_int min2_int max_two min_two max_three min_three max_four min_four   -- for this text's walks alone
set_option linter.unusedVariables false
set_option linter.unusedSimpArgs false
def tutorref01_Same.l0 : Nat → List Int → List Int → Int → Option (Bool)
  | 0, _, _, _ => none
  | k + 1, x0, x1, x5 => if x5 < (x0.length : Int) then (if 0 ≤ x5 then (if x5 < (x1.length : Int) then (if (rd x0 x5) = (rd x1 x5) then (tutorref01_Same.l0 k x0 x1 (wrap64 (x5 + 1))) else (some false)) else (none)) else (none)) else (some true)
def tutorref01_Same.f (k : Nat) (l0 : List Int) (l1 : List Int) : Option (Bool) := if (l0.length : Int) = (l1.length : Int) then (tutorref01_Same.l0 k l0 l1 0) else (some false)
set_option maxHeartbeats 8000000 in
set_option maxRecDepth 100000 in
theorem tutorref01_Same.calls (k : Nat) (A0 : Option Addr) (c0 : Nat) (l0 : List Int) (A1 : Option Addr) (c1 : Nat) (l1 : List Int) (r : Bool) (w : World) (hr0 : Kd.C (Kd.int .i64) w A0 l0.length l0) (hc0 : l0.length ≤ c0) (hr1 : Kd.C (Kd.int .i64) w A1 l1.length l1) (hc1 : l1.length ≤ c1) (h : tutorref01_Same.f k l0 l1 = some r) :
    Calls Try.prog 16 #[.slice A0 l0.length c0, .slice A1 l1.length c1] w fun e w' => e = .returned (.bool r) ∧ Drawn0 w w' := by
  have HR0 := Aside0.mk hr0
  have HC0 := Aside0.mk hc0
  clear hr0 hc0
  have HR1 := Aside0.mk hr1
  have HC1 := Aside0.mk hc1
  clear hr1 hc1
  have H : (if (l0.length : Int) = (l1.length : Int) then (tutorref01_Same.l0 k l0 l1 0) else (some false)) = some r := h
  clear h
  by_cases c3 : (l0.length : Int) = (l1.length : Int)
  · rw [if_pos c3] at H
    have c3b0 : ((l0.length : Int) == (l1.length : Int)) = true := beq_iff_eq.mpr c3
    have c3b1 : ((l0.length : Int) != (l1.length : Int)) = false := bne_eq_false_iff_eq.mpr c3
    have c3b2 : (l0.length == l1.length) = true := by first | simpa using c3 | (simp at c3 ⊢; omega)
    clear c3
    have H' := Aside0.mk H
    clear H
    go_enter Try.func16, Try.ntmps16
    go_wp2
    repeat (go_quiet (fail); try go_wp2)
    go_loopg [5] k (fun kq v5 w' => ∃ (x5_1 : Int), v5 = .int .i64 x5_1 ∧ Aside0 (tutorref01_Same.l0 kq l0 l1 x5_1 = some r) ∧ Aside0 (kq ≤ k) ∧ Drawn0 w w')
    case atStart => exact ⟨(0), (by first | rfl | (simp; done) | (simp [*]; done)), H', ⟨Nat.le_refl _⟩, by repeat (first | exact Drawn0.refl _ | apply Drawn0.step)⟩
    case round =>
      clear H'
      try clear c1
      try clear p2
      try clear c3
      try clear c3b0
      try clear c3b1
      try clear c3b2
      obtain ⟨x5_1, rfl, HA, HK1, ⟨m1, rfl⟩⟩ := hrel
      cases gk with
      | zero => exact absurd HA.out (by simp [tutorref01_Same.l0])
      | succ k1 =>
        have H := HA.out
        clear HA
        simp only [tutorref01_Same.l0] at H
        by_cases c4 : x5_1 < (l0.length : Int)
        · rw [if_pos c4] at H
          have c4b0 : decide (x5_1 < (l0.length : Int)) = true := decide_eq_true c4
          clear c4
          by_cases c5 : 0 ≤ x5_1
          · rw [if_pos c5] at H
            have c5b0 : decide (0 ≤ x5_1) = true := decide_eq_true c5
            clear c5
            by_cases c6 : x5_1 < (l1.length : Int)
            · rw [if_pos c6] at H
              have c6b0 : decide (x5_1 < (l1.length : Int)) = true := decide_eq_true c6
              clear c6
              by_cases c7 : (rd l0 x5_1) = (rd l1 x5_1)
              · rw [if_pos c7] at H
                have c7b0 : ((rd l0 x5_1) == (rd l1 x5_1)) = true := beq_iff_eq.mpr c7
                have c7b1 : ((rd l0 x5_1) != (rd l1 x5_1)) = false := bne_eq_false_iff_eq.mpr c7
                clear c7
                have H' := Aside0.mk H
                clear H
                have p222 : 0 ≤ (x5_1 : Int) := of_decide_eq_true (by first | (with_reducible assumption) | assumption)
                have q222 : x5_1 < (l0.length : Int) := of_decide_eq_true (by first | (with_reducible assumption) | assumption)
                obtain ⟨ad222, e222, hx222_0⟩ := Kd.at_int HR0.out x5_1 p222 q222
                cases e222
                replace p222 := eq_true p222
                replace q222 := eq_true q222
                have p223 : 0 ≤ (x5_1 : Int) := of_decide_eq_true (by first | (with_reducible assumption) | assumption)
                have q223 : x5_1 < (l1.length : Int) := of_decide_eq_true (by first | (with_reducible assumption) | assumption)
                obtain ⟨ad223, e223, hx223_0⟩ := Kd.at_int HR1.out x5_1 p223 q223
                cases e223
                replace p223 := eq_true p223
                replace q223 := eq_true q223
                go_wp2
                repeat (go_quiet (fail); try go_wp2)
                go_roundg k1
                case measure => have := HK1.out; omega
                case rel => exact ⟨(wrap64 (x5_1 + 1)), (by first | rfl | (simp; done) | (simp [*]; done)), H', ⟨by have := HK1.out; omega⟩, by repeat (first | exact Drawn0.refl _ | apply Drawn0.step)⟩
              · rw [if_neg c7] at H
                have c7b0 : ((rd l0 x5_1) == (rd l1 x5_1)) = false := beq_eq_false_iff_ne.mpr c7
                have c7b1 : ((rd l0 x5_1) != (rd l1 x5_1)) = true := bne_iff_ne.mpr c7
                obtain rfl := Option.some.inj H
                have p222 : 0 ≤ (x5_1 : Int) := of_decide_eq_true (by first | (with_reducible assumption) | assumption)
                have q222 : x5_1 < (l0.length : Int) := of_decide_eq_true (by first | (with_reducible assumption) | assumption)
                obtain ⟨ad222, e222, hx222_0⟩ := Kd.at_int HR0.out x5_1 p222 q222
                cases e222
                replace p222 := eq_true p222
                replace q222 := eq_true q222
                have p223 : 0 ≤ (x5_1 : Int) := of_decide_eq_true (by first | (with_reducible assumption) | assumption)
                have q223 : x5_1 < (l1.length : Int) := of_decide_eq_true (by first | (with_reducible assumption) | assumption)
                obtain ⟨ad223, e223, hx223_0⟩ := Kd.at_int HR1.out x5_1 p223 q223
                cases e223
                replace p223 := eq_true p223
                replace q223 := eq_true q223
                go_wp2
                repeat (go_quiet (fail); try go_wp2)
                go_ret
                exact ⟨by first | rfl | (simp; done) | (simp [*]; done), by repeat (first | exact Drawn0.refl _ | apply Drawn0.step)⟩
            · rw [if_neg c6] at H
              exact absurd H (by simp)
          · rw [if_neg c5] at H
            exact absurd H (by simp)
        · rw [if_neg c4] at H
          have c4b0 : decide (x5_1 < (l0.length : Int)) = false := decide_eq_false c4
          clear c4
          obtain rfl := Option.some.inj H
          go_wp2
          repeat (go_quiet (fail); try go_wp2)
          go_ret
          exact ⟨by first | rfl | (simp; done) | (simp [*]; done), by repeat (first | exact Drawn0.refl _ | apply Drawn0.step)⟩
  · rw [if_neg c3] at H
    have c3b0 : ((l0.length : Int) == (l1.length : Int)) = false := beq_eq_false_iff_ne.mpr c3
    have c3b1 : ((l0.length : Int) != (l1.length : Int)) = true := bne_iff_ne.mpr c3
    have c3b2 : (l0.length == l1.length) = false := by first | simpa using c3 | (simp at c3 ⊢; omega)
    obtain rfl := Option.some.inj H
    go_enter Try.func16, Try.ntmps16
    go_wp2
    repeat (go_quiet (fail); try go_wp2)
    go_ret
    exact ⟨by first | rfl | (simp; done) | (simp [*]; done), by repeat (first | exact Drawn0.refl _ | apply Drawn0.step)⟩
end Go.Proofs.Ytdalpaobkmoomaa.X
end

section
namespace Go.Proofs.Ytdalpaobkmoomaa.X
open Go.RowKit Go.Proofs.YtdalpaobkmoomaaW.PrintWords Go.Proofs.YtdalpaobkmoomaaW.PrintLast Go.Proofs.YtdalpaobkmoomaaW.PrintMore
attribute [local go_sem] max2_int min2_int max_two min_two max_three min_three max_four min_four   -- for this text's walks alone
set_option linter.unusedVariables false
set_option linter.unusedSimpArgs false
def tutorlaw06_num.f (a0 : Int) : Option (Int) := some a0
set_option maxHeartbeats 8000000 in
set_option maxRecDepth 100000 in
theorem tutorlaw06_num.calls (a0 : Int) (r : Int) (w : World) (h : tutorlaw06_num.f a0 = some r) :
    Calls Try.prog 11 #[.int .i64 a0] w fun e w' => e = .returned (.int .i64 r) ∧ Drawn0 w w' := by
  have H : (some a0) = some r := h
  clear h
  obtain rfl := Option.some.inj H
  go_enter Try.func11, Try.ntmps11
  go_wp2
  go_ret
  exact ⟨by first | rfl | (simp; done) | (simp [*]; done), by repeat (first | exact Drawn0.refl _ | apply Drawn0.step)⟩
end Go.Proofs.Ytdalpaobkmoomaa.X
end

section
namespace Go.Proofs.Ytdalpaobkmoomaa.X
open Go.RowKit Go.Proofs.YtdalpaobkmoomaaW.PrintWords Go.Proofs.YtdalpaobkmoomaaW.PrintLast Go.Proofs.YtdalpaobkmoomaaW.PrintMore
attribute [local go_sem] max2_int min2_int max_two min_two max_three min_three max_four min_four   -- for this text's walks alone
set_option linter.unusedVariables false
set_option linter.unusedSimpArgs false
mutual
def tutorlaw06_much.j0 : Nat → List (List Int) → Bool → Option (Bool)
  | 0, _, _ => none
  | k + 1, x1, x16 => if x16 = true then (some true) else (tutorlaw06_much.l0 k x1 0)
def tutorlaw06_much.l0 : Nat → List (List Int) → Int → Option (Bool)
  | 0, _, _ => none
  | k + 1, x1, x5 => if x5 < (x1.length : Int) then (if 0 ≤ x5 then (if ((rd_L1 x1 x5).length : Int) > 400 then (some true) else (tutorlaw06_much.l0 k x1 (wrap64 (x5 + 1)))) else (none)) else (some false)
end
def tutorlaw06_much.f (k : Nat) (a0 : Int) (l1 : List (List Int)) : Option (Bool) := if a0 > 200 then (if a0 ≤ 65536 then (tutorlaw06_much.j0 k l1 true) else (tutorlaw06_much.j0 k l1 (decide ((l1.length : Int) > 60)))) else (tutorlaw06_much.j0 k l1 (decide ((l1.length : Int) > 60)))
set_option maxHeartbeats 8000000 in
set_option maxRecDepth 100000 in
theorem tutorlaw06_much.calls (k : Nat) (a0 : Int) (A1 : Option Addr) (c1 : Nat) (l1 : List (List Int)) (r : Bool) (w : World) (hr1 : Kd.C (Kd.slice 3 (Kd.int .i64)) w A1 l1.length l1) (hc1 : l1.length ≤ c1) (h : tutorlaw06_much.f k a0 l1 = some r) :
    Calls Try.prog 8 #[.int .i64 a0, .slice A1 l1.length c1] w fun e w' => e = .returned (.bool r) ∧ Drawn0 w w' := by
  have HR1 := Aside0.mk hr1
  have HC1 := Aside0.mk hc1
  clear hr1 hc1
  have H : (if a0 > 200 then (if a0 ≤ 65536 then (tutorlaw06_much.j0 k l1 true) else (tutorlaw06_much.j0 k l1 (decide ((l1.length : Int) > 60)))) else (tutorlaw06_much.j0 k l1 (decide ((l1.length : Int) > 60)))) = some r := h
  clear h
  have HC3 := Aside0.mk H
  clear H
  go_enter Try.func8, Try.ntmps8
  go_upto_region 1 with (fail)
  go_cut [16] (fun v16 wc => ∃ (kq : Nat) (x16_2 : Bool), v16 = .bool x16_2 ∧ Aside0 (tutorlaw06_much.j0 kq l1 x16_2 = some r) ∧ Aside0 (kq ≤ k) ∧ Drawn0 w wc)
  case first =>
    have H := HC3.out
    clear HC3
    by_cases c4 : a0 > 200
    · rw [if_pos c4] at H
      have c4b0 : decide (200 < a0) = true := decide_eq_true c4
      clear c4
      (first | rw [c4b0] | (simp only [i64_w, i32_w]; rw [c4b0]) | skip)
      by_cases c5 : a0 ≤ 65536
      · rw [if_pos c5] at H
        have c5b0 : decide (a0 ≤ 65536) = true := decide_eq_true c5
        clear c5
        have H' := Aside0.mk H
        clear H
        go_wp2
        go_meet
        case rel => exact ⟨_, (true), (by first | rfl | (simp; done) | (simp [*]; done)), H', ⟨by first | omega | exact Nat.le_refl _⟩, by repeat (first | exact Drawn0.refl _ | apply Drawn0.step)⟩
      · rw [if_neg c5] at H
        have c5b0 : decide (a0 ≤ 65536) = false := decide_eq_false c5
        clear c5
        have H' := Aside0.mk H
        clear H
        go_wp2
        go_meet
        case rel => exact ⟨_, (decide ((l1.length : Int) > 60)), (by first | rfl | (simp; done) | (simp [*]; done)), H', ⟨by first | omega | exact Nat.le_refl _⟩, by repeat (first | exact Drawn0.refl _ | apply Drawn0.step)⟩
    · rw [if_neg c4] at H
      have c4b0 : decide (200 < a0) = false := decide_eq_false c4
      clear c4
      (first | rw [c4b0] | (simp only [i64_w, i32_w]; rw [c4b0]) | skip)
      have H' := Aside0.mk H
      clear H
      go_wp2
      go_meet
      case rel => exact ⟨_, (decide ((l1.length : Int) > 60)), (by first | rfl | (simp; done) | (simp [*]; done)), H', ⟨by first | omega | exact Nat.le_refl _⟩, by repeat (first | exact Drawn0.refl _ | apply Drawn0.step)⟩
  case rest =>
    clear HC3
    try clear c1
    try clear p2
    try clear c4
    try clear c4b0
    try clear c5
    try clear c5b0
    obtain ⟨kq, x16_2, rfl, HA, HJ2, ⟨mc2, rfl⟩⟩ := hcut
    cases kq with
    | zero => exact absurd HA.out (by simp [tutorlaw06_much.j0])
    | succ kj2 =>
      have H := HA.out
      clear HA
      simp only [tutorlaw06_much.j0] at H
      by_cases c6 : x16_2 = true
      · subst c6
        have H1 : (some true) = some r := by rw [if_pos rfl] at H; exact H
        clear H
        have H := H1
        clear H1
        obtain rfl := Option.some.inj H
        go_wp2
        go_ret
        exact ⟨by first | rfl | (simp; done) | (simp [*]; done), by repeat (first | exact Drawn0.refl _ | apply Drawn0.step)⟩
      · replace c6 := Bool.eq_false_iff.mpr c6
        subst c6
        have H1 : (tutorlaw06_much.l0 kj2 l1 0) = some r := by rw [if_neg (show ¬ (false = true) by decide)] at H; exact H
        clear H
        have H := H1
        clear H1
        have H' := Aside0.mk H
        clear H
        go_wp2
        go_loopg [5] kj2 (fun kq v5 w' => ∃ (x5_2 : Int), v5 = .int .i64 x5_2 ∧ Aside0 (tutorlaw06_much.l0 kq l1 x5_2 = some r) ∧ Aside0 (kq ≤ kj2) ∧ Drawn0 w w')
        case atStart => exact ⟨(0), (by first | rfl | (simp; done) | (simp [*]; done)), H', ⟨Nat.le_refl _⟩, by repeat (first | exact Drawn0.refl _ | apply Drawn0.step)⟩
        case round =>
          clear H'
          try clear c1
          try clear c2
          try clear p2
          try clear c4
          try clear c4b0
          try clear c5
          try clear c5b0
          try clear c6
          try clear p2
          obtain ⟨x5_2, rfl, HA, HK2, ⟨m2, rfl⟩⟩ := hrel
          cases gk with
          | zero => exact absurd HA.out (by simp [tutorlaw06_much.l0])
          | succ k2 =>
            have H := HA.out
            clear HA
            simp only [tutorlaw06_much.l0] at H
            by_cases c7 : x5_2 < (l1.length : Int)
            · rw [if_pos c7] at H
              have c7b0 : decide (x5_2 < (l1.length : Int)) = true := decide_eq_true c7
              clear c7
              by_cases c8 : 0 ≤ x5_2
              · rw [if_pos c8] at H
                have c8b0 : decide (0 ≤ x5_2) = true := decide_eq_true c8
                clear c8
                by_cases c9 : ((rd_L1 l1 x5_2).length : Int) > 400
                · rw [if_pos c9] at H
                  have c9b0 : decide (400 < ((rd_L1 l1 x5_2).length : Int)) = true := decide_eq_true c9
                  have c9b1 : decide (400 < (rd_L1 l1 x5_2).length) = true := decide_eq_true (by omega)
                  clear c9
                  obtain rfl := Option.some.inj H
                  have p101 : 0 ≤ (x5_2 : Int) := of_decide_eq_true (by first | (with_reducible assumption) | assumption)
                  have q101 : x5_2 < (l1.length : Int) := of_decide_eq_true (by first | (with_reducible assumption) | assumption)
                  obtain ⟨ad101, A101_0, c101_0, e101, hx101_0, hl101_0, hi101_0⟩ := at_L1 HR1.out x5_2 p101 q101
                  cases e101
                  have HR101_0 := Aside0.mk hi101_0
                  have HC101_0 := Aside0.mk hl101_0
                  clear hi101_0 hl101_0
                  replace p101 := eq_true p101
                  replace q101 := eq_true q101
                  go_wp2
                  go_ret
                  exact ⟨by first | rfl | (simp; done) | (simp [*]; done), by repeat (first | exact Drawn0.refl _ | apply Drawn0.step)⟩
                · rw [if_neg c9] at H
                  have c9b0 : decide (400 < ((rd_L1 l1 x5_2).length : Int)) = false := decide_eq_false c9
                  have c9b1 : decide (400 < (rd_L1 l1 x5_2).length) = false := decide_eq_false (by omega)
                  clear c9
                  have H' := Aside0.mk H
                  clear H
                  have p101 : 0 ≤ (x5_2 : Int) := of_decide_eq_true (by first | (with_reducible assumption) | assumption)
                  have q101 : x5_2 < (l1.length : Int) := of_decide_eq_true (by first | (with_reducible assumption) | assumption)
                  obtain ⟨ad101, A101_0, c101_0, e101, hx101_0, hl101_0, hi101_0⟩ := at_L1 HR1.out x5_2 p101 q101
                  cases e101
                  have HR101_0 := Aside0.mk hi101_0
                  have HC101_0 := Aside0.mk hl101_0
                  clear hi101_0 hl101_0
                  replace p101 := eq_true p101
                  replace q101 := eq_true q101
                  go_wp2
                  go_roundg k2
                  case measure => have := HJ2.out; have := HK2.out; omega
                  case rel => exact ⟨(wrap64 (x5_2 + 1)), (by first | rfl | (simp; done) | (simp [*]; done)), H', ⟨by have := HJ2.out; have := HK2.out; omega⟩, by repeat (first | exact Drawn0.refl _ | apply Drawn0.step)⟩
              · rw [if_neg c8] at H
                exact absurd H (by simp)
            · rw [if_neg c7] at H
              have c7b0 : decide (x5_2 < (l1.length : Int)) = false := decide_eq_false c7
              clear c7
              obtain rfl := Option.some.inj H
              go_wp2
              go_ret
              exact ⟨by first | rfl | (simp; done) | (simp [*]; done), by repeat (first | exact Drawn0.refl _ | apply Drawn0.step)⟩
end Go.Proofs.Ytdalpaobkmoomaa.X
end

section
namespace Go.Proofs.Ytdalpaobkmoomaa.X
open Go.RowKit Go.Proofs.YtdalpaobkmoomaaW.PrintWords Go.Proofs.YtdalpaobkmoomaaW.PrintLast Go.Proofs.YtdalpaobkmoomaaW.PrintMore
attribute [local go_sem] max2_int min2_int max_two min_two max_three min_three max_four min_four   -- for this text's walks alone
set_option linter.unusedVariables false
set_option linter.unusedSimpArgs false
def tutorref06_has.l0 : Nat → List Int → Int → Int → Option (Bool)
  | 0, _, _, _ => none
  | k + 1, x0, x1, x5 => if x5 < (x0.length : Int) then (if 0 ≤ x5 then (if (rd x0 x5) = x1 then (some true) else (tutorref06_has.l0 k x0 x1 (wrap64 (x5 + 1)))) else (none)) else (some false)
def tutorref06_has.f (k : Nat) (l0 : List Int) (a1 : Int) : Option (Bool) := tutorref06_has.l0 k l0 a1 0
set_option maxHeartbeats 8000000 in
set_option maxRecDepth 100000 in
theorem tutorref06_has.calls (k : Nat) (A0 : Option Addr) (c0 : Nat) (l0 : List Int) (a1 : Int) (r : Bool) (w : World) (hr0 : Kd.C (Kd.int .i64) w A0 l0.length l0) (hc0 : l0.length ≤ c0) (h : tutorref06_has.f k l0 a1 = some r) :
    Calls Try.prog 32 #[.slice A0 l0.length c0, .int .i64 a1] w fun e w' => e = .returned (.bool r) ∧ Drawn0 w w' := by
  have HR0 := Aside0.mk hr0
  have HC0 := Aside0.mk hc0
  clear hr0 hc0
  have H : (tutorref06_has.l0 k l0 a1 0) = some r := h
  clear h
  have H' := Aside0.mk H
  clear H
  go_enter Try.func32, Try.ntmps32
  go_wp2
  go_loopg [5] k (fun kq v5 w' => ∃ (x5_1 : Int), v5 = .int .i64 x5_1 ∧ Aside0 (tutorref06_has.l0 kq l0 a1 x5_1 = some r) ∧ Aside0 (kq ≤ k) ∧ Drawn0 w w')
  case atStart => exact ⟨(0), (by first | rfl | (simp; done) | (simp [*]; done)), H', ⟨Nat.le_refl _⟩, by repeat (first | exact Drawn0.refl _ | apply Drawn0.step)⟩
  case round =>
    clear H'
    try clear p2
    obtain ⟨x5_1, rfl, HA, HK1, ⟨m1, rfl⟩⟩ := hrel
    cases gk with
    | zero => exact absurd HA.out (by simp [tutorref06_has.l0])
    | succ k1 =>
      have H := HA.out
      clear HA
      simp only [tutorref06_has.l0] at H
      by_cases c3 : x5_1 < (l0.length : Int)
      · rw [if_pos c3] at H
        have c3b0 : decide (x5_1 < (l0.length : Int)) = true := decide_eq_true c3
        clear c3
        by_cases c4 : 0 ≤ x5_1
        · rw [if_pos c4] at H
          have c4b0 : decide (0 ≤ x5_1) = true := decide_eq_true c4
          clear c4
          by_cases c5 : (rd l0 x5_1) = a1
          · rw [if_pos c5] at H
            have c5b0 : ((rd l0 x5_1) == a1) = true := beq_iff_eq.mpr c5
            have c5b1 : ((rd l0 x5_1) != a1) = false := bne_eq_false_iff_eq.mpr c5
            clear c5
            obtain rfl := Option.some.inj H
            have p245 : 0 ≤ (x5_1 : Int) := of_decide_eq_true (by first | (with_reducible assumption) | assumption)
            have q245 : x5_1 < (l0.length : Int) := of_decide_eq_true (by first | (with_reducible assumption) | assumption)
            obtain ⟨ad245, e245, hx245_0⟩ := Kd.at_int HR0.out x5_1 p245 q245
            cases e245
            replace p245 := eq_true p245
            replace q245 := eq_true q245
            go_wp2
            go_ret
            exact ⟨by first | rfl | (simp; done) | (simp [*]; done), by repeat (first | exact Drawn0.refl _ | apply Drawn0.step)⟩
          · rw [if_neg c5] at H
            have c5b0 : ((rd l0 x5_1) == a1) = false := beq_eq_false_iff_ne.mpr c5
            have c5b1 : ((rd l0 x5_1) != a1) = true := bne_iff_ne.mpr c5
            have H' := Aside0.mk H
            clear H
            have p245 : 0 ≤ (x5_1 : Int) := of_decide_eq_true (by first | (with_reducible assumption) | assumption)
            have q245 : x5_1 < (l0.length : Int) := of_decide_eq_true (by first | (with_reducible assumption) | assumption)
            obtain ⟨ad245, e245, hx245_0⟩ := Kd.at_int HR0.out x5_1 p245 q245
            cases e245
            replace p245 := eq_true p245
            replace q245 := eq_true q245
            go_wp2
            go_roundg k1
            case measure => have := HK1.out; omega
            case rel => exact ⟨(wrap64 (x5_1 + 1)), (by first | rfl | (simp; done) | (simp [*]; done)), H', ⟨by have := HK1.out; omega⟩, by repeat (first | exact Drawn0.refl _ | apply Drawn0.step)⟩
        · rw [if_neg c4] at H
          exact absurd H (by simp)
      · rw [if_neg c3] at H
        have c3b0 : decide (x5_1 < (l0.length : Int)) = false := decide_eq_false c3
        clear c3
        obtain rfl := Option.some.inj H
        go_wp2
        go_ret
        exact ⟨by first | rfl | (simp; done) | (simp [*]; done), by repeat (first | exact Drawn0.refl _ | apply Drawn0.step)⟩
end Go.Proofs.Ytdalpaobkmoomaa.X
end

section
namespace Go.Proofs.Ytdalpaobkmoomaa.X
open Go.RowKit Go.Proofs.YtdalpaobkmoomaaW.PrintWords Go.Proofs.YtdalpaobkmoomaaW.PrintLast Go.Proofs.YtdalpaobkmoomaaW.PrintMore
attribute [local go_sem] max2_int min2_int max_two min_two max_three min_three max_four min_four   -- for this text's walks alone
set_option linter.unusedVariables false
set_option linter.unusedSimpArgs false
mutual
def tutorref06_Members.j0 : Nat → Int → Bool → List Int → Int → Option (List Int × Int)
  | 0, _, _, _, _ => none
  | k + 1, x1, x15, x270000, x270001 => if x15 = true then (some (([] : List Int), 1)) else (tutorref06_Members.l0 k x1 ([] : List Int) 0 x270000 x270001)
def tutorref06_Members.l0 : Nat → Int → List Int → Int → List Int → Int → Option (List Int × Int)
  | 0, _, _, _, _, _ => none
  | k + 1, x1, x6, x7, x270000, x270001 => if x7 < (x270000.length : Int) then (if 0 ≤ x7 then (if (rd x270000 x7) = x1 then (if x6.length < 17592186044416 then (tutorref06_Members.l0 k x1 (x6 ++ [x7]) (wrap64 (x7 + 1)) x270000 x270001) else (none)) else (tutorref06_Members.l0 k x1 x6 (wrap64 (x7 + 1)) x270000 x270001)) else (none)) else (some (x6, 0))
end
def tutorref06_Members.f (k : Nat) (l0_0 : List Int) (a0_1 : Int) (a1 : Int) : Option (List Int × Int) := if a1 < 0 then (tutorref06_Members.j0 k a1 true l0_0 a0_1) else (tutorref06_Members.j0 k a1 (decide (a1 ≥ a0_1)) l0_0 a0_1)
set_option maxHeartbeats 8000000 in
set_option maxRecDepth 100000 in
theorem tutorref06_Members.calls (k : Nat) (A0_0 : Option Addr) (c0_0 : Nat) (l0_0 : List Int) (a0_1 : Int) (a1 : Int) (r1 : List Int) (r2 : Int) (w : World) (hr0_0 : Kd.C (Kd.int .i64) w A0_0 l0_0.length l0_0) (hc0_0 : l0_0.length ≤ c0_0) (h : tutorref06_Members.f k l0_0 a0_1 a1 = some (r1, r2)) :
    Calls Try.prog 23 #[.agg #[.slice A0_0 l0_0.length c0_0, .int .i64 a0_1], .int .i64 a1] w fun e w' => ∃ v0_ : Value, e = .returned (.tuple #[v0_, .int .i64 r2]) ∧ Kd.R (Kd.int .i64) 3 w' w.heap.size (fun _ => True) v0_ r1 ∧ Below w.heap.size w w' := by
  have hu40 := Try.underlying40
  have HR0_0 := Aside0.mk hr0_0
  have HC0_0 := Aside0.mk hc0_0
  clear hr0_0 hc0_0
  have HB := Aside0.mk (Below.refl w.heap.size w)
  have H : (if a1 < 0 then (tutorref06_Members.j0 k a1 true l0_0 a0_1) else (tutorref06_Members.j0 k a1 (decide (a1 ≥ a0_1)) l0_0 a0_1)) = some (r1, r2) := h
  clear h
  have HC3 := Aside0.mk H
  clear H
  go_enter Try.func23, Try.ntmps23
  go_upto_region 1 with (first | ((with_reducible refine gate_dst (N := 2) rfl ?_); refine box_event ?hg (N := 2) ?hd (cs := #[.slice A0_0 l0_0.length c0_0, .int .i64 a0_1]) (t := 40) ?hr ?_; (case hd => rfl); (case hg => rfl); (case hr => first | (go_simp; done) | (go_simp; rfl)); intro gb269 hg w4 hbox hb; have n0_ := Aside0.mk (below_step (by repeat (first | (with_reducible first | exact HB.out | apply below_alloc | apply pw_below_drewN | apply below_drew1) | exact HB.out)) hb); have n1_ := Aside0.mk (hbox); have n2_ := Aside0.mk ((by rw [hg]; exact (below_size (by repeat (first | (with_reducible first | exact HB.out | apply below_alloc | apply pw_below_drewN | apply below_drew1) | exact HB.out))) : w.heap.size ≤ gb269)); have n3_ := Aside0.mk ((by rw [hg]; exact (below_size (by repeat (first | (with_reducible first | exact HB.out | apply below_alloc | apply pw_below_drewN | apply below_drew1) | exact HB.out))) : w.heap.size ≤ gb269)); clear HB; have HB := n0_; have BK269 := n1_; have GW269 := n2_; have GE269 := n3_; clear n0_ n1_ n2_ n3_; clear hb hbox hg))
  (try simp only [Act.put, List.setIfInBounds_toArray, List.set_cons_zero, List.set_cons_succ])
  go_cut [15] (fun v15 wc => ∃ (kq : Nat) (x15_2 : Bool), v15 = .bool x15_2 ∧ Aside0 (tutorref06_Members.j0 kq a1 x15_2 l0_0 a0_1 = some (r1, r2)) ∧ Aside0 (kq ≤ k) ∧ Aside0 (wc.heap[gb269]? = some (.cells #[(.slice A0_0 l0_0.length c0_0), .int .i64 a0_1] 40 (0, 0))) ∧ Aside0 (Below w.heap.size w wc))
  case first =>
    have H := HC3.out
    clear HC3
    by_cases c5 : a1 < 0
    · rw [if_pos c5] at H
      have c5b0 : decide (a1 < 0) = true := decide_eq_true c5
      clear c5
      (first | rw [c5b0] | (simp only [i64_w, i32_w]; rw [c5b0]) | skip)
      have H' := Aside0.mk H
      clear H
      go_wp2
      go_meet
      case rel => exact ⟨_, (true), (by first | rfl | (simp; done) | (simp [*]; done)), H', ⟨by first | omega | exact Nat.le_refl _⟩, ⟨by (with_reducible repeat (first | refine blk_drewN ?_ _ | refine blk_drew ?_ | refine blk_alloc ?_ _)); exact BK269.out⟩, ⟨by repeat (first | (with_reducible first | exact HB.out | apply below_alloc | apply pw_below_drewN | apply below_drew1 | refine below_set ?_ GE269.out) | exact HB.out)⟩⟩
    · rw [if_neg c5] at H
      have c5b0 : decide (a1 < 0) = false := decide_eq_false c5
      clear c5
      (first | rw [c5b0] | (simp only [i64_w, i32_w]; rw [c5b0]) | skip)
      have H' := Aside0.mk H
      clear H
      have hcz6_0 : w4.cell? ⟨gb269, 0, none⟩ = some (.slice A0_0 l0_0.length c0_0) := (blk_cell BK269.out 0).trans rfl
      have hcz6_1 : w4.cell? ⟨gb269, 1, none⟩ = some (.int .i64 a0_1) := (blk_cell BK269.out 1).trans rfl
      have hfz6_0 := blk_frozen BK269.out 0
      have hfz6_1 := blk_frozen BK269.out 1
      go_wp2
      go_meet
      case rel => exact ⟨_, (decide (a1 ≥ a0_1)), (by first | rfl | (simp; done) | (simp [*]; done)), H', ⟨by first | omega | exact Nat.le_refl _⟩, ⟨by (with_reducible repeat (first | refine blk_drewN ?_ _ | refine blk_drew ?_ | refine blk_alloc ?_ _)); exact BK269.out⟩, ⟨by repeat (first | (with_reducible first | exact HB.out | apply below_alloc | apply pw_below_drewN | apply below_drew1 | refine below_set ?_ GE269.out) | exact HB.out)⟩⟩
  case rest =>
    clear HC3
    try clear c2
    try clear p2
    try clear c5
    try clear c5b0
    try clear hcz6_0
    try clear hcz6_1
    try clear hfz6_0
    try clear hfz6_1
    obtain ⟨kq, x15_2, rfl, HA, HJ2, BK269, HB⟩ := hcut
    cases kq with
    | zero => exact absurd HA.out (by simp [tutorref06_Members.j0])
    | succ kj2 =>
      have H := HA.out
      clear HA
      simp only [tutorref06_Members.j0] at H
      by_cases c7 : x15_2 = true
      · subst c7
        have H1 : (some (([] : List Int), 1)) = some (r1, r2) := by rw [if_pos rfl] at H; exact H
        clear H
        have H := H1
        clear H1
        simp only [Option.some.injEq, Prod.mk.injEq] at H
        obtain ⟨rfl, rfl⟩ := H
        go_wp2
        go_ret2
        exact ⟨_, by first | rfl | (simp [errW_none, errW_some] <;> rfl) | (simp [*, errW_none, errW_some] <;> rfl), by first | exact Kd.R_nil _ _ _ _ _ | exact Kd.N_nil _ _ _ _ _ | exact Kd.V_nil _ _ _ _ _ | exact Kd.Q_nil _ _ _ _ _ | exact Kd.S_nil _ _ _ _ _, by repeat (first | (with_reducible first | exact HB.out | apply below_alloc | apply pw_below_drewN | apply below_drew1 | refine below_set ?_ GE269.out) | exact HB.out)⟩
      · replace c7 := Bool.eq_false_iff.mpr c7
        subst c7
        have H1 : (tutorref06_Members.l0 kj2 a1 ([] : List Int) 0 l0_0 a0_1) = some (r1, r2) := by rw [if_neg (show ¬ (false = true) by decide)] at H; exact H
        clear H
        have H := H1
        clear H1
        have H' := Aside0.mk H
        clear H
        go_wp2
        go_loopg [6, 7] kj2 (fun kq v6 v7 w' => ∃ (x6_2 : List Int) (x7_2 : Int), v7 = .int .i64 x7_2 ∧ Aside0 (tutorref06_Members.l0 kq a1 x6_2 x7_2 l0_0 a0_1 = some (r1, r2)) ∧ Aside0 (kq ≤ kj2) ∧ Aside0 (Kd.R (Kd.int .i64) 3 w' w.heap.size (fun _ => True) v6 x6_2) ∧ Aside0 (w'.heap[gb269]? = some (.cells #[(.slice A0_0 l0_0.length c0_0), .int .i64 a0_1] 40 (0, 0))) ∧ Aside0 (Below w.heap.size w w'))
        case atStart => exact ⟨(([] : List Int)), (0), (by first | rfl | (simp; done) | (simp [*]; done)), H', ⟨Nat.le_refl _⟩, ⟨by first | exact Kd.R_nil _ _ _ _ _ | exact Kd.N_nil _ _ _ _ _ | exact Kd.V_nil _ _ _ _ _ | exact Kd.Q_nil _ _ _ _ _ | exact Kd.S_nil _ _ _ _ _⟩, ⟨by (with_reducible repeat (first | refine blk_drewN ?_ _ | refine blk_drew ?_ | refine blk_alloc ?_ _)); exact BK269.out⟩, ⟨by repeat (first | (with_reducible first | exact HB.out | apply below_alloc | apply pw_below_drewN | apply below_drew1 | refine below_set ?_ GE269.out) | exact HB.out)⟩⟩
        case round =>
          clear H'
          try clear c2
          try clear p2
          try clear c5
          try clear c5b0
          try clear c7
          try clear hcz6_0
          try clear hcz6_1
          try clear hfz6_0
          try clear hfz6_1
          try clear p2
          obtain ⟨x6_2, x7_2, rfl, HA, HK2, HO_6, BK269, HB⟩ := hrel
          cases gk with
          | zero => exact absurd HA.out (by simp [tutorref06_Members.l0])
          | succ k2 =>
            have H := HA.out
            clear HA
            simp only [tutorref06_Members.l0] at H
            by_cases c8 : x7_2 < (l0_0.length : Int)
            · rw [if_pos c8] at H
              have c8b0 : decide (x7_2 < (l0_0.length : Int)) = true := decide_eq_true c8
              clear c8
              by_cases c9 : 0 ≤ x7_2
              · rw [if_pos c9] at H
                have c9b0 : decide (0 ≤ x7_2) = true := decide_eq_true c9
                clear c9
                by_cases c10 : (rd l0_0 x7_2) = a1
                · rw [if_pos c10] at H
                  have c10b0 : ((rd l0_0 x7_2) == a1) = true := beq_iff_eq.mpr c10
                  have c10b1 : ((rd l0_0 x7_2) != a1) = false := bne_eq_false_iff_eq.mpr c10
                  clear c10
                  by_cases c11 : x6_2.length < 17592186044416
                  · rw [if_pos c11] at H
                    have LMc11 := Aside0.mk c11
                    clear c11
                    obtain ⟨y271, hy271⟩ : ∃ y_ : List Int, y_ = (x6_2 ++ [x7_2]) := ⟨_, rfl⟩
                    replace H : (tutorref06_Members.l0 k2 a1 y271 (wrap64 (x7_2 + 1)) l0_0 a0_1) = some (r1, r2) := by first | (rw [hy271]; with_reducible exact H) | (have H2_ := (Option.bind_some _ _).symm.trans H; rw [hy271]; with_reducible exact H2_) | (have H2_ := (Option.bind_some _ _).symm.trans H; with_reducible exact H2_) | with_reducible exact H | (rw [hy271]; exact H) | exact H
                    have Ny271 := Aside0.mk hy271
                    clear hy271
                    have H' := Aside0.mk H
                    clear H
                    have hcz12_0 : wr.cell? ⟨gb269, 0, none⟩ = some (.slice A0_0 l0_0.length c0_0) := (blk_cell BK269.out 0).trans rfl
                    have hcz12_1 : wr.cell? ⟨gb269, 1, none⟩ = some (.int .i64 a0_1) := (blk_cell BK269.out 1).trans rfl
                    have hfz12_0 := blk_frozen BK269.out 0
                    have hfz12_1 := blk_frozen BK269.out 1
                    have p270 : 0 ≤ (x7_2 : Int) := of_decide_eq_true (by first | (with_reducible assumption) | assumption)
                    have q270 : x7_2 < (l0_0.length : Int) := of_decide_eq_true (by first | (with_reducible assumption) | assumption)
                    obtain ⟨ad270, e270, hx270_0⟩ := Kd.at_int HR0_0.out x7_2 p270 q270
                    cases e270
                    replace hx270_0 := (HB.out.cell (World.block_lt_of_cell? w _ hx270_0)).trans hx270_0
                    replace p270 := eq_true p270
                    replace q270 := eq_true q270
                    go_wp2_with (first | ((with_reducible refine gate_builtin (b := .append) (xs := #[.tmp 30, .tmp 32]) rfl ?_); at_builtin; refine Kd.R_append (Kd.int .i64) (w0 := w) w.heap.size rfl (.tmp 30) (.tmp 32) 22 3 (.int .i64 0) 8 rfl Try.underlying22 info3 rfl (by decide) (by omega) u6 x6_2 x7_2 [.int .i64 x7_2] (fun _ => True) (fun _ => False) rfl rfl ?aP (fun _ hk => hk.elim) ?aF ?aO ?aB ?aS ?aL ?_; (case aP => exact rfl); (case aB => exact (by repeat (first | (with_reducible first | exact HB.out | apply below_alloc | apply pw_below_drewN | apply below_drew1 | refine below_set ?_ GE269.out) | exact HB.out))); (case aF => exact (fun _ _ => trivial)); (case aO => exact (by (with_reducible repeat (first | apply Kd.R_alloc | apply Kd.R_drewN | apply Kd.R_drew)); exact HO_6.out)); (case aS => exact (below_size (by repeat (first | (with_reducible first | exact HB.out | apply below_alloc | apply pw_below_drewN | apply below_drew1 | refine below_set ?_ GE269.out) | exact HB.out)))); (case aL => have := LMc11.out; omega); intro v272 w13 ho hb hg hat; rw [← Ny271.out] at ho; have n0_ := Aside0.mk (blk_grown (g := gb269) (o := .cells #[.slice (some ad270) l0_0.length c0_0, .int .i64 a0_1] 40 (0, 0)) (by (with_reducible repeat (first | refine blk_drewN ?_ _ | refine blk_drew ?_ | refine blk_alloc ?_ _)); exact BK269.out) hg (Kd.R_ne HO_6.out BK269.out (by decide))); have n1_ := Aside0.mk (hb); have n2_ := Aside0.mk (ho); clear BK269; clear HB; clear HO_6; have BK269 := n0_; have HB := n1_; have HO273 := n2_; clear n0_ n1_ n2_; clear ho hb hg hat))
                    go_roundg k2
                    case measure => have := HJ2.out; have := HK2.out; omega
                    case rel => exact ⟨(y271), (wrap64 (x7_2 + 1)), (by first | rfl | (simp; done) | (simp [*]; done)), H', ⟨by have := HJ2.out; have := HK2.out; omega⟩, ⟨by (with_reducible repeat (first | apply Kd.R_alloc | apply Kd.R_drewN | apply Kd.R_drew)); exact HO273.out⟩, ⟨by (with_reducible repeat (first | refine blk_drewN ?_ _ | refine blk_drew ?_ | refine blk_alloc ?_ _)); exact BK269.out⟩, ⟨by repeat (first | (with_reducible first | exact HB.out | apply below_alloc | apply pw_below_drewN | apply below_drew1 | refine below_set ?_ GE269.out) | exact HB.out)⟩⟩
                  · rw [if_neg c11] at H
                    exact absurd H (by simp)
                · rw [if_neg c10] at H
                  have c10b0 : ((rd l0_0 x7_2) == a1) = false := beq_eq_false_iff_ne.mpr c10
                  have c10b1 : ((rd l0_0 x7_2) != a1) = true := bne_iff_ne.mpr c10
                  have H' := Aside0.mk H
                  clear H
                  have hcz14_0 : wr.cell? ⟨gb269, 0, none⟩ = some (.slice A0_0 l0_0.length c0_0) := (blk_cell BK269.out 0).trans rfl
                  have hcz14_1 : wr.cell? ⟨gb269, 1, none⟩ = some (.int .i64 a0_1) := (blk_cell BK269.out 1).trans rfl
                  have hfz14_0 := blk_frozen BK269.out 0
                  have hfz14_1 := blk_frozen BK269.out 1
                  have p270 : 0 ≤ (x7_2 : Int) := of_decide_eq_true (by first | (with_reducible assumption) | assumption)
                  have q270 : x7_2 < (l0_0.length : Int) := of_decide_eq_true (by first | (with_reducible assumption) | assumption)
                  obtain ⟨ad270, e270, hx270_0⟩ := Kd.at_int HR0_0.out x7_2 p270 q270
                  cases e270
                  replace hx270_0 := (HB.out.cell (World.block_lt_of_cell? w _ hx270_0)).trans hx270_0
                  replace p270 := eq_true p270
                  replace q270 := eq_true q270
                  go_wp2
                  go_roundg k2
                  case measure => have := HJ2.out; have := HK2.out; omega
                  case rel => exact ⟨(x6_2), (wrap64 (x7_2 + 1)), (by first | rfl | (simp; done) | (simp [*]; done)), H', ⟨by have := HJ2.out; have := HK2.out; omega⟩, ⟨by (with_reducible repeat (first | apply Kd.R_alloc | apply Kd.R_drewN | apply Kd.R_drew)); exact HO_6.out⟩, ⟨by (with_reducible repeat (first | refine blk_drewN ?_ _ | refine blk_drew ?_ | refine blk_alloc ?_ _)); exact BK269.out⟩, ⟨by repeat (first | (with_reducible first | exact HB.out | apply below_alloc | apply pw_below_drewN | apply below_drew1 | refine below_set ?_ GE269.out) | exact HB.out)⟩⟩
              · rw [if_neg c9] at H
                exact absurd H (by simp)
            · rw [if_neg c8] at H
              have c8b0 : decide (x7_2 < (l0_0.length : Int)) = false := decide_eq_false c8
              clear c8
              simp only [Option.some.injEq, Prod.mk.injEq] at H
              obtain ⟨rfl, rfl⟩ := H
              have hcz15_0 : wr.cell? ⟨gb269, 0, none⟩ = some (.slice A0_0 l0_0.length c0_0) := (blk_cell BK269.out 0).trans rfl
              have hcz15_1 : wr.cell? ⟨gb269, 1, none⟩ = some (.int .i64 a0_1) := (blk_cell BK269.out 1).trans rfl
              have hfz15_0 := blk_frozen BK269.out 0
              have hfz15_1 := blk_frozen BK269.out 1
              go_wp2
              go_ret2
              exact ⟨_, by first | rfl | (simp [errW_none, errW_some] <;> rfl) | (simp [*, errW_none, errW_some] <;> rfl), by (with_reducible repeat (first | apply Kd.R_alloc | apply Kd.R_drewN | apply Kd.R_drew)); exact HO_6.out, by repeat (first | (with_reducible first | exact HB.out | apply below_alloc | apply pw_below_drewN | apply below_drew1 | refine below_set ?_ GE269.out) | exact HB.out)⟩
end Go.Proofs.Ytdalpaobkmoomaa.X
end

section
namespace Go.Proofs.Ytdalpaobkmoomaa.X
open Go.RowKit Go.Proofs.YtdalpaobkmoomaaW.PrintWords Go.Proofs.YtdalpaobkmoomaaW.PrintLast Go.Proofs.YtdalpaobkmoomaaW.PrintMore
attribute [local go_sem] max2_int min2_int max_two min_two max_three min_three max_four min_four   -- for this text's walks alone
set_option linter.unusedVariables false
set_option linter.unusedSimpArgs false
def tutorref06_New.f (a0 : Int) : Option (List Int × Int × Int) := if a0 < 1 then (some (([] : List Int), 0, 1)) else (if a0 > 65536 then (some (([] : List Int), 0, 3)) else (if 0 ≤ a0 then (if (a0 : Int).toNat ≤ 35184372088832 then (some ((List.replicate (a0 : Int).toNat 0), 1, 0)) else (none)) else (none)))
set_option maxHeartbeats 8000000 in
set_option maxRecDepth 100000 in
theorem tutorref06_New.calls (a0 : Int) (r1 : List Int) (r2 : Int) (r3 : Int) (w : World) (h : tutorref06_New.f a0 = some (r1, r2, r3)) :
    Calls Try.prog 18 #[.int .i64 a0] w fun e w' => ∃ v0_ : Value, e = .returned (.tuple #[.agg #[v0_, .int .i64 r2], .int .i64 r3]) ∧ Kd.R (Kd.int .i64) 3 w' w.heap.size (fun _ => True) v0_ r1 ∧ Below w.heap.size w w' := by
  have hu40 := Try.underlying40
  have HB := Aside0.mk (Below.refl w.heap.size w)
  have H : (if a0 < 1 then (some (([] : List Int), 0, 1)) else (if a0 > 65536 then (some (([] : List Int), 0, 3)) else (if 0 ≤ a0 then (if (a0 : Int).toNat ≤ 35184372088832 then (some ((List.replicate (a0 : Int).toNat 0), 1, 0)) else (none)) else (none)))) = some (r1, r2, r3) := h
  clear h
  by_cases c2 : a0 < 1
  · rw [if_pos c2] at H
    have c2b0 : decide (a0 < 1) = true := decide_eq_true c2
    clear c2
    simp only [Option.some.injEq, Prod.mk.injEq] at H
    obtain ⟨rfl, rfl, rfl⟩ := H
    go_enter Try.func18, Try.ntmps18
    go_wp2_with (first | ((with_reducible refine gate_dst (N := 2) rfl ?_); refine box_event ?hg (N := 2) ?hd (cs := #[.slice none 0 0, .int .i64 0]) (t := 40) ?hr ?_; (case hd => rfl); (case hg => rfl); (case hr => first | (go_simp; done) | (go_simp; rfl)); intro gb226 hg w3 hbox hb; have n0_ := Aside0.mk (below_step (by repeat (first | (with_reducible first | exact HB.out | apply below_alloc | apply pw_below_drewN | apply below_drew1) | exact HB.out)) hb); have n1_ := Aside0.mk (hbox); have n2_ := Aside0.mk ((by rw [hg]; exact (below_size (by repeat (first | (with_reducible first | exact HB.out | apply below_alloc | apply pw_below_drewN | apply below_drew1) | exact HB.out))) : w.heap.size ≤ gb226)); have n3_ := Aside0.mk ((by rw [hg]; exact (below_size (by repeat (first | (with_reducible first | exact HB.out | apply below_alloc | apply pw_below_drewN | apply below_drew1) | exact HB.out))) : w.heap.size ≤ gb226)); clear HB; have HB := n0_; have BK226 := n1_; have GW226 := n2_; have GE226 := n3_; clear n0_ n1_ n2_ n3_; clear hb hbox hg; have hcz4_0 : w3.cell? ⟨gb226, 0, none⟩ = some (.slice none 0 0) := (blk_cell BK226.out 0).trans rfl; have hcz4_1 : w3.cell? ⟨gb226, 1, none⟩ = some (.int .i64 0) := (blk_cell BK226.out 1).trans rfl; have hfz4_0 := blk_frozen BK226.out 0; have hfz4_1 := blk_frozen BK226.out 1))
    refine bodyPost_ret (results_ct rfl _ _ gb226 40 #[.slice none 0 0, .int .i64 0] (0, 0) _ rfl (by (with_reducible repeat (first | refine blk_drewN ?_ _ | refine blk_drew ?_ | refine blk_alloc ?_ _)); refine blk_put (cs := #[.slice none 0 0, .int .i64 0]) ?_ 1 _ rfl; (with_reducible repeat (first | refine blk_drewN ?_ _ | refine blk_drew ?_ | refine blk_alloc ?_ _)); refine blk_put (cs := #[.slice none 0 0, .int .i64 0]) ?_ 0 _ rfl; (with_reducible repeat (first | refine blk_drewN ?_ _ | refine blk_drew ?_ | refine blk_alloc ?_ _)); exact BK226.out) Try.underlying40 rfl (by kernel_rfl)) rfl ?_
    exact ⟨_, by first | rfl | (simp [errW_none, errW_some] <;> rfl) | (simp [*, errW_none, errW_some] <;> rfl), by first | exact Kd.R_nil _ _ _ _ _ | exact Kd.N_nil _ _ _ _ _ | exact Kd.V_nil _ _ _ _ _ | exact Kd.Q_nil _ _ _ _ _ | exact Kd.S_nil _ _ _ _ _, by repeat (first | (with_reducible first | exact HB.out | apply below_alloc | apply pw_below_drewN | apply below_drew1 | refine below_set ?_ GE226.out) | exact HB.out)⟩
  · rw [if_neg c2] at H
    have c2b0 : decide (a0 < 1) = false := decide_eq_false c2
    clear c2
    by_cases c5 : a0 > 65536
    · rw [if_pos c5] at H
      have c5b0 : decide (65536 < a0) = true := decide_eq_true c5
      clear c5
      simp only [Option.some.injEq, Prod.mk.injEq] at H
      obtain ⟨rfl, rfl, rfl⟩ := H
      go_enter Try.func18, Try.ntmps18
      go_wp2_with (first | ((with_reducible refine gate_dst (N := 2) rfl ?_); refine box_event ?hg (N := 2) ?hd (cs := #[.slice none 0 0, .int .i64 0]) (t := 40) ?hr ?_; (case hd => rfl); (case hg => rfl); (case hr => first | (go_simp; done) | (go_simp; rfl)); intro gb226 hg w6 hbox hb; have n0_ := Aside0.mk (below_step (by repeat (first | (with_reducible first | exact HB.out | apply below_alloc | apply pw_below_drewN | apply below_drew1) | exact HB.out)) hb); have n1_ := Aside0.mk (hbox); have n2_ := Aside0.mk ((by rw [hg]; exact (below_size (by repeat (first | (with_reducible first | exact HB.out | apply below_alloc | apply pw_below_drewN | apply below_drew1) | exact HB.out))) : w.heap.size ≤ gb226)); have n3_ := Aside0.mk ((by rw [hg]; exact (below_size (by repeat (first | (with_reducible first | exact HB.out | apply below_alloc | apply pw_below_drewN | apply below_drew1) | exact HB.out))) : w.heap.size ≤ gb226)); clear HB; have HB := n0_; have BK226 := n1_; have GW226 := n2_; have GE226 := n3_; clear n0_ n1_ n2_ n3_; clear hb hbox hg; have hcz7_0 : w6.cell? ⟨gb226, 0, none⟩ = some (.slice none 0 0) := (blk_cell BK226.out 0).trans rfl; have hcz7_1 : w6.cell? ⟨gb226, 1, none⟩ = some (.int .i64 0) := (blk_cell BK226.out 1).trans rfl; have hfz7_0 := blk_frozen BK226.out 0; have hfz7_1 := blk_frozen BK226.out 1))
      refine bodyPost_ret (results_ct rfl _ _ gb226 40 #[.slice none 0 0, .int .i64 0] (0, 0) _ rfl (by (with_reducible repeat (first | refine blk_drewN ?_ _ | refine blk_drew ?_ | refine blk_alloc ?_ _)); refine blk_put (cs := #[.slice none 0 0, .int .i64 0]) ?_ 1 _ rfl; (with_reducible repeat (first | refine blk_drewN ?_ _ | refine blk_drew ?_ | refine blk_alloc ?_ _)); refine blk_put (cs := #[.slice none 0 0, .int .i64 0]) ?_ 0 _ rfl; (with_reducible repeat (first | refine blk_drewN ?_ _ | refine blk_drew ?_ | refine blk_alloc ?_ _)); exact BK226.out) Try.underlying40 rfl (by kernel_rfl)) rfl ?_
      exact ⟨_, by first | rfl | (simp [errW_none, errW_some] <;> rfl) | (simp [*, errW_none, errW_some] <;> rfl), by first | exact Kd.R_nil _ _ _ _ _ | exact Kd.N_nil _ _ _ _ _ | exact Kd.V_nil _ _ _ _ _ | exact Kd.Q_nil _ _ _ _ _ | exact Kd.S_nil _ _ _ _ _, by repeat (first | (with_reducible first | exact HB.out | apply below_alloc | apply pw_below_drewN | apply below_drew1 | refine below_set ?_ GE226.out) | exact HB.out)⟩
    · rw [if_neg c5] at H
      have c5b0 : decide (65536 < a0) = false := decide_eq_false c5
      clear c5
      by_cases c8 : 0 ≤ a0
      · rw [if_pos c8] at H
        have c8b0 := eq_true c8
        have c8b1 : decide (0 ≤ a0) = true := decide_eq_true c8
        clear c8
        by_cases c9 : (a0 : Int).toNat ≤ 35184372088832
        · rw [if_pos c9] at H
          have c9b0 := eq_true c9
          have c9b1 : decide ((a0 : Int).toNat ≤ 35184372088832) = true := decide_eq_true c9
          clear c9
          obtain ⟨y227, hy227⟩ : ∃ y_ : List Int, y_ = (List.replicate (a0 : Int).toNat 0) := ⟨_, rfl⟩
          replace H : (some (y227, 1, 0)) = some (r1, r2, r3) := by first | (rw [hy227]; with_reducible exact H) | (have H2_ := (Option.bind_some _ _).symm.trans H; rw [hy227]; with_reducible exact H2_) | (have H2_ := (Option.bind_some _ _).symm.trans H; with_reducible exact H2_) | with_reducible exact H | (rw [hy227]; exact H) | exact H
          have Ny227 := Aside0.mk hy227
          clear hy227
          simp only [Option.some.injEq, Prod.mk.injEq] at H
          obtain ⟨rfl, rfl, rfl⟩ := H
          go_enter Try.func18, Try.ntmps18
          go_wp2_with (first | ((with_reducible refine gate_dst (N := 2) rfl ?_); refine box_event ?hg (N := 2) ?hd (cs := #[.slice none 0 0, .int .i64 0]) (t := 40) ?hr ?_; (case hd => rfl); (case hg => rfl); (case hr => first | (go_simp; done) | (go_simp; rfl)); intro gb226 hg w10 hbox hb; have n0_ := Aside0.mk (below_step (by repeat (first | (with_reducible first | exact HB.out | apply below_alloc | apply pw_below_drewN | apply below_drew1) | exact HB.out)) hb); have n1_ := Aside0.mk (hbox); have n2_ := Aside0.mk ((by rw [hg]; exact (below_size (by repeat (first | (with_reducible first | exact HB.out | apply below_alloc | apply pw_below_drewN | apply below_drew1) | exact HB.out))) : w.heap.size ≤ gb226)); have n3_ := Aside0.mk ((by rw [hg]; exact (below_size (by repeat (first | (with_reducible first | exact HB.out | apply below_alloc | apply pw_below_drewN | apply below_drew1) | exact HB.out))) : w.heap.size ≤ gb226)); clear HB; have HB := n0_; have BK226 := n1_; have GW226 := n2_; have GE226 := n3_; clear n0_ n1_ n2_ n3_; clear hb hbox hg) | ((with_reducible refine gate_dst (N := 11) rfl ?_); refine Kd.R_make (Kd.int .i64) _ 3 rfl (N := 11) rfl 22 _ _ rfl a0 rfl rfl Try.underlying22 (.int .i64 0) 8 info3 rfl (by decide) (by omega) 0 (ok := fun _ => True) (okp := fun _ => True) rfl (fun _ hk => hk) trivial (of_decide_eq_true (by first | (with_reducible assumption) | assumption)) (Nat.le_trans (Nat.mul_le_mul_right _ (of_decide_eq_true (by first | (with_reducible assumption) | assumption) : a0.toNat ≤ 35184372088832)) (by omega)) (Below.refl _ _) (Nat.le_refl _) ?_; intro v228 w11 ho12 hb hg_ hnew_; clear hg_ hnew_; (first | rw [← Ny227.out] at ho12 | (simp only [Int.reduceToNat] at ho12; rw [← Ny227.out] at ho12)); have n0_ := Aside0.mk (Kd.R_lower ho12 (below_size (by repeat (first | (with_reducible first | exact HB.out | apply below_alloc | apply pw_below_drewN | apply below_drew1 | refine below_set ?_ GE226.out) | exact HB.out)))); have n1_ := Aside0.mk (blk_below (g := gb226) (o := .cells #[.slice none 0 0, .int .i64 0] 40 (0, 0)) (by (with_reducible repeat (first | refine blk_drewN ?_ _ | refine blk_drew ?_ | refine blk_alloc ?_ _)); exact BK226.out) hb); have n2_ := Aside0.mk (below_step (by repeat (first | (with_reducible first | exact HB.out | apply below_alloc | apply pw_below_drewN | apply below_drew1 | refine below_set ?_ GE226.out) | exact HB.out)) hb); clear BK226; clear HB; have HO229 := n0_; have BK226 := n1_; have HB := n2_; clear n0_ n1_ n2_; clear hb ho12; obtain ⟨Ao13, co13, eo13⟩ := Kd.R_slice HO229.out; subst eo13; have hcz14_0 : w11.cell? ⟨gb226, 0, none⟩ = some (.slice none 0 0) := (blk_cell BK226.out 0).trans rfl; have hcz14_1 : w11.cell? ⟨gb226, 1, none⟩ = some (.int .i64 0) := (blk_cell BK226.out 1).trans rfl; have hfz14_0 := blk_frozen BK226.out 0; have hfz14_1 := blk_frozen BK226.out 1))
          refine bodyPost_ret (results_ct rfl _ _ gb226 40 #[.slice Ao13 y227.length co13, .int .i64 1] (0, 0) _ rfl (by (with_reducible repeat (first | refine blk_drewN ?_ _ | refine blk_drew ?_ | refine blk_alloc ?_ _)); refine blk_put (cs := #[.slice Ao13 y227.length co13, .int .i64 0]) ?_ 1 _ rfl; (with_reducible repeat (first | refine blk_drewN ?_ _ | refine blk_drew ?_ | refine blk_alloc ?_ _)); refine blk_put (cs := #[.slice none 0 0, .int .i64 0]) ?_ 0 _ rfl; (with_reducible repeat (first | refine blk_drewN ?_ _ | refine blk_drew ?_ | refine blk_alloc ?_ _)); exact BK226.out) Try.underlying40 rfl (by kernel_rfl)) rfl ?_
          exact ⟨_, by first | rfl | (simp [errW_none, errW_some] <;> rfl) | (simp [*, errW_none, errW_some] <;> rfl), by (with_reducible repeat (first | apply Kd.R_alloc | apply Kd.R_drewN | apply Kd.R_drew)); exact Kd.R_mono (Kd.R_far (p := ⟨gb226, 1, none⟩) (Kd.R_far (p := ⟨gb226, 0, none⟩) (Kd.R_types HO229.out BK226.out (by decide)) (fun _ hk => hk.2) (.slice Ao13 y227.length co13)) (fun _ hk => hk.2) (.int .i64 1)) (fun _ hk => trivial), by repeat (first | (with_reducible first | exact HB.out | apply below_alloc | apply pw_below_drewN | apply below_drew1 | refine below_set ?_ GE226.out) | exact HB.out)⟩
        · rw [if_neg c9] at H
          exact absurd H (by simp)
      · rw [if_neg c8] at H
        exact absurd H (by simp)
end Go.Proofs.Ytdalpaobkmoomaa.X
end
