/- Texts of the statement NfaCounts, one behind the other: Go functions as Lean functions, the machine's calls, the plain law. -/
import Derived.Test.YtkaefgmgcghhiaaMNfaCounts11
import Derived.ChangeAlike
import Derived.RegionTactic
import Derived.WalkSmall
set_option linter.unusedVariables false
set_option linter.unusedSimpArgs false
section
namespace Go.Proofs.Ytkaefgmgcghhiaa.X
open Go.RowKit Go.Proofs.YtkaefgmgcghhiaaW.PrintWords Go.Proofs.YtkaefgmgcghhiaaW.PrintLast Go.Proofs.YtkaefgmgcghhiaaW.PrintMore
set_option maxHeartbeats 1000000 in
theorem has_walk (b : Nat) (i v : Int) (w : World) (h0 : 0 ≤ i) (h1 : i < 1024) (hc : w.cell? ⟨b, (i / 64).toNat, none⟩ = some (.int .u64 v)) (hv0 : 0 ≤ v) (hv1 : v < 18446744073709551616) :
    Calls Try.prog 88 #[.pointer (some ⟨b, 0, none⟩), .int .i64 i] w fun e w' => e = .returned (.bool (bits BinOp.and IntKind.u64 (v / 2 ^ (i % 64).toNat) 1 == 1)) ∧ w = w' := by
  have hu151 := Try.underlying151
  have hu88 := Try.underlying88
  go_enter Try.func88, Try.ntmps88
  go_wp2
  go_ret
  exact ⟨rfl, rfl⟩
set_option maxHeartbeats 1000000 in
theorem put_walk (b : Nat) (i v : Int) (w : World) (h0 : 0 ≤ i) (h1 : i < 1024) (hc : w.cell? ⟨b, (i / 64).toNat, none⟩ = some (.int .u64 v)) (hf : w.frozen? ⟨b, (i / 64).toNat, none⟩ = false) (hv0 : 0 ≤ v) (hv1 : v < 18446744073709551616) :
    Calls Try.prog 89 #[.pointer (some ⟨b, 0, none⟩), .int .i64 i] w fun e w' => e = .returned (.tuple #[]) ∧ w' = (w.setCell ⟨b, (i / 64).toNat, none⟩ (.int .u64 (bits BinOp.or IntKind.u64 v (IntKind.u64.wrap (2 ^ (i % 64).toNat))))).drew := by
  have hu151 := Try.underlying151
  have hu88 := Try.underlying88
  go_enter Try.func89, Try.ntmps89
  go_wp2
  go_region
  all_goals (go_end0; exact ⟨rfl, rfl⟩)
/-- A set of states: sixteen words of sixty-four bits. -/
def mem (ws : List Nat) (i : Nat) : Bool := (ws.getD (i / 64) 0).testBit (i % 64)
def ins (ws : List Nat) (i : Nat) : List Nat := ws.set (i / 64) (ws.getD (i / 64) 0 ||| 2 ^ (i % 64))
def wordsOf (ws : List Nat) : List Value := ws.map fun (n : Nat) => Value.int .u64 (n : Int)
def IsSet (ws : List Nat) : Prop := ws.length = 16 ∧ ∀ x ∈ ws, x < 18446744073709551616
def SetAt (w : World) (b : Nat) (ws : List Nat) : Prop := IsSet ws ∧ w.heap[b]? = some (.cells (wordsOf ws).toArray 88 (0, 0))
theorem IsSet.word {ws : List Nat} (h : IsSet ws) (j : Nat) : ws.getD j 0 < 18446744073709551616 := by
  rw [List.getD_eq_getElem?_getD]
  cases he : ws[j]? with
  | none => simp
  | some x => exact h.2 x (List.mem_of_getElem? he)
theorem SetAt.cell {w : World} {b : Nat} {ws : List Nat} (h : SetAt w b ws) (j : Nat) (hj : j < 16) : w.cell? ⟨b, j, none⟩ = some (.int .u64 (ws.getD j 0 : Nat)) := by
  unfold World.cell?
  simp only [h.2]
  have hl : j < ws.length := by rw [h.1.1]; exact hj
  simp [wordsOf, List.getElem?_eq_getElem hl]
theorem SetAt.frozen {w : World} {b : Nat} {ws : List Nat} (h : SetAt w b ws) (j : Nat) : w.frozen? ⟨b, j, none⟩ = false := by
  unfold World.frozen?
  simp [h.2]
theorem bit_and (n k : Nat) : ((((n : Int) / 2 ^ k) % 2 == 1) : Bool) = n.testBit k := by
  rw [Nat.testBit_eq_decide_div_mod_eq]
  have e : (n : Int) / 2 ^ k % 2 = ((n / 2 ^ k % 2 : Nat) : Int) := by norm_cast
  rw [e]
  by_cases h : n / 2 ^ k % 2 = 1
  · rw [h]; rfl
  · have : ((n / 2 ^ k % 2 : Nat) : Int) ≠ 1 := by omega
    rw [decide_eq_false h]
    simpa using this
theorem has_calls (b : Nat) (i : Int) (ws : List Nat) (w : World) (h0 : 0 ≤ i) (h1 : i < 1024) (hs : SetAt w b ws) :
    Calls Try.prog 88 #[.pointer (some ⟨b, 0, none⟩), .int .i64 i] w fun e w' => e = .returned (.bool (mem ws i.toNat)) ∧ w = w' := by
  have hj : (i / 64).toNat = i.toNat / 64 := by omega
  have hk : (i % 64).toNat = i.toNat % 64 := by omega
  have hw := hs.1.word (i / 64).toNat
  have hc := hs.cell (i.toNat / 64) (by omega)
  rw [← hj] at hc
  have h := has_walk b i _ w h0 h1 hc (by omega) (by omega)
  rw [hj, hk] at h
  refine h.mono ?_
  rintro e w' ⟨rfl, rfl⟩
  refine ⟨?_, rfl⟩
  have hq : (0 : Int) ≤ ((ws.getD (i.toNat / 64) 0 : Nat) : Int) / 2 ^ (i.toNat % 64) := Int.ediv_nonneg (by omega) (by exact_mod_cast Nat.zero_le _)
  have hq2 : ((ws.getD (i.toNat / 64) 0 : Nat) : Int) / 2 ^ (i.toNat % 64) ≤ 18446744073709551615 := by
    have : ((ws.getD (i.toNat / 64) 0 : Nat) : Int) / 2 ^ (i.toNat % 64) = ((ws.getD (i.toNat / 64) 0 / 2 ^ (i.toNat % 64) : Nat) : Int) := by norm_cast
    rw [this]
    have := Nat.div_le_self (ws.getD (i.toNat / 64) 0) (2 ^ (i.toNat % 64))
    rw [hj] at hw
    omega
  rw [and_one_u64 _ hq hq2, bit_and]
  rfl
theorem ins_isSet {ws : List Nat} (h : IsSet ws) (i : Nat) : IsSet (ins ws i) := by
  refine ⟨by unfold ins; rw [List.length_set]; exact h.1, fun x hx => ?_⟩
  unfold ins at hx
  rcases List.mem_or_eq_of_mem_set hx with hx | rfl
  · exact h.2 x hx
  · have h1 := h.word (i / 64)
    have h2 : 2 ^ (i % 64) < 18446744073709551616 := Nat.pow_lt_pow_right (a := 2) (n := 64) (by omega) (by omega)
    exact Nat.or_lt_two_pow (n := 64) h1 h2
theorem put_calls (b : Nat) (i : Int) (ws : List Nat) (w : World) (h0 : 0 ≤ i) (h1 : i < 1024) (hs : SetAt w b ws) :
    Calls Try.prog 89 #[.pointer (some ⟨b, 0, none⟩), .int .i64 i] w fun e w' => e = .returned (.tuple #[]) ∧ SetAt w' b (ins ws i.toNat) ∧ Below b w w' ∧ KeepBut w w' b none := by
  have hj : (i / 64).toNat = i.toNat / 64 := by omega
  have hk : (i % 64).toNat = i.toNat % 64 := by omega
  have hw := hs.1.word (i / 64).toNat
  have hc := hs.cell (i.toNat / 64) (by omega)
  rw [← hj] at hc
  have h := put_walk b i _ w h0 h1 hc (hs.frozen _) (by omega) (by omega)
  rw [hj, hk] at h
  rw [hj] at hw
  refine h.mono ?_
  rintro e w' ⟨rfl, rfl⟩
  have h2 : 2 ^ (i.toNat % 64) < 18446744073709551616 := Nat.pow_lt_pow_right (a := 2) (n := 64) (by omega) (by omega)
  have hwrap : IntKind.u64.wrap (2 ^ (i.toNat % 64)) = ((2 ^ (i.toNat % 64) : Nat) : Int) := by
    have e : ((2 : Int) ^ (i.toNat % 64)) = ((2 ^ (i.toNat % 64) : Nat) : Int) := by norm_cast
    rw [e]
    have h3 : (0 : Int) ≤ ((2 ^ (i.toNat % 64) : Nat) : Int) := Int.natCast_nonneg _
    have h4 : ((2 ^ (i.toNat % 64) : Nat) : Int) ≤ 18446744073709551615 := by clear hc h e; generalize 2 ^ (i.toNat % 64) = n at h2; omega
    exact IntWalk.u64_in _ ⟨h3, h4⟩
  have hor := bits_or_u64_nat (ws.getD (i.toNat / 64) 0) (2 ^ (i.toNat % 64)) hw h2
  rw [hwrap, hor]
  have hl : i.toNat / 64 < ws.length := by rw [hs.1.1]; omega
  refine ⟨rfl, ⟨ins_isSet hs.1 _, ?_⟩, ((Below.refl b w).setCell (Nat.le_refl b) _).drew, (KeepBut.refl w b none).set_ _ _⟩
  show (w.setCell _ _).heap[b]? = _
  simp only [World.setCell, Array.getElem?_modify]
  rw [if_pos trivial, hs.2]
  simp only [Option.map_some, Option.isSome_none, Bool.false_eq_true, if_false]
  congr 2
  unfold wordsOf ins
  rw [List.map_set]
  simp
end Go.Proofs.Ytkaefgmgcghhiaa.X
end

section
namespace Go.Proofs.Ytkaefgmgcghhiaa.X
open Go.RowKit Go.Proofs.YtkaefgmgcghhiaaW.PrintWords Go.Proofs.YtkaefgmgcghhiaaW.PrintLast Go.Proofs.YtkaefgmgcghhiaaW.PrintMore
/-- Block g holds one row a state; the rows lie apart. -/
def RowsAt (w : World) (base g : Nat) (vs : List Value) (fr : List (List S80)) : Prop :=
  w.heap[g]? = some (.cells vs.toArray 23 (0, 0)) ∧ vs.length = fr.length ∧ base ≤ g ∧
  (∀ (j : Nat) (v : Value) (l : List S80), vs[j]? = some v → fr[j]? = some l → Kd.R k80 80 w base (fun k => some k = v.ownBlock) v l) ∧
  (∀ (i j : Nat) (v v' : Value), i ≠ j → vs[i]? = some v → vs[j]? = some v' → v.ownBlock = none ∨ v.ownBlock ≠ v'.ownBlock)
theorem R_tight_of {w : World} {base : Nat} {ok : Nat → Prop} {v : Value} {l : List S80} (h : Kd.R k80 80 w base ok v l) : Kd.R k80 80 w base (fun k => some k = v.ownBlock) v l := by
  obtain ⟨_, inner, ho, hr⟩ := h
  refine ⟨fun k hk => hk.symm, inner, ho, hr.imp_ (fun x c hp => ?_)⟩
  obtain rfl := k80_openM hp
  exact k80_mkM _ _ _ x
theorem RowsAt.below {w w1 : World} {base g : Nat} {vs : List Value} {fr : List (List S80)} (h : RowsAt w base g vs fr) (hb : Below w.heap.size w w1) : RowsAt w1 base g vs fr :=
  ⟨(hb.block g (Array.getElem?_eq_some_iff.1 h.1).1).trans h.1, h.2.1, h.2.2.1, fun j v l hv hl => Kd.dz (h.2.2.2.1 j v l hv hl) hb, h.2.2.2.2⟩
theorem RowsAt.ne {w : World} {base g : Nat} {vs : List Value} {fr : List (List S80)} (h : RowsAt w base g vs fr) (j : Nat) (v : Value) (l : List S80) (hv : vs[j]? = some v) (hl : fr[j]? = some l) : some g ≠ v.ownBlock :=
  Kd.jL (h.2.2.2.1 j v l hv hl) h.1 (by decide)
/-- Behind an append to one row and the store of what it gave. -/
theorem RowsAt.put {w w1 : World} {base g : Nat} {vs : List Value} {fr : List (List S80)} (h : RowsAt w base g vs fr) (i : Nat) (v v1 : Value) (l l1 : List S80) (hv : vs[i]? = some v) (hl : fr[i]? = some l)
    (hr : Kd.R k80 80 w1 base (fun _ => True) v1 l1) (hg : w.grownBy w1 v.ownBlock) (hat : v1.ownBlock = v.ownBlock ∨ ∃ b, v1.ownBlock = some b ∧ w.heap.size ≤ b) :
    RowsAt (w1.setCell ⟨g, i, none⟩ v1) base g (vs.set i v1) (fr.set i l1) := by
  have hgl : g < w.heap.size := (Array.getElem?_eq_some_iff.1 h.1).1
  have hne := h.ne i v l hv hl
  have h1 : w1.heap[g]? = some (.cells vs.toArray 23 (0, 0)) := (hg.block g hgl hne).trans h.1
  have hr' := R_tight_of hr
  have hne1 : some g ≠ v1.ownBlock := Kd.jL hr' h1 (by decide)
  have hil : i < vs.length := (List.getElem?_eq_some_iff.1 hv).1
  have hset : (w1.setCell ⟨g, i, none⟩ v1).heap[g]? = some (.cells (vs.set i v1).toArray 23 (0, 0)) := by
    simp only [World.setCell, Array.getElem?_modify]
    rw [if_pos trivial, h1]
    simp
  have hlt : ∀ (j : Nat) (u : Value) (q : List S80), vs[j]? = some u → fr[j]? = some q → ∀ k, u.ownBlock = some k → k < w.heap.size := fun j u q hu hq k hk => Kd.jD (h.2.2.2.1 j u q hu hq) k hk
  refine ⟨hset, by rw [List.length_set, List.length_set]; exact h.2.1, h.2.2.1, ?_, ?_⟩
  · intro j u q hu hq
    by_cases hj : j = i
    · subst hj
      rw [List.getElem?_set_self hil] at hu
      rw [List.getElem?_set_self (by rw [← h.2.1]; exact hil)] at hq
      obtain rfl := Option.some.inj hu
      obtain rfl := Option.some.inj hq
      exact Kd.R_far (p := ⟨g, j, none⟩) hr' (fun k hk he => hne1 (by rw [← hk]; show some g = some k; rw [he])) _
    · rw [List.getElem?_set_ne (fun e => hj e.symm)] at hu hq
      have h2 := h.2.2.2.1 j u q hu hq
      have hd : ∀ k, some k = u.ownBlock → some k ≠ v.ownBlock := by
        intro k hk he
        rcases h.2.2.2.2 j i u v hj hu hv with h0 | h0
        · rw [h0] at hk; cases hk
        · exact h0 (hk.symm.trans he)
      have h3 := Kd.R_grown h2 hg hd
      exact Kd.R_far (p := ⟨g, i, none⟩) h3 (fun k hk he => h.ne j u q hu hq (by rw [← hk]; show some g = some k; rw [he])) _
  · intro a b u u' hab hu hu'
    have hfl : ∀ j, j < vs.length → ∃ q, fr[j]? = some q := fun j hj => ⟨_, List.getElem?_eq_getElem (by rw [← h.2.1]; exact hj)⟩
    by_cases ha : a = i
    · subst ha
      rw [List.getElem?_set_self hil] at hu
      obtain rfl := Option.some.inj hu
      rw [List.getElem?_set_ne hab] at hu'
      obtain ⟨q, hq⟩ := hfl b (List.getElem?_eq_some_iff.1 hu').1
      rcases hat with h0 | ⟨k, hk, hkb⟩
      · rw [h0]; exact h.2.2.2.2 a b v u' hab hv hu'
      · right
        rw [hk]
        intro he
        have := hlt b u' q hu' hq k he.symm
        omega
    · rw [List.getElem?_set_ne (fun e => ha e.symm)] at hu
      obtain ⟨q, hq⟩ := hfl a (List.getElem?_eq_some_iff.1 hu).1
      by_cases hb : b = i
      · subst hb
        rw [List.getElem?_set_self hil] at hu'
        obtain rfl := Option.some.inj hu'
        rcases hat with h0 | ⟨k, hk, hkb⟩
        · rw [h0]; exact h.2.2.2.2 a b u v ha hu hv
        · right
          rw [hk]
          intro he
          have := hlt a u q hu hq k he
          omega
      · rw [List.getElem?_set_ne (fun e => hb e.symm)] at hu'
        exact h.2.2.2.2 a b u u' hab hu hu'
theorem RowsAt.made (w : World) (base n : Nat) (hb : base ≤ w.heap.size) : RowsAt (w.alloc (.cells (madeCells #[.slice none 0 0] n) 23)) base w.heap.size (List.replicate n (.slice none 0 0)) (List.replicate n []) := by
  have hm : madeCells #[Value.slice none 0 0] n = (List.replicate n (Value.slice none 0 0)).toArray := by
    apply Array.ext'
    simp only [madeCells]
    apply List.ext_getElem
    · simp
    · intro i h1 h2
      simp [Nat.mod_one]
  refine ⟨?_, by simp, hb, ?_, ?_⟩
  · rw [hm]; exact heap_alloc_new w _
  · intro j v l hv hl
    have h1 := List.mem_of_getElem? hv
    have h2 := List.mem_of_getElem? hl
    obtain rfl := List.eq_of_mem_replicate h1
    obtain rfl := List.eq_of_mem_replicate h2
    exact Kd.jq _ _ _ _ _
  · intro i j v v' _ hv _
    obtain rfl := List.eq_of_mem_replicate (List.mem_of_getElem? hv)
    exact .inl rfl
end Go.Proofs.Ytkaefgmgcghhiaa.X
end

section
namespace Go.Proofs.Ytkaefgmgcghhiaa.X
open Go.RowKit Go.Proofs.YtkaefgmgcghhiaaW.PrintWords Go.Proofs.YtkaefgmgcghhiaaW.PrintLast Go.Proofs.YtkaefgmgcghhiaaW.PrintMore
def addRow (fr : List (List S80)) (x : S80) : List (List S80) := fr.set x.f0.toNat (fr.getD x.f0.toNat [] ++ [x])
def rowsOf (N : Nat) (E : List S80) : List (List S80) := E.foldl addRow (List.replicate N [])
/-- The block of a runner. -/
def RunAt (w : World) (base rb : Nat) (K N : Int) (sv fv ev : Value) (fr : List (List S80)) : Prop :=
  ∃ (g : Nat) (vs : List Value), w.heap[rb]? = some (.cells #[.int .i64 K, .int .i64 N, sv, fv, ev, .slice (some ⟨g, 0, none⟩) N.toNat N.toNat] 134 (0, 0)) ∧ base ≤ rb ∧ RowsAt w base g vs fr
theorem rows_length (N : Nat) (E : List S80) : (rowsOf N E).length = N := by
  have h : ∀ (E : List S80) (fr : List (List S80)), (E.foldl addRow fr).length = fr.length := by
    intro E
    induction E with
    | nil => intro fr; rfl
    | cons x E ih => intro fr; rw [List.foldl_cons, ih]; simp [addRow]
  rw [rowsOf, h]
  simp
theorem rows_get (N : Nat) (E : List S80) (j : Nat) (hj : j < N) : (rowsOf N E).getD j [] = E.filter fun x => x.f0.toNat == j := by
  have h : ∀ (E : List S80) (fr : List (List S80)), j < fr.length → (E.foldl addRow fr).getD j [] = fr.getD j [] ++ E.filter fun x => x.f0.toNat == j := by
    intro E
    induction E with
    | nil => intro fr _; simp
    | cons x E ih =>
      intro fr hf
      rw [List.foldl_cons, ih _ (by simpa [addRow] using hf), List.filter_cons]
      by_cases hx : x.f0.toNat = j
      · have : (x.f0.toNat == j) = true := by simpa using hx
        rw [this, if_pos rfl]
        simp only [addRow, List.getD_eq_getElem?_getD]
        rw [hx, List.getElem?_set_self hf]
        simp
      · have : (x.f0.toNat == j) = false := by simpa using hx
        rw [this, if_neg (by simp)]
        simp only [addRow, List.getD_eq_getElem?_getD]
        rw [List.getElem?_set_ne hx]
  rw [rowsOf, h E _ (by simpa using hj)]
  simp [List.getD_eq_getElem?_getD, hj]
theorem rows_short (N : Nat) (E : List S80) (j : Nat) : ((rowsOf N E).getD j []).length ≤ E.length := by
  by_cases hj : j < N
  · rw [rows_get N E j hj]; exact List.length_filter_le _ _
  · rw [List.getD_eq_getElem?_getD, List.getElem?_eq_none (by rw [rows_length]; omega)]
    simp
def NR1.T1 : Bool × List (List Nat × List Nat) := (true, [([], []), ([], []), ([1], [1]), ([2, 2], [2]), ([0, 3], [0, 3]), ([4], [4]), ([5, 0, 1, 2, 3, 4, 5], [5])])
def NR1.B1 : List Nat := [0, 0, 2, 6, 15, 31, 63]
theorem NR1.tab1 : rtab .any (opsOf Try.f57 1) = NR1.T1 := by kernel_rfl
theorem NR1.bits1 : waitsOk NR1.T1.2 NR1.B1 = true := by kernel_rfl
def NR5.T5 : Bool × List (List Nat × List Nat) := (true, [([], []), ([0], [0]), ([1], [1]), ([2], [2]), ([], []), ([4], [4]), ([], []), ([6], [6]), ([7], [7]), ([8], [8]), ([], []), ([10], [10]), ([9, 11], [9, 11]), ([12], [12]), ([], []), ([14], [14]), ([13, 15], [13, 15]), ([3, 5, 0, 1, 2, 3, 4, 5, 6, 7, 8, 9, 10, 11, 12, 13, 14, 15, 16], [3, 5]), ([17, 16, 16, 0, 1, 2, 3, 4, 5, 6, 7, 8, 9, 10, 11, 12, 13, 14, 15, 16], [16, 17])])
def NR5.B5 : List Nat := [0, 1, 3, 7, 0, 16, 0, 64, 192, 448, 0, 1024, 4032, 8128, 0, 16384, 65472, 131071, 262143]
theorem NR5.tab5 : rtab .any (opsOf Try.f57 5) = NR5.T5 := by kernel_rfl
theorem NR5.bits5 : waitsOk NR5.T5.2 NR5.B5 = true := by kernel_rfl
set_option maxHeartbeats 4000000 in
set_option maxRecDepth 100000 in
theorem newRunner_walk (kk N : Int) (A2 : Option Addr) (c2 : Nat) (S : List Int) (A3 : Option Addr) (c3 : Nat) (F : List Int) (A4 : Option Addr) (c4 : Nat) (E : List S80) (w : World)
    (hr4 : Kd.C k80 w A4 E.length E) (hN : 1 ≤ N ∧ N ≤ 1024) (hEl : E.length ≤ 65536) (hE : ∀ x ∈ E, 0 ≤ x.f0 ∧ x.f0 < N) :
    Calls Try.prog 57 #[.agg #[.int .i64 kk, .int .i64 N, .slice A2 S.length c2, .slice A3 F.length c3, .slice A4 E.length c4]] w fun e w' => ∃ rb, e = .returned (.pointer (some ⟨rb, 0, none⟩)) ∧ RunAt w' w.heap.size rb kk N (.slice A2 S.length c2) (.slice A3 F.length c3) (.slice A4 E.length c4) (rowsOf N.toNat E) ∧ Below w.heap.size w w' := by
  have hu25 := Try.underlying25
  have hu80 := Try.underlying80
  have hu134 := Try.underlying134
  have hu132 := Try.underlying132
  have hu23 := Try.underlying23
  have HE := aC.mk hr4
  have HEE := aC.mk hE
  have HL := aC.mk hEl
  obtain ⟨hN1, hN2⟩ := hN
  clear hr4 hE hEl
  have hmk := print_make_int 132 23 (.slice none 0 0) 24 hu132 info23 rfl (by decide) N (by omega) (by omega)
  go_enter Try.func57, Try.ntmps57
  go_wp2
  refine start_ (n := 7) (S := fun w' => w'.heap[w.heap.size]? = some (.cells #[.int .i64 kk, .int .i64 N, .slice A2 S.length c2, .slice A3 F.length c3, .slice A4 E.length c4] 25 (0, 0))) (ds := [5]) #[false, false, false, false, false, false, false] (by kernel_rfl) rfl rfl (dH _ _) (fun hHeld => ?_)
  refine with_tabW NR1.tab1 NR1.bits1 (fun HT_ HW_ => ?_)
  have hc0 := fun (W' : World) (h : W'.heap[w.heap.size]? = some (.cells #[.int .i64 kk, .int .i64 N, .slice A2 S.length c2, .slice A3 F.length c3, .slice A4 E.length c4] 25 (0, 0))) => aD h
  refine dM (i := 1) (N := (some 7)) (v := ?_) (a' := ?_) #[false, true, false, false, false, false, false] rfl rfl (dE HT_.out (by kernel_rfl)) (fun _ _ _ h => h) (Or.inl ⟨by rfl, ?_⟩) ?_ ?_
  rotate_left
  · intro w'
    go_simp
    with_reducible rfl
  rotate_left
  · simp only [Act.put, List.setIfInBounds_toArray, List.set_cons_zero, List.set_cons_succ, bT, bU]
    rfl
  refine jB (i := 0) (N := (some 6)) (v := ?_) (a' := ?_) #[true, true, false, false, false, false, false] rfl rfl (ek HT_.out HW_.out (by kernel_rfl)) (fun _ _ _ h => h) (Or.inl ⟨by rfl, ?_⟩) hHeld ?_ ?_
  rotate_left
  · rintro w' s0
    go_simp
    with_reducible rfl
  rotate_left
  · simp only [Act.put, List.setIfInBounds_toArray, List.set_cons_zero, List.set_cons_succ, bT, bU]
    rfl
  refine jB (i := 2) (N := (some 8)) (v := ?_) (a' := ?_) #[true, true, true, false, false, false, false] rfl rfl (ek HT_.out HW_.out (by kernel_rfl)) (fun _ _ _ h => h) (Or.inl ⟨by rfl, ?_⟩) hHeld ?_ ?_
  rotate_left
  · rintro w' s0
    go_simp
    with_reducible rfl
  rotate_left
  · simp only [Act.put, List.setIfInBounds_toArray, List.set_cons_zero, List.set_cons_succ, bT, bU]
    rfl
  refine one_ (i := 3) (N := (some 9)) #[true, true, true, true, false, false, false] rfl rfl (one_of HT_.out (by kernel_rfl)) (by decide) (fun K hK => ?_)
  refine value_ (w1 := ?_) (v := ?_) (by rfl) rfl ?_ ?_
  rotate_left 2
  · go_simp
    constructor
    · rfl
    · rfl
  refine hK.out _ _ (af (aW (dH w _) _)) (fun hHeld => ?_); clear hK K
  refine norm_ (a' := ?_) ?_ ?_
  rotate_left
  · show Act.put _ (some 9) _ = _
    simp only [Act.put, List.setIfInBounds_toArray, List.set_cons_zero, List.set_cons_succ, bT, bU]
    rfl
  refine dM (i := 4) (N := (some 10)) (v := ?_) (a' := ?_) #[true, true, true, true, true, false, false] rfl rfl (dE HT_.out (by kernel_rfl)) (fun _ _ _ h => h) (Or.inl ⟨by rfl, ?_⟩) ?_ ?_
  rotate_left
  · intro w'
    go_simp
    with_reducible rfl
  rotate_left
  · simp only [Act.put, List.setIfInBounds_toArray, List.set_cons_zero, List.set_cons_succ, bT, bU]
    rfl
  refine last_ (i := 5) (N := (some 11)) #[true, true, true, true, true, true, false] rfl rfl (one_of HT_.out (by kernel_rfl)) (by decide) (fun K hK => ?_)
  refine value_ (w1 := ?_) (v := ?_) (by rfl) rfl ?_ ?_
  rotate_left 2
  · go_simp
    constructor
    · rfl
    · rfl
  refine hK.out _ _ ?_; clear hK K
  refine norm_ (a' := ?_) ?_ ?_
  rotate_left
  · show Act.put _ (some 11) _ = _
    simp only [Act.put, List.setIfInBounds_toArray, List.set_cons_zero, List.set_cons_succ, bT, bU]
    rfl
  refine dM (i := 6) (N := (some 3)) (v := ?_) (a' := ?_) #[true, true, true, true, true, true, true] rfl rfl (dE HT_.out (by kernel_rfl)) (fun _ _ _ h => h) (Or.inl ⟨by rfl, ?_⟩) ?_ ?_
  rotate_left
  · intro w'
    go_simp
    with_reducible rfl
  rotate_left
  · simp only [Act.put, List.setIfInBounds_toArray, List.set_cons_zero, List.set_cons_succ, bT, bU]
    rfl
  refine done_ (done_of HT_.out (by kernel_rfl)) ?_
  go_wp2
  have HR0 : ((((w.alloc (.cells #[.int .i64 kk, .int .i64 N, .slice A2 S.length c2, .slice A3 F.length c3, .slice A4 E.length c4] 25)).alloc (.cells (madeCells #[.slice none 0 0] N.toNat) 23)).alloc (.cells #[.int .i64 kk, .int .i64 N, .slice A2 S.length c2, .slice A3 F.length c3, .slice A4 E.length c4, .slice (some ⟨w.heap.size + 1, 0, none⟩) N.toNat N.toNat] 134)).drew).heap[w.heap.size + 1 + 1]? = some (.cells #[.int .i64 kk, .int .i64 N, .slice A2 S.length c2, .slice A3 F.length c3, .slice A4 E.length c4, .slice (some ⟨w.heap.size + 1, 0, none⟩) N.toNat N.toNat] 134 (0, 0)) := by
    refine af ?_
    have h := dH ((w.alloc (.cells #[.int .i64 kk, .int .i64 N, .slice A2 S.length c2, .slice A3 F.length c3, .slice A4 E.length c4] 25)).alloc (.cells (madeCells #[.slice none 0 0] N.toNat) 23)) (.cells #[.int .i64 kk, .int .i64 N, .slice A2 S.length c2, .slice A3 F.length c3, .slice A4 E.length c4, .slice (some ⟨w.heap.size + 1, 0, none⟩) N.toNat N.toNat] 134)
    simpa using h
  have HQ0 : RowsAt ((((w.alloc (.cells #[.int .i64 kk, .int .i64 N, .slice A2 S.length c2, .slice A3 F.length c3, .slice A4 E.length c4] 25)).alloc (.cells (madeCells #[.slice none 0 0] N.toNat) 23)).alloc (.cells #[.int .i64 kk, .int .i64 N, .slice A2 S.length c2, .slice A3 F.length c3, .slice A4 E.length c4, .slice (some ⟨w.heap.size + 1, 0, none⟩) N.toNat N.toNat] 134)).drew) w.heap.size (w.heap.size + 1) (List.replicate N.toNat (.slice none 0 0)) (List.replicate N.toNat []) := by
    have h := RowsAt.made (w.alloc (.cells #[.int .i64 kk, .int .i64 N, .slice A2 S.length c2, .slice A3 F.length c3, .slice A4 E.length c4] 25)) w.heap.size N.toNat (by simp)
    have hs : (w.alloc (.cells #[.int .i64 kk, .int .i64 N, .slice A2 S.length c2, .slice A3 F.length c3, .slice A4 E.length c4] 25)).heap.size = w.heap.size + 1 := by simp
    rw [hs] at h
    exact h.below (aI (aH (Below.refl _ _) _))
  have HB0 : Below w.heap.size w ((((w.alloc (.cells #[.int .i64 kk, .int .i64 N, .slice A2 S.length c2, .slice A3 F.length c3, .slice A4 E.length c4] 25)).alloc (.cells (madeCells #[.slice none 0 0] N.toNat) 23)).alloc (.cells #[.int .i64 kk, .int .i64 N, .slice A2 S.length c2, .slice A3 F.length c3, .slice A4 E.length c4, .slice (some ⟨w.heap.size + 1, 0, none⟩) N.toNat N.toNat] 134)).drew) := aI (aH (aH (aH (Below.refl _ _) _) _) _)
  clear hHeld hmk
  go_loopw [15] (fun v15 wr => ∃ (i : Nat) (vs : List Value), v15 = .int .i64 (i : Int) ∧ aC (i ≤ E.length) ∧ aC (Below w.heap.size w wr) ∧ aC (wr.heap[w.heap.size + 1 + 1]? = some (.cells #[.int .i64 kk, .int .i64 N, .slice A2 S.length c2, .slice A3 F.length c3, .slice A4 E.length c4, .slice (some ⟨w.heap.size + 1, 0, none⟩) N.toNat N.toNat] 134 (0, 0))) ∧ aC (RowsAt wr w.heap.size (w.heap.size + 1) vs (rowsOf N.toNat (E.take i)))) (fun v15 _ => E.length - (intOf v15).toNat)
  case atStart => exact ⟨0, _, rfl, ⟨by omega⟩, ⟨HB0⟩, ⟨HR0⟩, ⟨HQ0⟩⟩
  case round =>
    clear HR0 HQ0 HB0
    obtain ⟨i, vs, rfl, HI, HB, HR, HQ⟩ := hrel
    have hEb : E.length ≤ 65536 := HL.out
    by_cases hlt : i < E.length
    · obtain ⟨ad, ead, hx0, hx1, hx2⟩ := at_T80 (Kd.ak HE.out HB.out) (i : Int) (by omega) (by omega)
      cases ead
      rw [Int.toNat_natCast] at hx0 hx1 hx2
      have hmem := HEE.out (ig E i) (by simp [ig, List.getD_eq_getElem?_getD, List.getElem?_eq_getElem hlt])
      have hrow : rowsOf N.toNat (E.take (i + 1)) = addRow (rowsOf N.toNat (E.take i)) (ig E i) := by
        rw [List.take_succ_eq_append_getElem hlt, rowsOf, List.foldl_append]
        simp [rowsOf, ig, List.getD_eq_getElem?_getD, List.getElem?_eq_getElem hlt]
      have hle : ((rowsOf N.toNat (E.take i)).getD (ig E i).f0.toNat []).length ≤ 65536 := by
        have h1 := rows_short N.toNat (E.take i) (ig E i).f0.toNat
        have := HL.out
        rw [List.length_take] at h1
        omega
      generalize ig E i = x at hrow hx0 hx1 hx2 hmem hle
      obtain ⟨xa, xb, xc⟩ := x
      simp only [] at hrow hx0 hx1 hx2 hmem hle
      obtain ⟨hm0, hm1⟩ := hmem
      have HROW := aC.mk hrow
      have HLE := aC.mk hle
      have HLT := aC.mk hlt
      obtain ⟨v, hv⟩ : ∃ v, vs[xa.toNat]? = some v := ⟨_, List.getElem?_eq_getElem (by rw [HQ.out.2.1, rows_length]; omega)⟩
      have hl : (rowsOf N.toNat (E.take i))[xa.toNat]? = some ((rowsOf N.toNat (E.take i)).getD xa.toNat []) := by
        rw [List.getD_eq_getElem?_getD, List.getElem?_eq_getElem (by rw [rows_length]; omega)]
        rfl
      have HV := aC.mk hv
      have HLL := aC.mk hl
      clear hrow hle hv hl
      go_wp2
      have hvlt := Kd.jD (HQ.out.2.2.2.1 xa.toNat v _ HV.out HLL.out)
      have HR1 := aW HR.out (.cells #[.int .i64 xa, .int .i64 xb, .int .i64 xc] 80)
      have HX := dH wr (.cells #[.int .i64 xa, .int .i64 xb, .int .i64 xc] 80)
      have HQ1 := HQ.out.below (aH (Below.refl _ _) (.cells #[.int .i64 xa, .int .i64 xb, .int .i64 xc] 80))
      have HB1 := aH HB.out (.cells #[.int .i64 xa, .int .i64 xb, .int .i64 xc] 80)
      generalize hfr : rowsOf N.toNat (E.take i) = fr at HROW HLE HLL HQ1
      generalize hll : fr.getD xa.toNat [] = l at HLE HLL
      have hRv := Kd.dB (HQ1.2.2.2.1 xa.toNat v l HV.out HLL.out) (ok' := fun _ => True) (fun _ _ => trivial)
      clear HR HQ HB
      generalize wr.alloc (.cells #[.int .i64 xa, .int .i64 xb, .int .i64 xc] 80) = wa at HR1 HX HQ1 HB1 hRv ⊢
      have hmx : max N 0 = N := by omega
      refine start_ (n := 19) (S := fun w' => w'.cell? ⟨w.heap.size + 1 + 1, 5, none⟩ = some (.slice (some ⟨w.heap.size + 1, 0, none⟩) N.toNat N.toNat) ∧ w'.cell? ⟨wr.heap.size, 0, none⟩ = some (.int .i64 xa) ∧ w'.cell? ⟨wr.heap.size, 1, none⟩ = some (.int .i64 xb) ∧ w'.cell? ⟨wr.heap.size, 2, none⟩ = some (.int .i64 xc) ∧ w'.cell? ⟨w.heap.size + 1, xa.toNat, none⟩ = some v) (ds := [18]) #[false, false, false, false, false, false, false, false, false, false, false, false, false, false, false, false, false, false, false] (by kernel_rfl) rfl rfl ⟨(aD (af HR1) 5).trans rfl, (aD (af HX) 0).trans rfl, (aD (af HX) 1).trans rfl, (aD (af HX) 2).trans rfl, (aD (af HQ1.1) _).trans (by simpa using HV.out)⟩ (fun hHeld => ?_)
      refine with_tabW NR5.tab5 NR5.bits5 (fun HT_ HW_ => ?_)
      refine dM (i := 0) (N := (some 19)) (v := ?_) (a' := ?_) #[true, false, false, false, false, false, false, false, false, false, false, false, false, false, false, false, false, false, false] rfl rfl (dE HT_.out (by kernel_rfl)) (fun _ _ _ h => h) (Or.inl ⟨by rfl, ?_⟩) ?_ ?_
      rotate_left
      · intro w'
        go_simp
        with_reducible rfl
      rotate_left
      · simp only [Act.put, List.setIfInBounds_toArray, List.set_cons_zero, List.set_cons_succ, bT, bU]
        rfl
      refine dM (i := 1) (N := (some 20)) (v := ?_) (a' := ?_) #[true, true, false, false, false, false, false, false, false, false, false, false, false, false, false, false, false, false, false] rfl rfl (dE HT_.out (by kernel_rfl)) (fun _ _ _ h => h) (Or.inl ⟨by rfl, ?_⟩) ?_ ?_
      rotate_left
      · intro w'
        go_simp
        with_reducible rfl
      rotate_left
      · simp only [Act.put, List.setIfInBounds_toArray, List.set_cons_zero, List.set_cons_succ, bT, bU]
        rfl
      refine dM (i := 2) (N := (some 21)) (v := ?_) (a' := ?_) #[true, true, true, false, false, false, false, false, false, false, false, false, false, false, false, false, false, false, false] rfl rfl (dE HT_.out (by kernel_rfl)) (fun _ _ _ h => h) (Or.inl ⟨by rfl, ?_⟩) ?_ ?_
      rotate_left
      · intro w'
        go_simp
        with_reducible rfl
      rotate_left
      · simp only [Act.put, List.setIfInBounds_toArray, List.set_cons_zero, List.set_cons_succ, bT, bU]
        rfl
      refine dM (i := 4) (N := (some 23)) (v := ?_) (a' := ?_) #[true, true, true, false, true, false, false, false, false, false, false, false, false, false, false, false, false, false, false] rfl rfl (dE HT_.out (by kernel_rfl)) (fun _ _ _ h => h) (Or.inl ⟨by rfl, ?_⟩) ?_ ?_
      rotate_left
      · intro w'
        go_simp
        with_reducible rfl
      rotate_left
      · simp only [Act.put, List.setIfInBounds_toArray, List.set_cons_zero, List.set_cons_succ, bT, bU]
        rfl
      refine dM (i := 6) (N := (some 25)) (v := ?_) (a' := ?_) #[true, true, true, false, true, false, true, false, false, false, false, false, false, false, false, false, false, false, false] rfl rfl (dE HT_.out (by kernel_rfl)) (fun _ _ _ h => h) (Or.inl ⟨by rfl, ?_⟩) ?_ ?_
      rotate_left
      · intro w'
        go_simp
        with_reducible rfl
      rotate_left
      · simp only [Act.put, List.setIfInBounds_toArray, List.set_cons_zero, List.set_cons_succ, bT, bU]
        rfl
      refine dM (i := 7) (N := (some 26)) (v := ?_) (a' := ?_) #[true, true, true, false, true, false, true, true, false, false, false, false, false, false, false, false, false, false, false] rfl rfl (dE HT_.out (by kernel_rfl)) (fun _ _ _ h => h) (Or.inl ⟨by rfl, ?_⟩) ?_ ?_
      rotate_left
      · intro w'
        go_simp
        with_reducible rfl
      rotate_left
      · simp only [Act.put, List.setIfInBounds_toArray, List.set_cons_zero, List.set_cons_succ, bT, bU]
        rfl
      refine dM (i := 8) (N := (some 27)) (v := ?_) (a' := ?_) #[true, true, true, false, true, false, true, true, true, false, false, false, false, false, false, false, false, false, false] rfl rfl (dE HT_.out (by kernel_rfl)) (fun _ _ _ h => h) (Or.inl ⟨by rfl, ?_⟩) ?_ ?_
      rotate_left
      · intro w'
        go_simp
        with_reducible rfl
      rotate_left
      · simp only [Act.put, List.setIfInBounds_toArray, List.set_cons_zero, List.set_cons_succ, bT, bU]
        rfl
      refine dM (i := 10) (N := (some 29)) (v := ?_) (a' := ?_) #[true, true, true, false, true, false, true, true, true, false, true, false, false, false, false, false, false, false, false] rfl rfl (dE HT_.out (by kernel_rfl)) (fun _ _ _ h => h) (Or.inl ⟨by rfl, ?_⟩) ?_ ?_
      rotate_left
      · intro w'
        go_simp
        with_reducible rfl
      rotate_left
      · simp only [Act.put, List.setIfInBounds_toArray, List.set_cons_zero, List.set_cons_succ, bT, bU]
        rfl
      refine jB (i := 3) (N := (some 22)) (v := ?_) (a' := ?_) #[true, true, true, true, true, false, true, true, true, false, true, false, false, false, false, false, false, false, false] rfl rfl (ek HT_.out HW_.out (by kernel_rfl)) (fun _ _ _ h => h) (Or.inl ⟨by rfl, ?_⟩) hHeld ?_ ?_
      rotate_left
      · rintro w' ⟨s0, s1, s2, s3, s4⟩
        go_simp
        with_reducible rfl
      rotate_left
      · simp only [Act.put, List.setIfInBounds_toArray, List.set_cons_zero, List.set_cons_succ, bT, bU]
        rfl
      refine jB (i := 5) (N := (some 24)) (v := ?_) (a' := ?_) #[true, true, true, true, true, true, true, true, true, false, true, false, false, false, false, false, false, false, false] rfl rfl (ek HT_.out HW_.out (by kernel_rfl)) (fun _ _ _ h => h) (Or.inl ⟨by rfl, ?_⟩) hHeld ?_ ?_
      rotate_left
      · rintro w' ⟨s0, s1, s2, s3, s4⟩
        go_simp
        with_reducible rfl
      rotate_left
      · simp only [Act.put, List.setIfInBounds_toArray, List.set_cons_zero, List.set_cons_succ, bT, bU]
        rfl
      refine jB (i := 9) (N := (some 28)) (v := ?_) (a' := ?_) #[true, true, true, true, true, true, true, true, true, true, true, false, false, false, false, false, false, false, false] rfl rfl (ek HT_.out HW_.out (by kernel_rfl)) (fun _ _ _ h => h) (Or.inl ⟨by rfl, ?_⟩) hHeld ?_ ?_
      rotate_left
      · rintro w' ⟨s0, s1, s2, s3, s4⟩
        go_simp
        with_reducible rfl
      rotate_left
      · simp only [Act.put, List.setIfInBounds_toArray, List.set_cons_zero, List.set_cons_succ, bT, bU]
        rfl
      refine jB (i := 11) (N := (some 30)) (v := ?_) (a' := ?_) #[true, true, true, true, true, true, true, true, true, true, true, true, false, false, false, false, false, false, false] rfl rfl (ek HT_.out HW_.out (by kernel_rfl)) (fun _ _ _ h => h) (Or.inl ⟨by rfl, ?_⟩) hHeld ?_ ?_
      rotate_left
      · rintro w' ⟨s0, s1, s2, s3, s4⟩
        go_simp
        with_reducible rfl
      rotate_left
      · simp only [Act.put, List.setIfInBounds_toArray, List.set_cons_zero, List.set_cons_succ, bT, bU]
        rfl
      refine dM (i := 12) (N := (some 31)) (v := ?_) (a' := ?_) #[true, true, true, true, true, true, true, true, true, true, true, true, true, false, false, false, false, false, false] rfl rfl (dE HT_.out (by kernel_rfl)) (fun _ _ _ h => h) (Or.inl ⟨by rfl, ?_⟩) ?_ ?_
      rotate_left
      · intro w'
        go_simp
        with_reducible rfl
      rotate_left
      · simp only [Act.put, List.setIfInBounds_toArray, List.set_cons_zero, List.set_cons_succ, bT, bU]
        rfl
      refine jB (i := 13) (N := (some 32)) (v := ?_) (a' := ?_) #[true, true, true, true, true, true, true, true, true, true, true, true, true, true, false, false, false, false, false] rfl rfl (ek HT_.out HW_.out (by kernel_rfl)) (fun _ _ _ h => h) (Or.inl ⟨by rfl, ?_⟩) hHeld ?_ ?_
      rotate_left
      · rintro w' ⟨s0, s1, s2, s3, s4⟩
        go_simp
        with_reducible rfl
      rotate_left
      · simp only [Act.put, List.setIfInBounds_toArray, List.set_cons_zero, List.set_cons_succ, bT, bU]
        rfl
      refine jB (i := 14) (N := (some 33)) (v := ?_) (a' := ?_) #[true, true, true, true, true, true, true, true, true, true, true, true, true, true, true, false, false, false, false] rfl rfl (ek HT_.out HW_.out (by kernel_rfl)) (fun _ _ _ h => h) (Or.inl ⟨by rfl, ?_⟩) hHeld ?_ ?_
      rotate_left
      · rintro w' ⟨s0, s1, s2, s3, s4⟩
        go_simp
        with_reducible rfl
      rotate_left
      · simp only [Act.put, List.setIfInBounds_toArray, List.set_cons_zero, List.set_cons_succ, bT, bU]
        rfl
      refine one_ (i := 15) (N := (some 34)) #[true, true, true, true, true, true, true, true, true, true, true, true, true, true, true, true, false, false, false] rfl rfl (one_of HT_.out (by kernel_rfl)) (by decide) (fun K hK => ?_)
      refine value_ (w1 := ?_) (v := ?_) (by rfl) rfl ?_ ?_
      rotate_left 2
      · go_simp
        constructor
        · rfl
        · rfl
      refine hK.out _ _ ⟨(aD (aW (af HR1) _) 5).trans rfl, (aD (aW (af HX) _) 0).trans rfl, (aD (aW (af HX) _) 1).trans rfl, (aD (aW (af HX) _) 2).trans rfl, (aD (aW (af HQ1.1) _) _).trans (by simpa using HV.out)⟩ (fun hHeld => ?_); clear hK K
      refine norm_ (a' := ?_) ?_ ?_
      rotate_left
      · show Act.put _ (some 34) _ = _
        simp only [Act.put, List.setIfInBounds_toArray, List.set_cons_zero, List.set_cons_succ, bT, bU]
        rfl
      refine one_ (i := 16) (N := (some 35)) #[true, true, true, true, true, true, true, true, true, true, true, true, true, true, true, true, true, false, false] rfl rfl (one_of HT_.out (by kernel_rfl)) (by decide) (fun K hK => ?_)
      refine Kd.R_append_step k80 (w0 := w) w.heap.size (by rfl) (.tmp 32) (.tmp 34) 23 80 (.agg #[(.int .i64 0), (.int .i64 0), (.int .i64 0)]) 24 rfl Try.underlying23 info80 rfl (by decide) (by omega) v l ⟨xa, xb, xc⟩ [.int .i64 xa, .int .i64 xb, .int .i64 xc] (fun _ => True) (fun _ => False) rfl rfl (k80_mkM _ _ _ ⟨xa, xb, xc⟩) (fun _ hk => hk.elim) (fun _ _ => trivial) (Kd.bJ hRv) (aI HB1) (aZ (aI HB1)) (by have := HLE.out; omega) ?_
      intro v1 w1 ho hb hg hat
      obtain ⟨A9, c9, rfl⟩ := Kd.bu ho
      have hG1 := cZ (af HQ1.1) hg (Kd.jL hRv HQ1.1 (by decide))
      have hfz := aA hG1 xa.toNat
      have hcl : w1.cell? ⟨w.heap.size + 1, xa.toNat, none⟩ = some v := (aD hG1 xa.toNat).trans (by simpa using HV.out)
      have hnx : some wr.heap.size ≠ v.ownBlock := fun he => by have := hvlt wr.heap.size he.symm; omega
      refine hK.out _ _ ⟨(aD (cZ (af HR1) hg (Kd.jL hRv HR1 (by decide))) 5).trans rfl, (aD (cZ (af HX) hg hnx) 0).trans rfl, (aD (cZ (af HX) hg hnx) 1).trans rfl, (aD (cZ (af HX) hg hnx) 2).trans rfl, (aD (cZ (af HQ1.1) hg (Kd.jL hRv HQ1.1 (by decide))) _).trans (by simpa using HV.out)⟩ (fun hHeld => ?_); clear hK K
      refine norm_ (a' := ?_) ?_ ?_
      rotate_left
      · show Act.put _ (some 35) _ = _
        simp only [Act.put, List.setIfInBounds_toArray, List.set_cons_zero, List.set_cons_succ, bT, bU]
        rfl
      refine dM (i := 17) (N := (some 36)) (v := ?_) (a' := ?_) #[true, true, true, true, true, true, true, true, true, true, true, true, true, true, true, true, true, true, false] rfl rfl (dE HT_.out (by kernel_rfl)) (fun _ _ _ h => h) (Or.inl ⟨by rfl, ?_⟩) ?_ ?_
      rotate_left
      · intro w'
        go_simp
        with_reducible rfl
      rotate_left
      · simp only [Act.put, List.setIfInBounds_toArray, List.set_cons_zero, List.set_cons_succ, bT, bU]
        rfl
      refine last_ (i := 18) (N := none) #[true, true, true, true, true, true, true, true, true, true, true, true, true, true, true, true, true, true, true] rfl rfl (one_of HT_.out (by kernel_rfl)) (by decide) (fun K hK => ?_)
      refine skip_ (w1 := ?_) (by rfl) rfl ?_ ?_
      rotate_left
      · go_simp
        rfl
      refine hK.out _ _ ?_; clear hK K
      refine done_ (done_of HT_.out (by kernel_rfl)) ?_
      go_wp2
      go_roundw
      case rel =>
        have HQ2 := RowsAt.put (HQ1.below (aI (Below.refl _ _))) xa.toNat v _ l _ HV.out HLL.out ho hg hat
        refine ⟨i + 1, vs.set xa.toNat (.slice A9 (l ++ [(⟨xa, xb, xc⟩ : S80)]).length c9), by go_num, ⟨by have := HLT.out; omega⟩, ⟨?_⟩, ⟨?_⟩, ⟨?_⟩⟩
        rotate_left 2
        · rw [HROW.out]
          unfold addRow
          rw [hll]
          simpa using HQ2
        · exact aJ hb (by show w.heap.size ≤ w.heap.size + 1; omega)
        · exact blk_far (cZ (af HR1) hg (Kd.jL hRv HR1 (by decide))) (by show w.heap.size + 1 + 1 ≠ w.heap.size + 1; omega) _
      case measure => have := HLT.out; simp [intOf]; omega
    · have hlt' : ¬ ((i : Int) < (E.length : Int)) := by omega
      go_wp2
      go_ret
      have hi := HI.out
      have he : i = E.length := by omega
      subst he
      have HQ := HQ.out
      rw [List.take_length] at HQ
      exact ⟨_, rfl, ⟨_, vs, HR.out, by omega, HQ⟩, HB.out⟩
end Go.Proofs.Ytkaefgmgcghhiaa.X
end
