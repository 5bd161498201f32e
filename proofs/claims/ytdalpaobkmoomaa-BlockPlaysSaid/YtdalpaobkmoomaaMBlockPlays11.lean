/- Texts of the statement BlockPlays, one behind the other: Go functions as Lean functions, the machine's calls, the plain law. -/
import Derived.Test.YtdalpaobkmoomaaMBlockPlays4
import Derived.Test.YtdalpaobkmoomaaMBlockPlays7
import Derived.Test.YtdalpaobkmoomaaMBlockPlays10
set_option linter.unusedVariables false
set_option linter.unusedSimpArgs false
section
namespace Go.Proofs.Ytdalpaobkmoomaa.X
open Go.RowKit Go.Proofs.YtdalpaobkmoomaaW.PrintWords Go.Proofs.YtdalpaobkmoomaaW.PrintLast Go.Proofs.YtdalpaobkmoomaaW.PrintMore
open Go.Proofs.Ytdalpaobkmoomaa Go.Proofs.Ytdalpaobkmoomaa.Sp
def mb5.T5 : Bool × List (List Nat × List Nat) := (true, [([], []), ([0], [0]), ([1], [1]), ([2], [2]), ([], []), ([4], [4]), ([5], [5]), ([6], [6]), ([], []), ([7, 8], [7, 8]), ([9], [9]), ([10], [10]), ([], []), ([12], [12]), ([13], [13]), ([14], [14]), ([], []), ([15, 16], [15, 16]), ([17], [17]), ([18], [18]), ([3, 11, 19], [3, 11, 19]), ([20], [20]), ([21, 21, 0, 1, 2, 3, 4, 5, 6, 7, 8, 9, 10, 11, 12, 13, 14, 15, 16, 17, 18, 19, 20, 21], [21])])
def mb5.B5 : List Nat := [0, 1, 3, 7, 0, 16, 48, 112, 0, 496, 1008, 2032, 0, 4096, 12288, 28672, 0, 126976, 258048, 520192, 1048575, 2097151, 4194303]
theorem mb5.tab5 : rtab .any (opsOf Try.f14 5) = mb5.T5 := by kernel_rfl
theorem mb5.bits5 : waitsOk mb5.T5.2 mb5.B5 = true := by kernel_rfl
attribute [local go_sem] max2_int min2_int max_two min_two max_three min_three max_four min_four
set_option maxHeartbeats 8000000 in
set_option maxRecDepth 100000 in
theorem Count_walk (base : Nat) (own : Nat → Prop) (g n N : Nat) (C : Nat → Nat) (w : World) (h : (part base own g n N C).at_ w) : Calls Try.prog 17 #[.pointer (some ⟨g, 0, none⟩)] w fun e w' => e = .returned (.int .i64 (N : Int)) ∧ Below w.heap.size w w' := by
  obtain ⟨R, P, A, B, gr, cr, gp, cp, gc, gs, cs, hi, hs, _⟩ := h
  have hu64 := Try.underlying64
  have hx : w.cell? ⟨g, 3, none⟩ = some (.slice (some ⟨gs, 0, none⟩) N cs) := (blk_cell (hs.get 0 rfl) 3).trans rfl
  clear hs hi
  go_enter Try.func17, Try.ntmps17
  go_wp2
  go_ret
  exact ⟨rfl, Below.refl _ _⟩
set_option maxHeartbeats 8000000 in
set_option maxRecDepth 100000 in
theorem All_walk (base : Nat) (own : Nat → Prop) (g n N : Nat) (C : Nat → Nat) (w : World) (h : (part base own g n N C).at_ w) (hn : n ≤ 65536) : Calls Try.prog 13 #[.pointer (some ⟨g, 0, none⟩)] w (RowPost w (lst n C)) := by
  obtain ⟨R, P, A, B, gr, cr, gp, cp, gc, gs, cs, hi, hs, _⟩ := h
  have hu64 := Try.underlying64
  have hx : w.cell? ⟨g, 2, none⟩ = some (.slice (some ⟨gc, 0, none⟩) n n) := (blk_cell (hs.get 0 rfl) 2).trans rfl
  have hcl := Clone_calls (some ⟨gc, 0, none⟩) n (lst n C) w (nums_C (hs.get 3 rfl) (by rw [lst_len]; omega)) (by rw [lst_len]; omega) (by rw [lst_len]; omega)
  rw [lst_len] at hcl
  have hcl' : Calls Try.prog 31 #[.slice (some ⟨gc, 0, none⟩) n n] w fun e w' => ∃ v, e = .returned v ∧ Kd.R (Kd.int .i64) 3 w' w.heap.size (fun _ => True) v (lst n C) ∧ Below w.heap.size w w' := hcl
  clear hs hi hcl
  go_enter Try.func13, Try.ntmps13
  go_wp2_with (go_at_call 31; with_reducible refine hcl'.mono ?_; rintro e w1 ⟨v, rfl, hR, hb⟩)
  go_ret
  exact ⟨v, rfl, hR, hb⟩
set_option maxHeartbeats 8000000 in
set_option maxRecDepth 100000 in
theorem Class_walk (base : Nat) (own : Nat → Prop) (g n N : Nat) (C : Nat → Nat) (w : World) (h : (part base own g n N C).at_ w) (i : Nat) (hin : i < n) (hn : n ≤ 65536) : Calls Try.prog 22 #[.pointer (some ⟨g, 0, none⟩), .int .i64 (i : Int)] w fun e w' => e = .returned (.tuple #[.int .i64 (C i : Int), .int .i64 0]) ∧ Below w.heap.size w w' := by
  obtain ⟨R, P, A, B, gr, cr, gp, cp, gc, gs, cs, hi, hs, _⟩ := h
  have hu64 := Try.underlying64
  have hx : w.cell? ⟨g, 2, none⟩ = some (.slice (some ⟨gc, 0, none⟩) n n) := (blk_cell (hs.get 0 rfl) 2).trans rfl
  have hc := lst_cell (hs.get 3 rfl) hin
  have h1 : ¬ (i : Int) < 0 := by omega
  have h2 : (i : Int) < (n : Int) := by omega
  have h3 : ¬ (i : Int) ≥ (n : Int) := by omega
  clear hs hi
  go_enter Try.func22, Try.ntmps22
  go_wp2
  try rw [Exit.noGoto_ret]
  go_ret2
  exact ⟨rfl, Below.refl _ _⟩
set_option maxHeartbeats 8000000 in
set_option maxRecDepth 100000 in
theorem Class_bad (base : Nat) (own : Nat → Prop) (g n N : Nat) (C : Nat → Nat) (w : World) (h : (part base own g n N C).at_ w) (i : Int) (hin : i < 0 ∨ i ≥ (n : Int)) (hn : n ≤ 65536) : Calls Try.prog 22 #[.pointer (some ⟨g, 0, none⟩), .int .i64 i] w fun e w' => e = .returned (.tuple #[.int .i64 0, .int .i64 1]) ∧ Below w.heap.size w w' := by
  obtain ⟨R, P, A, B, gr, cr, gp, cp, gc, gs, cs, hi, hs, _⟩ := h
  have hu64 := Try.underlying64
  have hx : w.cell? ⟨g, 2, none⟩ = some (.slice (some ⟨gc, 0, none⟩) n n) := (blk_cell (hs.get 0 rfl) 2).trans rfl
  clear hs hi
  by_cases h1 : i < 0
  · go_enter Try.func22, Try.ntmps22
    go_wp2
    try rw [Exit.noGoto_ret]
    go_ret2
    exact ⟨rfl, Below.refl _ _⟩
  · have h2 : i ≥ (n : Int) := by omega
    go_enter Try.func22, Try.ntmps22
    go_wp2
    try rw [Exit.noGoto_ret]
    go_ret2
    exact ⟨rfl, Below.refl _ _⟩
set_option maxHeartbeats 8000000 in
set_option maxRecDepth 100000 in
theorem Members_bad (base : Nat) (own : Nat → Prop) (g n N : Nat) (C : Nat → Nat) (w : World) (h : (part base own g n N C).at_ w) (i : Int) (hin : i < 0 ∨ i ≥ (N : Int)) : Calls Try.prog 14 #[.pointer (some ⟨g, 0, none⟩), .int .i64 i] w fun e w' => e = .returned (.tuple #[.slice none 0 0, .int .i64 1]) ∧ Below w.heap.size w w' := by
  obtain ⟨R, P, A, B, gr, cr, gp, cp, gc, gs, cs, hi, hs, _⟩ := h
  have hu64 := Try.underlying64
  have hx : w.cell? ⟨g, 3, none⟩ = some (.slice (some ⟨gs, 0, none⟩) N cs) := (blk_cell (hs.get 0 rfl) 3).trans rfl
  clear hs hi
  by_cases h1 : i < 0
  · go_enter Try.func14, Try.ntmps14
    go_wp2
    try rw [Exit.noGoto_ret]
    go_ret2
    exact ⟨rfl, Below.refl _ _⟩
  · have h2 : i ≥ (N : Int) := by omega
    go_enter Try.func14, Try.ntmps14
    go_wp2
    try rw [Exit.noGoto_ret]
    go_ret2
    exact ⟨rfl, Below.refl _ _⟩
/-- The members of a class, in their order. -/
def members (n : Nat) (C : Nat → Nat) (c : Nat) : List Nat := (List.range n).filter fun i => C i == c
theorem members_sort {n N : Nat} {C R P A B : Nat → Nat} (h : Inv n N C R P A B) {c : Nat} (hc : c < N) : (((lst n R).take (B c)).drop (A c)).mergeSort (fun x y => decide (x ≤ y)) = tl (members n C c) := by
  have hsp := h.sp c hc
  have e : ((lst n R).take (B c)).drop (A c) = tl ((List.range' (A c) (B c - A c)).map R) := by
    apply List.ext_getElem?
    intro j
    rw [List.getElem?_drop, List.getElem?_take]
    simp only [tl, lst, List.getElem?_map]
    by_cases hj : j < B c - A c
    · rw [if_pos (by omega), List.getElem?_range (by omega)]
      simp [List.getElem?_range', hj]
    · rw [if_neg (by omega)]
      simp [List.getElem?_range', hj]
  obtain ⟨T', h1, h2, h3⟩ := sort_nat ((List.range' (A c) (B c - A c)).map R)
  rw [e, ← h1]
  congr 1
  refine same_sorted ?_ ((List.pairwise_lt_range).filter _) (fun x => ?_)
  · have hnd : ((List.range' (A c) (B c - A c)).map R).Nodup := by
      rw [List.nodup_iff_pairwise_ne, List.pairwise_map]
      refine (List.pairwise_lt_range').imp_of_mem (fun {a b} ha hb hab e => ?_)
      rw [List.mem_range'_1] at ha hb
      have g1 := h.pi a (by omega)
      have g2 := h.pi b (by omega)
      rw [e] at g1
      omega
    have hnd' : T'.Nodup := h2.nodup_iff.2 hnd
    rw [List.nodup_iff_pairwise_ne] at hnd'
    exact (h3.and hnd').imp (fun {a b} hh => by omega)
  · rw [h2.mem_iff, List.mem_map]
    simp only [members, List.mem_filter, List.mem_range, beq_iff_eq]
    constructor
    · rintro ⟨p, hp, rfl⟩
      rw [List.mem_range'_1] at hp
      have g := h.some hc (p := p) (by omega) (by omega)
      exact ⟨g.1, g.2.2⟩
    · rintro ⟨hx, hcx⟩
      have g1 := h.ip x hx
      have g2 := h.at' x hx
      rw [hcx] at g2
      exact ⟨P x, by rw [List.mem_range'_1]; omega, g1.2⟩
set_option maxHeartbeats 8000000 in
set_option maxRecDepth 100000 in
theorem Members_walk (base : Nat) (own : Nat → Prop) (g n N : Nat) (C : Nat → Nat) (w : World) (h : (part base own g n N C).at_ w) (c : Nat) (hc : c < N) (hn : n ≤ 65536) : Calls Try.prog 14 #[.pointer (some ⟨g, 0, none⟩), .int .i64 (c : Int)] w fun e w' => ∃ v, e = .returned (.tuple #[v, .int .i64 0]) ∧ Kd.R (Kd.int .i64) 3 w' w.heap.size (fun _ => True) v (tl (members n C c)) ∧ Below w.heap.size w w' := by
  obtain ⟨R, P, A, B, gr, cr, gp, cp, gc, gs, cs, hi, hs, _⟩ := h
  have hu64 := Try.underlying64
  have hu22 := Try.underlying22
  have hu62 := Try.underlying62
  have hu61 := Try.underlying61
  have HS := Aside0.mk hs
  have HI := Aside0.mk hi
  have hx3 : w.cell? ⟨g, 3, none⟩ = some (.slice (some ⟨gs, 0, none⟩) N cs) := (blk_cell (hs.get 0 rfl) 3).trans rfl
  have h1 : ¬ (c : Int) < 0 := by omega
  have h2 : (c : Int) < (N : Int) := by omega
  have h3 : ¬ (c : Int) ≥ (N : Int) := by omega
  have hsp := hi.sp c hc
  have hcr : n ≤ cr := (Kd.R_reads' (hs.get 1 rfl)).2.1
  have h4 : (A c : Int) ≤ (B c : Int) := by omega
  have h5 : (B c : Int) ≤ (cr : Int) := by omega
  have h6 : ¬ cr = A c := by omega
  have hxl : (((lst n R).take (B c)).drop (A c)).length = B c - A c := by rw [List.length_drop, List.length_take, lst_len]; omega
  have hcl : ∀ W, Sep base (pcs base g n N C R P A B gr cr gp cp gc gs cs) W → Calls Try.prog 31 #[.slice (some ⟨gr, A c, none⟩) (B c - A c) (cr - A c)] W fun e w' => ∃ v, e = .returned v ∧ Kd.R (Kd.int .i64) 3 w' W.heap.size (fun _ => True) v (((lst n R).take (B c)).drop (A c)) ∧ Below W.heap.size W w' := fun W hS => by
    have h1 := (Kd.R_reads' (hS.get 1 rfl)).2.2
    have h2 := Kd.C_mid (lo := A c) (hi := B c) (c := cr) h1 (by omega) (by rw [lst_len]; omega) (by rw [lst_len]; omega)
    rw [if_neg h6] at h2
    have h3 : Kd.C (Kd.int .i64) W (some ⟨gr, A c, none⟩) (((lst n R).take (B c)).drop (A c)).length (((lst n R).take (B c)).drop (A c)) := by
      have e : (Option.map (fun x : Addr => x.add (A c * (Kd.int .i64).sz)) (some ⟨gr, 0, none⟩)) = some ⟨gr, A c, none⟩ := by
        show some ((⟨gr, 0, none⟩ : Addr).add (A c * 1)) = _
        rw [Addr.add_mid, Nat.zero_add, Nat.mul_one]
      rw [e] at h2
      exact h2
    have h4 := Clone_calls (some ⟨gr, A c, none⟩) (cr - A c) (((lst n R).take (B c)).drop (A c)) W h3 (by rw [hxl]; omega) (by rw [hxl]; omega)
    rw [hxl] at h4
    exact h4
  have hms := members_sort hi hc
  have hlb : (((lst n R).take (B c)).drop (A c)).length < 4611686018427387904 := by rw [hxl]; omega
  clear hi hxl
  go_enter Try.func14, Try.ntmps14
  go_wp2
  have HE : Aside0 (Sep base (pcs base g n N C R P A B gr cr gp cp gc gs cs) w.drew) := ⟨hs.low (below_drew1 (Below.refl _ _))⟩
  have HD : Aside0 (Below w.heap.size w w.drew) := ⟨below_drew1 (Below.refl _ _)⟩
  clear hs hx3
  refine start_ (n := 23) (S := fun w' => w'.cell? ⟨g, 0, none⟩ = some (.slice (some ⟨gr, 0, none⟩) n cr) ∧ w'.cell? ⟨g, 3, none⟩ = some (.slice (some ⟨gs, 0, none⟩) N cs) ∧ w'.cell? ⟨gs, c * 2, none⟩ = some (.int .i64 (A c : Int)) ∧ w'.cell? ⟨gs, c * 2 + 1, none⟩ = some (.int .i64 (B c : Int))) (ds := [21]) #[false, false, false, false, false, false, false, false, false, false, false, false, false, false, false, false, false, false, false, false, false, false, false] (by kernel_rfl) rfl rfl ⟨(blk_cell (HE.out.get 0 rfl) 0).trans rfl, (blk_cell (HE.out.get 0 rfl) 3).trans rfl, (pair_cells (HE.out.get 4 rfl) c _ (slst_get A B hc)).1, (pair_cells (HE.out.get 4 rfl) c _ (slst_get A B hc)).2.1⟩ (fun hHeld => ?_)
  refine with_tabW mb5.tab5 mb5.bits5 (fun HT_ HW_ => ?_)
  have HE2 := HE
  clear HE
  have HWD : Aside0 (w.heap.size = w.drew.heap.size) := ⟨rfl⟩
  generalize w.drew = wd at HE2 HD HWD hHeld ⊢
  refine pure_ (i := 0) (N := (some 22)) (v := ?_) (a' := ?_) #[true, false, false, false, false, false, false, false, false, false, false, false, false, false, false, false, false, false, false, false, false, false, false] rfl rfl (any_of HT_.out (by kernel_rfl)) (fun _ _ _ h => h) (Or.inl ⟨by rfl, ?_⟩) ?_ ?_
  rotate_left
  · intro w'
    go_simp
    with_reducible rfl
  rotate_left
  · simp only [Act.put, List.setIfInBounds_toArray, List.set_cons_zero, List.set_cons_succ, i64_w, i32_w]
    rfl
  refine pure_ (i := 1) (N := (some 23)) (v := ?_) (a' := ?_) #[true, true, false, false, false, false, false, false, false, false, false, false, false, false, false, false, false, false, false, false, false, false, false] rfl rfl (any_of HT_.out (by kernel_rfl)) (fun _ _ _ h => h) (Or.inl ⟨by rfl, ?_⟩) ?_ ?_
  rotate_left
  · intro w'
    go_simp
    with_reducible rfl
  rotate_left
  · simp only [Act.put, List.setIfInBounds_toArray, List.set_cons_zero, List.set_cons_succ, i64_w, i32_w]
    rfl
  refine pure_ (i := 2) (N := (some 24)) (v := ?_) (a' := ?_) #[true, true, true, false, false, false, false, false, false, false, false, false, false, false, false, false, false, false, false, false, false, false, false] rfl rfl (any_of HT_.out (by kernel_rfl)) (fun _ _ _ h => h) (Or.inl ⟨by rfl, ?_⟩) ?_ ?_
  rotate_left
  · intro w'
    go_simp
    with_reducible rfl
  rotate_left
  · simp only [Act.put, List.setIfInBounds_toArray, List.set_cons_zero, List.set_cons_succ, i64_w, i32_w]
    rfl
  refine pure_ (i := 4) (N := (some 26)) (v := ?_) (a' := ?_) #[true, true, true, false, true, false, false, false, false, false, false, false, false, false, false, false, false, false, false, false, false, false, false] rfl rfl (any_of HT_.out (by kernel_rfl)) (fun _ _ _ h => h) (Or.inl ⟨by rfl, ?_⟩) ?_ ?_
  rotate_left
  · intro w'
    go_simp
    with_reducible rfl
  rotate_left
  · simp only [Act.put, List.setIfInBounds_toArray, List.set_cons_zero, List.set_cons_succ, i64_w, i32_w]
    rfl
  refine pure_ (i := 5) (N := (some 27)) (v := ?_) (a' := ?_) #[true, true, true, false, true, true, false, false, false, false, false, false, false, false, false, false, false, false, false, false, false, false, false] rfl rfl (any_of HT_.out (by kernel_rfl)) (fun _ _ _ h => h) (Or.inl ⟨by rfl, ?_⟩) ?_ ?_
  rotate_left
  · intro w'
    go_simp
    with_reducible rfl
  rotate_left
  · simp only [Act.put, List.setIfInBounds_toArray, List.set_cons_zero, List.set_cons_succ, i64_w, i32_w]
    rfl
  refine pure_ (i := 6) (N := (some 28)) (v := ?_) (a' := ?_) #[true, true, true, false, true, true, true, false, false, false, false, false, false, false, false, false, false, false, false, false, false, false, false] rfl rfl (any_of HT_.out (by kernel_rfl)) (fun _ _ _ h => h) (Or.inl ⟨by rfl, ?_⟩) ?_ ?_
  rotate_left
  · intro w'
    go_simp
    with_reducible rfl
  rotate_left
  · simp only [Act.put, List.setIfInBounds_toArray, List.set_cons_zero, List.set_cons_succ, i64_w, i32_w]
    rfl
  refine pure_ (i := 8) (N := (some 30)) (v := ?_) (a' := ?_) #[true, true, true, false, true, true, true, false, true, false, false, false, false, false, false, false, false, false, false, false, false, false, false] rfl rfl (any_of HT_.out (by kernel_rfl)) (fun _ _ _ h => h) (Or.inl ⟨by rfl, ?_⟩) ?_ ?_
  rotate_left
  · intro w'
    go_simp
    with_reducible rfl
  rotate_left
  · simp only [Act.put, List.setIfInBounds_toArray, List.set_cons_zero, List.set_cons_succ, i64_w, i32_w]
    rfl
  refine pure_ (i := 12) (N := (some 34)) (v := ?_) (a' := ?_) #[true, true, true, false, true, true, true, false, true, false, false, false, true, false, false, false, false, false, false, false, false, false, false] rfl rfl (any_of HT_.out (by kernel_rfl)) (fun _ _ _ h => h) (Or.inl ⟨by rfl, ?_⟩) ?_ ?_
  rotate_left
  · intro w'
    go_simp
    with_reducible rfl
  rotate_left
  · simp only [Act.put, List.setIfInBounds_toArray, List.set_cons_zero, List.set_cons_succ, i64_w, i32_w]
    rfl
  refine pure_ (i := 13) (N := (some 35)) (v := ?_) (a' := ?_) #[true, true, true, false, true, true, true, false, true, false, false, false, true, true, false, false, false, false, false, false, false, false, false] rfl rfl (any_of HT_.out (by kernel_rfl)) (fun _ _ _ h => h) (Or.inl ⟨by rfl, ?_⟩) ?_ ?_
  rotate_left
  · intro w'
    go_simp
    with_reducible rfl
  rotate_left
  · simp only [Act.put, List.setIfInBounds_toArray, List.set_cons_zero, List.set_cons_succ, i64_w, i32_w]
    rfl
  refine pure_ (i := 14) (N := (some 36)) (v := ?_) (a' := ?_) #[true, true, true, false, true, true, true, false, true, false, false, false, true, true, true, false, false, false, false, false, false, false, false] rfl rfl (any_of HT_.out (by kernel_rfl)) (fun _ _ _ h => h) (Or.inl ⟨by rfl, ?_⟩) ?_ ?_
  rotate_left
  · intro w'
    go_simp
    with_reducible rfl
  rotate_left
  · simp only [Act.put, List.setIfInBounds_toArray, List.set_cons_zero, List.set_cons_succ, i64_w, i32_w]
    rfl
  refine pure_ (i := 16) (N := (some 38)) (v := ?_) (a' := ?_) #[true, true, true, false, true, true, true, false, true, false, false, false, true, true, true, false, true, false, false, false, false, false, false] rfl rfl (any_of HT_.out (by kernel_rfl)) (fun _ _ _ h => h) (Or.inl ⟨by rfl, ?_⟩) ?_ ?_
  rotate_left
  · intro w'
    go_simp
    with_reducible rfl
  rotate_left
  · simp only [Act.put, List.setIfInBounds_toArray, List.set_cons_zero, List.set_cons_succ, i64_w, i32_w]
    rfl
  refine take_ (i := 3) (N := (some 25)) (v := ?_) (a' := ?_) #[true, true, true, true, true, true, true, false, true, false, false, false, true, true, true, false, true, false, false, false, false, false, false] rfl rfl (take_ofW HT_.out HW_.out (by kernel_rfl)) (fun _ _ _ h => h) (Or.inl ⟨by rfl, ?_⟩) hHeld ?_ ?_
  rotate_left
  · rintro w' ⟨s0, s1, s2, s3⟩
    go_simp
    with_reducible rfl
  rotate_left
  · simp only [Act.put, List.setIfInBounds_toArray, List.set_cons_zero, List.set_cons_succ, i64_w, i32_w]
    rfl
  refine take_ (i := 7) (N := (some 29)) (v := ?_) (a' := ?_) #[true, true, true, true, true, true, true, true, true, false, false, false, true, true, true, false, true, false, false, false, false, false, false] rfl rfl (take_ofW HT_.out HW_.out (by kernel_rfl)) (fun _ _ _ h => h) (Or.inl ⟨by rfl, ?_⟩) hHeld ?_ ?_
  rotate_left
  · rintro w' ⟨s0, s1, s2, s3⟩
    go_simp
    with_reducible rfl
  rotate_left
  · simp only [Act.put, List.setIfInBounds_toArray, List.set_cons_zero, List.set_cons_succ, i64_w, i32_w]
    rfl
  refine pure_ (i := 9) (N := (some 31)) (v := ?_) (a' := ?_) #[true, true, true, true, true, true, true, true, true, true, false, false, true, true, true, false, true, false, false, false, false, false, false] rfl rfl (any_of HT_.out (by kernel_rfl)) (fun _ _ _ h => h) (Or.inl ⟨by rfl, ?_⟩) ?_ ?_
  rotate_left
  · intro w'
    go_simp
    with_reducible rfl
  rotate_left
  · simp only [Act.put, List.setIfInBounds_toArray, List.set_cons_zero, List.set_cons_succ, i64_w, i32_w]
    rfl
  refine pure_ (i := 10) (N := (some 32)) (v := ?_) (a' := ?_) #[true, true, true, true, true, true, true, true, true, true, true, false, true, true, true, false, true, false, false, false, false, false, false] rfl rfl (any_of HT_.out (by kernel_rfl)) (fun _ _ _ h => h) (Or.inl ⟨by rfl, ?_⟩) ?_ ?_
  rotate_left
  · intro w'
    go_simp
    with_reducible rfl
  rotate_left
  · simp only [Act.put, List.setIfInBounds_toArray, List.set_cons_zero, List.set_cons_succ, i64_w, i32_w]
    rfl
  refine take_ (i := 11) (N := (some 33)) (v := ?_) (a' := ?_) #[true, true, true, true, true, true, true, true, true, true, true, true, true, true, true, false, true, false, false, false, false, false, false] rfl rfl (take_ofW HT_.out HW_.out (by kernel_rfl)) (fun _ _ _ h => h) (Or.inl ⟨by rfl, ?_⟩) hHeld ?_ ?_
  rotate_left
  · rintro w' ⟨s0, s1, s2, s3⟩
    go_simp
    with_reducible rfl
  rotate_left
  · simp only [Act.put, List.setIfInBounds_toArray, List.set_cons_zero, List.set_cons_succ, i64_w, i32_w]
    rfl
  refine take_ (i := 15) (N := (some 37)) (v := ?_) (a' := ?_) #[true, true, true, true, true, true, true, true, true, true, true, true, true, true, true, true, true, false, false, false, false, false, false] rfl rfl (take_ofW HT_.out HW_.out (by kernel_rfl)) (fun _ _ _ h => h) (Or.inl ⟨by rfl, ?_⟩) hHeld ?_ ?_
  rotate_left
  · rintro w' ⟨s0, s1, s2, s3⟩
    go_simp
    with_reducible rfl
  rotate_left
  · simp only [Act.put, List.setIfInBounds_toArray, List.set_cons_zero, List.set_cons_succ, i64_w, i32_w]
    rfl
  refine pure_ (i := 17) (N := (some 39)) (v := ?_) (a' := ?_) #[true, true, true, true, true, true, true, true, true, true, true, true, true, true, true, true, true, true, false, false, false, false, false] rfl rfl (any_of HT_.out (by kernel_rfl)) (fun _ _ _ h => h) (Or.inl ⟨by rfl, ?_⟩) ?_ ?_
  rotate_left
  · intro w'
    go_simp
    with_reducible rfl
  rotate_left
  · simp only [Act.put, List.setIfInBounds_toArray, List.set_cons_zero, List.set_cons_succ, i64_w, i32_w]
    rfl
  refine pure_ (i := 18) (N := (some 40)) (v := ?_) (a' := ?_) #[true, true, true, true, true, true, true, true, true, true, true, true, true, true, true, true, true, true, true, false, false, false, false] rfl rfl (any_of HT_.out (by kernel_rfl)) (fun _ _ _ h => h) (Or.inl ⟨by rfl, ?_⟩) ?_ ?_
  rotate_left
  · intro w'
    go_simp
    with_reducible rfl
  rotate_left
  · simp only [Act.put, List.setIfInBounds_toArray, List.set_cons_zero, List.set_cons_succ, i64_w, i32_w]
    rfl
  refine take_ (i := 19) (N := (some 41)) (v := ?_) (a' := ?_) #[true, true, true, true, true, true, true, true, true, true, true, true, true, true, true, true, true, true, true, true, false, false, false] rfl rfl (take_ofW HT_.out HW_.out (by kernel_rfl)) (fun _ _ _ h => h) (Or.inl ⟨by rfl, ?_⟩) hHeld ?_ ?_
  rotate_left
  · rintro w' ⟨s0, s1, s2, s3⟩
    go_simp
    with_reducible rfl
  rotate_left
  · simp only [Act.put, List.setIfInBounds_toArray, List.set_cons_zero, List.set_cons_succ, i64_w, i32_w]
    rfl
  refine pure_ (i := 20) (N := (some 42)) (v := ?_) (a' := ?_) #[true, true, true, true, true, true, true, true, true, true, true, true, true, true, true, true, true, true, true, true, true, false, false] rfl rfl (any_of HT_.out (by kernel_rfl)) (fun _ _ _ h => h) (Or.inl ⟨by rfl, ?_⟩) ?_ ?_
  rotate_left
  · intro w'
    go_simp
    with_reducible rfl
  rotate_left
  · simp only [Act.put, List.setIfInBounds_toArray, List.set_cons_zero, List.set_cons_succ, i64_w, i32_w]
    rfl
  refine last_ (i := 21) (N := (some 43)) #[true, true, true, true, true, true, true, true, true, true, true, true, true, true, true, true, true, true, true, true, true, true, false] rfl rfl (one_of HT_.out (by kernel_rfl)) (by decide) (fun K hK => ?_)
  refine goes_ Try.func31 (by kernel_rfl) rfl #[.slice (some ⟨gr, A c, none⟩) (B c - A c) (cr - A c)] (by rfl) rfl rfl (by simp [Act.eval]) ?_
  refine (hcl wd HE2.out).mono ?_
  rintro e w8 ⟨v8, rfl, hR8, hb8⟩
  refine ⟨_, rfl, ?_⟩
  have HR8 := Aside0.mk hR8
  have HB8 := Aside0.mk hb8
  clear hR8 hb8
  refine hK.out _ _ ?_; clear hK K
  refine norm_ (a' := ?_) ?_ ?_
  rotate_left
  · show Act.put _ (some 43) _ = _
    simp only [Act.put, List.setIfInBounds_toArray, List.set_cons_zero, List.set_cons_succ, i64_w, i32_w]
    rfl
  refine pure_ (i := 22) (N := (some 6)) (v := ?_) (a' := ?_) #[true, true, true, true, true, true, true, true, true, true, true, true, true, true, true, true, true, true, true, true, true, true, true] rfl rfl (any_of HT_.out (by kernel_rfl)) (fun _ _ _ h => h) (Or.inl ⟨by rfl, ?_⟩) ?_ ?_
  rotate_left
  · intro w'
    go_simp
    with_reducible rfl
  rotate_left
  · simp only [Act.put, List.setIfInBounds_toArray, List.set_cons_zero, List.set_cons_succ, i64_w, i32_w]
    rfl
  refine done_ (done_of HT_.out (by kernel_rfl)) ?_
  have HHD : Aside0 (Hold wd.heap.size (fun _ => False) wd [ints wd.heap.size v8 (((lst n R).take (B c)).drop (A c))] w8) := ⟨⟨⟨fun r hr => by
    rw [List.mem_singleton] at hr
    subst hr
    refine ⟨Kd.R_tight rfl HR8.out, fun k hk => ?_⟩
    have hk' : some k = v8.ownBlock := hk
    refine ⟨?_, Kd.R_lt HR8.out k hk'.symm⟩
    rcases Kd.R_base2 HR8.out with h3 | ⟨j, h3, h4⟩
    · rw [h3] at hk'; cases hk'
    · rw [h3] at hk'; injection hk' with h1; omega, List.pairwise_singleton _ _⟩, fun r hr k hk => .inr (by
    rw [List.mem_singleton] at hr
    subst hr
    have hk' : some k = v8.ownBlock := hk
    rcases Kd.R_base2 HR8.out with h3 | ⟨j, h3, h4⟩
    · rw [h3] at hk'; cases hk'
    · rw [h3] at hk'; injection hk' with h1; omega), fun k hk _ => HB8.out.block k hk, HB8.out, Nat.le_refl _⟩⟩
  clear hHeld hcl HE2
  go_wp2_with (go_at_call 30; refine (sort_calls HHD.out 0 rfl hlb).mono ?_; rintro e w12 ⟨rfl, hso⟩; rw [hms] at hso; have HSO := Aside0.mk hso; clear hso)
  go_ret2
  have hwd : w.heap.size = wd.heap.size := HWD.out
  refine ⟨v8, rfl, ?_, ?_⟩
  · rw [hwd]
    exact Kd.R_mono (HSO.out.get 0 rfl) (fun _ _ => trivial)
  · have h := HD.out
    have h2 := HSO.out.below
    exact below_then h (Nat.le_of_eq hwd) h2
end Go.Proofs.Ytdalpaobkmoomaa.X
end

section
namespace Go.Proofs.Ytdalpaobkmoomaa.X
open Go.RowKit Go.Proofs.YtdalpaobkmoomaaW.PrintWords Go.Proofs.YtdalpaobkmoomaaW.PrintLast Go.Proofs.YtdalpaobkmoomaaW.PrintMore
open Go.Proofs.Ytdalpaobkmoomaa Go.Proofs.Ytdalpaobkmoomaa.Sp
theorem rd_nat {xs : List Int} {i : Nat} (h : i < xs.length) : rd xs (i : Int) = xs[i] := by simp [rd, List.getD_eq_getElem?_getD, List.getElem?_eq_getElem h]
theorem same_l0 (a b : List Int) (hl : a.length = b.length) (hb : a.length ≤ 1000000000) : ∀ (d k i : Nat), i + d = a.length → d < k → tutorref01_Same.l0 k a b (i : Int) = some (decide (a.drop i = b.drop i)) := by
  intro d
  induction d with
  | zero =>
    intro k i h hk
    obtain ⟨k, rfl⟩ : ∃ m, k = m + 1 := ⟨k - 1, by omega⟩
    simp only [tutorref01_Same.l0]
    rw [if_neg (by omega), List.drop_of_length_le (by omega), List.drop_of_length_le (by omega)]
    rfl
  | succ d ih =>
    intro k i h hk
    obtain ⟨k, rfl⟩ : ∃ m, k = m + 1 := ⟨k - 1, by omega⟩
    simp only [tutorref01_Same.l0]
    have hda : a.drop i = a[i]'(by omega) :: a.drop (i + 1) := List.drop_eq_getElem_cons (by omega)
    have hdb : b.drop i = b[i]'(by omega) :: b.drop (i + 1) := List.drop_eq_getElem_cons (by omega)
    rw [if_pos (by omega), if_pos (by omega), if_pos (by omega), rd_nat (by omega), rd_nat (by omega), hda, hdb]
    by_cases he : a[i]'(by omega) = b[i]'(by omega)
    · rw [if_pos he, w64s (by omega), ih k (i + 1) (by omega) (by omega), he]
      congr 1
      exact decide_eq_decide.2 ⟨fun h => by rw [h], fun h => (List.cons.inj h).2⟩
    · rw [if_neg he]
      congr 1
      exact (decide_eq_false (fun h => he (List.cons.inj h).1)).symm
theorem same_f {a b : List Int} {k : Nat} (hb : a.length ≤ 1000000000) (hk : a.length < k) : tutorref01_Same.f k a b = some (decide (a = b)) := by
  unfold tutorref01_Same.f
  by_cases hl : a.length = b.length
  · rw [if_pos (by omega)]
    have := same_l0 a b hl hb a.length k 0 (by omega) hk
    simpa using this
  · rw [if_neg (by omega)]
    have : a ≠ b := fun h => hl (by rw [h])
    simp [this]
/-- Same of two rows, with lengths as they are told. -/
theorem same_calls (A0 : Option Addr) (n c0 : Nat) (a : List Int) (A1 : Option Addr) (m c1 : Nat) (b : List Int) (w : World) (h0 : Kd.C (Kd.int .i64) w A0 n a) (hc0 : n ≤ c0) (h1 : Kd.C (Kd.int .i64) w A1 m b) (hc1 : m ≤ c1) (hl : n ≤ 1000000000) :
    Calls Try.prog 16 #[.slice A0 n c0, .slice A1 m c1] w fun e w' => e = .returned (.bool (decide (a = b))) ∧ Drawn0 w w' := by
  have e0 := Kd.C_len h0
  have e1 := Kd.C_len h1
  subst e0
  subst e1
  exact tutorref01_Same.calls (a.length + 1) A0 c0 a A1 c1 b _ w h0 hc0 h1 hc1 (same_f hl (by omega))
/-- The reading of a row of the call's own. -/
theorem row_C {w : World} {base : Nat} {ok : Nat → Prop} {A : Option Addr} {n c : Nat} {xs : List Int} (h : Kd.R (Kd.int .i64) 3 w base ok (.slice A n c) xs) : Kd.C (Kd.int .i64) w A n xs ∧ n ≤ c := by
  obtain ⟨h1, h2, h3⟩ := Kd.R_reads' h
  exact ⟨h1 ▸ h3, h2⟩
theorem lit_C {w : World} {g n : Nat} {xs : List Int} {cs : Array Value} (h : w.heap[g]? = some (.cells cs 3 (0, 0))) (e : cs = numsA xs) (hn : n = xs.length) (hm : n ≤ 1000000000) : Kd.C (Kd.int .i64) w (some ⟨g, 0, none⟩) n xs := by
  subst e
  subst hn
  exact nums_C h (by omega)
/-- A piece that a call turned, and a row that it answered. -/
theorem Sep.turn {base : Nat} {own : Nat → Prop} {rs : List Res} {w w1 : World} {p p' m : Res} (h : Sep base rs w) (i j : Nat) (hi : rs[i]? = some p) (hp : ∀ k, p.own k → own k) (hp2 : ∀ k, own k → p.own k) (hj : rs[j]? = some none_) (hij : i ≠ j) (hh : Hold base own w [m, p'] w1) : Sep base ((rs.set i p').set j m) w1 := by
  have hil := (List.getElem?_eq_some_iff.1 hi).1
  have hjl := (List.getElem?_eq_some_iff.1 hj).1
  have hget : ∀ a x, ((rs.set i p').set j m)[a]? = some x → (a = j ∧ x = m) ∨ (a ≠ j ∧ a = i ∧ x = p') ∨ (a ≠ j ∧ a ≠ i ∧ rs[a]? = some x) := by
    intro a x hx
    by_cases ha : a = j
    · subst ha
      rw [List.getElem?_set_self (by simpa using hjl)] at hx
      exact .inl ⟨rfl, (Option.some.inj hx).symm⟩
    · rw [List.getElem?_set_ne (fun e => ha e.symm)] at hx
      by_cases hb : a = i
      · subst hb
        rw [List.getElem?_set_self hil] at hx
        exact .inr (.inl ⟨ha, rfl, (Option.some.inj hx).symm⟩)
      · rw [List.getElem?_set_ne (fun e => hb e.symm)] at hx
        exact .inr (.inr ⟨ha, hb, hx⟩)
  have old : ∀ a x, a ≠ i → rs[a]? = some x → ∀ k, x.own k → ¬ own k ∧ k < w.heap.size ∧ base ≤ k := fun a x ha hx k hk => ⟨fun ho => h.apart hx hi ha hk (hp2 k ho), (h.bound a hx hk).2, (h.bound a hx hk).1⟩
  have new : ∀ r ∈ [m, p'], ∀ k, r.own k → own k ∨ w.heap.size ≤ k := hh.mine
  refine Sep.of_apart (fun a x hx => ?_) (fun a b x y hx hy hab k hk hk' => ?_)
  · rcases hget a x hx with ⟨_, rfl⟩ | ⟨_, _, rfl⟩ | ⟨_, h2, h3⟩
    · exact ⟨hh.get 0 rfl, fun k hk => hh.sep.bound 0 rfl hk⟩
    · exact ⟨hh.get 1 rfl, fun k hk => hh.sep.bound 1 rfl hk⟩
    · refine ⟨x.step (h.get a h3) (fun k hk hlt => hh.kept k hlt (old a x h2 h3 k hk).1), fun k hk => ?_⟩
      have := old a x h2 h3 k hk
      have := hh.size
      omega
  · rcases hget a x hx with ⟨ha, rfl⟩ | ⟨ha, ha2, rfl⟩ | ⟨ha, ha2, hx3⟩
    · rcases hget b y hy with ⟨hb, rfl⟩ | ⟨hb, hb2, rfl⟩ | ⟨hb, hb2, hy3⟩
      · exact hab (ha.trans hb.symm)
      · exact hh.sep.apart (i := 0) (j := 1) rfl rfl (by decide) hk hk'
      · have g1 := old b y hb2 hy3 k hk'
        rcases new x (by simp) k hk with h1 | h1
        · exact g1.1 h1
        · omega
    · rcases hget b y hy with ⟨hb, rfl⟩ | ⟨hb, hb2, rfl⟩ | ⟨hb, hb2, hy3⟩
      · exact hh.sep.apart (i := 1) (j := 0) rfl rfl (by decide) hk hk'
      · exact hab (ha2.trans hb2.symm)
      · have g1 := old b y hb2 hy3 k hk'
        rcases new x (by simp) k hk with h1 | h1
        · exact g1.1 h1
        · omega
    · have g1 := old a x ha2 hx3 k hk
      rcases hget b y hy with ⟨hb, rfl⟩ | ⟨hb, hb2, rfl⟩ | ⟨hb, hb2, hy3⟩
      · rcases new y (by simp) k hk' with h1 | h1
        · exact g1.1 h1
        · omega
      · rcases new y (by simp) k hk' with h1 | h1
        · exact g1.1 h1
        · omega
      · exact h.apart hx3 hy3 hab hk hk'
/-- Split, by a Part among other pieces. -/
theorem Split_law {base : Nat} {own : Nat → Prop} {rs : List Res} {w : World} {g n N : Nat} {C : Nat → Nat} (h : Sep base rs w) (i j : Nat) (hi : rs[i]? = some (part base own g n N C)) (hj : rs[j]? = some none_) (hij : i ≠ j) (hb : base ≤ w.heap.size) (hn0 : 0 < n) (hn : n ≤ 65536) (l : List Nat) (hl : ∀ x ∈ l, x < n) (hll : l.length ≤ 1000000) (Al : Option Addr) (m cl : Nat) (hm : m = l.length)
    (hrd : ∀ w1, (∀ k, k < w.heap.size → ¬ own k → w1.heap[k]? = w.heap[k]?) → Kd.C (Kd.int .i64) w1 Al m (tl l)) :
    Calls Try.prog 12 #[.pointer (some ⟨g, 0, none⟩), .slice Al m cl] w fun e w' => ∃ (mv : Value) (own' : Nat → Prop), e = .returned (.tuple #[mv, .int .i64 0]) ∧ Sep base ((rs.set i (part base own' g n (splitOf n C N l).N (splitOf n C N l).C)).set j (ints base mv (tl (splitOf n C N l).made))) w' ∧ Below base w w' := by
  subst hm
  obtain ⟨R, P, A, B, gr, cr, gp, cp, gc, gs, cs, h1, h2, h3⟩ := h.get i hi
  have H : Hold base own w (pcs base g n N C R P A B gr cr gp cp gc gs cs) w := Hold.start h2 h3 hb
  refine (Split_walk base own w g n N C R P A B gr cr gp cp gc gs cs l Al cl H h1 hn0 hn hl hll hrd).mono ?_
  rintro e w' ⟨mv, own', rfl, hh⟩
  exact ⟨mv, own', rfl, Sep.turn h i j hi (fun _ hk => hk) (fun _ hk => hk) hj hij hh, hh.below⟩
theorem All_law {base : Nat} {own : Nat → Prop} {rs : List Res} {w : World} {g n N : Nat} {C : Nat → Nat} (h : Sep base rs w) (i : Nat) (hi : rs[i]? = some (part base own g n N C)) (hn : n ≤ 65536) :
    Calls Try.prog 13 #[.pointer (some ⟨g, 0, none⟩)] w fun e w' => ∃ v, e = .returned v ∧ Kd.R (Kd.int .i64) 3 w' w.heap.size (fun _ => True) v (lst n C) ∧ Below w.heap.size w w' := All_walk base own g n N C w (h.get i hi) hn
/-- A list of the walk's own, as Split reads it. -/
theorem lit_rd {base : Nat} {own : Nat → Prop} {rs : List Res} {w : World} {p : Res} (h : Sep base rs w) (i : Nat) (hi : rs[i]? = some p) (hp : ∀ k, own k → p.own k) (cs : Array Value) (l : List Nat) (n : Nat) (e : cs = numsA (tl l)) (hn : n = l.length) (hm : n ≤ 1000000000) :
    ∀ w1, (∀ k, k < (w.alloc (.cells cs 3)).heap.size → ¬ own k → w1.heap[k]? = (w.alloc (.cells cs 3)).heap[k]?) → Kd.C (Kd.int .i64) w1 (some ⟨w.heap.size, 0, none⟩) n (tl l) := fun w1 hk => by
  refine lit_C (cs := cs) ?_ e (by rw [tl_len]; exact hn) hm
  rw [hk w.heap.size (by simp) (fun ho => by have := (h.bound i hi (hp _ ho)).2; omega)]
  exact blk_new w _
end Go.Proofs.Ytdalpaobkmoomaa.X
end

section
namespace Go.Proofs.Ytdalpaobkmoomaa.X
open Go.RowKit Go.Proofs.YtdalpaobkmoomaaW.PrintWords Go.Proofs.YtdalpaobkmoomaaW.PrintLast Go.Proofs.YtdalpaobkmoomaaW.PrintMore
open Go.Proofs.Ytdalpaobkmoomaa Go.Proofs.Ytdalpaobkmoomaa.Sp
attribute [local go_sem] max2_int min2_int max_two min_two max_three min_three max_four min_four
set_option maxHeartbeats 16000000 in
set_option maxRecDepth 100000 in
theorem live_walk (w : World) : Calls Try.prog 9 #[] w fun e w' => e = .returned (.bool true) ∧ Below w.heap.size w w' := by
  have hu22 := Try.underlying22
  have hnew : Calls Try.prog 10 #[.int .i64 4] w fun e w' => ∃ (g : Nat) (own : Nat → Prop), e = .returned (.tuple #[.pointer (some ⟨g, 0, none⟩), .int .i64 0]) ∧ Sep w.heap.size [part w.heap.size own g 4 1 (fun _ => 0)] w' ∧ Below w.heap.size w w' := New_walk 4 w (by decide) (by decide)
  go_enter Try.func9, Try.ntmps9
  go_wp2_with (first
  | (go_at_call 17; refine (Count_walk w.heap.size own2 g 4 (splitOf 4 (splitOf 4 (fun _ => 0) 1 [1, 2]).C (splitOf 4 (fun _ => 0) 1 [1, 2]).N [0, 1, 1]).N (splitOf 4 (splitOf 4 (fun _ => 0) 1 [1, 2]).C (splitOf 4 (fun _ => 0) 1 [1, 2]).N [0, 1, 1]).C w12 (HS12.out.get 1 rfl)).mono ?_
     rintro e w13 ⟨rfl, hb⟩
     have hc4 : (((splitOf 4 (splitOf 4 (fun _ => 0) 1 [1, 2]).C (splitOf 4 (fun _ => 0) 1 [1, 2]).N [0, 1, 1]).N : Nat) : Int) = 4 := by decide
     have HB13 := Aside0.mk (below_step HB12.out hb)
     clear hb)
  | (go_at_call 16; refine (same_calls Ad 4 cd [2, 3, 1, 0] (some ⟨w11.heap.size, 0, none⟩) 4 4 [2, 3, 1, 0] (w11.alloc (.cells #[.int .i64 2, .int .i64 3, .int .i64 1, .int .i64 0] 3)) (row_C ((HS11.out.low (below_alloc (Below.refl w11.heap.size w11) (.cells #[.int .i64 2, .int .i64 3, .int .i64 1, .int .i64 0] 3))).get 0 rfl)).1 (row_C (HS11.out.get 0 rfl)).2 (lit_C (blk_new w11 (.cells #[.int .i64 2, .int .i64 3, .int .i64 1, .int .i64 0] 3)) rfl rfl (by decide)) (Nat.le_refl _) (by decide)).mono ?_
     rintro e w12 ⟨rfl, hd⟩
     have HS12 := Aside0.mk ((HS11.out.low (below_alloc (Below.refl w11.heap.size w11) (.cells #[.int .i64 2, .int .i64 3, .int .i64 1, .int .i64 0] 3))).low hd.below)
     have HB12 := Aside0.mk (below_step (below_alloc HB11.out (.cells #[.int .i64 2, .int .i64 3, .int .i64 1, .int .i64 0] 3)) hd.below)
     clear hd)
  | (go_at_call 13; with_reducible refine (All_law HS10.out 3 rfl (by decide)).mono ?_
     rintro e w11 ⟨v11, rfl, hR, hb⟩
     have hS' : Sep w.heap.size [ints w.heap.size v11 [2, 3, 1, 0], part w.heap.size own2 g 4 (splitOf 4 (splitOf 4 (fun _ => 0) 1 [1, 2]).C (splitOf 4 (fun _ => 0) 1 [1, 2]).N [0, 1, 1]).N (splitOf 4 (splitOf 4 (fun _ => 0) 1 [1, 2]).C (splitOf 4 (fun _ => 0) 1 [1, 2]).N [0, 1, 1]).C] w11 := (((HS10.out.sub (rs' := [part w.heap.size own2 g 4 (splitOf 4 (splitOf 4 (fun _ => 0) 1 [1, 2]).C (splitOf 4 (fun _ => 0) 1 [1, 2]).N [0, 1, 1]).N (splitOf 4 (splitOf 4 (fun _ => 0) 1 [1, 2]).C (splitOf 4 (fun _ => 0) 1 [1, 2]).N [0, 1, 1]).C]) (.cons _ (.cons _ (.cons _ (List.Sublist.refl _))))).free none_ trivial (fun _ hk => hk.elim)).fillRow 0 rfl rfl hR hb HB10.out.size)
     obtain ⟨Ad, cd, hv⟩ := Kd.R_slice (hS'.get 0 rfl)
     have hv' : v11 = .slice Ad 4 cd := hv
     subst hv'
     have HS11 := Aside0.mk hS'
     have HB11 := Aside0.mk (below_step HB10.out hb)
     clear hS' hb hv hR)
  | (go_at_call 16; refine (same_calls Ac 2 cc [2, 3] (some ⟨w9.heap.size, 0, none⟩) 2 2 [2, 3] (w9.alloc (.cells #[.int .i64 2, .int .i64 3] 3)) (row_C ((HS9.out.low (below_alloc (Below.refl w9.heap.size w9) (.cells #[.int .i64 2, .int .i64 3] 3))).get 2 rfl)).1 (row_C (HS9.out.get 2 rfl)).2 (lit_C (blk_new w9 (.cells #[.int .i64 2, .int .i64 3] 3)) rfl rfl (by decide)) (Nat.le_refl _) (by decide)).mono ?_
     rintro e w10 ⟨rfl, hd⟩
     have HS10 := Aside0.mk ((HS9.out.low (below_alloc (Below.refl w9.heap.size w9) (.cells #[.int .i64 2, .int .i64 3] 3))).low hd.below)
     have HB10 := Aside0.mk (below_step (below_alloc HB9.out (.cells #[.int .i64 2, .int .i64 3] 3)) hd.below)
     clear hd)
  | (go_at_call 16; refine (same_calls Ab 4 cb [0, 1, 1, 0] (some ⟨w8.heap.size, 0, none⟩) 4 4 [0, 1, 1, 0] (w8.alloc (.cells #[.int .i64 0, .int .i64 1, .int .i64 1, .int .i64 0] 3)) (row_C ((HS8.out.low (below_alloc (Below.refl w8.heap.size w8) (.cells #[.int .i64 0, .int .i64 1, .int .i64 1, .int .i64 0] 3))).get 1 rfl)).1 (row_C (HS8.out.get 1 rfl)).2 (lit_C (blk_new w8 (.cells #[.int .i64 0, .int .i64 1, .int .i64 1, .int .i64 0] 3)) rfl rfl (by decide)) (Nat.le_refl _) (by decide)).mono ?_
     rintro e w9 ⟨rfl, hd⟩
     have HS9 := Aside0.mk ((HS8.out.low (below_alloc (Below.refl w8.heap.size w8) (.cells #[.int .i64 0, .int .i64 1, .int .i64 1, .int .i64 0] 3))).low hd.below)
     have HB9 := Aside0.mk (below_step (below_alloc HB8.out (.cells #[.int .i64 0, .int .i64 1, .int .i64 1, .int .i64 0] 3)) hd.below)
     clear hd)
  | (go_at_call 16; refine (same_calls Aa 1 ca [1] (some ⟨w7.heap.size, 0, none⟩) 1 1 [1] (w7.alloc (.cells #[.int .i64 1] 3)) (row_C ((HS7.out.low (below_alloc (Below.refl w7.heap.size w7) (.cells #[.int .i64 1] 3))).get 0 rfl)).1 (row_C (HS7.out.get 0 rfl)).2 (lit_C (blk_new w7 (.cells #[.int .i64 1] 3)) rfl rfl (by decide)) (Nat.le_refl _) (by decide)).mono ?_
     rintro e w8 ⟨rfl, hd⟩
     have HS8 := Aside0.mk ((HS7.out.low (below_alloc (Below.refl w7.heap.size w7) (.cells #[.int .i64 1] 3))).low hd.below)
     have HB8 := Aside0.mk (below_step (below_alloc HB7.out (.cells #[.int .i64 1] 3)) hd.below)
     clear hd)
  | (go_at_call 11; with_reducible refine (tutorlaw06_num.calls 0 0 w6 rfl).mono ?_
     rintro e w7 ⟨rfl, hd⟩
     have HS7 := Aside0.mk (HS6.out.low hd.below)
     have HB7 := Aside0.mk (below_step HB6.out hd.below)
     clear hd)
  | (go_at_call 11; with_reducible refine (tutorlaw06_num.calls 0 0 w5 rfl).mono ?_
     rintro e w6 ⟨rfl, hd⟩
     have HS6 := Aside0.mk (HS5.out.low hd.below)
     have HB6 := Aside0.mk (below_step HB5.out hd.below)
     clear hd)
  | (go_at_call 12
     refine (Split_law (HS4.out.low (below_alloc (Below.refl w4.heap.size w4) (.cells #[.int .i64 0, .int .i64 1, .int .i64 1] 3))) 3 2 rfl rfl (by decide) (by have := HB4.out.size; simp; omega) (by decide) (by decide) [0, 1, 1] (by decide) (by decide) (some ⟨w4.heap.size, 0, none⟩) 3 3 rfl (lit_rd HS4.out 3 rfl (fun _ hk => hk) #[.int .i64 0, .int .i64 1, .int .i64 1] [0, 1, 1] 3 rfl rfl (by decide))).mono ?_
     rintro e w5 ⟨m2, own2, rfl, hS, hb⟩
     have hS' : Sep w.heap.size [ints w.heap.size (.slice Aa 1 ca) [1], ints w.heap.size (.slice Ab 4 cb) [0, 1, 1, 0], ints w.heap.size m2 [2, 3], part w.heap.size own2 g 4 (splitOf 4 (splitOf 4 (fun _ => 0) 1 [1, 2]).C (splitOf 4 (fun _ => 0) 1 [1, 2]).N [0, 1, 1]).N (splitOf 4 (splitOf 4 (fun _ => 0) 1 [1, 2]).C (splitOf 4 (fun _ => 0) 1 [1, 2]).N [0, 1, 1]).C] w5 := hS
     obtain ⟨Ac, cc, hv⟩ := Kd.R_slice (hS'.get 2 rfl)
     have hv' : m2 = .slice Ac 2 cc := hv
     subst hv'
     have HS5 := Aside0.mk hS'
     have HB5 := Aside0.mk ((below_alloc HB4.out (.cells #[.int .i64 0, .int .i64 1, .int .i64 1] 3)).trans hb)
     clear hS hS' hb hv)
  | (go_at_call 13; with_reducible refine (All_law HS3.out 3 rfl (by decide)).mono ?_
     rintro e w4 ⟨v4, rfl, hR, hb⟩
     have hS' : Sep w.heap.size [ints w.heap.size (.slice Aa 1 ca) [1], ints w.heap.size v4 [0, 1, 1, 0], none_, part w.heap.size own1 g 4 (splitOf 4 (fun _ => 0) 1 [1, 2]).N (splitOf 4 (fun _ => 0) 1 [1, 2]).C] w4 := HS3.out.fillRow 1 rfl rfl hR hb HB3.out.size
     obtain ⟨Ab, cb, hv⟩ := Kd.R_slice (hS'.get 1 rfl)
     have hv' : v4 = .slice Ab 4 cb := hv
     subst hv'
     have HS4 := Aside0.mk hS'
     have HB4 := Aside0.mk (below_step HB3.out hb)
     clear hS' hb hv hR)
  | (go_at_call 12
     refine (Split_law (HS2.out.low (below_alloc (Below.refl w2.heap.size w2) (.cells #[.int .i64 1, .int .i64 2] 3))) 3 0 rfl rfl (by decide) (by have := HB2.out.size; simp; omega) (by decide) (by decide) [1, 2] (by decide) (by decide) (some ⟨w2.heap.size, 0, none⟩) 2 2 rfl (lit_rd HS2.out 3 rfl (fun _ hk => hk) #[.int .i64 1, .int .i64 2] [1, 2] 2 rfl rfl (by decide))).mono ?_
     rintro e w3 ⟨m1, own1, rfl, hS, hb⟩
     have hS' : Sep w.heap.size [ints w.heap.size m1 [1], none_, none_, part w.heap.size own1 g 4 (splitOf 4 (fun _ => 0) 1 [1, 2]).N (splitOf 4 (fun _ => 0) 1 [1, 2]).C] w3 := hS
     obtain ⟨Aa, ca, hv⟩ := Kd.R_slice (hS'.get 0 rfl)
     have hv' : m1 = .slice Aa 1 ca := hv
     subst hv'
     have HS3 := Aside0.mk hS'
     have HB3 := Aside0.mk ((below_alloc HB2.out (.cells #[.int .i64 1, .int .i64 2] 3)).trans hb)
     clear hS hS' hb hv)
  | (go_at_call 11; with_reducible refine (tutorlaw06_num.calls 0 0 w1 rfl).mono ?_
     rintro e w2 ⟨rfl, hd⟩
     have HS2 := Aside0.mk (HS1.out.low hd.below)
     have HB2 := Aside0.mk (below_step HB1.out hd.below)
     clear hd)
  | (go_at_call 10; with_reducible refine hnew.mono ?_
     rintro e w1 ⟨g, own, rfl, hS, hb⟩
     have HS1 : Aside0 (Sep w.heap.size [none_, none_, none_, part w.heap.size own g 4 1 (fun _ => 0)] w1) := ⟨((hS.free none_ trivial (fun _ hk => hk.elim)).free none_ trivial (fun _ hk => hk.elim)).free none_ trivial (fun _ hk => hk.elim)⟩
     have HB1 := Aside0.mk hb
     clear hS hb))
  go_ret
  exact ⟨rfl, HB13.out⟩
end Go.Proofs.Ytdalpaobkmoomaa.X
end

section
namespace Go.Proofs.Ytdalpaobkmoomaa.X
open Go.RowKit Go.Proofs.YtdalpaobkmoomaaW.PrintWords Go.Proofs.YtdalpaobkmoomaaW.PrintLast Go.Proofs.YtdalpaobkmoomaaW.PrintMore
open Go.Proofs.Ytdalpaobkmoomaa Go.Proofs.Ytdalpaobkmoomaa.Sp
attribute [local go_sem] max2_int min2_int max_two min_two max_three min_three max_four min_four
set_option maxHeartbeats 8000000 in
set_option maxRecDepth 100000 in
theorem Split_bad (base : Nat) (own : Nat → Prop) (g n N : Nat) (C : Nat → Nat) (w : World) (h : (part base own g n N C).at_ w) (l : List Int) (Al : Option Addr) (cl : Nat) (hc : Kd.C (Kd.int .i64) w Al l.length l) (hn : n ≤ 65536) (hll : l.length ≤ 1000000) (hb : ¬ ∀ x ∈ l, 0 ≤ x ∧ x < (n : Int)) :
    Calls Try.prog 12 #[.pointer (some ⟨g, 0, none⟩), .slice Al l.length cl] w fun e w' => e = .returned (.tuple #[.slice none 0 0, .int .i64 1]) ∧ Below w.heap.size w w' := by
  obtain ⟨R, P, A, B, gr, cr, gp, cp, gc, gs, cs, hi, hs, _⟩ := h
  have hu64 := Try.underlying64
  have hu22 := Try.underlying22
  have hu66 := Try.underlying66
  have hmm := @run_makeMap Try.prog
  have HC := Aside0.mk hc
  have HBAD := Aside0.mk hb
  have hx0 : w.cell? ⟨g, 0, none⟩ = some (.slice (some ⟨gr, 0, none⟩) n cr) := (blk_cell (hs.get 0 rfl) 0).trans rfl
  have hs1 := hs.low (below_alloc (Below.refl w.heap.size w) (.map #[] 0))
  have hx0b : (w.alloc (.map #[] 0)).cell? ⟨g, 0, none⟩ = some (.slice (some ⟨gr, 0, none⟩) n cr) := (blk_cell (hs1.get 0 rfl) 0).trans rfl
  have HS1 := Aside0.mk hs1
  clear hs hi hc hb hs1
  go_enter Try.func12, Try.ntmps12
  go_wp2_with ((with_reducible refine gate_dst (N := 30) rfl ?_); (refine fresh_make Try.underlying66 info4 rfl (by decide) (by decide) rfl rfl rfl (by omega) (by omega) ?_; intro w1 hg1 hb1 hz1; have HB1 := Aside0.mk (below_step (below_alloc (Below.refl w.heap.size w) (.map #[] 0)) hb1); have hx1 : w1.cell? ⟨g, 0, none⟩ = some (.slice (some ⟨gr, 0, none⟩) n cr) := (blk_cell ((HS1.out.low hb1).get 0 rfl) 0).trans rfl; clear hg1 hb1 hz1))
  have HX1 := Aside0.mk hx1
  clear hx0 hx0b hx1
  go_loopw [33] (fun v33 wr => ∃ (j : Nat), v33 = .int .i64 (j : Int) ∧ Aside0 (j ≤ l.length) ∧ Aside0 (∀ x ∈ l.take j, 0 ≤ x ∧ x < (n : Int)) ∧ Aside0 (wr = w1)) (fun v33 _ => l.length - (intOf v33).toNat)
  case atStart => exact ⟨0, rfl, ⟨by omega⟩, ⟨fun x hx => by simp at hx⟩, ⟨by first | rfl | trivial⟩⟩
  case round =>
    obtain ⟨j, rfl, HJI, HOK, HWR⟩ := hrel
    have hwr := HWR.out
    subst hwr
    clear HWR
    by_cases hj : j < l.length
    · have HJ := Aside0.mk hj
      have hj' : (j : Int) < (l.length : Int) := by omega
      obtain ⟨x, hli⟩ : ∃ x, l[j] = x := ⟨_, rfl⟩
      obtain ⟨adl, el, hxl⟩ := Kd.at_int (Kd.C_below HC.out HB1.out) (j : Int) (by omega) hj'
      cases el
      rw [rd_nat hj, hli, Int.toNat_natCast] at hxl
      have hx0 := HX1.out
      have htk : l.take (j + 1) = l.take j ++ [x] := by rw [List.take_succ_eq_append_getElem hj, hli]
      have HTK := Aside0.mk htk
      clear hj hli htk
      by_cases h1 : x < 0
      · go_wp2
        go_ret2
        exact ⟨rfl, HB1.out⟩
      · by_cases h2 : x ≥ (n : Int)
        · go_wp2
          go_ret2
          exact ⟨rfl, HB1.out⟩
        · have hOK2 : Aside0 (∀ y ∈ l.take (j + 1), 0 ≤ y ∧ y < (n : Int)) := ⟨fun y hy => by
            rw [HTK.out, List.mem_append, List.mem_singleton] at hy
            rcases hy with hy | rfl
            · exact HOK.out y hy
            · omega⟩
          go_wp2
          go_roundw
          case rel => exact ⟨j + 1, by go_num, ⟨by have := HJ.out; omega⟩, hOK2, ⟨by first | rfl | trivial⟩⟩
          case measure => have := HJ.out; simp [intOf]; omega
    · exact absurd (fun x hx => HOK.out x (by rw [List.take_of_length_le (by have := HJI.out; omega)]; exact hx)) HBAD.out
/-- What Split answers to any list. -/
def splitAny (n : Nat) (C : Nat → Nat) (N : Nat) (l : List Int) : St × Int := if ∀ x ∈ l, 0 ≤ x ∧ x < (n : Int) then (splitOf n C N (l.map Int.toNat), 0) else (⟨C, N, []⟩, 1)
theorem Sep.same {base : Nat} {rs : List Res} {w : World} (h : Sep base rs w) (i : Nat) {r : Res} (hi : rs[i]? = some r) : Sep base (rs.set i r) w := by
  have e : rs.set i r = rs := List.ext_getElem? fun j => by
    by_cases hj : j = i
    · subst hj
      rw [List.getElem?_set_self (List.getElem?_eq_some_iff.1 hi).1, hi]
    · rw [List.getElem?_set_ne (fun e => hj e.symm)]
  rw [e]
  exact h
theorem Split_any {base : Nat} {own : Nat → Prop} {rs : List Res} {w : World} {g n N : Nat} {C : Nat → Nat} (h : Sep base rs w) (i j : Nat) (hi : rs[i]? = some (part base own g n N C)) (hj : rs[j]? = some none_) (hij : i ≠ j) (hb : base ≤ w.heap.size) (hn0 : 0 < n) (hn : n ≤ 65536) (l : List Int) (hll : l.length ≤ 1000000) (Al : Option Addr) (m cl : Nat) (hm : m = l.length)
    (hrd : ∀ w1, (∀ k, k < w.heap.size → ¬ own k → w1.heap[k]? = w.heap[k]?) → Kd.C (Kd.int .i64) w1 Al m l) :
    Calls Try.prog 12 #[.pointer (some ⟨g, 0, none⟩), .slice Al m cl] w fun e w' => ∃ (mv : Value) (own' : Nat → Prop), e = .returned (.tuple #[mv, .int .i64 (splitAny n C N l).2]) ∧ Sep base ((rs.set i (part base own' g n (splitAny n C N l).1.N (splitAny n C N l).1.C)).set j (ints base mv (tl (splitAny n C N l).1.made))) w' ∧ Below base w w' := by
  subst hm
  unfold splitAny
  by_cases hok : ∀ x ∈ l, 0 ≤ x ∧ x < (n : Int)
  · rw [if_pos hok]
    have e : tl (l.map Int.toNat) = l := tl_toNat l (fun x hx => (hok x hx).1)
    refine Split_law h i j hi hj hij hb hn0 hn (l.map Int.toNat) (fun x hx => ?_) (by simpa using hll) Al l.length cl (by simp) (by rw [e]; exact hrd)
    obtain ⟨y, hy, rfl⟩ := List.mem_map.1 hx
    have := hok y hy
    omega
  · rw [if_neg hok]
    refine (Split_bad base own g n N C w (h.get i hi) l Al cl (hrd w (fun _ _ _ => rfl)) hn hll hok).mono ?_
    rintro e w' ⟨rfl, hbl⟩
    refine ⟨.slice none 0 0, own, rfl, ?_, ⟨hbl.os, hbl.tape, hbl.output, hbl.size, fun k hk => hbl.block k (by omega)⟩⟩
    have h1 := Sep.same (h.low hbl) i hi
    exact h1.upd j (by rw [List.getElem?_set_ne hij]; exact hj) (Kd.R_nil _ _ _ _ _) (fun _ _ _ => rfl) (fun k hk => by simp [ints, row, Value.ownBlock] at hk) (Nat.le_trans hb hbl.size) (Nat.le_refl _)
theorem part_lower {base base' : Nat} {own : Nat → Prop} {g n N : Nat} {C : Nat → Nat} {w : World} (hb : base' ≤ base) (h : (part base own g n N C).at_ w) : (part base' own g n N C).at_ w := by
  obtain ⟨R, P, A, B, gr, cr, gp, cp, gc, gs, cs, h1, h2, h3⟩ := h
  have key : ∀ (i : Nat) (r : Res), (pcs base' g n N C R P A B gr cr gp cp gc gs cs)[i]? = some r → ∃ r0, (pcs base g n N C R P A B gr cr gp cp gc gs cs)[i]? = some r0 ∧ (∀ k, r.own k → r0.own k) ∧ (r0.at_ w → r.at_ w) := by
    intro i r hr
    match i, hr with
    | 0, hr => obtain rfl := Option.some.inj hr; exact ⟨_, rfl, fun _ hk => hk, fun h => h⟩
    | 1, hr => obtain rfl := Option.some.inj hr; exact ⟨_, rfl, fun _ hk => hk, fun h => Kd.R_lower h hb⟩
    | 2, hr => obtain rfl := Option.some.inj hr; exact ⟨_, rfl, fun _ hk => hk, fun h => Kd.R_lower h hb⟩
    | 3, hr => obtain rfl := Option.some.inj hr; exact ⟨_, rfl, fun _ hk => hk, fun h => h⟩
    | 4, hr => obtain rfl := Option.some.inj hr; exact ⟨_, rfl, fun _ hk => hk, fun h => Kd.R_lower h hb⟩
    | i + 5, hr => cases hr
  refine ⟨R, P, A, B, gr, cr, gp, cp, gc, gs, cs, h1, Sep.of_apart (fun i r hr => ?_) (fun i j r q hr hq hij k hk hk' => ?_), fun r hr k hk => ?_⟩
  · obtain ⟨r0, g1, g2, g3⟩ := key i r hr
    exact ⟨g3 (h2.get i g1), fun k hk => by have := h2.bound i g1 (g2 k hk); omega⟩
  · obtain ⟨r0, g1, g2, _⟩ := key i r hr
    obtain ⟨q0, f1, f2, _⟩ := key j q hq
    exact h2.apart g1 f1 hij (g2 k hk) (f2 k hk')
  · obtain ⟨i, hi⟩ := List.getElem?_of_mem hr
    obtain ⟨r0, g1, g2, _⟩ := key i r hi
    exact h3 r0 (List.mem_of_getElem? g1) k (g2 k hk)
theorem part_pos {base : Nat} {own : Nat → Prop} {g n N : Nat} {C : Nat → Nat} {w : World} (h : (part base own g n N C).at_ w) (hn : 0 < n) : 0 < N ∧ N ≤ n ∧ ∀ i, i < n → C i < N := by
  obtain ⟨R, P, A, B, gr, cr, gp, cp, gc, gs, cs, h1, h2, h3⟩ := h
  have := h1.cn 0 hn
  exact ⟨by omega, h1.few, h1.cn⟩
theorem New_law {base : Nat} {rs : List Res} {w : World} (h : Sep base rs w) (hb : base ≤ w.heap.size) (n : Nat) (hn0 : 0 < n) (hn : n ≤ 65536) :
    Calls Try.prog 10 #[.int .i64 (n : Int)] w fun e w' => ∃ (g : Nat) (own : Nat → Prop), e = .returned (.tuple #[.pointer (some ⟨g, 0, none⟩), .int .i64 0]) ∧ Sep base (part base own g n 1 (fun _ => 0) :: rs) w' ∧ Below w.heap.size w w' := by
  refine (New_walk n w hn0 hn).mono ?_
  rintro e w' ⟨g, own, rfl, hs, hbl⟩
  have h1 := h.over hbl hs hb
  refine ⟨g, own, rfl, ?_, hbl⟩
  exact h1.upd 0 rfl (part_lower hb (hs.get 0 rfl)) (fun _ _ _ => rfl) (fun k hk => ⟨.inl hk, (hs.bound 0 rfl hk).2⟩) (Nat.le_trans hb hbl.size) (Nat.le_refl _)
theorem Members_law {base : Nat} {own : Nat → Prop} {rs : List Res} {w : World} {g n N : Nat} {C : Nat → Nat} (h : Sep base rs w) (i : Nat) (hi : rs[i]? = some (part base own g n N C)) (hn : n ≤ 65536) (c : Nat) (hc : c < N) :
    Calls Try.prog 14 #[.pointer (some ⟨g, 0, none⟩), .int .i64 (c : Int)] w fun e w' => ∃ v, e = .returned (.tuple #[v, .int .i64 0]) ∧ Kd.R (Kd.int .i64) 3 w' w.heap.size (fun _ => True) v (tl (members n C c)) ∧ Below w.heap.size w w' := Members_walk base own g n N C w (h.get i hi) c hc hn
end Go.Proofs.Ytdalpaobkmoomaa.X
end

section
namespace Go.Proofs.Ytdalpaobkmoomaa.X
open Go.RowKit Go.Proofs.YtdalpaobkmoomaaW.PrintWords Go.Proofs.YtdalpaobkmoomaaW.PrintLast Go.Proofs.YtdalpaobkmoomaaW.PrintMore
open Go.Proofs.Ytdalpaobkmoomaa Go.Proofs.Ytdalpaobkmoomaa.Sp
/-- While classes are cut in their order: which numbers are together. -/
structure Tog (n N0 : Nat) (C0 : Nat → Nat) (D : Nat → Bool) (done : List Nat) (s : St) : Prop where
  lt : ∀ i, i < n → s.C i < s.N
  tog : ∀ i k, i < n → k < n → (s.C i = s.C k ↔ C0 i = C0 k ∧ (C0 i ∈ done → D i = D k))
theorem Tog.step {n N0 : Nat} {C0 : Nat → Nat} {D : Nat → Bool} {done : List Nat} {s : St} (h : Tog n N0 C0 D done s) (c : Nat) : Tog n N0 C0 D (done ++ [c]) (cutOf n C0 D c s) := by
  unfold cutOf
  by_cases hc : (∃ i, i < n ∧ C0 i = c ∧ D i = true) ∧ (∃ i, i < n ∧ C0 i = c ∧ D i = false)
  · rw [if_pos hc]
    refine ⟨fun i hi => ?_, fun i k hi hk => ?_⟩
    · show (if C0 i = c ∧ D i = true then s.N else s.C i) < s.N + 1
      have := h.lt i hi
      split <;> omega
    · show (if C0 i = c ∧ D i = true then s.N else s.C i) = (if C0 k = c ∧ D k = true then s.N else s.C k) ↔ _
      have hi1 := h.lt i hi
      have hk1 := h.lt k hk
      have ht := h.tog i k hi hk
      by_cases g1 : C0 i = c ∧ D i = true
      · rw [if_pos g1]
        by_cases g2 : C0 k = c ∧ D k = true
        · rw [if_pos g2]
          simp [g1.1, g1.2, g2.1, g2.2]
        · rw [if_neg g2]
          constructor
          · intro e; omega
          · rintro ⟨e1, e2⟩
            have e3 := e2 (by rw [g1.1]; simp)
            exact absurd ⟨e1.symm.trans g1.1, e3.symm.trans g1.2⟩ g2
      · rw [if_neg g1]
        by_cases g2 : C0 k = c ∧ D k = true
        · rw [if_pos g2]
          constructor
          · intro e; omega
          · rintro ⟨e1, e2⟩
            have e3 := e2 (by rw [e1, g2.1]; simp)
            exact absurd ⟨e1.trans g2.1, e3.trans g2.2⟩ g1
        · rw [if_neg g2, ht]
          constructor
          · rintro ⟨e1, e2⟩
            refine ⟨e1, fun hm => ?_⟩
            rw [List.mem_append, List.mem_singleton] at hm
            rcases hm with hm | hm
            · exact e2 hm
            · have a1 : D i = false := by
                cases hd : D i with
                | false => rfl
                | true => exact absurd ⟨hm, hd⟩ g1
              have a2 : D k = false := by
                cases hd : D k with
                | false => rfl
                | true => exact absurd ⟨e1.symm.trans hm, hd⟩ g2
              rw [a1, a2]
          · rintro ⟨e1, e2⟩
            exact ⟨e1, fun hm => e2 (List.mem_append_left _ hm)⟩
  · rw [if_neg hc]
    refine ⟨h.lt, fun i k hi hk => ?_⟩
    rw [h.tog i k hi hk]
    constructor
    · rintro ⟨e1, e2⟩
      refine ⟨e1, fun hm => ?_⟩
      rw [List.mem_append, List.mem_singleton] at hm
      rcases hm with hm | hm
      · exact e2 hm
      · cases hd : D i with
        | true =>
          cases hd' : D k with
          | true => rfl
          | false => exact absurd ⟨⟨i, hi, hm, hd⟩, ⟨k, hk, e1.symm.trans hm, hd'⟩⟩ hc
        | false =>
          cases hd' : D k with
          | false => rfl
          | true => exact absurd ⟨⟨k, hk, e1.symm.trans hm, hd'⟩, ⟨i, hi, hm, hd⟩⟩ hc
    · rintro ⟨e1, e2⟩
      exact ⟨e1, fun hm => e2 (List.mem_append_left _ hm)⟩
def muchL (n : Int) (ls : List (List Int)) : Bool := decide ((n > 200 ∧ n ≤ 65536) ∨ (ls.length : Int) > 60 ∨ ∃ l ∈ ls, (l.length : Int) > 400)
theorem much_l0 (ls : List (List Int)) (hl : ls.length ≤ 1000000) : ∀ (d k i : Nat), i + d = ls.length → d < k → tutorlaw06_much.l0 k ls (i : Int) = some (decide (∃ l ∈ ls.drop i, (l.length : Int) > 400)) := by
  intro d
  induction d with
  | zero =>
    intro k i h hk
    obtain ⟨k, rfl⟩ : ∃ m, k = m + 1 := ⟨k - 1, by omega⟩
    rw [tutorlaw06_much.l0, if_neg (by omega), List.drop_of_length_le (by omega)]
    simp
  | succ d ih =>
    intro k i h hk
    obtain ⟨k, rfl⟩ : ∃ m, k = m + 1 := ⟨k - 1, by omega⟩
    have hi : i < ls.length := by omega
    have hr : rd_L1 ls (i : Int) = ls[i] := by simp [rd_L1, List.getD_eq_getElem?_getD, List.getElem?_eq_getElem hi]
    have hd : ls.drop i = ls[i] :: ls.drop (i + 1) := List.drop_eq_getElem_cons hi
    rw [tutorlaw06_much.l0, if_pos (by omega), if_pos (by omega), hr, hd]
    by_cases h4 : (ls[i].length : Int) > 400
    · rw [if_pos h4]
      congr 1
      exact (decide_eq_true ⟨_, List.mem_cons_self, h4⟩).symm
    · rw [if_neg h4, w64s (by omega), ih k (i + 1) (by omega) (by omega)]
      congr 1
      refine decide_eq_decide.2 ⟨fun ⟨l, h1, h2⟩ => ⟨l, List.mem_cons_of_mem _ h1, h2⟩, fun ⟨l, h1, h2⟩ => ?_⟩
      rcases List.mem_cons.1 h1 with rfl | h1
      · exact absurd h2 h4
      · exact ⟨l, h1, h2⟩
theorem much_is (n : Int) (ls : List (List Int)) : tutorlaw06_much.f 1000 n ls = some (muchL n ls) := by
  have j : ∀ b : Bool, tutorlaw06_much.j0 1000 ls b = if b = true then some true else tutorlaw06_much.l0 999 ls 0 := fun b => rfl
  unfold tutorlaw06_much.f muchL
  simp only [j]
  by_cases g3 : (ls.length : Int) > 60
  · by_cases g1 : n > 200
    · by_cases g2 : n ≤ 65536 <;> simp [g1, g2, g3]
    · simp [g1, g3]
  · have h0 := much_l0 ls (by omega) ls.length 999 0 (by omega) (by omega)
    rw [List.drop_zero] at h0
    have h0' : tutorlaw06_much.l0 999 ls 0 = _ := h0
    by_cases g1 : n > 200
    · by_cases g2 : n ≤ 65536
      · simp [g1, g2]
      · simp [g1, g2, g3, h0']
    · simp [g1, g3, h0']
end Go.Proofs.Ytdalpaobkmoomaa.X
end

section
namespace Go.Proofs.Ytdalpaobkmoomaa.X
open Go.RowKit Go.Proofs.YtdalpaobkmoomaaW.PrintWords Go.Proofs.YtdalpaobkmoomaaW.PrintLast Go.Proofs.YtdalpaobkmoomaaW.PrintMore
open Go.Proofs.Ytdalpaobkmoomaa Go.Proofs.Ytdalpaobkmoomaa.Sp
theorem at_list {w : World} {A : Option Addr} {n : Nat} {xs : List (List Int)} (h : Kd.C (Kd.slice 3 (Kd.int .i64)) w A n xs) (j : Nat) (hj : j < xs.length) : ∃ ad, A = some ad ∧ ∃ D c, w.cell? (ad.add j) = some (.slice D (xs[j]).length c) ∧ (xs[j]).length ≤ c ∧ Kd.C (Kd.int .i64) w D (xs[j]).length xs[j] := by
  have hn : xs.length = n := h.1
  obtain ⟨ad, e, hc⟩ := h.2.2 (by omega)
  obtain ⟨c, _, ⟨D, c', rfl, h3, h4⟩, h5⟩ := hc j _ (List.getElem?_eq_getElem hj)
  have := h5 0 _ rfl
  refine ⟨ad, e, D, c', ?_, h3, h4⟩
  have e2 : j * (Kd.slice 3 (Kd.int .i64)).sz + 0 = j := by
    show j * 1 + 0 = j
    omega
  rwa [e2] at this
/-- A cell of a row among the pieces. -/
theorem row_at {w : World} {base n c : Nat} {ok : Nat → Prop} {A : Option Addr} {f : Nat → Nat} (h : Kd.R (Kd.int .i64) 3 w base ok (.slice A n c) (lst n f)) {i : Nat} (hi : i < n) : ∃ ad, A = some ad ∧ w.cell? (ad.add i) = some (.int .i64 (f i : Int)) := by
  obtain ⟨ad, e, hc⟩ := Kd.at_int (row_C h).1 (i : Int) (by omega) (by omega)
  rw [Int.toNat_natCast, rd_lst f hi] at hc
  exact ⟨ad, e, hc⟩
attribute [local go_sem] max2_int min2_int max_two min_two max_three min_three max_four min_four
end Go.Proofs.Ytdalpaobkmoomaa.X
end

section
namespace Go.Proofs.Ytdalpaobkmoomaa.X
open Go.RowKit Go.Proofs.YtdalpaobkmoomaaW.PrintWords Go.Proofs.YtdalpaobkmoomaaW.PrintLast Go.Proofs.YtdalpaobkmoomaaW.PrintMore
open Go.Proofs.Ytdalpaobkmoomaa Go.Proofs.Ytdalpaobkmoomaa.Sp
def rs6.T6 : Bool × List (List Nat × List Nat) := (true, [([], []), ([], []), ([1], [1]), ([0, 2], [0, 2]), ([], []), ([4], [4]), ([3, 5], [3, 5]), ([], []), ([7, 6, 3, 0, 1, 2, 3, 4, 5, 6, 7], [6, 7])])
def rs6.B6 : List Nat := [0, 0, 2, 7, 0, 16, 63, 0, 255]
theorem rs6.tab6 : rtab .any (opsOf Try.f20 6) = rs6.T6 := by kernel_rfl
theorem rs6.bits6 : waitsOk rs6.T6.2 rs6.B6 = true := by kernel_rfl
theorem has_l0 (l : List Int) (z : Int) (hl : l.length ≤ 1000000) : ∀ (d k i : Nat), i + d = l.length → d < k → tutorref06_has.l0 k l z (i : Int) = some (decide (z ∈ l.drop i)) := by
  intro d
  induction d with
  | zero =>
    intro k i h hk
    obtain ⟨k, rfl⟩ : ∃ m, k = m + 1 := ⟨k - 1, by omega⟩
    rw [tutorref06_has.l0, if_neg (by omega), List.drop_of_length_le (by omega)]
    rfl
  | succ d ih =>
    intro k i h hk
    obtain ⟨k, rfl⟩ : ∃ m, k = m + 1 := ⟨k - 1, by omega⟩
    have hi : i < l.length := by omega
    have hd : l.drop i = l[i] :: l.drop (i + 1) := List.drop_eq_getElem_cons hi
    rw [tutorref06_has.l0, if_pos (by omega), if_pos (by omega), rd_nat hi, hd]
    by_cases e : l[i] = z
    · rw [if_pos e]
      simp [e]
    · rw [if_neg e, w64s (by omega), ih k (i + 1) (by omega) (by omega)]
      congr 1
      refine decide_eq_decide.2 ⟨fun h => List.mem_cons_of_mem _ h, fun h => ?_⟩
      rcases List.mem_cons.1 h with h | h
      · exact absurd h.symm e
      · exact h
theorem has_f (l : List Int) (z : Int) (hl : l.length ≤ 1000000) {k : Nat} (hk : l.length < k) : tutorref06_has.f k l z = some (decide (z ∈ l)) := by
  unfold tutorref06_has.f
  have := has_l0 l z hl l.length k 0 (by omega) hk
  simpa using this
/-- Is a number of class c ahead of i in (b), or not in (¬ b), the list? -/
def Some_ (C : Nat → Nat) (l : List Int) (b : Bool) (c i : Nat) : Prop := ∃ j, j < i ∧ C j = c ∧ decide ((j : Int) ∈ l) = b
theorem some_succ (C : Nat → Nat) (l : List Int) (b : Bool) (c i : Nat) : Some_ C l b c (i + 1) ↔ Some_ C l b c i ∨ (C i = c ∧ decide ((i : Int) ∈ l) = b) := by
  constructor
  · rintro ⟨j, h1, h2, h3⟩
    by_cases e : j = i
    · subst e; exact .inr ⟨h2, h3⟩
    · exact .inl ⟨j, by omega, h2, h3⟩
  · rintro (⟨j, h1, h2, h3⟩ | ⟨h2, h3⟩)
    · exact ⟨j, by omega, h2, h3⟩
    · exact ⟨i, by omega, h2, h3⟩
theorem info40 : (Try.prog.info? 40).map (fun i => (i.zero, i.size)) = some (some (.agg #[.slice none 0 0, .int .i64 0]), 2) := by kernel_rfl
/-- Two pieces in the other order. -/
theorem _root_.Go.Proofs.Ytdalpaobkmoomaa.Sp.Sep.swap {base : Nat} {a b : Res} {w : World} (h : Sep base [a, b] w) : Sep base [b, a] w :=
  ⟨fun r hr => h.1 r (by simp only [List.mem_cons, List.not_mem_nil, or_false] at hr ⊢; exact hr.symm), List.pairwise_cons.2 ⟨fun q hq k hk hq' => by rw [List.mem_singleton] at hq; subst hq; exact (List.pairwise_cons.1 h.2).1 b (by simp) k hq' hk, List.pairwise_singleton _ _⟩⟩
/-- A store into a row of numbers among the pieces. -/
theorem Sep.putInt' {base : Nat} {rs : List Res} {w : World} {g n cap : Nat} {xs : List Int} (h : Sep base rs w) (i : Nat) (hi : rs[i]? = some (ints base (.slice (some ⟨g, 0, none⟩) n cap) xs)) (j : Nat) (x : Int) (hbase : base ≤ w.heap.size) : Sep base (rs.set i (ints base (.slice (some ⟨g, 0, none⟩) n cap) (xs.set j x))) (w.setCell ⟨g, j, none⟩ (.int .i64 x)) := by
  obtain ⟨h2, h3⟩ := Kd.R_putg (h.get i hi) (j : Int) x
  rw [Int.toNat_natCast] at h2 h3
  exact h.upd i hi h2 (fun k hk hlt => h3.block k hlt (fun e => hk (show some k = some g from e))) (fun k hk => ⟨.inl hk, Kd.R_lt h2 k (show _ = some k from hk.symm)⟩) hbase h3.size
attribute [local go_sem] max2_int min2_int max_two min_two max_three min_three max_four min_four
set_option maxHeartbeats 16000000 in
set_option maxRecDepth 100000 in
theorem RSplit_bad (n N : Nat) (C : Nat → Nat) (A0 : Option Addr) (c0 : Nat) (l : List Int) (Al : Option Addr) (cl : Nat) (w : World) (hr0 : Kd.C (Kd.int .i64) w A0 n (lst n C)) (hc0 : n ≤ c0) (hr1 : Kd.C (Kd.int .i64) w Al l.length l) (hc1 : l.length ≤ cl) (hn : n ≤ 1000) (hN : N ≤ 1000) (hll : l.length ≤ 10000) (hb : ¬ ∀ x ∈ l, 0 ≤ x ∧ x < (n : Int)) : Calls Try.prog 20 #[.agg #[.slice A0 n c0, .int .i64 (N : Int)], .slice Al l.length cl] w fun e w' => e = .returned (.tuple #[.agg #[.slice A0 n c0, .int .i64 (N : Int)], .slice none 0 0, .int .i64 1]) ∧ Below w.heap.size w w' := by
  have HBAD := Aside0.mk hb
  clear hb
  have hu22 := Try.underlying22
  have hu40 := Try.underlying40
  have HC0 := Aside0.mk hr0
  have HC1 := Aside0.mk hr1
  have hz2 : ((w.alloc (.cells #[.slice A0 n c0, .int .i64 (N : Int)] 40)).alloc (.cells #[.slice none 0 0, .int .i64 0] 40)).heap[w.heap.size + 1]? = some (.cells #[.slice none 0 0, .int .i64 0] 40 (0, 0)) := by
    have h := blk_new (w.alloc (.cells #[.slice A0 n c0, .int .i64 (N : Int)] 40)) (.cells #[.slice none 0 0, .int .i64 0] 40)
    have e : (w.alloc (.cells #[.slice A0 n c0, .int .i64 (N : Int)] 40)).heap.size = w.heap.size + 1 := by simp
    rw [e] at h
    exact h
  have HS0 : Aside0 (Sep w.heap.size [blk w.heap.size #[.slice A0 n c0, .int .i64 (N : Int)] 40, blk (w.heap.size + 1) #[.slice none 0 0, .int .i64 0] 40] ((w.alloc (.cells #[.slice A0 n c0, .int .i64 (N : Int)] 40)).alloc (.cells #[.slice none 0 0, .int .i64 0] 40))) := ⟨((Sep.start w.heap.size 2 w).fillBlk 0 rfl rfl (blk_new w (.cells #[.slice A0 n c0, .int .i64 (N : Int)] 40)) (below_alloc (Below.refl w.heap.size w) (.cells #[.slice A0 n c0, .int .i64 (N : Int)] 40)) (Nat.le_refl _)).fillBlk 1 rfl (g := w.heap.size + 1) (by simp) hz2 (below_alloc (Below.refl _ _) (.cells #[.slice none 0 0, .int .i64 0] 40)) (by simp)⟩
  clear hz2
  have HB0 : Aside0 (Below w.heap.size w ((w.alloc (.cells #[.slice A0 n c0, .int .i64 (N : Int)] 40)).alloc (.cells #[.slice none 0 0, .int .i64 0] 40))) := ⟨below_alloc (below_alloc (Below.refl _ _) _) _⟩
  clear hr0 hr1
  go_enter Try.func20, Try.ntmps20
  go_wp2
  go_loopw [7] (fun v7 wr => ∃ (j : Nat), v7 = .int .i64 (j : Int) ∧ Aside0 (j ≤ l.length) ∧ Aside0 (∀ x ∈ l.take j, 0 ≤ x ∧ x < (n : Int)) ∧ Aside0 (Sep w.heap.size [blk w.heap.size #[.slice A0 n c0, .int .i64 (N : Int)] 40, blk (w.heap.size + 1) #[.slice none 0 0, .int .i64 0] 40] wr) ∧ Aside0 (Below w.heap.size w wr)) (fun v7 _ => l.length - (intOf v7).toNat)
  case atStart => exact ⟨0, rfl, ⟨by omega⟩, ⟨fun x hx => by simp at hx⟩, HS0, HB0⟩
  case round =>
    clear HS0 HB0
    obtain ⟨j, rfl, HJI, HOK, HS, HB⟩ := hrel
    by_cases hj : j < l.length
    · have HJ := Aside0.mk hj
      have hj' : (j : Int) < (l.length : Int) := by omega
      obtain ⟨x, hli⟩ : ∃ x, l[j] = x := ⟨_, rfl⟩
      obtain ⟨adl, el, hxl⟩ := Kd.at_int (Kd.C_below HC1.out HB.out) (j : Int) (by omega) hj'
      subst el
      rw [rd_nat hj, hli, Int.toNat_natCast] at hxl
      have hq0 : wr.cell? ⟨w.heap.size, 0, none⟩ = some (.slice A0 n c0) := (blk_cell (HS.out.get 0 rfl) 0).trans rfl
      have HTK : Aside0 (l.take (j + 1) = l.take j ++ [x]) := ⟨by rw [List.take_succ_eq_append_getElem hj, hli]⟩
      by_cases h1 : x < 0
      · clear hj hli
        have hz0 : wr.cell? ⟨w.heap.size + 1, 0, none⟩ = some (.slice none 0 0) := (blk_cell (HS.out.get 1 rfl) 0).trans rfl
        have hz1 : wr.cell? ⟨w.heap.size + 1, 1, none⟩ = some (.int .i64 0) := (blk_cell (HS.out.get 1 rfl) 1).trans rfl
        have hq1 : wr.cell? ⟨w.heap.size, 1, none⟩ = some (.int .i64 (N : Int)) := (blk_cell (HS.out.get 0 rfl) 1).trans rfl
        have hf0 := blk_frozen (HS.out.get 1 rfl) 0
        have hf1 := blk_frozen (HS.out.get 1 rfl) 1
        go_wp2
        go_quiet (fail)
        go_wp2
        refine bodyPost_ret (results_ctt rfl _ _ (w.heap.size + 1) 40 #[.slice A0 n c0, .int .i64 (N : Int)] (0, 0) _ rfl (by (with_reducible repeat (first | refine blk_drewN ?_ _ | refine blk_drew ?_)); refine blk_put (cs := #[.slice A0 n c0, .int .i64 0]) ?_ 1 _ rfl; (with_reducible repeat (first | refine blk_drewN ?_ _ | refine blk_drew ?_)); refine blk_put (cs := #[.slice none 0 0, .int .i64 0]) ?_ 0 _ rfl; (with_reducible repeat (first | refine blk_drewN ?_ _ | refine blk_drew ?_)); exact HS.out.get 1 rfl) Try.underlying40 rfl (by kernel_rfl)) rfl ?_
        refine ⟨rfl, ?_⟩
        first
        | exact below_set (below_set (pw_below_drewN HB.out _) (by show _ ≤ w.heap.size + 1; omega)) (by show _ ≤ w.heap.size + 1; omega)
        | exact pw_below_drewN (below_set (below_set HB.out (by show _ ≤ w.heap.size + 1; omega)) (by show _ ≤ w.heap.size + 1; omega)) _
      · by_cases h2 : x ≥ (n : Int)
        · clear hj hli
          have hz0 : wr.cell? ⟨w.heap.size + 1, 0, none⟩ = some (.slice none 0 0) := (blk_cell (HS.out.get 1 rfl) 0).trans rfl
          have hz1 : wr.cell? ⟨w.heap.size + 1, 1, none⟩ = some (.int .i64 0) := (blk_cell (HS.out.get 1 rfl) 1).trans rfl
          have hq1 : wr.cell? ⟨w.heap.size, 1, none⟩ = some (.int .i64 (N : Int)) := (blk_cell (HS.out.get 0 rfl) 1).trans rfl
          have hf0 := blk_frozen (HS.out.get 1 rfl) 0
          have hf1 := blk_frozen (HS.out.get 1 rfl) 1
          go_wp2
          go_quiet (fail)
          go_wp2
          refine bodyPost_ret (results_ctt rfl _ _ (w.heap.size + 1) 40 #[.slice A0 n c0, .int .i64 (N : Int)] (0, 0) _ rfl (by (with_reducible repeat (first | refine blk_drewN ?_ _ | refine blk_drew ?_)); refine blk_put (cs := #[.slice A0 n c0, .int .i64 0]) ?_ 1 _ rfl; (with_reducible repeat (first | refine blk_drewN ?_ _ | refine blk_drew ?_)); refine blk_put (cs := #[.slice none 0 0, .int .i64 0]) ?_ 0 _ rfl; (with_reducible repeat (first | refine blk_drewN ?_ _ | refine blk_drew ?_)); exact HS.out.get 1 rfl) Try.underlying40 rfl (by kernel_rfl)) rfl ?_
          refine ⟨rfl, ?_⟩
          first
          | exact below_set (below_set (pw_below_drewN HB.out _) (by show _ ≤ w.heap.size + 1; omega)) (by show _ ≤ w.heap.size + 1; omega)
          | exact pw_below_drewN (below_set (below_set HB.out (by show _ ≤ w.heap.size + 1; omega)) (by show _ ≤ w.heap.size + 1; omega)) _
        · have hOK2 : Aside0 (∀ y ∈ l.take (j + 1), 0 ≤ y ∧ y < (n : Int)) := ⟨fun y hy => by
            rw [HTK.out, List.mem_append, List.mem_singleton] at hy
            rcases hy with hy | rfl
            · exact HOK.out y hy
            · omega⟩
          clear hj hli
          go_wp2
          go_quiet (fail)
          go_wp2
          go_roundw
          case rel => exact ⟨j + 1, by go_num, ⟨by have := HJ.out; omega⟩, hOK2, ⟨HS.out.low (pw_below_drewN (Below.refl _ _) _)⟩, ⟨pw_below_drewN HB.out _⟩⟩
          case measure => have := HJ.out; simp [intOf]; omega
    · exact absurd (fun x hx => HOK.out x (by rw [List.take_of_length_le (by have := HJI.out; omega)]; exact hx)) HBAD.out
set_option maxHeartbeats 16000000 in
set_option maxRecDepth 100000 in
theorem RSplit_ok (n N : Nat) (C : Nat → Nat) (A0 : Option Addr) (c0 : Nat) (l : List Int) (Al : Option Addr) (cl : Nat) (w : World) (hr0 : Kd.C (Kd.int .i64) w A0 n (lst n C)) (hc0 : n ≤ c0) (hr1 : Kd.C (Kd.int .i64) w Al l.length l) (hc1 : l.length ≤ cl) (hn : n ≤ 1000) (hN : N ≤ 1000) (hll : l.length ≤ 10000) (hok : ∀ x ∈ l, 0 ≤ x ∧ x < (n : Int)) : Calls Try.prog 20 #[.agg #[.slice A0 n c0, .int .i64 (N : Int)], .slice Al l.length cl] w fun e w' => ∃ (v mv : Value), e = .returned (.tuple #[.agg #[v, .int .i64 ((splitOf n C N (l.map Int.toNat)).N : Int)], mv, .int .i64 0]) ∧ Sep w.heap.size [ints w.heap.size v (lst n (splitOf n C N (l.map Int.toNat)).C), ints w.heap.size mv (tl (splitOf n C N (l.map Int.toNat)).made)] w' ∧ Below w.heap.size w w' := by
  have HALL := Aside0.mk hok
  clear hok
  have hu22 := Try.underlying22
  have hu40 := Try.underlying40
  have HC0 := Aside0.mk hr0
  have HC1 := Aside0.mk hr1
  have hz2 : ((w.alloc (.cells #[.slice A0 n c0, .int .i64 (N : Int)] 40)).alloc (.cells #[.slice none 0 0, .int .i64 0] 40)).heap[w.heap.size + 1]? = some (.cells #[.slice none 0 0, .int .i64 0] 40 (0, 0)) := by
    have h := blk_new (w.alloc (.cells #[.slice A0 n c0, .int .i64 (N : Int)] 40)) (.cells #[.slice none 0 0, .int .i64 0] 40)
    have e : (w.alloc (.cells #[.slice A0 n c0, .int .i64 (N : Int)] 40)).heap.size = w.heap.size + 1 := by simp
    rw [e] at h
    exact h
  have HS0 : Aside0 (Sep w.heap.size [blk w.heap.size #[.slice A0 n c0, .int .i64 (N : Int)] 40, blk (w.heap.size + 1) #[.slice none 0 0, .int .i64 0] 40] ((w.alloc (.cells #[.slice A0 n c0, .int .i64 (N : Int)] 40)).alloc (.cells #[.slice none 0 0, .int .i64 0] 40))) := ⟨((Sep.start w.heap.size 2 w).fillBlk 0 rfl rfl (blk_new w (.cells #[.slice A0 n c0, .int .i64 (N : Int)] 40)) (below_alloc (Below.refl w.heap.size w) (.cells #[.slice A0 n c0, .int .i64 (N : Int)] 40)) (Nat.le_refl _)).fillBlk 1 rfl (g := w.heap.size + 1) (by simp) hz2 (below_alloc (Below.refl _ _) (.cells #[.slice none 0 0, .int .i64 0] 40)) (by simp)⟩
  clear hz2
  have HB0 : Aside0 (Below w.heap.size w ((w.alloc (.cells #[.slice A0 n c0, .int .i64 (N : Int)] 40)).alloc (.cells #[.slice none 0 0, .int .i64 0] 40))) := ⟨below_alloc (below_alloc (Below.refl _ _) _) _⟩
  clear hr0 hr1
  go_enter Try.func20, Try.ntmps20
  go_wp2
  go_loopw [7] (fun v7 wr => ∃ (j : Nat), v7 = .int .i64 (j : Int) ∧ Aside0 (j ≤ l.length) ∧ Aside0 (∀ x ∈ l.take j, 0 ≤ x ∧ x < (n : Int)) ∧ Aside0 (Sep w.heap.size [blk w.heap.size #[.slice A0 n c0, .int .i64 (N : Int)] 40, blk (w.heap.size + 1) #[.slice none 0 0, .int .i64 0] 40] wr) ∧ Aside0 (Below w.heap.size w wr)) (fun v7 _ => l.length - (intOf v7).toNat)
  case atStart => exact ⟨0, rfl, ⟨by omega⟩, ⟨fun x hx => by simp at hx⟩, HS0, HB0⟩
  case round =>
    clear HS0 HB0
    obtain ⟨j, rfl, HJI, HOK, HS, HB⟩ := hrel
    by_cases hj : j < l.length
    · have HJ := Aside0.mk hj
      have hj' : (j : Int) < (l.length : Int) := by omega
      obtain ⟨x, hli⟩ : ∃ x, l[j] = x := ⟨_, rfl⟩
      obtain ⟨adl, el, hxl⟩ := Kd.at_int (Kd.C_below HC1.out HB.out) (j : Int) (by omega) hj'
      subst el
      rw [rd_nat hj, hli, Int.toNat_natCast] at hxl
      have hq0 : wr.cell? ⟨w.heap.size, 0, none⟩ = some (.slice A0 n c0) := (blk_cell (HS.out.get 0 rfl) 0).trans rfl
      have HTK : Aside0 (l.take (j + 1) = l.take j ++ [x]) := ⟨by rw [List.take_succ_eq_append_getElem hj, hli]⟩
      by_cases h1 : x < 0
      · exact absurd (HALL.out x (hli ▸ List.getElem_mem hj)).1 (by omega)
      · by_cases h2 : x ≥ (n : Int)
        · exact absurd (HALL.out x (hli ▸ List.getElem_mem hj)).2 (by omega)
        · have hOK2 : Aside0 (∀ y ∈ l.take (j + 1), 0 ≤ y ∧ y < (n : Int)) := ⟨fun y hy => by
            rw [HTK.out, List.mem_append, List.mem_singleton] at hy
            rcases hy with hy | rfl
            · exact HOK.out y hy
            · omega⟩
          clear hj hli
          go_wp2
          go_quiet (fail)
          go_wp2
          go_roundw
          case rel => exact ⟨j + 1, by go_num, ⟨by have := HJ.out; omega⟩, hOK2, ⟨HS.out.low (pw_below_drewN (Below.refl _ _) _)⟩, ⟨pw_below_drewN HB.out _⟩⟩
          case measure => have := HJ.out; simp [intOf]; omega
    · have hj' : ¬ ((j : Int) < (l.length : Int)) := by omega
      clear hj HJI HOK
      obtain ⟨z40, i40⟩ := zero_of_info info40
      go_wp2
      rename World => wa
      refine start_ (n := 9) (S := fun w' => Below wa.heap.size wa w') (ds := [8]) #[false, false, false, false, false, false, false, false, false] (by kernel_rfl) rfl rfl (below_drew1 (Below.refl _ _)) (fun hHeld => ?_)
      refine with_tabW rs6.tab6 rs6.bits6 (fun HT_ HW_ => ?_)
      generalize wa.drew = wd at hHeld ⊢
      have hsep : Sp.Sep wa.heap.size [Sp.none_, Sp.none_] wd := Sp.Sep.start _ 2 _
      have hbel := hHeld
      refine pure_ (i := 1) (N := (some 38)) (v := ?_) (a' := ?_) #[false, true, false, false, false, false, false, false, false] rfl rfl (any_of HT_.out (by kernel_rfl)) (fun _ _ _ h => h) (Or.inl ⟨by rfl, ?_⟩) ?_ ?_
      rotate_left
      · intro w'
        go_simp
        with_reducible rfl
      rotate_left
      · simp only [Act.put, List.setIfInBounds_toArray, List.set_cons_zero, List.set_cons_succ, i64_w, i32_w]
        rfl
      refine pure_ (i := 4) (N := (some 41)) (v := ?_) (a' := ?_) #[false, true, false, false, true, false, false, false, false] rfl rfl (any_of HT_.out (by kernel_rfl)) (fun _ _ _ h => h) (Or.inl ⟨by rfl, ?_⟩) ?_ ?_
      rotate_left
      · intro w'
        go_simp
        with_reducible rfl
      rotate_left
      · simp only [Act.put, List.setIfInBounds_toArray, List.set_cons_zero, List.set_cons_succ, i64_w, i32_w]
        rfl
      refine take_ (i := 2) (N := (some 39)) (v := ?_) (a' := ?_) #[false, true, true, false, true, false, false, false, false] rfl rfl (take_ofW HT_.out HW_.out (by kernel_rfl)) (fun _ _ _ h => h) (Or.inl ⟨by rfl, ?_⟩) hHeld ?_ ?_
      rotate_left
      · intro w' s0
        have pq0 : w'.cell? ⟨w.heap.size, 0, none⟩ = some (.slice A0 n c0) := (blk_cell ((HS.out.low s0).get 0 rfl) 0).trans rfl
        have pq1 : w'.cell? ⟨w.heap.size, 1, none⟩ = some (.int .i64 (N : Int)) := (blk_cell ((HS.out.low s0).get 0 rfl) 1).trans rfl
        go_simp
        with_reducible rfl
      rotate_left
      · simp only [Act.put, List.setIfInBounds_toArray, List.set_cons_zero, List.set_cons_succ, i64_w, i32_w]
        rfl
      refine take_ (i := 5) (N := (some 42)) (v := ?_) (a' := ?_) #[false, true, true, false, true, true, false, false, false] rfl rfl (take_ofW HT_.out HW_.out (by kernel_rfl)) (fun _ _ _ h => h) (Or.inl ⟨by rfl, ?_⟩) hHeld ?_ ?_
      rotate_left
      · intro w' s0
        have pq0 : w'.cell? ⟨w.heap.size, 0, none⟩ = some (.slice A0 n c0) := (blk_cell ((HS.out.low s0).get 0 rfl) 0).trans rfl
        have pq1 : w'.cell? ⟨w.heap.size, 1, none⟩ = some (.int .i64 (N : Int)) := (blk_cell ((HS.out.low s0).get 0 rfl) 1).trans rfl
        go_simp
        with_reducible rfl
      rotate_left
      · simp only [Act.put, List.setIfInBounds_toArray, List.set_cons_zero, List.set_cons_succ, i64_w, i32_w]
        rfl
      refine join_ (σ := Value × Option Addr × Nat × Nat) 1 #[true, true, true, true, true, true, true, true, false] (fun s_ => [(37, s_.1), (40, .slice s_.2.1 n s_.2.2.1), (8, .pointer (some ⟨s_.2.2.2, 0, none⟩)), (43, .agg #[.slice s_.2.1 n s_.2.2.1, .int .i64 (N : Int)])]) (fun s_ w' => Sp.Sep wa.heap.size [Sp.ints wa.heap.size (.slice s_.2.1 n s_.2.2.1) (lst n C), Sp.blk s_.2.2.2 #[.slice none 0 0, .int .i64 0] 40] w' ∧ Below wa.heap.size wa w') ?_ ?_
      rotate_left
      · intro hJ0_3_7
        refine join_ (σ := Value × Nat) 3 #[true, true, true, false, true, true, false, true, false] (fun s_ => [(37, s_.1), (8, .pointer (some ⟨s_.2, 0, none⟩))]) (fun s_ w' => Sp.Sep wa.heap.size [Sp.ints wa.heap.size s_.1 [], Sp.blk s_.2 #[.slice none 0 0, .int .i64 0] 40] w' ∧ Below wa.heap.size wa w') ?_ ?_
        rotate_left
        · intro hJ0_7
          refine two_ (i := 0) (j := 7) (Ni := some 37) (Nj := some 8) #[true, true, true, false, true, true, false, false, false] #[false, true, true, false, true, true, false, true, false] rfl rfl rfl rfl (two_of HT_.out (by kernel_rfl)) (by decide) (by decide) (fun K hK => ?_) (fun K hK => ?_)
          · skip
            refine Kd.R_lit_step (Kd.int .i64) (w0 := wa) wa.heap.size 3 (by rfl) (N := 37) rfl (xs := ([] : List Int)) (inner := []) (ok := fun _ => True) (okp := fun _ => True) ?hr ?hp (fun _ hk => hk) trivial hbel hbel.size (by simp) ?_
            (case hr => first | (go_simp; done) | (go_simp; rfl))
            (case hp => exact (Reps.none _ _))
            intro vL w1 ho hb hg hnew
            have hsep1 : Sp.Sep wa.heap.size [Sp.ints wa.heap.size vL [], Sp.none_] w1 := hsep.fillNew 0 rfl rfl ho hg hnew hbel.size
            have hbel1 := hb
            clear ho hb hg hnew
            refine hK.out _ _ hbel1 (fun hHeld => ?_)
            clear hK K hsep hbel
            have hsep := hsep1
            have hbel := hbel1
            clear hsep1 hbel1
            refine norm_ (a' := ?_) ?_ ?_
            rotate_left
            · show Act.put _ (some 37) _ = _
              simp only [Act.put, List.setIfInBounds_toArray, List.set_cons_zero, List.set_cons_succ, i64_w, i32_w]
              rfl
            refine two_ (i := 3) (j := 7) (Ni := some 40) (Nj := some 8) #[true, true, true, true, true, true, false, false, false] #[true, true, true, false, true, true, false, true, false] rfl rfl rfl rfl (two_of HT_.out (by kernel_rfl)) (by decide) (by decide) (fun K hK => ?_) (fun K hK => ?_)
            · skip
              refine Kd.R_append_rows_step (Kd.int .i64) (w0 := wa) wa.heap.size (by rfl) (.tmp 37) (.tmp 39) 22 3 (.int .i64 0) 8 rfl Try.underlying22 info3 rfl (by decide) (by omega) vL [] (lst n C) A0 n c0 (fun _ => True) (fun _ => False) rfl rfl (Kd.R_mono (hsep.get 0 rfl) (fun _ _ => trivial)) (Kd.C_below HC0.out (below_step HB.out hbel)) (fun _ _ h => h) (fun _ h => h.elim) (fun _ _ => trivial) hbel hbel.size (by simp; omega) ?_
              intro vO w1 ho hb hg hat
              rw [List.nil_append] at ho
              obtain ⟨AO, cO, hv⟩ := Kd.R_slice ho
              rw [lst_len] at hv
              subst hv
              have hsep1 : Sp.Sep wa.heap.size [Sp.ints wa.heap.size (.slice AO n cO) (lst n C), Sp.none_] w1 := hsep.app 0 rfl rfl ho hg hat hbel.size
              have hbel1 := hb
              clear ho hb hg hat
              refine hK.out _ _ hbel1 (fun hHeld => ?_)
              clear hK K hsep hbel
              have hsep := hsep1
              have hbel := hbel1
              clear hsep1 hbel1
              refine norm_ (a' := ?_) ?_ ?_
              rotate_left
              · show Act.put _ (some 40) _ = _
                simp only [Act.put, List.setIfInBounds_toArray, List.set_cons_zero, List.set_cons_succ, i64_w, i32_w]
                rfl
              refine pure_ (i := 6) (N := (some 43)) (v := ?_) (a' := ?_) #[true, true, true, true, true, true, true, false, false] rfl rfl (any_of HT_.out (by kernel_rfl)) (fun _ _ _ h => h) (Or.inl ⟨by rfl, ?_⟩) ?_ ?_
              rotate_left
              · intro w'
                go_simp
                with_reducible rfl
              rotate_left
              · simp only [Act.put, List.setIfInBounds_toArray, List.set_cons_zero, List.set_cons_succ, i64_w, i32_w]
                rfl
              refine one_ (i := 7) (N := some 8) #[true, true, true, true, true, true, true, true, false] rfl rfl (one_of HT_.out (by kernel_rfl)) (by decide) (fun K hK => ?_)
              refine box_step ?hg (N := 8) ?hd (cs := #[.slice none 0 0, .int .i64 0]) (t := 40) ?hr ?_; (case hd => rfl); (case hg => rfl); (case hr => first | (go_simp; done) | (go_simp; rfl))
              intro g8 hg w1 hbox hb
              have hsep1 : Sp.Sep wa.heap.size [Sp.ints wa.heap.size (.slice AO n cO) (lst n C), Sp.blk g8 #[.slice none 0 0, .int .i64 0] 40] w1 := hsep.fillBlk 1 rfl hg hbox hb hbel.size
              have hbel1 := below_then hbel hbel.size hb
              clear hg hbox hb
              refine hK.out _ _ hbel1 (fun hHeld => ?_)
              clear hK K hsep hbel
              have hsep := hsep1
              have hbel := hbel1
              clear hsep1 hbel1
              refine norm_ (a' := ?_) ?_ ?_
              rotate_left
              · show Act.put _ (some 8) _ = _
                simp only [Act.put, List.setIfInBounds_toArray, List.set_cons_zero, List.set_cons_succ, i64_w, i32_w]
                rfl
              exact norm_ (by first | (simp only [putAll, Act.put, List.setIfInBounds_toArray, List.set_cons_zero, List.set_cons_succ]; done) | (simp only [putAll, Act.put, List.setIfInBounds_toArray, List.set_cons_zero, List.set_cons_succ]; rfl)) (hJ0_3_7 (vL, AO, cO, g8) _ ⟨hsep, hbel⟩)
            · skip
              refine box_step ?hg (N := 8) ?hd (cs := #[.slice none 0 0, .int .i64 0]) (t := 40) ?hr ?_; (case hd => rfl); (case hg => rfl); (case hr => first | (go_simp; done) | (go_simp; rfl))
              intro g8 hg w1 hbox hb
              have hsep1 : Sp.Sep wa.heap.size [Sp.ints wa.heap.size vL [], Sp.blk g8 #[.slice none 0 0, .int .i64 0] 40] w1 := hsep.fillBlk 1 rfl hg hbox hb hbel.size
              have hbel1 := below_then hbel hbel.size hb
              clear hg hbox hb
              refine hK.out _ _ hbel1 (fun hHeld => ?_)
              clear hK K hsep hbel
              have hsep := hsep1
              have hbel := hbel1
              clear hsep1 hbel1
              refine norm_ (a' := ?_) ?_ ?_
              rotate_left
              · show Act.put _ (some 8) _ = _
                simp only [Act.put, List.setIfInBounds_toArray, List.set_cons_zero, List.set_cons_succ, i64_w, i32_w]
                rfl
              exact norm_ (by first | (simp only [putAll, Act.put, List.setIfInBounds_toArray, List.set_cons_zero, List.set_cons_succ]; done) | (simp only [putAll, Act.put, List.setIfInBounds_toArray, List.set_cons_zero, List.set_cons_succ]; rfl)) (hJ0_7 (vL, g8) _ ⟨hsep, hbel⟩)
          · skip
            refine box_step ?hg (N := 8) ?hd (cs := #[.slice none 0 0, .int .i64 0]) (t := 40) ?hr ?_; (case hd => rfl); (case hg => rfl); (case hr => first | (go_simp; done) | (go_simp; rfl))
            intro g8 hg w1 hbox hb
            have hsep1 : Sp.Sep wa.heap.size [Sp.none_, Sp.blk g8 #[.slice none 0 0, .int .i64 0] 40] w1 := hsep.fillBlk 1 rfl hg hbox hb hbel.size
            have hbel1 := below_then hbel hbel.size hb
            clear hg hbox hb
            refine hK.out _ _ hbel1 (fun hHeld => ?_)
            clear hK K hsep hbel
            have hsep := hsep1
            have hbel := hbel1
            clear hsep1 hbel1
            refine norm_ (a' := ?_) ?_ ?_
            rotate_left
            · show Act.put _ (some 8) _ = _
              simp only [Act.put, List.setIfInBounds_toArray, List.set_cons_zero, List.set_cons_succ, i64_w, i32_w]
              rfl
            refine one_ (i := 0) (N := some 37) #[true, true, true, false, true, true, false, true, false] rfl rfl (one_of HT_.out (by kernel_rfl)) (by decide) (fun K hK => ?_)
            refine Kd.R_lit_step (Kd.int .i64) (w0 := wa) wa.heap.size 3 (by rfl) (N := 37) rfl (xs := ([] : List Int)) (inner := []) (ok := fun _ => True) (okp := fun _ => True) ?hr ?hp (fun _ hk => hk) trivial hbel hbel.size (by simp) ?_
            (case hr => first | (go_simp; done) | (go_simp; rfl))
            (case hp => exact (Reps.none _ _))
            intro vL w1 ho hb hg hnew
            have hsep1 : Sp.Sep wa.heap.size [Sp.ints wa.heap.size vL [], Sp.blk g8 #[.slice none 0 0, .int .i64 0] 40] w1 := hsep.fillNew 0 rfl rfl ho hg hnew hbel.size
            have hbel1 := hb
            clear ho hb hg hnew
            refine hK.out _ _ hbel1 (fun hHeld => ?_)
            clear hK K hsep hbel
            have hsep := hsep1
            have hbel := hbel1
            clear hsep1 hbel1
            refine norm_ (a' := ?_) ?_ ?_
            rotate_left
            · show Act.put _ (some 37) _ = _
              simp only [Act.put, List.setIfInBounds_toArray, List.set_cons_zero, List.set_cons_succ, i64_w, i32_w]
              rfl
            exact norm_ (by first | (simp only [putAll, Act.put, List.setIfInBounds_toArray, List.set_cons_zero, List.set_cons_succ]; done) | (simp only [putAll, Act.put, List.setIfInBounds_toArray, List.set_cons_zero, List.set_cons_succ]; rfl)) (hJ0_7 (vL, g8) _ ⟨hsep, hbel⟩)
        rintro ⟨vL, g8⟩ wj ⟨hsep, hbel⟩
        try dsimp only at hsep
        have hHeld : Below wa.heap.size wa wj := hbel
        refine norm_ (a' := ?_) ?_ ?_
        rotate_left
        · simp only [putAll, Act.put, List.setIfInBounds_toArray, List.set_cons_zero, List.set_cons_succ]
          rfl
        refine one_ (i := 3) (N := some 40) #[true, true, true, true, true, true, false, true, false] rfl rfl (one_of HT_.out (by kernel_rfl)) (by decide) (fun K hK => ?_)
        refine Kd.R_append_rows_step (Kd.int .i64) (w0 := wa) wa.heap.size (by rfl) (.tmp 37) (.tmp 39) 22 3 (.int .i64 0) 8 rfl Try.underlying22 info3 rfl (by decide) (by omega) vL [] (lst n C) A0 n c0 (fun _ => True) (fun _ => False) rfl rfl (Kd.R_mono (hsep.get 0 rfl) (fun _ _ => trivial)) (Kd.C_below HC0.out (below_step HB.out hbel)) (fun _ _ h => h) (fun _ h => h.elim) (fun _ _ => trivial) hbel hbel.size (by simp; omega) ?_
        intro vO w1 ho hb hg hat
        rw [List.nil_append] at ho
        obtain ⟨AO, cO, hv⟩ := Kd.R_slice ho
        rw [lst_len] at hv
        subst hv
        have hsep1 : Sp.Sep wa.heap.size [Sp.ints wa.heap.size (.slice AO n cO) (lst n C), Sp.blk g8 #[.slice none 0 0, .int .i64 0] 40] w1 := hsep.app 0 rfl rfl ho hg hat hbel.size
        have hbel1 := hb
        clear ho hb hg hat
        refine hK.out _ _ hbel1 (fun hHeld => ?_)
        clear hK K hsep hbel
        have hsep := hsep1
        have hbel := hbel1
        clear hsep1 hbel1
        refine norm_ (a' := ?_) ?_ ?_
        rotate_left
        · show Act.put _ (some 40) _ = _
          simp only [Act.put, List.setIfInBounds_toArray, List.set_cons_zero, List.set_cons_succ, i64_w, i32_w]
          rfl
        refine pure_ (i := 6) (N := (some 43)) (v := ?_) (a' := ?_) #[true, true, true, true, true, true, true, true, false] rfl rfl (any_of HT_.out (by kernel_rfl)) (fun _ _ _ h => h) (Or.inl ⟨by rfl, ?_⟩) ?_ ?_
        rotate_left
        · intro w'
          go_simp
          with_reducible rfl
        rotate_left
        · simp only [Act.put, List.setIfInBounds_toArray, List.set_cons_zero, List.set_cons_succ, i64_w, i32_w]
          rfl
        exact norm_ (by first | (simp only [putAll, Act.put, List.setIfInBounds_toArray, List.set_cons_zero, List.set_cons_succ]; done) | (simp only [putAll, Act.put, List.setIfInBounds_toArray, List.set_cons_zero, List.set_cons_succ]; rfl)) (hJ0_3_7 (vL, AO, cO, g8) _ ⟨hsep, hbel⟩)
      rintro ⟨vL, AO, cO, g8⟩ wj ⟨hsep, hbel⟩
      try dsimp only at hsep
      have hHeld : Below wa.heap.size wa wj := hbel
      refine norm_ (a' := ?_) ?_ ?_
      rotate_left
      · simp only [putAll, Act.put, List.setIfInBounds_toArray, List.set_cons_zero, List.set_cons_succ]
        rfl
      refine last_ (i := 8) (N := none) #[true, true, true, true, true, true, true, true, true] rfl rfl (one_of HT_.out (by kernel_rfl)) (by decide) (fun K hK => ?_)
      refine Sp.store_row_step (by rfl) rfl 40 (.tmp 8) (.tmp 43) rfl g8 #[.slice AO n cO, .int .i64 (N : Int)] rfl rfl 40 _ (hsep.get 1 rfl) (by rw [i40]; rfl) rfl (by simp [Value.oneCell']) ?_
      have hsep1 : Sp.Sep wa.heap.size [Sp.ints wa.heap.size (.slice AO n cO) (lst n C), Sp.blk g8 #[.slice AO n cO, .int .i64 (N : Int)] 40] _ := hsep.setStruct 1 rfl #[.slice AO n cO, .int .i64 (N : Int)] hbel.size
      have hbel1 := below_setRow hbel (hsep.bound 1 rfl (show g8 = g8 from rfl)).1 #[.slice AO n cO, .int .i64 (N : Int)]
      refine hK.out _ _ ?_
      clear hK K hsep hbel
      refine done_ (done_of HT_.out (by kernel_rfl)) ?_

      generalize World.setRow _ g8 _ = wb at hsep1 hbel1 ⊢
      have HSB : Aside0 (Sep w.heap.size [ints w.heap.size (.slice none 0 0) [], ints w.heap.size (.slice AO n cO) (lst n C), blk g8 #[.slice AO n cO, .int .i64 (N : Int)] 40, blk w.heap.size #[.slice A0 n c0, .int .i64 (N : Int)] 40, blk (w.heap.size + 1) #[.slice none 0 0, .int .i64 0] 40] wb) := ⟨by
        have h1 := HS.out.over hbel1 hsep1 HB.out.size
        have h2 := h1.upd 0 rfl (r' := ints w.heap.size (.slice AO n cO) (lst n C)) (Kd.R_lower (h1.get 0 rfl) HB.out.size) (fun _ _ _ => rfl) (fun k hk => ⟨.inl hk, (h1.bound 0 rfl hk).2⟩) (Nat.le_trans HB.out.size hbel1.size) (Nat.le_refl _)
        exact h2.nilRow (Kd.int .i64) 3⟩
      have HBB : Aside0 (Below w.heap.size w wb) := ⟨below_step HB.out hbel1⟩
      clear hsep1 hbel1 hHeld HS HB
      go_wp2
      go_loopw [10, 9] (fun v10 v9 wr => ∃ (c : Nat) (s : St) (vm : Value), v10 = .int .i64 (c : Int) ∧ vm = v9 ∧ Aside0 (c ≤ N) ∧ Aside0 (cuts n C (fun i => decide ((i : Int) ∈ l)) (List.range' c (N - c)) s = cuts n C (fun i => decide ((i : Int) ∈ l)) (List.range' 0 N) ⟨C, N, []⟩) ∧ Aside0 (s.N ≤ N + c ∧ s.made.length ≤ c) ∧ Aside0 (Sep w.heap.size [ints w.heap.size vm (tl s.made), ints w.heap.size (.slice AO n cO) (lst n s.C), blk g8 #[.slice AO n cO, .int .i64 (s.N : Int)] 40, blk w.heap.size #[.slice A0 n c0, .int .i64 (N : Int)] 40, blk (w.heap.size + 1) #[.slice none 0 0, .int .i64 0] 40] wr) ∧ Aside0 (Below w.heap.size w wr)) (fun v10 _ _ => N - (intOf v10).toNat)
      case atStart => exact ⟨0, ⟨C, N, []⟩, _, rfl, rfl, ⟨Nat.zero_le _⟩, ⟨rfl⟩, ⟨by simp, Nat.le_refl _⟩, ⟨HSB.out⟩, HBB⟩
      case round =>
        clear HSB HBB
        obtain ⟨c, s, vm, rfl, hvm, HC, HCU, HSZ, HS, HB⟩ := hrel
        subst hvm
        have hq1 : wr.cell? ⟨w.heap.size, 1, none⟩ = some (.int .i64 (N : Int)) := (blk_cell (HS.out.get 3 rfl) 1).trans rfl
        by_cases hc : c < N
        · have HCN := Aside0.mk hc
          have hc' : (c : Int) < (N : Int) := by omega
          have hdr : List.range' c (N - c) = c :: List.range' (c + 1) (N - (c + 1)) := by
            obtain ⟨r, hr⟩ : ∃ r, N - c = r + 1 := ⟨N - c - 1, by omega⟩
            rw [hr, show N - (c + 1) = r by omega]
            rfl
          rw [hdr, cuts] at HCU
          clear hc hdr
          go_wp2
          clear hq1
          go_loopw [13, 11, 12] (fun v13 v11 v12 wr2 => ∃ (i : Nat) (b1 b2 : Bool), v13 = .int .i64 (i : Int) ∧ v11 = .bool b1 ∧ v12 = .bool b2 ∧ Aside0 (i ≤ n) ∧ Aside0 (b1 = true ↔ Some_ C l true c i) ∧ Aside0 (b2 = true ↔ Some_ C l false c i) ∧ Aside0 (Sep w.heap.size [ints w.heap.size vm (tl s.made), ints w.heap.size (.slice AO n cO) (lst n s.C), blk g8 #[.slice AO n cO, .int .i64 (s.N : Int)] 40, blk w.heap.size #[.slice A0 n c0, .int .i64 (N : Int)] 40, blk (w.heap.size + 1) #[.slice none 0 0, .int .i64 0] 40] wr2) ∧ Aside0 (Below w.heap.size w wr2)) (fun v13 _ _ _ => n - (intOf v13).toNat)
          case atStart => exact ⟨0, false, false, rfl, rfl, rfl, ⟨Nat.zero_le _⟩, ⟨fun h => by simp at h, fun ⟨j, h1, _⟩ => by omega⟩, ⟨fun h => by simp at h, fun ⟨j, h1, _⟩ => by omega⟩, HS, HB⟩
          case round =>
            clear HS HB
            obtain ⟨i, b1, b2, rfl, rfl, rfl, HI, H1, H2, HS, HB⟩ := hrel
            have hq0 : wr.cell? ⟨w.heap.size, 0, none⟩ = some (.slice A0 n c0) := (blk_cell (HS.out.get 3 rfl) 0).trans rfl
            by_cases hi : i < n
            · have HIN := Aside0.mk hi
              have hi' : (i : Int) < (n : Int) := by omega
              obtain ⟨ad0, e0, hcell⟩ := Kd.at_int (Kd.C_below HC0.out HB.out) (i : Int) (by omega) hi'
              subst e0
              rw [rd_lst C hi, Int.toNat_natCast] at hcell
              have hS1 := some_succ C l true c i
              have hS2 := some_succ C l false c i
              have HSS := Aside0.mk (And.intro hS1 hS2)
              obtain ⟨ci, hci⟩ : ∃ ci, C i = ci := ⟨_, rfl⟩
              rw [hci] at hcell
              have HCI := Aside0.mk hci
              clear hi hS1 hS2 hci
              by_cases he : ci = c
              · have heb : ((ci : Int) == (c : Int)) = true := by rw [he]; simp
                have hhas := tutorref06_has.calls (l.length + 1) Al cl l (i : Int) _ wr (Kd.C_below HC1.out HB.out) hc1 (has_f l (i : Int) (by omega) (by omega))
                have HE := Aside0.mk he
                clear he
                by_cases hm : (i : Int) ∈ l
                · rw [decide_eq_true hm] at hhas
                  have HMM := Aside0.mk hm
                  clear hm
                  go_wp2_with (go_at_call 32; with_reducible refine hhas.mono ?_; rintro e w5 ⟨rfl, hd⟩; have HS5 := Aside0.mk (HS.out.low hd.below); have HB5 := Aside0.mk (below_step HB.out hd.below); clear hd)
                  go_roundw
                  case rel => exact ⟨i + 1, true, b2, by go_num, rfl, rfl, ⟨by have := HIN.out; omega⟩, ⟨by rw [HSS.out.1]; exact ⟨fun _ => .inr ⟨HCI.out.trans HE.out, decide_eq_true HMM.out⟩, fun _ => rfl⟩⟩, ⟨by rw [HSS.out.2, H2.out]; exact ⟨.inl, fun h => h.elim id (fun h => absurd (h.2.symm.trans (decide_eq_true HMM.out)) (by simp))⟩⟩, HS5, HB5⟩
                  case measure => have := HIN.out; simp [intOf]; omega
                · rw [decide_eq_false hm] at hhas
                  have HMM := Aside0.mk hm
                  clear hm
                  go_wp2_with (go_at_call 32; with_reducible refine hhas.mono ?_; rintro e w5 ⟨rfl, hd⟩; have HS5 := Aside0.mk (HS.out.low hd.below); have HB5 := Aside0.mk (below_step HB.out hd.below); clear hd)
                  go_roundw
                  case rel => exact ⟨i + 1, b1, true, by go_num, rfl, rfl, ⟨by have := HIN.out; omega⟩, ⟨by rw [HSS.out.1, H1.out]; exact ⟨.inl, fun h => h.elim id (fun h => absurd (h.2.symm.trans (decide_eq_false HMM.out)) (by simp))⟩⟩, ⟨by rw [HSS.out.2]; exact ⟨fun _ => .inr ⟨HCI.out.trans HE.out, decide_eq_false HMM.out⟩, fun _ => rfl⟩⟩, HS5, HB5⟩
                  case measure => have := HIN.out; simp [intOf]; omega
              · have heb : ((ci : Int) == (c : Int)) = false := by simp; omega
                have HE := Aside0.mk he
                clear he
                go_wp2
                go_roundw
                case rel => exact ⟨i + 1, b1, b2, by go_num, rfl, rfl, ⟨by have := HIN.out; omega⟩, ⟨by rw [HSS.out.1, H1.out]; exact ⟨.inl, fun h => h.elim id (fun h => absurd (HCI.out.symm.trans h.1) HE.out)⟩⟩, ⟨by rw [HSS.out.2, H2.out]; exact ⟨.inl, fun h => h.elim id (fun h => absurd (HCI.out.symm.trans h.1) HE.out)⟩⟩, HS, HB⟩
                case measure => have := HIN.out; simp [intOf]; omega
            · have hi' : ¬ ((i : Int) < (n : Int)) := by omega
              have hie : i = n := by have := HI.out; omega
              have HF1 : Aside0 (b1 = true ↔ Some_ C l true c n) := ⟨by rw [← hie]; exact H1.out⟩
              have HF2 : Aside0 (b2 = true ↔ Some_ C l false c n) := ⟨by rw [← hie]; exact H2.out⟩
              clear hi hie
              by_cases hbb : b1 = true ∧ b2 = true
              · obtain ⟨rfl, rfl⟩ := hbb
                have HCT : Aside0 (cutOf n C (fun i => decide ((i : Int) ∈ l)) c s = ⟨fun i => if C i = c ∧ decide ((i : Int) ∈ l) = true then s.N else s.C i, s.N + 1, s.made ++ [s.N]⟩) := ⟨by
                  unfold cutOf
                  rw [if_pos ⟨HF1.out.1 rfl, HF2.out.1 rfl⟩]⟩
                go_wp2
                clear hq0
                go_loopw [14] (fun v14 wr2 => ∃ (i : Nat) (X : Nat → Nat), v14 = .int .i64 (i : Int) ∧ Aside0 (i ≤ n) ∧ Aside0 (∀ j, j < n → X j = if j < i ∧ C j = c ∧ decide ((j : Int) ∈ l) = true then s.N else s.C j) ∧ Aside0 (Sep w.heap.size [ints w.heap.size vm (tl s.made), ints w.heap.size (.slice AO n cO) (lst n X), blk g8 #[.slice AO n cO, .int .i64 (s.N : Int)] 40, blk w.heap.size #[.slice A0 n c0, .int .i64 (N : Int)] 40, blk (w.heap.size + 1) #[.slice none 0 0, .int .i64 0] 40] wr2) ∧ Aside0 (Below w.heap.size w wr2)) (fun v14 _ => n - (intOf v14).toNat)
                case atStart => exact ⟨0, s.C, rfl, ⟨Nat.zero_le _⟩, ⟨fun j _ => by rw [if_neg (fun hh => by omega)]⟩, HS, HB⟩
                case round =>
                  clear HS HB
                  obtain ⟨i, X, rfl, HI, HX, HS, HB⟩ := hrel
                  have hq0 : wr.cell? ⟨w.heap.size, 0, none⟩ = some (.slice A0 n c0) := (blk_cell (HS.out.get 3 rfl) 0).trans rfl
                  have hg0 : wr.cell? ⟨g8, 0, none⟩ = some (.slice AO n cO) := (blk_cell (HS.out.get 2 rfl) 0).trans rfl
                  have hg1 : wr.cell? ⟨g8, 1, none⟩ = some (.int .i64 (s.N : Int)) := (blk_cell (HS.out.get 2 rfl) 1).trans rfl
                  by_cases hi : i < n
                  · have HIN := Aside0.mk hi
                    have hi' : (i : Int) < (n : Int) := by omega
                    obtain ⟨ad0, e0, hcell⟩ := Kd.at_int (Kd.C_below HC0.out HB.out) (i : Int) (by omega) hi'
                    subst e0
                    rw [rd_lst C hi, Int.toNat_natCast] at hcell
                    obtain ⟨ci, hci⟩ : ∃ ci, C i = ci := ⟨_, rfl⟩
                    rw [hci] at hcell
                    have HCI := Aside0.mk hci
                    have keep : ¬ (ci = c ∧ decide ((i : Int) ∈ l) = true) → ∀ j, j < n → X j = if j < i + 1 ∧ C j = c ∧ decide ((j : Int) ∈ l) = true then s.N else s.C j := fun hno j hj => by
                      rw [HX.out j hj]
                      by_cases ej : j = i
                      · subst ej
                        rw [if_neg (fun hh => by omega), if_neg (fun hh => hno ⟨HCI.out.symm.trans hh.2.1, hh.2.2⟩)]
                      · by_cases g : C j = c ∧ decide ((j : Int) ∈ l) = true
                        · by_cases g2 : j < i
                          · rw [if_pos ⟨g2, g⟩, if_pos ⟨by omega, g⟩]
                          · rw [if_neg (fun hh => g2 hh.1), if_neg (fun hh => by omega)]
                        · rw [if_neg (fun hh => g hh.2), if_neg (fun hh => g hh.2)]
                    have HKP := Aside0.mk keep
                    clear hci keep
                    by_cases he : ci = c
                    · have heb : ((ci : Int) == (c : Int)) = true := by rw [he]; simp
                      have hhas := tutorref06_has.calls (l.length + 1) Al cl l (i : Int) _ wr (Kd.C_below HC1.out HB.out) hc1 (has_f l (i : Int) (by omega) (by omega))
                      have HE := Aside0.mk he
                      clear he
                      by_cases hm : (i : Int) ∈ l
                      · rw [decide_eq_true hm] at hhas
                        have HMM := Aside0.mk hm
                        obtain ⟨go, co', hvo⟩ := ints_some (HS.out.get 1 rfl) (fun e => by have h2 := lst_len n X; rw [e] at h2; simp at h2; omega)
                        injection hvo with hv1 hv2 hv3
                        subst hv1
                        clear hm hi hv2 hv3
                        go_wp2_with (go_at_call 32; with_reducible refine hhas.mono ?_; rintro e w5 ⟨rfl, hd⟩; have HS5 := Aside0.mk (HS.out.low hd.below); have HB5 := Aside0.mk (below_step HB.out hd.below); have hg0 : w5.cell? ⟨g8, 0, none⟩ = some (.slice (some ⟨go, 0, none⟩) n cO) := (blk_cell (HS5.out.get 2 rfl) 0).trans rfl; have hg1 : w5.cell? ⟨g8, 1, none⟩ = some (.int .i64 (s.N : Int)) := (blk_cell (HS5.out.get 2 rfl) 1).trans rfl; have hoc := row_cell (HS5.out.get 1 rfl) HIN.out; have hof := row_frozen (HS5.out.get 1 rfl) i; clear hd)
                        go_roundw
                        case rel =>
                          refine ⟨i + 1, upd X i s.N, by go_num, ⟨by have := HIN.out; omega⟩, ⟨fun j hj => ?_⟩, ⟨?_⟩, ⟨below_set HB5.out (HS5.out.bound 1 rfl (k := go) rfl).1⟩⟩
                          · by_cases ej : j = i
                            · subst ej
                              rw [upd_at, if_pos ⟨by omega, HCI.out.trans HE.out, decide_eq_true HMM.out⟩]
                            · rw [upd_ne _ _ ej, HX.out j hj]
                              by_cases g : C j = c ∧ decide ((j : Int) ∈ l) = true
                              · by_cases g2 : j < i
                                · rw [if_pos ⟨g2, g⟩, if_pos ⟨by omega, g⟩]
                                · rw [if_neg (fun hh => g2 hh.1), if_neg (fun hh => by omega)]
                              · rw [if_neg (fun hh => g hh.2), if_neg (fun hh => g hh.2)]
                          · have h5 := Sep.putInt' HS5.out 1 rfl i (s.N : Int) HB5.out.size
                            rw [lst_set X HIN.out s.N] at h5
                            exact h5
                        case measure => have := HIN.out; simp [intOf]; omega
                      · rw [decide_eq_false hm] at hhas
                        have HMM := Aside0.mk hm
                        clear hm hi
                        go_wp2_with (go_at_call 32; with_reducible refine hhas.mono ?_; rintro e w5 ⟨rfl, hd⟩; have HS5 := Aside0.mk (HS.out.low hd.below); have HB5 := Aside0.mk (below_step HB.out hd.below); clear hd)
                        go_roundw
                        case rel => exact ⟨i + 1, X, by go_num, ⟨by have := HIN.out; omega⟩, ⟨HKP.out (fun hh => absurd (hh.2.symm.trans (decide_eq_false HMM.out)) (by simp))⟩, HS5, HB5⟩
                        case measure => have := HIN.out; simp [intOf]; omega
                    · have heb : ((ci : Int) == (c : Int)) = false := by simp; omega
                      have HE := Aside0.mk he
                      clear he hi
                      go_wp2
                      go_roundw
                      case rel => exact ⟨i + 1, X, by go_num, ⟨by have := HIN.out; omega⟩, ⟨HKP.out (fun hh => HE.out hh.1)⟩, HS, HB⟩
                      case measure => have := HIN.out; simp [intOf]; omega
                  · have hi' : ¬ ((i : Int) < (n : Int)) := by omega
                    have hie : i = n := by have := HI.out; omega
                    have hXC : lst n X = lst n (fun i => if C i = c ∧ decide ((i : Int) ∈ l) = true then s.N else s.C i) := lst_congr (fun j hj => by rw [HX.out j hj]; simp [hie, hj])
                    have HS2 : Aside0 (Sep w.heap.size [ints w.heap.size vm (tl s.made), ints w.heap.size (.slice AO n cO) (lst n (fun i => if C i = c ∧ decide ((i : Int) ∈ l) = true then s.N else s.C i)), blk g8 #[.slice AO n cO, .int .i64 (s.N : Int)] 40, blk w.heap.size #[.slice A0 n c0, .int .i64 (N : Int)] 40, blk (w.heap.size + 1) #[.slice none 0 0, .int .i64 0] 40] wr) := ⟨by have h := HS.out; rw [hXC] at h; exact h⟩
                    have HMB : Aside0 (((tl s.made).length + 1) * 8 ≤ 140737488355328) := ⟨by have := HSZ.out; have := HCN.out; rw [tl_len]; omega⟩
                    have HNW : Aside0 (IntKind.i64.wrap ((s.N : Int) + 1) = ((s.N + 1 : Nat) : Int)) := ⟨by rw [i64_w, w64s (by have := HSZ.out; have := HCN.out; omega)]⟩
                    clear hi hie hXC HS hg0
                    have hnw := HNW.out
                    go_wp2_with ((with_reducible refine gate_builtin (b := .append) (xs := #[.tmp 98, .tmp 101]) rfl ?_); at_builtin; (refine Kd.R_append (Kd.int .i64) (w0 := w) w.heap.size rfl (.tmp 98) (.tmp 101) 22 3 (.int .i64 0) 8 rfl Try.underlying22 info3 rfl (by decide) (by omega) vm (tl s.made) (s.N : Int) [.int .i64 (s.N : Int)] (fun _ => True) (fun _ => False) rfl (by simp [Act.eval]) rfl (fun _ hk => hk.elim) (fun _ _ => trivial) (Kd.R_mono (HS2.out.get 0 rfl) (fun _ _ => trivial)) HB.out HB.out.size HMB.out ?_; intro v8 w8 ho hb hg hat; rw [← tl_snoc] at ho; have HS8 := Aside0.mk (HS2.out.app 0 rfl rfl ho hg hat HB.out.size); have HB8 := Aside0.mk hb; have hg1 : w8.cell? ⟨g8, 1, none⟩ = some (.int .i64 (s.N : Int)) := (blk_cell (HS8.out.get 2 rfl) 1).trans rfl; have hgf := blk_frozen (HS8.out.get 2 rfl) 1; have HS9 := Aside0.mk (HS8.out.cell 2 rfl 1 (.int .i64 ((s.N + 1 : Nat) : Int)) rfl HB8.out.size); clear ho hb hg hat))
                    go_roundw
                    case rel =>
                      refine ⟨c + 1, ⟨fun i => if C i = c ∧ decide ((i : Int) ∈ l) = true then s.N else s.C i, s.N + 1, s.made ++ [s.N]⟩, _, by go_num, rfl, ⟨by have := HCN.out; omega⟩, ⟨by have h := HCU.out; rw [HCT.out] at h; exact h⟩, ⟨by have := HSZ.out; refine ⟨?_, ?_⟩; (show s.N + 1 ≤ N + (c + 1); omega); (show (s.made ++ [s.N]).length ≤ c + 1; simp; omega)⟩, ⟨HS9.out⟩, ⟨below_set HB8.out (HS8.out.bound 2 rfl (k := g8) rfl).1⟩⟩
                    case measure => have := HCN.out; simp [intOf]; omega
              · have HCT : Aside0 (cutOf n C (fun i => decide ((i : Int) ∈ l)) c s = s) := ⟨by
                  unfold cutOf
                  rw [if_neg (fun h => hbb ⟨HF1.out.2 h.1, HF2.out.2 h.2⟩)]⟩
                cases b1 with
                | false =>
                  clear hbb
                  go_wp2
                  go_roundw
                  case rel => exact ⟨c + 1, s, _, by go_num, rfl, ⟨by have := HCN.out; omega⟩, ⟨by have h := HCU.out; rw [HCT.out] at h; exact h⟩, ⟨by have := HSZ.out; omega⟩, HS, HB⟩
                  case measure => have := HCN.out; simp [intOf]; omega
                | true =>
                  obtain rfl : b2 = false := by simpa using hbb
                  clear hbb
                  go_wp2
                  go_roundw
                  case rel => exact ⟨c + 1, s, _, by go_num, rfl, ⟨by have := HCN.out; omega⟩, ⟨by have h := HCU.out; rw [HCT.out] at h; exact h⟩, ⟨by have := HSZ.out; omega⟩, HS, HB⟩
                  case measure => have := HCN.out; simp [intOf]; omega
        · have hc' : ¬ ((c : Int) < (N : Int)) := by omega
          have hce : N - c = 0 := by have := HC.out; omega
          rw [hce] at HCU
          have HFIN : Aside0 (s.N = (splitOf n C N (l.map Int.toNat)).N ∧ s.made = (splitOf n C N (l.map Int.toNat)).made ∧ lst n s.C = lst n (splitOf n C N (l.map Int.toNat)).C) := ⟨by
            have hD : ∀ i, i < n → decide ((i : Int) ∈ l) = decide (i ∈ l.map Int.toNat) := fun i _ => decide_eq_decide.2 (by
              rw [List.mem_map]
              constructor
              · intro hu
                exact ⟨(i : Int), hu, Int.toNat_natCast i⟩
              · rintro ⟨u, hu, e⟩
                have := (HALL.out u hu).1
                rw [← e, Int.toNat_of_nonneg this]
                exact hu)
            obtain ⟨g1, g2, g3⟩ := cuts_congr (C0 := C) hD (List.range N) ⟨C, N, []⟩ ⟨C, N, []⟩ rfl rfl (fun _ _ => rfl)
            have hs : s = cuts n C (fun i => decide ((i : Int) ∈ l)) (List.range' 0 N) ⟨C, N, []⟩ := HCU.out
            have hr : List.range' 0 N = List.range N := List.range_eq_range'.symm
            rw [hr] at hs
            unfold splitOf
            rw [← g1, ← g2, ← lst_congr g3, ← hs]
            exact ⟨rfl, rfl, rfl⟩⟩
          have hz0 : wr.cell? ⟨w.heap.size + 1, 0, none⟩ = some (.slice none 0 0) := (blk_cell (HS.out.get 4 rfl) 0).trans rfl
          have hz1 : wr.cell? ⟨w.heap.size + 1, 1, none⟩ = some (.int .i64 0) := (blk_cell (HS.out.get 4 rfl) 1).trans rfl
          have hg0 : wr.cell? ⟨g8, 0, none⟩ = some (.slice AO n cO) := (blk_cell (HS.out.get 2 rfl) 0).trans rfl
          have hg1 : wr.cell? ⟨g8, 1, none⟩ = some (.int .i64 (s.N : Int)) := (blk_cell (HS.out.get 2 rfl) 1).trans rfl
          have hf0 := blk_frozen (HS.out.get 4 rfl) 0
          have hf1 := blk_frozen (HS.out.get 4 rfl) 1
          have hS2 := (HS.out.cell 4 rfl 0 (.slice AO n cO) rfl HB.out.size).cell 4 rfl 1 (.int .i64 (s.N : Int)) rfl (by have := HB.out.size; simpa using this)
          have HSL := Aside0.mk hS2
          clear hS2 hc hce HCU
          go_wp2
          refine bodyPost_ret (results_ctt rfl _ _ (w.heap.size + 1) 40 #[.slice AO n cO, .int .i64 (s.N : Int)] (0, 0) _ rfl (HSL.out.get 4 rfl) Try.underlying40 rfl (by kernel_rfl)) rfl ?_
          refine ⟨.slice AO n cO, vm, by have h := HFIN.out.1; rw [← h]; rfl, ?_, below_set (below_set HB.out (by show _ ≤ w.heap.size + 1; omega)) (by show _ ≤ w.heap.size + 1; omega)⟩
          have h := HSL.out
          have e2 := HFIN.out.2.1
          have e3 := HFIN.out.2.2
          rw [← e2, ← e3]
          exact (h.sub (rs' := [ints w.heap.size vm (tl s.made), ints w.heap.size (.slice AO n cO) (lst n s.C)]) (.cons_cons _ (.cons_cons _ (List.nil_sublist _)))).swap
end Go.Proofs.Ytdalpaobkmoomaa.X
end

section
namespace Go.Proofs.Ytdalpaobkmoomaa.X
open Go.RowKit Go.Proofs.YtdalpaobkmoomaaW.PrintWords Go.Proofs.YtdalpaobkmoomaaW.PrintLast Go.Proofs.YtdalpaobkmoomaaW.PrintMore
open Go.Proofs.Ytdalpaobkmoomaa Go.Proofs.Ytdalpaobkmoomaa.Sp
def marked (l : List Int) : List Int := l ++ [-771, -772]
theorem marked_len (l : List Int) : (marked l).length = l.length + 2 := by simp [marked]
attribute [local go_sem] max2_int min2_int max_two min_two max_three min_three max_four min_four
set_option maxHeartbeats 8000000 in
set_option maxRecDepth 100000 in
theorem Lent_walk (l : List Int) (A : Option Addr) (c : Nat) (w : World) (hr : Kd.C (Kd.int .i64) w A l.length l) (hc : l.length ≤ c) (hl : l.length ≤ 1000000) :
    Calls Try.prog 19 #[.slice A l.length c] w fun e w' => ∃ (g cv : Nat), e = .returned (.slice (some ⟨g, 0, none⟩) l.length cv) ∧ Kd.R (Kd.int .i64) 3 w' w.heap.size (fun _ => True) (.slice (some ⟨g, 0, none⟩) (l.length + 2) cv) (marked l) ∧ Below w.heap.size w w' := by
  have hu22 := Try.underlying22
  have HR := Aside0.mk hr
  clear hr
  go_enter Try.func19, Try.ntmps19
  go_wp2_with (first
  | ((with_reducible refine gate_builtin (b := .append) (xs := #[.tmp 6, .tmp 7]) rfl ?_)
     at_builtin
     refine Kd.R_append_rows (Kd.int .i64) (w0 := w) w.heap.size rfl (.tmp 6) (.tmp 7) 22 3 (.int .i64 0) 8 rfl Try.underlying22 info3 rfl (by decide) (by omega) v6 l [-771, -772] (some ⟨w2.heap.size, 0, none⟩) 2 2 (fun _ => True) (fun _ => False) rfl rfl (Kd.R_mono HR3.out (fun _ _ => trivial)) HC3.out (fun _ _ h => h) (fun _ h => h.elim) (fun _ _ => trivial) HB3.out HB3.out.size (by omega) ?_
     intro v8 w4 ho hb hg hat
     obtain ⟨g, cv, hv⟩ := ints_some ho (by simp)
     have hv' : v8 = .slice (some ⟨g, 0, none⟩) (l.length + 2) cv := by rw [hv]; congr 1; simp
     subst hv'
     have HR4 : Aside0 (Kd.R (Kd.int .i64) 3 w4 w.heap.size (fun _ => True) (.slice (some ⟨g, 0, none⟩) (l.length + 2) cv) (marked l)) := ⟨ho⟩
     have HB4 := Aside0.mk hb
     have hcv : l.length + 2 ≤ cv := (Kd.R_reads' ho).2.1
     have hc1 : (l.length : Int) ≤ (cv : Int) := by omega
     have hc2 : (0 : Int) ≤ (l.length : Int) := by omega
     clear ho hb hg hat hv)
  | ((with_reducible refine gate_dst (N := 7) rfl ?_)
     refine Kd.event_run rfl (v := .slice (some ⟨w2.heap.size, 0, none⟩) 2 2) (w1 := w2.alloc (.cells #[.int .i64 (-771), .int .i64 (-772)] 3)) (by first | (go_simp; done) | (go_simp; rfl)) ?_
     have hC3 : Kd.C (Kd.int .i64) (w2.alloc (.cells #[.int .i64 (-771), .int .i64 (-772)] 3)) (some ⟨w2.heap.size, 0, none⟩) 2 [-771, -772] := lit_C (blk_new w2 _) rfl rfl (by decide)
     have HC3 := Aside0.mk hC3
     have HR3 := Aside0.mk (Kd.R_alloc HR2.out (.cells #[.int .i64 (-771), .int .i64 (-772)] 3))
     have HB3 := Aside0.mk (below_alloc HB2.out (.cells #[.int .i64 (-771), .int .i64 (-772)] 3))
     clear hC3)
  | ((with_reducible refine gate_builtin (b := .append) (xs := #[.tmp 4, .tmp 5]) rfl ?_)
     at_builtin
     refine Kd.R_append_rows (Kd.int .i64) (w0 := w) w.heap.size rfl (.tmp 4) (.tmp 5) 22 3 (.int .i64 0) 8 rfl Try.underlying22 info3 rfl (by decide) (by omega) v4 [] l A l.length c (fun _ => True) (fun _ => False) rfl rfl (Kd.R_mono HR1.out (fun _ _ => trivial)) (Kd.C_below HR.out HB1.out) (fun _ _ h => h) (fun _ h => h.elim) (fun _ _ => trivial) HB1.out HB1.out.size (by simp; omega) ?_
     intro v6 w2 ho hb hg hat
     rw [List.nil_append] at ho
     have HR2 := Aside0.mk ho
     have HB2 := Aside0.mk hb
     clear ho hb hg hat)
  | ((with_reducible refine gate_dst (N := 4) rfl ?_)
     refine Kd.R_lit (Kd.int .i64) (w0 := w) w.heap.size 3 rfl (N := 4) rfl (xs := ([] : List Int)) (inner := []) (ok := fun _ => True) (okp := fun _ => True) ?hr ?hp (fun _ hk => hk) trivial (Below.refl _ _) (Nat.le_refl _) (by simp) ?_
     (case hr => first | (go_simp; done) | (go_simp; rfl))
     (case hp => exact (Reps.none _ _))
     intro v4 w1 ho hb hg hnew
     have HR1 := Aside0.mk ho
     have HB1 := Aside0.mk hb
     clear ho hb hg hnew))
  go_ret
  exact ⟨g, cv, rfl, HR4.out, HB4.out⟩
theorem marked_C {w : World} {g n : Nat} {l : List Int} (h : Kd.C (Kd.int .i64) w (some ⟨g, 0, none⟩) n (marked l)) : Kd.C (Kd.int .i64) w (some ⟨g, 0, none⟩) l.length l := by
  have hn : (marked l).length = n := Kd.C_len h
  subst hn
  have h2 := Kd.C_take h (m := l.length) (by rw [marked_len]; omega)
  have e : (marked l).take l.length = l := by simp [marked]
  rwa [e] at h2
set_option maxHeartbeats 8000000 in
set_option maxRecDepth 100000 in
theorem Kept_walk (l : List Int) (g cv : Nat) (A1 : Option Addr) (c1 : Nat) (w : World) (hr : Kd.C (Kd.int .i64) w (some ⟨g, 0, none⟩) (l.length + 2) (marked l)) (hcv : l.length + 2 ≤ cv) (hr1 : Kd.C (Kd.int .i64) w A1 l.length l) (hc1 : l.length ≤ c1) (hl : l.length ≤ 1000000) :
    Calls Try.prog 21 #[.slice (some ⟨g, 0, none⟩) l.length cv, .slice A1 l.length c1] w fun e w' => e = .returned (.bool true) ∧ Below w.heap.size w w' := by
  have hu22 := Try.underlying22
  have hsm := same_calls (some ⟨g, 0, none⟩) l.length cv l A1 l.length c1 l w (marked_C hr) (by omega) hr1 hc1 (by omega)
  rw [decide_eq_true rfl] at hsm
  have HR := Aside0.mk hr
  have hw2 : IntKind.i64.wrap ((l.length : Int) + 2) = ((l.length + 2 : Nat) : Int) := by rw [i64_w]; exact w64p (a := l.length) (b := 2) (by omega) (by omega)
  have hb1 : ((l.length + 2 : Nat) : Int) ≤ (cv : Int) := by omega
  have hb2 : (0 : Int) ≤ ((l.length + 2 : Nat) : Int) := by omega
  have hw1 : IntKind.i64.wrap ((l.length : Int) + 1) = ((l.length + 1 : Nat) : Int) := by rw [i64_w]; exact w64s (by omega)
  have hb3 : (l.length : Int) < ((l.length + 2 : Nat) : Int) := by omega
  have hb4 : ((l.length + 1 : Nat) : Int) < ((l.length + 2 : Nat) : Int) := by omega
  clear hr hr1
  have cells : ∀ W, Below w.heap.size w W → W.cell? ⟨g, l.length, none⟩ = some (.int .i64 (-771)) ∧ W.cell? ⟨g, l.length + 1, none⟩ = some (.int .i64 (-772)) := fun W hb => by
    have hC := Kd.C_below HR.out hb
    obtain ⟨ad, e, h1⟩ := Kd.at_int hC (l.length : Int) (by omega) (by omega)
    injection e with e
    subst e
    obtain ⟨ad, e, h2⟩ := Kd.at_int hC ((l.length + 1 : Nat) : Int) (by omega) (by omega)
    injection e with e
    subst e
    rw [Int.toNat_natCast, Addr.add_mid, Nat.zero_add, rd_nat (by rw [marked_len]; omega)] at h1 h2
    refine ⟨h1.trans ?_, h2.trans ?_⟩
    · simp [marked]
    · simp [marked]
  go_enter Try.func21, Try.ntmps21
  go_wp2_with (go_at_call 16; with_reducible refine hsm.mono ?_; rintro e w1 ⟨rfl, hd⟩; have HB1 := Aside0.mk hd.below; have hx1 := (cells w1 HB1.out).1; have hx2 := (cells w1 HB1.out).2; clear hd)
  go_ret
  exact ⟨rfl, HB1.out⟩
end Go.Proofs.Ytdalpaobkmoomaa.X
end

section
namespace Go.Proofs.Ytdalpaobkmoomaa.X
open Go.RowKit Go.Proofs.YtdalpaobkmoomaaW.PrintWords Go.Proofs.YtdalpaobkmoomaaW.PrintLast Go.Proofs.YtdalpaobkmoomaaW.PrintMore
open Go.Proofs.Ytdalpaobkmoomaa Go.Proofs.Ytdalpaobkmoomaa.Sp
theorem refMembers_l0 {n : Nat} {C : Nat → Nat} (hn : n ≤ 1000) (c : Nat) (N : Int) : ∀ (d k i : Nat) (acc : List Nat), i + d = n → d < k → acc.length ≤ i → tutorref06_Members.l0 k (c : Int) (tl acc) (i : Int) (lst n C) N = some (tl (acc ++ (List.range' i d).filter fun j => C j == c), 0) := by
  intro d
  induction d with
  | zero =>
    intro k i acc h hk ha
    obtain ⟨k, rfl⟩ : ∃ m, k = m + 1 := ⟨k - 1, by omega⟩
    rw [tutorref06_Members.l0, if_neg (by rw [lst_len]; omega)]
    simp
  | succ d ih =>
    intro k i acc h hk ha
    obtain ⟨k, rfl⟩ : ∃ m, k = m + 1 := ⟨k - 1, by omega⟩
    have hi : i < n := by omega
    have hr : List.range' i (d + 1) = i :: List.range' (i + 1) d := rfl
    rw [tutorref06_Members.l0, if_pos (by rw [lst_len]; omega), if_pos (by omega), rd_lst C hi, hr]
    by_cases e : C i = c
    · rw [if_pos (by rw [e]), if_pos (by rw [tl_len]; omega), ← tl_snoc, w64s (by omega), ih k (i + 1) (acc ++ [i]) (by omega) (by omega) (by simp; omega), List.filter_cons_of_pos (by simp [e])]
      simp
    · rw [if_neg (fun h => e (by omega)), w64s (by omega), ih k (i + 1) acc (by omega) (by omega) (by omega), List.filter_cons_of_neg (by simp [e])]
theorem refMembers_is {n N : Nat} {C : Nat → Nat} (hn : n ≤ 1000) (c : Int) {k : Nat} (hk : 2000 ≤ k) : tutorref06_Members.f k (lst n C) (N : Int) c = if 0 ≤ c ∧ c < (N : Int) then some (tl (members n C c.toNat), 0) else some ([], 1) := by
  unfold tutorref06_Members.f
  obtain ⟨k, rfl⟩ : ∃ m, k = m + 1 := ⟨k - 1, by omega⟩
  by_cases h1 : c < 0
  · rw [if_pos h1, tutorref06_Members.j0, if_pos rfl, if_neg (by omega)]
  · rw [if_neg h1]
    by_cases h2 : c ≥ (N : Int)
    · rw [decide_eq_true h2, tutorref06_Members.j0, if_pos rfl, if_neg (by omega)]
    · rw [decide_eq_false h2, tutorref06_Members.j0, if_neg (by simp), if_pos (by omega)]
      obtain ⟨m, rfl⟩ : ∃ m : Nat, c = (m : Int) := ⟨c.toNat, by omega⟩
      have h3 := refMembers_l0 (C := C) hn m (N : Int) n k 0 [] (by omega) (by omega) (Nat.le_refl _)
      have h3' : tutorref06_Members.l0 k (m : Int) [] 0 (lst n C) (N : Int) = _ := h3
      rw [h3', Int.toNat_natCast]
      have hr : List.range' 0 n = List.range n := List.range_eq_range'.symm
      rw [hr]
      rfl
end Go.Proofs.Ytdalpaobkmoomaa.X
end

section
namespace Go.Proofs.Ytdalpaobkmoomaa.X
open Go.RowKit Go.Proofs.YtdalpaobkmoomaaW.PrintWords Go.Proofs.YtdalpaobkmoomaaW.PrintLast Go.Proofs.YtdalpaobkmoomaaW.PrintMore
open Go.Proofs.Ytdalpaobkmoomaa Go.Proofs.Ytdalpaobkmoomaa.Sp
def pl16.T16 : Bool × List (List Nat × List Nat) := (true, [([], []), ([], []), ([], []), ([1, 2], [1, 2]), ([3], [3]), ([0, 4], [0, 4]), ([5], [5]), ([6], [6]), ([6], [6]), ([6], [6]), ([], []), ([10, 7, 5, 0, 1, 2, 3, 4, 5, 6, 7, 10], [7, 10]), ([8, 11, 0, 1, 2, 3, 4, 5, 6, 7, 8, 10, 11], [8]), ([9, 12, 0, 1, 2, 3, 4, 5, 6, 7, 8, 9, 10, 11, 12], [9])])
def pl16.B16 : List Nat := [0, 0, 0, 6, 14, 31, 63, 127, 127, 127, 0, 1279, 3583, 8191]
theorem pl16.tab16 : rtab .any (opsOf Try.f4 16) = pl16.T16 := by kernel_rfl
theorem pl16.bits16 : waitsOk pl16.T16.2 pl16.B16 = true := by kernel_rfl
def pl18.T18 : Bool × List (List Nat × List Nat) := (true, [([], []), ([], []), ([0, 1], [0, 1]), ([2], [2]), ([3, 2], [3]), ([4], [4]), ([5, 4, 4], [4, 5]), ([4], [4]), ([6, 7, 4], [4, 6, 7]), ([4, 8], [4, 8]), ([9, 6], [9]), ([10], [10]), ([11, 10, 10], [10, 11]), ([10], [10]), ([13, 10], [10, 13]), ([12, 14, 12, 10], [10, 12, 14]), ([15, 10], [10, 15]), ([10, 16], [10, 16]), ([17, 15], [17]), ([18], [18]), ([19, 18, 18], [18, 19]), ([18], [18]), ([21, 18], [18, 21]), ([20, 22, 18], [18, 20, 22]), ([18, 23], [18, 23]), ([24, 20], [24]), ([25], [25]), ([25], [25]), ([25], [25]), ([27, 28, 25], [25, 27, 28]), ([29, 25], [25, 29]), ([26, 30, 25, 25], [25, 26, 30]), ([31, 25], [25, 31]), ([25, 32], [25, 32])])
def pl18.B18 : List Nat := [0, 0, 3, 7, 15, 31, 63, 31, 255, 511, 1023, 2047, 4095, 2047, 10239, 32767, 65535, 131071, 262143, 524287, 1048575, 524287, 2621439, 8388607, 16777215, 33554431, 67108863, 67108863, 67108863, 469762047, 1006632959, 2147483647, 4294967295, 8589934591]
theorem pl18.tab18 : rtab .any (opsOf Try.f4 18) = pl18.T18 := by kernel_rfl
theorem pl18.bits18 : waitsOk pl18.T18.2 pl18.B18 = true := by kernel_rfl
theorem sep_rot {base : Nat} {a b c : Res} {w : World} (h : Sep base [a, b, c] w) : Sep base [c, b, a] w := Sep.of_apart (fun i r hr => by
    match i, hr with
    | 0, hr => obtain rfl := Option.some.inj hr; exact ⟨h.get 2 rfl, fun k => h.bound 2 rfl⟩
    | 1, hr => obtain rfl := Option.some.inj hr; exact ⟨h.get 1 rfl, fun k => h.bound 1 rfl⟩
    | 2, hr => obtain rfl := Option.some.inj hr; exact ⟨h.get 0 rfl, fun k => h.bound 0 rfl⟩
    | i + 3, hr => cases hr) (fun i j r q hr hq hij k => by
    have key : ∀ (i : Nat) (r : Res), [c, b, a][i]? = some r → i < 3 ∧ [a, b, c][2 - i]? = some r := fun i r hr => by
      match i, hr with
      | 0, hr => exact ⟨by decide, hr⟩
      | 1, hr => exact ⟨by decide, hr⟩
      | 2, hr => exact ⟨by decide, hr⟩
      | i + 3, hr => cases hr
    obtain ⟨h1, h2⟩ := key i r hr
    obtain ⟨h3, h4⟩ := key j q hq
    exact h.apart h2 h4 (by omega))
/-- The first, the fifth and the last of seven pieces. -/
theorem sep_pick {base : Nat} {a b c d e f g : Res} {w : World} (h : Sep base [a, b, c, d, e, f, g] w) : Sep base [e, a, g] w := Sep.of_apart (fun i r hr => by
    match i, hr with
    | 0, hr => obtain rfl := Option.some.inj hr; exact ⟨h.get 4 rfl, fun k => h.bound 4 rfl⟩
    | 1, hr => obtain rfl := Option.some.inj hr; exact ⟨h.get 0 rfl, fun k => h.bound 0 rfl⟩
    | 2, hr => obtain rfl := Option.some.inj hr; exact ⟨h.get 6 rfl, fun k => h.bound 6 rfl⟩
    | i + 3, hr => cases hr) (fun i j r q hr hq hij k => by
    have key : ∀ (i : Nat) (r : Res), [e, a, g][i]? = some r → i < 3 ∧ [a, b, c, d, e, f, g][if i = 0 then 4 else if i = 1 then 0 else 6]? = some r := fun i r hr => by
      match i, hr with
      | 0, hr => exact ⟨by decide, hr⟩
      | 1, hr => exact ⟨by decide, hr⟩
      | 2, hr => exact ⟨by decide, hr⟩
      | i + 3, hr => cases hr
    obtain ⟨h1, h2⟩ := key i r hr
    obtain ⟨h3, h4⟩ := key j q hq
    refine h.apart h2 h4 ?_
    split <;> split <;> (try split) <;> (try split) <;> omega)
theorem cuts_made2 (n : Nat) (C0 : Nat → Nat) (D : Nat → Bool) : ∀ (l : List Nat) (s : St), (cuts n C0 D l s).made.length ≤ s.made.length + l.length
  | [], s => by simp [cuts]
  | c :: l, s => by
    have h1 := cuts_made2 n C0 D l (cutOf n C0 D c s)
    have h2 : (cutOf n C0 D c s).made.length ≤ s.made.length + 1 := by
      unfold cutOf
      split
      · simp
      · omega
    simp only [cuts, List.length_cons]
    omega
theorem made_few2 (n : Nat) (C : Nat → Nat) (N : Nat) (x : List Int) (hN : N ≤ 1000000) : (tl (splitOf n C N (x.map Int.toNat)).made).length ≤ 1000000 := by
  rw [tl_len]
  unfold splitOf
  have := cuts_made2 n C (fun i => decide (i ∈ x.map Int.toNat)) (List.range N) ⟨C, N, []⟩
  rw [List.length_range] at this
  simp at this ⊢
  omega
theorem RMem (n N : Nat) (C : Nat → Nat) (Aq : Option Addr) (cq : Nat) (c : Int) (r1 : List Int) (r2 : Int) (w : World) (hC : Kd.C (Kd.int .i64) w Aq n (lst n C)) (hcq : n ≤ cq) (h : tutorref06_Members.f 2000 (lst n C) (N : Int) c = some (r1, r2)) : Calls Try.prog 23 #[.agg #[.slice Aq n cq, .int .i64 (N : Int)], .int .i64 c] w fun e w' => ∃ v0_ : Value, e = .returned (.tuple #[v0_, .int .i64 r2]) ∧ Kd.R (Kd.int .i64) 3 w' w.heap.size (fun _ => True) v0_ r1 ∧ Below w.heap.size w w' := by
  have h1 := tutorref06_Members.calls 2000 Aq cq (lst n C) (N : Int) c r1 r2 w (by rw [lst_len]; exact hC) (by rw [lst_len]; exact hcq) h
  rw [lst_len] at h1
  exact h1
attribute [local go_sem] max2_int min2_int max_two min_two max_three min_three max_four min_four
set_option maxHeartbeats 16000000 in
set_option maxRecDepth 100000 in
theorem Pl_much (a0 : Int) (A1 : Option Addr) (c1 : Nat) (l1 : List (List Int)) (a2 a3 : Int) (w : World) (hr1 : Kd.C (Kd.slice 3 (Kd.int .i64)) w A1 l1.length l1) (hc1 : l1.length ≤ c1) (h : muchL a0 l1 = true) : Calls Try.prog 4 #[.int .i64 a0, .slice A1 l1.length c1, .int .i64 a2, .int .i64 a3] w fun e w' => e = .returned (.bool true) ∧ Below w.heap.size w w' := by
  have hu22 := Try.underlying22
  have hu24 := Try.underlying24
  have hu40 := Try.underlying40
  have hmu := tutorlaw06_much.calls 1000 a0 A1 c1 l1 _ w hr1 hc1 (much_is a0 l1)
  have hlv := live_walk
  rw [h] at hmu
  clear hr1 h
  go_enter Try.func4, Try.ntmps4
  go_wp2_with (first
  | (go_at_call 9; refine (hlv w1).mono ?_
     rintro e w2 ⟨rfl, hb⟩
     have HB2 := Aside0.mk (below_step HB1.out hb)
     clear hb)
  | (go_at_call 8; with_reducible refine hmu.mono ?_
     rintro e w1 ⟨rfl, hd⟩
     have HB1 := Aside0.mk hd.below
     clear hd))
  go_ret
  exact ⟨rfl, HB2.out⟩
set_option maxHeartbeats 16000000 in
set_option maxRecDepth 100000 in
theorem Pl_few (a0 : Int) (A1 : Option Addr) (c1 : Nat) (l1 : List (List Int)) (a2 a3 : Int) (w : World) (hr1 : Kd.C (Kd.slice 3 (Kd.int .i64)) w A1 l1.length l1) (hc1 : l1.length ≤ c1) (h : muchL a0 l1 = false) (hn : a0 < 1) : Calls Try.prog 4 #[.int .i64 a0, .slice A1 l1.length c1, .int .i64 a2, .int .i64 a3] w fun e w' => e = .returned (.bool true) ∧ Below w.heap.size w w' := by
  have hu22 := Try.underlying22
  have hu24 := Try.underlying24
  have hu40 := Try.underlying40
  have hmu := tutorlaw06_much.calls 1000 a0 A1 c1 l1 _ w hr1 hc1 (much_is a0 l1)
  have hlv := live_walk
  rw [h] at hmu
  have hnw := fun W => New_few a0 W hn
  have hrn := fun W => tutorref06_New.calls a0 [] 0 1 W (by unfold tutorref06_New.f; rw [if_pos hn])
  clear hr1 h
  go_enter Try.func4, Try.ntmps4
  go_wp2_with (first
  | (go_at_call 9; refine (hlv w5).mono ?_
     rintro e w6 ⟨rfl, hb⟩
     have HB6 := Aside0.mk hb
     clear hb)
  | (go_at_call 11; refine (tutorlaw06_num.calls 1 1 _ rfl).mono ?_
     rintro e w5 ⟨rfl, hd⟩
     have HB5 := Aside0.mk hd.below
     clear hd)
  | (go_at_call 18; refine (hrn w2).mono ?_
     rintro e w3 ⟨v3, rfl, hR, hb⟩
     obtain ⟨A3, c3, rfl⟩ := Kd.R_slice hR
     have HB3 := Aside0.mk (below_step HB2.out hb)
     have HB4 := Aside0.mk (below_alloc HB3.out (.cells #[.slice A3 0 c3, .int .i64 0] 40))
     clear hb hR)
  | (go_at_call 10; refine (hnw w1).mono ?_
     rintro e w2 ⟨rfl, hb⟩
     have HB2 := Aside0.mk (below_step HB1.out hb)
     clear hb)
  | (go_at_call 8; with_reducible refine hmu.mono ?_
     rintro e w1 ⟨rfl, hd⟩
     have HB1 := Aside0.mk hd.below
     clear hd))
  go_ret
  exact ⟨rfl, below_step (below_step (by first | exact HB4.out | exact below_set (below_set HB4.out (by have := HB3.out.size; show _ ≤ w3.heap.size; omega)) (by have := HB3.out.size; show _ ≤ w3.heap.size; omega)) HB5.out) HB6.out⟩
set_option maxHeartbeats 16000000 in
set_option maxRecDepth 100000 in
theorem Pl_many (a0 : Int) (A1 : Option Addr) (c1 : Nat) (l1 : List (List Int)) (a2 a3 : Int) (w : World) (hr1 : Kd.C (Kd.slice 3 (Kd.int .i64)) w A1 l1.length l1) (hc1 : l1.length ≤ c1) (h : muchL a0 l1 = false) (hn : a0 > 65536) : Calls Try.prog 4 #[.int .i64 a0, .slice A1 l1.length c1, .int .i64 a2, .int .i64 a3] w fun e w' => e = .returned (.bool true) ∧ Below w.heap.size w w' := by
  have hu22 := Try.underlying22
  have hu24 := Try.underlying24
  have hu40 := Try.underlying40
  have hmu := tutorlaw06_much.calls 1000 a0 A1 c1 l1 _ w hr1 hc1 (much_is a0 l1)
  have hlv := live_walk
  rw [h] at hmu
  have hnw := fun W => New_many a0 W hn
  have hrn := fun W => tutorref06_New.calls a0 [] 0 3 W (by unfold tutorref06_New.f; rw [if_neg (by omega), if_pos hn])
  clear hr1 h
  go_enter Try.func4, Try.ntmps4
  go_wp2_with (first
  | (go_at_call 9; refine (hlv w5).mono ?_
     rintro e w6 ⟨rfl, hb⟩
     have HB6 := Aside0.mk hb
     clear hb)
  | (go_at_call 11; refine (tutorlaw06_num.calls 3 3 _ rfl).mono ?_
     rintro e w5 ⟨rfl, hd⟩
     have HB5 := Aside0.mk hd.below
     clear hd)
  | (go_at_call 18; refine (hrn w2).mono ?_
     rintro e w3 ⟨v3, rfl, hR, hb⟩
     obtain ⟨A3, c3, rfl⟩ := Kd.R_slice hR
     have HB3 := Aside0.mk (below_step HB2.out hb)
     have HB4 := Aside0.mk (below_alloc HB3.out (.cells #[.slice A3 0 c3, .int .i64 0] 40))
     clear hb hR)
  | (go_at_call 10; refine (hnw w1).mono ?_
     rintro e w2 ⟨rfl, hb⟩
     have HB2 := Aside0.mk (below_step HB1.out hb)
     clear hb)
  | (go_at_call 8; with_reducible refine hmu.mono ?_
     rintro e w1 ⟨rfl, hd⟩
     have HB1 := Aside0.mk hd.below
     clear hd))
  go_ret
  exact ⟨rfl, below_step (below_step (by first | exact HB4.out | exact below_set (below_set HB4.out (by have := HB3.out.size; show _ ≤ w3.heap.size; omega)) (by have := HB3.out.size; show _ ≤ w3.heap.size; omega)) HB5.out) HB6.out⟩
set_option maxHeartbeats 16000000 in
set_option maxRecDepth 100000 in
theorem Pl_main (n : Nat) (A1 : Option Addr) (c1 : Nat) (l1 : List (List Int)) (a2 a3 : Int) (w : World) (hr1 : Kd.C (Kd.slice 3 (Kd.int .i64)) w A1 l1.length l1) (hc1 : l1.length ≤ c1) (h : muchL (n : Int) l1 = false) (hn0 : 0 < n) (hn2 : n ≤ 200) (hl6 : l1.length ≤ 60) (hx4 : ∀ x ∈ l1, x.length ≤ 400) : Calls Try.prog 4 #[.int .i64 (n : Int), .slice A1 l1.length c1, .int .i64 a2, .int .i64 a3] w fun e w' => e = .returned (.bool true) ∧ Below w.heap.size w w' := by
  have hu22 := Try.underlying22
  have hu24 := Try.underlying24
  have hu40 := Try.underlying40
  have hmu := tutorlaw06_much.calls 1000 (n : Int) A1 c1 l1 _ w hr1 hc1 (much_is (n : Int) l1)
  have hlv := live_walk
  rw [h] at hmu
  have HRC := Aside0.mk hr1
  have HX4 := Aside0.mk hx4
  have hrn := fun W => tutorref06_New.calls (n : Int) (List.replicate ((n : Int)).toNat 0) 1 0 W (by unfold tutorref06_New.f; rw [if_neg (by omega), if_neg (by omega), if_pos (by omega), if_pos (by omega)])
  have hrep : (List.replicate ((n : Int)).toNat 0 : List Int) = lst n fun _ => 0 := by
    rw [Int.toNat_natCast]
    simp [lst, List.map_const']
  rw [hrep] at hrn
  obtain ⟨z40, i40⟩ := zero_of_info info40
  clear hr1 h hx4 hrep
  go_enter Try.func4, Try.ntmps4
  go_wp2_with (first
  | (go_at_call 11; with_reducible refine (tutorlaw06_num.calls 0 0 w4 rfl).mono ?_
     rintro e w5 ⟨rfl, hd⟩
     have HS5 : Aside0 (Sep w.heap.size [part w.heap.size own g n 1 (fun _ => 0), ints w.heap.size (.slice Aq n cq) (lst n fun _ => 0), blk gq #[.slice Aq n cq, .int .i64 ((1 : Nat) : Int)] 40] w5) := ⟨sep_rot (HS4.out.low hd.below)⟩
     have HB5 := Aside0.mk (below_step HB4.out hd.below)
     clear hd)
  | ((with_reducible refine gate_store (t := 40) (p := 11) rfl ?_)
     refine wpList_store_rowTo rfl 40 (.tmp 11) (.tmp 37) rfl rfl w3.heap.size #[.slice Aq n cq, .int .i64 1] rfl rfl 40 _ (blk_new w3 _) ?_ ?_ (by simp [Value.oneCell']) ?_
     (focus (rw [i40]; rfl))
     (focus rfl)
     rw [World.setRow_alloc_new]
     have hS4 := HS3.out.alloc #[.slice Aq n cq, .int .i64 1] 40 HB3.out.size
     have HB4 := Aside0.mk (below_alloc HB3.out (.cells #[.slice Aq n cq, .int .i64 1] 40))
     generalize w3.heap.size = gq at hS4 ⊢
     generalize w3.alloc (.cells #[.slice Aq n cq, .int .i64 1] 40) = w4 at hS4 HB4 ⊢
     have HS4 := Aside0.mk hS4
     clear hS4)
  | (go_at_call 18; refine (hrn w2).mono ?_
     rintro e w3 ⟨v3, rfl, hR, hb⟩
     obtain ⟨Aq, cq, hv⟩ := Kd.R_slice hR
     rw [lst_len] at hv
     subst hv
     have HS3 : Aside0 (Sep w.heap.size [ints w.heap.size (.slice Aq n cq) (lst n fun _ => 0), part w.heap.size own g n 1 fun _ => 0] w3) := ⟨Sep.fillRow (HS2.out.free none_ trivial (fun _ hk => hk.elim)) 0 rfl rfl hR hb HB2.out.size⟩
     have HB3 := Aside0.mk (below_step HB2.out hb)
     clear hb hR)
  | (go_at_call 10; refine (New_law (Sep.nil w.heap.size w1) HB1.out.size n hn0 (by omega)).mono ?_
     rintro e w2 ⟨g, own, rfl, hS, hb⟩
     have HS2 := Aside0.mk hS
     have HB2 := Aside0.mk (below_step HB1.out hb)
     clear hS hb)
  | (go_at_call 8; with_reducible refine hmu.mono ?_
     rintro e w1 ⟨rfl, hd⟩
     have HB1 := Aside0.mk hd.below
     clear hd))
  clear hmu HS2 HS3 HS4 HB1 HB2 HB3 HB4 hrn
  go_loopw [13] (fun v13 wr => ∃ (j N : Nat) (C : Nat → Nat) (own : Nat → Prop) (Aq : Option Addr) (cq : Nat), v13 = .int .i64 (j : Int) ∧ Aside0 (j ≤ l1.length) ∧ Aside0 (Sep w.heap.size [part w.heap.size own g n N C, ints w.heap.size (.slice Aq n cq) (lst n C), blk gq #[.slice Aq n cq, .int .i64 (N : Int)] 40] wr) ∧ Aside0 (Below w.heap.size w wr)) (fun v13 _ => l1.length - (intOf v13).toNat)
  case atStart => exact ⟨0, 1, fun _ => 0, own, Aq, cq, rfl, ⟨by omega⟩, HS5, HB5⟩
  case round =>
    clear HS5 HB5
    obtain ⟨j, N, C, own, Aq, cq, rfl, HJ, HS, HB⟩ := hrel
    by_cases hj : j < l1.length
    · have HJL := Aside0.mk hj
      have hj' : (j : Int) < (l1.length : Int) := by omega
      obtain ⟨adl, ea, Dx, cx, hcell, hxle, hxC⟩ := at_list HRC.out j hj
      have hxb4 := HX4.out l1[j] (List.getElem_mem hj)
      generalize l1[j] = x at hcell hxle hxC hxb4
      subst ea
      have HCX0 := Aside0.mk hcell
      have HCX := Aside0.mk (And.intro hxle hxC)
      have hxb : x.length ≤ 1000000 := by omega
      have HPP := Aside0.mk (part_pos (HS.out.get 0 rfl) hn0)
      have hxl : wr.cell? (adl.add j) = some (.slice Dx x.length cx) := (HB.out.cell (World.block_lt_of_cell? w _ HCX0.out)).trans HCX0.out
      have HSF : Aside0 (Sep w.heap.size [none_, none_, part w.heap.size own g n N C, ints w.heap.size (.slice Aq n cq) (lst n C), blk gq #[.slice Aq n cq, .int .i64 (N : Int)] 40] wr) := ⟨(HS.out.free none_ trivial (fun _ hk => hk.elim)).free none_ trivial (fun _ hk => hk.elim)⟩
      clear hcell hxle hxC hj
      by_cases hok : ∀ z ∈ x, 0 ≤ z ∧ z < (n : Int)
      · have hsp : splitAny n C N x = ((splitOf n C N (x.map Int.toNat)), 0) := by unfold splitAny; rw [if_pos hok]
        have HOK := Aside0.mk hok
        clear hok
        go_wp2_with (first
        | (go_at_call 12; refine (Split_any HS4.out 2 1 rfl rfl (by decide) HB4.out.size hn0 (by omega) x hxb (some ⟨gv, 0, none⟩) x.length cv rfl (fun w1 hk => marked_C (row_C ((ints w.heap.size (.slice (some ⟨gv, 0, none⟩) (x.length + 2) cv) (marked x)).step (HS4.out.get 0 rfl) (fun k hk1 hlt => hk k hlt (fun ho => HS4.out.apart (i := 2) (j := 0) rfl rfl (by decide) (k := k) ho hk1)))).1)).mono ?_
           rw [hsp]
           rintro e w5 ⟨mv, own3, rfl, hS, hb⟩
           obtain ⟨Aa, ca, hv⟩ := Kd.R_slice (hS.get 1 rfl)
           subst hv
           have HS5 : Aside0 (Sep w.heap.size [ints w.heap.size (.slice (some ⟨gv, 0, none⟩) (x.length + 2) cv) (marked x), ints w.heap.size (.slice Aa (tl (splitOf n C N (x.map Int.toNat)).made).length ca) (tl (splitOf n C N (x.map Int.toNat)).made), part w.heap.size own3 g n (splitOf n C N (x.map Int.toNat)).N (splitOf n C N (x.map Int.toNat)).C, ints w.heap.size (.slice Aq n cq) (lst n C), blk gq #[.slice Aq n cq, .int .i64 (N : Int)] 40] w5) := ⟨hS⟩
           have HB5 := Aside0.mk (HB4.out.trans hb)
           clear hS hb)
        | (go_at_call 19; refine (Lent_walk x Dx cx wr (Kd.C_below HCX.out.2 HB.out) HCX.out.1 hxb).mono ?_
           rintro e w4 ⟨gv, cv, rfl, hR, hb⟩
           have HS4 : Aside0 (Sep w.heap.size [ints w.heap.size (.slice (some ⟨gv, 0, none⟩) (x.length + 2) cv) (marked x), none_, part w.heap.size own g n N C, ints w.heap.size (.slice Aq n cq) (lst n C), blk gq #[.slice Aq n cq, .int .i64 (N : Int)] 40] w4) := ⟨Sep.fillRow HSF.out 0 rfl rfl hR hb HB.out.size⟩
           have HB4 := Aside0.mk (below_step HB.out hb)
           have hcv : x.length + 2 ≤ cv := (Kd.R_reads' hR).2.1
           clear hb hR hxl))
        clear hsp HS4 HB4 HSF HB HS
        refine start_ (n := 14) (S := fun w' => Below w5.heap.size w5 w') (ds := [11]) #[false, false, false, false, false, false, false, false, false, false, false, false, false, false] (by kernel_rfl) rfl rfl (below_drew1 (Below.refl _ _)) (fun hHeld => ?_)
        refine with_tabW pl16.tab16 pl16.bits16 (fun HT_ HW_ => ?_)
        generalize w5.drew = wd at hHeld ⊢
        have hsep : Sp.Sep w5.heap.size [Sp.none_, Sp.none_] wd := Sp.Sep.start _ 2 _
        have hbel := hHeld
        refine pure_ (i := 1) (N := (some 71)) (v := ?_) (a' := ?_) #[false, true, false, false, false, false, false, false, false, false, false, false, false, false] rfl rfl (any_of HT_.out (by kernel_rfl)) (fun _ _ _ h => h) (Or.inl ⟨by rfl, ?_⟩) ?_ ?_
        rotate_left
        · intro w'
          go_simp
          with_reducible rfl
        rotate_left
        · simp only [Act.put, List.setIfInBounds_toArray, List.set_cons_zero, List.set_cons_succ, i64_w, i32_w]
          rfl
        refine pure_ (i := 2) (N := (some 72)) (v := ?_) (a' := ?_) #[false, true, true, false, false, false, false, false, false, false, false, false, false, false] rfl rfl (any_of HT_.out (by kernel_rfl)) (fun _ _ _ h => h) (Or.inl ⟨by rfl, ?_⟩) ?_ ?_
        rotate_left
        · intro w'
          go_simp
          with_reducible rfl
        rotate_left
        · simp only [Act.put, List.setIfInBounds_toArray, List.set_cons_zero, List.set_cons_succ, i64_w, i32_w]
          rfl
        refine pure_ (i := 3) (N := (some 73)) (v := ?_) (a' := ?_) #[false, true, true, true, false, false, false, false, false, false, false, false, false, false] rfl rfl (any_of HT_.out (by kernel_rfl)) (fun _ _ _ h => h) (Or.inl ⟨by rfl, ?_⟩) ?_ ?_
        rotate_left
        · intro w'
          go_simp
          with_reducible rfl
        rotate_left
        · simp only [Act.put, List.setIfInBounds_toArray, List.set_cons_zero, List.set_cons_succ, i64_w, i32_w]
          rfl
        refine take_ (i := 0) (N := (some 70)) (v := ?_) (a' := ?_) #[true, true, true, true, false, false, false, false, false, false, false, false, false, false] rfl rfl (take_ofW HT_.out HW_.out (by kernel_rfl)) (fun _ _ _ h => h) (Or.inl ⟨by rfl, ?_⟩) hHeld ?_ ?_
        rotate_left
        · intro w' s0
          have pq0 : w'.cell? ⟨gq, 0, none⟩ = some (.slice Aq n cq) := (blk_cell ((HS5.out.low s0).get 4 rfl) 0).trans rfl
          have pq1 : w'.cell? ⟨gq, 1, none⟩ = some (.int .i64 (N : Int)) := (blk_cell ((HS5.out.low s0).get 4 rfl) 1).trans rfl
          have pxl : w'.cell? (adl.add j) = some (.slice Dx x.length cx) := ((below_step HB5.out s0).cell (World.block_lt_of_cell? w _ HCX0.out)).trans HCX0.out
          go_simp
          with_reducible rfl
        rotate_left
        · simp only [Act.put, List.setIfInBounds_toArray, List.set_cons_zero, List.set_cons_succ, i64_w, i32_w]
          rfl
        refine take_ (i := 4) (N := (some 74)) (v := ?_) (a' := ?_) #[true, true, true, true, true, false, false, false, false, false, false, false, false, false] rfl rfl (take_ofW HT_.out HW_.out (by kernel_rfl)) (fun _ _ _ h => h) (Or.inl ⟨by rfl, ?_⟩) hHeld ?_ ?_
        rotate_left
        · intro w' s0
          have pq0 : w'.cell? ⟨gq, 0, none⟩ = some (.slice Aq n cq) := (blk_cell ((HS5.out.low s0).get 4 rfl) 0).trans rfl
          have pq1 : w'.cell? ⟨gq, 1, none⟩ = some (.int .i64 (N : Int)) := (blk_cell ((HS5.out.low s0).get 4 rfl) 1).trans rfl
          have pxl : w'.cell? (adl.add j) = some (.slice Dx x.length cx) := ((below_step HB5.out s0).cell (World.block_lt_of_cell? w _ HCX0.out)).trans HCX0.out
          go_simp
          with_reducible rfl
        rotate_left
        · simp only [Act.put, List.setIfInBounds_toArray, List.set_cons_zero, List.set_cons_succ, i64_w, i32_w]
          rfl
        refine join_ (σ := Option Addr × Nat × Option Addr × Nat × Nat) 3 #[true, true, true, true, true, true, true, true, true, true, true, false, false, false] (fun s_ => [(75, .tuple #[.agg #[.slice s_.1 n s_.2.1, .int .i64 ((splitOf n C N (x.map Int.toNat)).N : Int)], .slice s_.2.2.1 (tl (splitOf n C N (x.map Int.toNat)).made).length s_.2.2.2.1, .int .i64 0]), (17, .pointer (some ⟨s_.2.2.2.2, 0, none⟩)), (69, .tuple #[.agg #[.slice s_.1 n s_.2.1, .int .i64 ((splitOf n C N (x.map Int.toNat)).N : Int)], .slice s_.2.2.1 (tl (splitOf n C N (x.map Int.toNat)).made).length s_.2.2.2.1, .int .i64 0]), (76, .agg #[.slice s_.1 n s_.2.1, .int .i64 ((splitOf n C N (x.map Int.toNat)).N : Int)]), (77, .slice s_.2.2.1 (tl (splitOf n C N (x.map Int.toNat)).made).length s_.2.2.2.1), (78, .int .i64 0)]) (fun s_ w' => Sp.Sep w5.heap.size [Sp.mach w5.heap.size (.slice s_.1 n s_.2.1) (lst n (splitOf n C N (x.map Int.toNat)).C) (.slice s_.2.2.1 (tl (splitOf n C N (x.map Int.toNat)).made).length s_.2.2.2.1) (tl (splitOf n C N (x.map Int.toNat)).made), Sp.blk s_.2.2.2.2 #[.slice none 0 0, .int .i64 0] 40] w' ∧ Below w5.heap.size w5 w') ?_ ?_
        rotate_left
        · intro hJ5_10
          refine two_ (i := 5) (j := 10) (Ni := some 75) (Nj := some 17) #[true, true, true, true, true, true, false, false, false, false, false, false, false, false] #[true, true, true, true, true, false, false, false, false, false, true, false, false, false] rfl rfl rfl rfl (two_of HT_.out (by kernel_rfl)) (by decide) (by decide) (fun K hK => ?_) (fun K hK => ?_)
          · skip
            refine goes_ Try.func20 (by kernel_rfl) rfl #[.agg #[.slice Aq n cq, .int .i64 (N : Int)], .slice Dx x.length cx] (by rfl) rfl rfl (by (try simp only [List.map_toArray, List.map_cons, List.map_nil]); first | done | rfl) ?_
            refine (RSplit_ok n N C Aq cq x Dx cx _ (row_C ((HS5.out.low hbel).get 3 rfl)).1 (row_C ((HS5.out.low hbel).get 3 rfl)).2 (Kd.C_below HCX.out.2 (below_step HB5.out hbel)) HCX.out.1 (by omega) (by have := HPP.out.2.1; omega) (by omega) HOK.out).mono ?_
            rintro e w1 ⟨vr_, vm_, rfl, hs, hb⟩
            obtain ⟨Ar, cr, hv1⟩ := Kd.R_slice (hs.get 0 rfl)
            obtain ⟨Am, cm, hv2⟩ := Kd.R_slice (hs.get 1 rfl)
            rw [lst_len] at hv1
            subst hv1
            subst hv2
            refine ⟨_, rfl, ?_⟩
            have hsep1 : Sp.Sep w5.heap.size [Sp.mach w5.heap.size (.slice Ar n cr) (lst n (splitOf n C N (x.map Int.toNat)).C) (.slice Am (tl (splitOf n C N (x.map Int.toNat)).made).length cm) (tl (splitOf n C N (x.map Int.toNat)).made), Sp.none_] w1 := hsep.fillMach 0 rfl (Kd.R_mono (hs.get 0 rfl) (fun k hk he => hs.apart (i := 0) (j := 1) rfl rfl (by decide) (k := k) hk he)) (Kd.R_mono (hs.get 1 rfl) (fun k hk he => hs.apart (i := 1) (j := 0) rfl rfl (by decide) (k := k) hk he)) hb hbel.size
            have hbel1 := below_then hbel hbel.size hb
            clear hs hb
            refine hK.out _ _ hbel1 (fun hHeld => ?_)
            clear hK K hsep hbel
            have hsep := hsep1
            have hbel := hbel1
            clear hsep1 hbel1
            refine norm_ (a' := ?_) ?_ ?_
            rotate_left
            · show Act.put _ (some 75) _ = _
              simp only [Act.put, List.setIfInBounds_toArray, List.set_cons_zero, List.set_cons_succ, i64_w, i32_w]
              rfl
            refine pure_ (i := 6) (N := (some 69)) (v := ?_) (a' := ?_) #[true, true, true, true, true, true, true, false, false, false, false, false, false, false] rfl rfl (any_of HT_.out (by kernel_rfl)) (fun _ _ _ h => h) (Or.inl ⟨by rfl, ?_⟩) ?_ ?_
            rotate_left
            · intro w'
              go_simp
              with_reducible rfl
            rotate_left
            · simp only [Act.put, List.setIfInBounds_toArray, List.set_cons_zero, List.set_cons_succ, i64_w, i32_w]
              rfl
            refine pure_ (i := 7) (N := (some 76)) (v := ?_) (a' := ?_) #[true, true, true, true, true, true, true, true, false, false, false, false, false, false] rfl rfl (any_of HT_.out (by kernel_rfl)) (fun _ _ _ h => h) (Or.inl ⟨by rfl, ?_⟩) ?_ ?_
            rotate_left
            · intro w'
              go_simp
              with_reducible rfl
            rotate_left
            · simp only [Act.put, List.setIfInBounds_toArray, List.set_cons_zero, List.set_cons_succ, i64_w, i32_w]
              rfl
            refine pure_ (i := 8) (N := (some 77)) (v := ?_) (a' := ?_) #[true, true, true, true, true, true, true, true, true, false, false, false, false, false] rfl rfl (any_of HT_.out (by kernel_rfl)) (fun _ _ _ h => h) (Or.inl ⟨by rfl, ?_⟩) ?_ ?_
            rotate_left
            · intro w'
              go_simp
              with_reducible rfl
            rotate_left
            · simp only [Act.put, List.setIfInBounds_toArray, List.set_cons_zero, List.set_cons_succ, i64_w, i32_w]
              rfl
            refine pure_ (i := 9) (N := (some 78)) (v := ?_) (a' := ?_) #[true, true, true, true, true, true, true, true, true, true, false, false, false, false] rfl rfl (any_of HT_.out (by kernel_rfl)) (fun _ _ _ h => h) (Or.inl ⟨by rfl, ?_⟩) ?_ ?_
            rotate_left
            · intro w'
              go_simp
              with_reducible rfl
            rotate_left
            · simp only [Act.put, List.setIfInBounds_toArray, List.set_cons_zero, List.set_cons_succ, i64_w, i32_w]
              rfl
            refine one_ (i := 10) (N := some 17) #[true, true, true, true, true, true, true, true, true, true, true, false, false, false] rfl rfl (one_of HT_.out (by kernel_rfl)) (by decide) (fun K hK => ?_)
            refine box_step ?hg (N := 17) ?hd (cs := #[.slice none 0 0, .int .i64 0]) (t := 40) ?hr ?_; (case hd => rfl); (case hg => rfl); (case hr => first | (go_simp; done) | (go_simp; rfl))
            intro g17 hg w1 hbox hb
            have hsep1 : Sp.Sep w5.heap.size [Sp.mach w5.heap.size (.slice Ar n cr) (lst n (splitOf n C N (x.map Int.toNat)).C) (.slice Am (tl (splitOf n C N (x.map Int.toNat)).made).length cm) (tl (splitOf n C N (x.map Int.toNat)).made), Sp.blk g17 #[.slice none 0 0, .int .i64 0] 40] w1 := hsep.fillBlk 1 rfl hg hbox hb hbel.size
            have hbel1 := below_then hbel hbel.size hb
            clear hg hbox hb
            refine hK.out _ _ hbel1 (fun hHeld => ?_)
            clear hK K hsep hbel
            have hsep := hsep1
            have hbel := hbel1
            clear hsep1 hbel1
            refine norm_ (a' := ?_) ?_ ?_
            rotate_left
            · show Act.put _ (some 17) _ = _
              simp only [Act.put, List.setIfInBounds_toArray, List.set_cons_zero, List.set_cons_succ, i64_w, i32_w]
              rfl
            exact norm_ (by first | (simp only [putAll, Act.put, List.setIfInBounds_toArray, List.set_cons_zero, List.set_cons_succ]; done) | (simp only [putAll, Act.put, List.setIfInBounds_toArray, List.set_cons_zero, List.set_cons_succ]; rfl)) (hJ5_10 (Ar, cr, Am, cm, g17) _ ⟨hsep, hbel⟩)
          · skip
            refine box_step ?hg (N := 17) ?hd (cs := #[.slice none 0 0, .int .i64 0]) (t := 40) ?hr ?_; (case hd => rfl); (case hg => rfl); (case hr => first | (go_simp; done) | (go_simp; rfl))
            intro g17 hg w1 hbox hb
            have hsep1 : Sp.Sep w5.heap.size [Sp.none_, Sp.blk g17 #[.slice none 0 0, .int .i64 0] 40] w1 := hsep.fillBlk 1 rfl hg hbox hb hbel.size
            have hbel1 := below_then hbel hbel.size hb
            clear hg hbox hb
            refine hK.out _ _ hbel1 (fun hHeld => ?_)
            clear hK K hsep hbel
            have hsep := hsep1
            have hbel := hbel1
            clear hsep1 hbel1
            refine norm_ (a' := ?_) ?_ ?_
            rotate_left
            · show Act.put _ (some 17) _ = _
              simp only [Act.put, List.setIfInBounds_toArray, List.set_cons_zero, List.set_cons_succ, i64_w, i32_w]
              rfl
            refine one_ (i := 5) (N := some 75) #[true, true, true, true, true, true, false, false, false, false, true, false, false, false] rfl rfl (one_of HT_.out (by kernel_rfl)) (by decide) (fun K hK => ?_)
            refine goes_ Try.func20 (by kernel_rfl) rfl #[.agg #[.slice Aq n cq, .int .i64 (N : Int)], .slice Dx x.length cx] (by rfl) rfl rfl (by (try simp only [List.map_toArray, List.map_cons, List.map_nil]); first | done | rfl) ?_
            refine (RSplit_ok n N C Aq cq x Dx cx _ (row_C ((HS5.out.low hbel).get 3 rfl)).1 (row_C ((HS5.out.low hbel).get 3 rfl)).2 (Kd.C_below HCX.out.2 (below_step HB5.out hbel)) HCX.out.1 (by omega) (by have := HPP.out.2.1; omega) (by omega) HOK.out).mono ?_
            rintro e w1 ⟨vr_, vm_, rfl, hs, hb⟩
            obtain ⟨Ar, cr, hv1⟩ := Kd.R_slice (hs.get 0 rfl)
            obtain ⟨Am, cm, hv2⟩ := Kd.R_slice (hs.get 1 rfl)
            rw [lst_len] at hv1
            subst hv1
            subst hv2
            refine ⟨_, rfl, ?_⟩
            have hsep1 : Sp.Sep w5.heap.size [Sp.mach w5.heap.size (.slice Ar n cr) (lst n (splitOf n C N (x.map Int.toNat)).C) (.slice Am (tl (splitOf n C N (x.map Int.toNat)).made).length cm) (tl (splitOf n C N (x.map Int.toNat)).made), Sp.blk g17 #[.slice none 0 0, .int .i64 0] 40] w1 := hsep.fillMach 0 rfl (Kd.R_mono (hs.get 0 rfl) (fun k hk he => hs.apart (i := 0) (j := 1) rfl rfl (by decide) (k := k) hk he)) (Kd.R_mono (hs.get 1 rfl) (fun k hk he => hs.apart (i := 1) (j := 0) rfl rfl (by decide) (k := k) hk he)) hb hbel.size
            have hbel1 := below_then hbel hbel.size hb
            clear hs hb
            refine hK.out _ _ hbel1 (fun hHeld => ?_)
            clear hK K hsep hbel
            have hsep := hsep1
            have hbel := hbel1
            clear hsep1 hbel1
            refine norm_ (a' := ?_) ?_ ?_
            rotate_left
            · show Act.put _ (some 75) _ = _
              simp only [Act.put, List.setIfInBounds_toArray, List.set_cons_zero, List.set_cons_succ, i64_w, i32_w]
              rfl
            refine pure_ (i := 6) (N := (some 69)) (v := ?_) (a' := ?_) #[true, true, true, true, true, true, true, false, false, false, true, false, false, false] rfl rfl (any_of HT_.out (by kernel_rfl)) (fun _ _ _ h => h) (Or.inl ⟨by rfl, ?_⟩) ?_ ?_
            rotate_left
            · intro w'
              go_simp
              with_reducible rfl
            rotate_left
            · simp only [Act.put, List.setIfInBounds_toArray, List.set_cons_zero, List.set_cons_succ, i64_w, i32_w]
              rfl
            refine pure_ (i := 7) (N := (some 76)) (v := ?_) (a' := ?_) #[true, true, true, true, true, true, true, true, false, false, true, false, false, false] rfl rfl (any_of HT_.out (by kernel_rfl)) (fun _ _ _ h => h) (Or.inl ⟨by rfl, ?_⟩) ?_ ?_
            rotate_left
            · intro w'
              go_simp
              with_reducible rfl
            rotate_left
            · simp only [Act.put, List.setIfInBounds_toArray, List.set_cons_zero, List.set_cons_succ, i64_w, i32_w]
              rfl
            refine pure_ (i := 8) (N := (some 77)) (v := ?_) (a' := ?_) #[true, true, true, true, true, true, true, true, true, false, true, false, false, false] rfl rfl (any_of HT_.out (by kernel_rfl)) (fun _ _ _ h => h) (Or.inl ⟨by rfl, ?_⟩) ?_ ?_
            rotate_left
            · intro w'
              go_simp
              with_reducible rfl
            rotate_left
            · simp only [Act.put, List.setIfInBounds_toArray, List.set_cons_zero, List.set_cons_succ, i64_w, i32_w]
              rfl
            refine pure_ (i := 9) (N := (some 78)) (v := ?_) (a' := ?_) #[true, true, true, true, true, true, true, true, true, true, true, false, false, false] rfl rfl (any_of HT_.out (by kernel_rfl)) (fun _ _ _ h => h) (Or.inl ⟨by rfl, ?_⟩) ?_ ?_
            rotate_left
            · intro w'
              go_simp
              with_reducible rfl
            rotate_left
            · simp only [Act.put, List.setIfInBounds_toArray, List.set_cons_zero, List.set_cons_succ, i64_w, i32_w]
              rfl
            exact norm_ (by first | (simp only [putAll, Act.put, List.setIfInBounds_toArray, List.set_cons_zero, List.set_cons_succ]; done) | (simp only [putAll, Act.put, List.setIfInBounds_toArray, List.set_cons_zero, List.set_cons_succ]; rfl)) (hJ5_10 (Ar, cr, Am, cm, g17) _ ⟨hsep, hbel⟩)
        rintro ⟨Ar, cr, Am, cm, g17⟩ wj ⟨hsep, hbel⟩
        try dsimp only at hsep
        have hHeld : Below w5.heap.size w5 wj := hbel
        refine norm_ (a' := ?_) ?_ ?_
        rotate_left
        · simp only [putAll, Act.put, List.setIfInBounds_toArray, List.set_cons_zero, List.set_cons_succ]
          rfl
        refine last_ (i := 11) (N := none) #[true, true, true, true, true, true, true, true, true, true, true, true, false, false] rfl rfl (one_of HT_.out (by kernel_rfl)) (by decide) (fun K hK => ?_)
        refine Sp.store_row_step (by rfl) rfl 40 (.tmp 17) (.tmp 76) rfl g17 #[.slice Ar n cr, .int .i64 ((splitOf n C N (x.map Int.toNat)).N : Int)] rfl rfl 40 _ (hsep.get 1 rfl) (by rw [i40]; rfl) rfl (by simp [Value.oneCell']) ?_
        have hsep1 : Sp.Sep w5.heap.size [Sp.mach w5.heap.size (.slice Ar n cr) (lst n (splitOf n C N (x.map Int.toNat)).C) (.slice Am (tl (splitOf n C N (x.map Int.toNat)).made).length cm) (tl (splitOf n C N (x.map Int.toNat)).made), Sp.blk g17 #[.slice Ar n cr, .int .i64 ((splitOf n C N (x.map Int.toNat)).N : Int)] 40] _ := hsep.setStruct 1 rfl #[.slice Ar n cr, .int .i64 ((splitOf n C N (x.map Int.toNat)).N : Int)] hbel.size
        have hbel1 := below_setRow hbel (hsep.bound 1 rfl (show g17 = g17 from rfl)).1 #[.slice Ar n cr, .int .i64 ((splitOf n C N (x.map Int.toNat)).N : Int)]
        refine hK.out _ _ ?_
        clear hK K hsep hbel
        refine pure_ (i := 12) (N := (some 18)) (v := ?_) (a' := ?_) #[true, true, true, true, true, true, true, true, true, true, true, true, true, false] rfl rfl (any_of HT_.out (by kernel_rfl)) (fun _ _ _ h => h) (Or.inl ⟨by rfl, ?_⟩) ?_ ?_
        rotate_left
        · intro w'
          go_simp
          with_reducible rfl
        rotate_left
        · simp only [Act.put, List.setIfInBounds_toArray, List.set_cons_zero, List.set_cons_succ, i64_w, i32_w]
          rfl
        refine pure_ (i := 13) (N := (some 19)) (v := ?_) (a' := ?_) #[true, true, true, true, true, true, true, true, true, true, true, true, true, true] rfl rfl (any_of HT_.out (by kernel_rfl)) (fun _ _ _ h => h) (Or.inl ⟨by rfl, ?_⟩) ?_ ?_
        rotate_left
        · intro w'
          go_simp
          with_reducible rfl
        rotate_left
        · simp only [Act.put, List.setIfInBounds_toArray, List.set_cons_zero, List.set_cons_succ, i64_w, i32_w]
          rfl
        refine done_ (done_of HT_.out (by kernel_rfl)) ?_
        generalize World.setRow _ g17 _ = wb at hsep1 hbel1 ⊢
        have HS6 : Aside0 (Sep w.heap.size [mach w.heap.size (.slice Ar n cr) (lst n (splitOf n C N (x.map Int.toNat)).C) (.slice Am (tl (splitOf n C N (x.map Int.toNat)).made).length cm) (tl (splitOf n C N (x.map Int.toNat)).made), blk g17 #[.slice Ar n cr, .int .i64 ((splitOf n C N (x.map Int.toNat)).N : Int)] 40, ints w.heap.size (.slice (some ⟨gv, 0, none⟩) (x.length + 2) cv) (marked x), ints w.heap.size (.slice Aa (tl (splitOf n C N (x.map Int.toNat)).made).length ca) (tl (splitOf n C N (x.map Int.toNat)).made), part w.heap.size own3 g n (splitOf n C N (x.map Int.toNat)).N (splitOf n C N (x.map Int.toNat)).C, ints w.heap.size (.slice Aq n cq) (lst n C), blk gq #[.slice Aq n cq, .int .i64 (N : Int)] 40] wb) := ⟨by
          have h1 := HS5.out.over hbel1 hsep1 HB5.out.size
          exact h1.upd 0 rfl (r' := mach w.heap.size (.slice Ar n cr) (lst n (splitOf n C N (x.map Int.toNat)).C) (.slice Am (tl (splitOf n C N (x.map Int.toNat)).made).length cm) (tl (splitOf n C N (x.map Int.toNat)).made)) ⟨⟨Kd.R_lower (h1.get 0 rfl).1.1 HB5.out.size, Kd.R_lower (h1.get 0 rfl).1.2 HB5.out.size⟩, (h1.get 0 rfl).2⟩ (fun _ _ _ => rfl) (fun k hk => ⟨.inl hk, (h1.bound 0 rfl hk).2⟩) (Nat.le_trans HB5.out.size hbel1.size) (Nat.le_refl _)⟩
        have HB6 : Aside0 (Below w.heap.size w wb) := ⟨below_step HB5.out hbel1⟩
        have hy0 : wb.cell? ⟨g17, 0, none⟩ = some (.slice Ar n cr) := (blk_cell (HS6.out.get 1 rfl) 0).trans rfl
        have hy1 : wb.cell? ⟨g17, 1, none⟩ = some (.int .i64 ((splitOf n C N (x.map Int.toNat)).N : Int)) := (blk_cell (HS6.out.get 1 rfl) 1).trans rfl
        clear hsep1 hbel1 hHeld HS5 HB5
        go_wp2_with (first
        | ((with_reducible refine gate_store (t := 40) (p := 11) rfl ?_)
           refine wpList_store_rowTo rfl 40 (.tmp 11) (.tmp 79) rfl rfl gq #[.slice Ar n cr, .int .i64 ((splitOf n C N (x.map Int.toNat)).N : Int)] rfl rfl 40 _ (HS6.out.get 6 rfl) ?_ ?_ (by simp [Value.oneCell']) ?_
           (focus (rw [i40]; rfl))
           (focus rfl)
           have hS7 : Sep w.heap.size [mach w.heap.size (.slice Ar n cr) (lst n (splitOf n C N (x.map Int.toNat)).C) (.slice Am (tl (splitOf n C N (x.map Int.toNat)).made).length cm) (tl (splitOf n C N (x.map Int.toNat)).made), blk g17 #[.slice Ar n cr, .int .i64 ((splitOf n C N (x.map Int.toNat)).N : Int)] 40, ints w.heap.size (.slice (some ⟨gv, 0, none⟩) (x.length + 2) cv) (marked x), ints w.heap.size (.slice Aa (tl (splitOf n C N (x.map Int.toNat)).made).length ca) (tl (splitOf n C N (x.map Int.toNat)).made), part w.heap.size own3 g n (splitOf n C N (x.map Int.toNat)).N (splitOf n C N (x.map Int.toNat)).C, ints w.heap.size (.slice Aq n cq) (lst n C), blk gq #[.slice Ar n cr, .int .i64 ((splitOf n C N (x.map Int.toNat)).N : Int)] 40] _ := HS6.out.setStruct 6 rfl #[.slice Ar n cr, .int .i64 ((splitOf n C N (x.map Int.toNat)).N : Int)] HB6.out.size
           have hB7 := below_setRow HB6.out (HS6.out.bound 6 rfl (show gq = gq from rfl)).1 #[.slice Ar n cr, .int .i64 ((splitOf n C N (x.map Int.toNat)).N : Int)]
           generalize World.setRow _ gq _ = w7 at hS7 hB7 ⊢
           have HS7 := Aside0.mk hS7
           have HB7 := Aside0.mk hB7
           clear hS7 hB7 hy0 hy1))
        clear HS6 HB6
        have HMD : Aside0 ((splitOf n C N (x.map Int.toNat)).made.length ≤ 1000000) := ⟨by have h := made_few2 n C N x (by have := HPP.out.2.1; omega); rw [tl_len] at h; exact h⟩
        go_wp2
        refine start_ (n := 34) (S := fun w' => w'.cell? ⟨gq, 0, none⟩ = some (.slice Ar n cr) ∧ w'.cell? ⟨gq, 1, none⟩ = some (.int .i64 ((splitOf n C N (x.map Int.toNat)).N : Int)) ∧ w'.cell? (adl.add j) = some (.slice Dx x.length cx)) (ds := [31]) #[false, false, false, false, false, false, false, false, false, false, false, false, false, false, false, false, false, false, false, false, false, false, false, false, false, false, false, false, false, false, false, false, false, false] (by kernel_rfl) rfl rfl ⟨(blk_cell ((HS7.out.low (below_drew1 (Below.refl _ _))).get 6 rfl) 0).trans rfl, (blk_cell ((HS7.out.low (below_drew1 (Below.refl _ _))).get 6 rfl) 1).trans rfl, ((below_drew1 HB7.out).cell (World.block_lt_of_cell? w _ HCX0.out)).trans HCX0.out⟩ (fun hHeld => ?_)
        refine with_tabW pl18.tab18 pl18.bits18 (fun HT_ HW_ => ?_)
        have HS8 := Aside0.mk (HS7.out.low (below_drew1 (Below.refl _ _)))
        have HB8 := Aside0.mk (below_drew1 HB7.out)
        clear HS7 HB7
        generalize w7.drew = wd at HS8 HB8 hHeld ⊢
        refine pure_ (i := 0) (N := (some 80)) (v := ?_) (a' := ?_) #[true, false, false, false, false, false, false, false, false, false, false, false, false, false, false, false, false, false, false, false, false, false, false, false, false, false, false, false, false, false, false, false, false, false] rfl rfl (any_of HT_.out (by kernel_rfl)) (fun _ _ _ h => h) (Or.inl ⟨by rfl, ?_⟩) ?_ ?_
        rotate_left
        · intro w'
          go_simp
          with_reducible rfl
        rotate_left
        · simp only [Act.put, List.setIfInBounds_toArray, List.set_cons_zero, List.set_cons_succ, i64_w, i32_w]
          rfl
        refine pure_ (i := 1) (N := (some 81)) (v := ?_) (a' := ?_) #[true, true, false, false, false, false, false, false, false, false, false, false, false, false, false, false, false, false, false, false, false, false, false, false, false, false, false, false, false, false, false, false, false, false] rfl rfl (any_of HT_.out (by kernel_rfl)) (fun _ _ _ h => h) (Or.inl ⟨by rfl, ?_⟩) ?_ ?_
        rotate_left
        · intro w'
          go_simp
          with_reducible rfl
        rotate_left
        · simp only [Act.put, List.setIfInBounds_toArray, List.set_cons_zero, List.set_cons_succ, i64_w, i32_w]
          rfl
        refine one_ (i := 2) (N := (some 82)) #[true, true, true, false, false, false, false, false, false, false, false, false, false, false, false, false, false, false, false, false, false, false, false, false, false, false, false, false, false, false, false, false, false, false] rfl rfl (one_of HT_.out (by kernel_rfl)) (by decide) (fun K hK => ?_)
        refine goes_ Try.func16 (by kernel_rfl) rfl #[.slice Aa (tl (splitOf n C N (x.map Int.toNat)).made).length ca, .slice Am (tl (splitOf n C N (x.map Int.toNat)).made).length cm] (by rfl) rfl rfl (by (try simp only [List.map_toArray, List.map_cons, List.map_nil]); first | done | rfl | simp [Act.eval]) ?_
        refine (same_calls Aa (tl (splitOf n C N (x.map Int.toNat)).made).length ca (tl (splitOf n C N (x.map Int.toNat)).made) Am (tl (splitOf n C N (x.map Int.toNat)).made).length cm (tl (splitOf n C N (x.map Int.toNat)).made) _ (row_C (HS8.out.get 3 rfl)).1 (row_C (HS8.out.get 3 rfl)).2 (row_C (HS8.out.get 0 rfl).1.2).1 (row_C (HS8.out.get 0 rfl).1.2).2 (by rw [tl_len]; have := HMD.out; omega)).mono ?_
        rw [decide_eq_true rfl]
        rintro e w9 ⟨rfl, hd0⟩
        have hd := hd0.below
        clear hd0
        refine ⟨_, rfl, ?_⟩
        have HS9 := Aside0.mk (HS8.out.low hd)
        have HB9 := Aside0.mk (below_step HB8.out hd)
        clear hd
        refine hK.out _ _ ⟨(blk_cell (HS9.out.get 6 rfl) 0).trans rfl, (blk_cell (HS9.out.get 6 rfl) 1).trans rfl, (HB9.out.cell (World.block_lt_of_cell? w _ HCX0.out)).trans HCX0.out⟩ (fun hHeld => ?_); clear hK K
        refine norm_ (a' := ?_) ?_ ?_
        rotate_left
        · show Act.put _ (some 82) _ = _
          simp only [Act.put, List.setIfInBounds_toArray, List.set_cons_zero, List.set_cons_succ, i64_w, i32_w]
          rfl
        refine pure_ (i := 3) (N := (some 83)) (v := ?_) (a' := ?_) #[true, true, true, true, false, false, false, false, false, false, false, false, false, false, false, false, false, false, false, false, false, false, false, false, false, false, false, false, false, false, false, false, false, false] rfl rfl (any_of HT_.out (by kernel_rfl)) (fun _ _ _ h => h) (Or.inl ⟨by rfl, ?_⟩) ?_ ?_
        rotate_left
        · intro w'
          go_simp
          with_reducible rfl
        rotate_left
        · simp only [Act.put, List.setIfInBounds_toArray, List.set_cons_zero, List.set_cons_succ, i64_w, i32_w]
          rfl
        refine pure_ (i := 4) (N := (some 84)) (v := ?_) (a' := ?_) #[true, true, true, true, true, false, false, false, false, false, false, false, false, false, false, false, false, false, false, false, false, false, false, false, false, false, false, false, false, false, false, false, false, false] rfl rfl (any_of HT_.out (by kernel_rfl)) (fun _ _ _ h => h) (Or.inl ⟨by rfl, ?_⟩) ?_ ?_
        rotate_left
        · intro w'
          go_simp
          with_reducible rfl
        rotate_left
        · simp only [Act.put, List.setIfInBounds_toArray, List.set_cons_zero, List.set_cons_succ, i64_w, i32_w]
          rfl
        refine pure_ (i := 5) (N := (some 85)) (v := ?_) (a' := ?_) #[true, true, true, true, true, true, false, false, false, false, false, false, false, false, false, false, false, false, false, false, false, false, false, false, false, false, false, false, false, false, false, false, false, false] rfl rfl (any_of HT_.out (by kernel_rfl)) (fun _ _ _ h => h) (Or.inl ⟨by rfl, ?_⟩) ?_ ?_
        rotate_left
        · intro w'
          go_simp
          with_reducible rfl
        rotate_left
        · simp only [Act.put, List.setIfInBounds_toArray, List.set_cons_zero, List.set_cons_succ, i64_w, i32_w]
          rfl
        refine pure_ (i := 7) (N := (some 87)) (v := ?_) (a' := ?_) #[true, true, true, true, true, true, false, true, false, false, false, false, false, false, false, false, false, false, false, false, false, false, false, false, false, false, false, false, false, false, false, false, false, false] rfl rfl (any_of HT_.out (by kernel_rfl)) (fun _ _ _ h => h) (Or.inl ⟨by rfl, ?_⟩) ?_ ?_
        rotate_left
        · intro w'
          go_simp
          with_reducible rfl
        rotate_left
        · simp only [Act.put, List.setIfInBounds_toArray, List.set_cons_zero, List.set_cons_succ, i64_w, i32_w]
          rfl
        refine one_ (i := 6) (N := (some 86)) #[true, true, true, true, true, true, true, true, false, false, false, false, false, false, false, false, false, false, false, false, false, false, false, false, false, false, false, false, false, false, false, false, false, false] rfl rfl (one_of HT_.out (by kernel_rfl)) (by decide) (fun K hK => ?_)
        refine goes_ Try.func11 (by kernel_rfl) rfl #[.int .i64 0] (by rfl) rfl rfl (by (try simp only [List.map_toArray, List.map_cons, List.map_nil]); first | done | rfl | simp [Act.eval]) ?_
        refine (tutorlaw06_num.calls 0 0 _ rfl).mono ?_
        rintro e w10 ⟨rfl, hd0⟩
        have hd := hd0.below
        clear hd0
        refine ⟨_, rfl, ?_⟩
        have HS10 := Aside0.mk (HS9.out.low hd)
        have HB10 := Aside0.mk (below_step HB9.out hd)
        clear hd
        refine hK.out _ _ ⟨(blk_cell (HS10.out.get 6 rfl) 0).trans rfl, (blk_cell (HS10.out.get 6 rfl) 1).trans rfl, (HB10.out.cell (World.block_lt_of_cell? w _ HCX0.out)).trans HCX0.out⟩ (fun hHeld => ?_); clear hK K
        refine norm_ (a' := ?_) ?_ ?_
        rotate_left
        · show Act.put _ (some 86) _ = _
          simp only [Act.put, List.setIfInBounds_toArray, List.set_cons_zero, List.set_cons_succ, i64_w, i32_w]
          rfl
        refine pure_ (i := 8) (N := (some 88)) (v := ?_) (a' := ?_) #[true, true, true, true, true, true, true, true, true, false, false, false, false, false, false, false, false, false, false, false, false, false, false, false, false, false, false, false, false, false, false, false, false, false] rfl rfl (any_of HT_.out (by kernel_rfl)) (fun _ _ _ h => h) (Or.inl ⟨by rfl, ?_⟩) ?_ ?_
        rotate_left
        · intro w'
          go_simp
          with_reducible rfl
        rotate_left
        · simp only [Act.put, List.setIfInBounds_toArray, List.set_cons_zero, List.set_cons_succ, i64_w, i32_w]
          rfl
        refine pure_ (i := 9) (N := (some 89)) (v := ?_) (a' := ?_) #[true, true, true, true, true, true, true, true, true, true, false, false, false, false, false, false, false, false, false, false, false, false, false, false, false, false, false, false, false, false, false, false, false, false] rfl rfl (any_of HT_.out (by kernel_rfl)) (fun _ _ _ h => h) (Or.inl ⟨by rfl, ?_⟩) ?_ ?_
        rotate_left
        · intro w'
          go_simp
          with_reducible rfl
        rotate_left
        · simp only [Act.put, List.setIfInBounds_toArray, List.set_cons_zero, List.set_cons_succ, i64_w, i32_w]
          rfl
        refine pure_ (i := 10) (N := (some 90)) (v := ?_) (a' := ?_) #[true, true, true, true, true, true, true, true, true, true, true, false, false, false, false, false, false, false, false, false, false, false, false, false, false, false, false, false, false, false, false, false, false, false] rfl rfl (any_of HT_.out (by kernel_rfl)) (fun _ _ _ h => h) (Or.inl ⟨by rfl, ?_⟩) ?_ ?_
        rotate_left
        · intro w'
          go_simp
          with_reducible rfl
        rotate_left
        · simp only [Act.put, List.setIfInBounds_toArray, List.set_cons_zero, List.set_cons_succ, i64_w, i32_w]
          rfl
        refine pure_ (i := 11) (N := (some 91)) (v := ?_) (a' := ?_) #[true, true, true, true, true, true, true, true, true, true, true, true, false, false, false, false, false, false, false, false, false, false, false, false, false, false, false, false, false, false, false, false, false, false] rfl rfl (any_of HT_.out (by kernel_rfl)) (fun _ _ _ h => h) (Or.inl ⟨by rfl, ?_⟩) ?_ ?_
        rotate_left
        · intro w'
          go_simp
          with_reducible rfl
        rotate_left
        · simp only [Act.put, List.setIfInBounds_toArray, List.set_cons_zero, List.set_cons_succ, i64_w, i32_w]
          rfl
        refine pure_ (i := 13) (N := (some 93)) (v := ?_) (a' := ?_) #[true, true, true, true, true, true, true, true, true, true, true, true, false, true, false, false, false, false, false, false, false, false, false, false, false, false, false, false, false, false, false, false, false, false] rfl rfl (any_of HT_.out (by kernel_rfl)) (fun _ _ _ h => h) (Or.inl ⟨by rfl, ?_⟩) ?_ ?_
        rotate_left
        · intro w'
          go_simp
          with_reducible rfl
        rotate_left
        · simp only [Act.put, List.setIfInBounds_toArray, List.set_cons_zero, List.set_cons_succ, i64_w, i32_w]
          rfl
        refine take_ (i := 14) (N := (some 94)) (v := ?_) (a' := ?_) #[true, true, true, true, true, true, true, true, true, true, true, true, false, true, true, false, false, false, false, false, false, false, false, false, false, false, false, false, false, false, false, false, false, false] rfl rfl (take_ofW HT_.out HW_.out (by kernel_rfl)) (fun _ _ _ h => h) (Or.inl ⟨by rfl, ?_⟩) hHeld ?_ ?_
        rotate_left
        · rintro w' ⟨s0, s1, s2⟩
          go_simp
          with_reducible rfl
        rotate_left
        · simp only [Act.put, List.setIfInBounds_toArray, List.set_cons_zero, List.set_cons_succ, i64_w, i32_w]
          rfl
        refine one_ (i := 12) (N := (some 92)) #[true, true, true, true, true, true, true, true, true, true, true, true, true, true, true, false, false, false, false, false, false, false, false, false, false, false, false, false, false, false, false, false, false, false] rfl rfl (one_of HT_.out (by kernel_rfl)) (by decide) (fun K hK => ?_)
        refine goes_ Try.func13 (by kernel_rfl) rfl #[.pointer (some ⟨g, 0, none⟩)] (by rfl) rfl rfl (by (try simp only [List.map_toArray, List.map_cons, List.map_nil]); first | done | rfl | simp [Act.eval]) ?_
        refine (All_law HS10.out 4 rfl (by omega)).mono ?_
        rintro e w11 ⟨v11, rfl, hR, hd⟩
        obtain ⟨An, cn, hv⟩ := Kd.R_slice hR
        rw [lst_len] at hv
        subst hv
        have HR11 := Aside0.mk hR
        clear hR
        refine ⟨_, rfl, ?_⟩
        have HS11 := Aside0.mk (HS10.out.low hd)
        have HB11 := Aside0.mk (below_step HB10.out hd)
        clear hd
        refine hK.out _ _ ⟨(blk_cell (HS11.out.get 6 rfl) 0).trans rfl, (blk_cell (HS11.out.get 6 rfl) 1).trans rfl, (HB11.out.cell (World.block_lt_of_cell? w _ HCX0.out)).trans HCX0.out⟩ (fun hHeld => ?_); clear hK K
        refine norm_ (a' := ?_) ?_ ?_
        rotate_left
        · show Act.put _ (some 92) _ = _
          simp only [Act.put, List.setIfInBounds_toArray, List.set_cons_zero, List.set_cons_succ, i64_w, i32_w]
          rfl
        refine one_ (i := 15) (N := (some 95)) #[true, true, true, true, true, true, true, true, true, true, true, true, true, true, true, true, false, false, false, false, false, false, false, false, false, false, false, false, false, false, false, false, false, false] rfl rfl (one_of HT_.out (by kernel_rfl)) (by decide) (fun K hK => ?_)
        refine goes_ Try.func16 (by kernel_rfl) rfl #[.slice An n cn, .slice Ar n cr] (by rfl) rfl rfl (by (try simp only [List.map_toArray, List.map_cons, List.map_nil]); first | done | rfl | simp [Act.eval]) ?_
        refine (same_calls An n cn (lst n (splitOf n C N (x.map Int.toNat)).C) Ar n cr (lst n (splitOf n C N (x.map Int.toNat)).C) _ (row_C HR11.out).1 (row_C HR11.out).2 (row_C (HS11.out.get 0 rfl).1.1).1 (row_C (HS11.out.get 0 rfl).1.1).2 (by omega)).mono ?_
        rw [decide_eq_true rfl]
        rintro e w12 ⟨rfl, hd0⟩
        have hd := hd0.below
        clear hd0
        refine ⟨_, rfl, ?_⟩
        have HS12 := Aside0.mk (HS11.out.low hd)
        have HB12 := Aside0.mk (below_step HB11.out hd)
        clear hd
        refine hK.out _ _ ⟨(blk_cell (HS12.out.get 6 rfl) 0).trans rfl, (blk_cell (HS12.out.get 6 rfl) 1).trans rfl, (HB12.out.cell (World.block_lt_of_cell? w _ HCX0.out)).trans HCX0.out⟩ (fun hHeld => ?_); clear hK K
        refine norm_ (a' := ?_) ?_ ?_
        rotate_left
        · show Act.put _ (some 95) _ = _
          simp only [Act.put, List.setIfInBounds_toArray, List.set_cons_zero, List.set_cons_succ, i64_w, i32_w]
          rfl
        refine pure_ (i := 16) (N := (some 96)) (v := ?_) (a' := ?_) #[true, true, true, true, true, true, true, true, true, true, true, true, true, true, true, true, true, false, false, false, false, false, false, false, false, false, false, false, false, false, false, false, false, false] rfl rfl (any_of HT_.out (by kernel_rfl)) (fun _ _ _ h => h) (Or.inl ⟨by rfl, ?_⟩) ?_ ?_
        rotate_left
        · intro w'
          go_simp
          with_reducible rfl
        rotate_left
        · simp only [Act.put, List.setIfInBounds_toArray, List.set_cons_zero, List.set_cons_succ, i64_w, i32_w]
          rfl
        refine pure_ (i := 17) (N := (some 97)) (v := ?_) (a' := ?_) #[true, true, true, true, true, true, true, true, true, true, true, true, true, true, true, true, true, true, false, false, false, false, false, false, false, false, false, false, false, false, false, false, false, false] rfl rfl (any_of HT_.out (by kernel_rfl)) (fun _ _ _ h => h) (Or.inl ⟨by rfl, ?_⟩) ?_ ?_
        rotate_left
        · intro w'
          go_simp
          with_reducible rfl
        rotate_left
        · simp only [Act.put, List.setIfInBounds_toArray, List.set_cons_zero, List.set_cons_succ, i64_w, i32_w]
          rfl
        refine pure_ (i := 18) (N := (some 98)) (v := ?_) (a' := ?_) #[true, true, true, true, true, true, true, true, true, true, true, true, true, true, true, true, true, true, true, false, false, false, false, false, false, false, false, false, false, false, false, false, false, false] rfl rfl (any_of HT_.out (by kernel_rfl)) (fun _ _ _ h => h) (Or.inl ⟨by rfl, ?_⟩) ?_ ?_
        rotate_left
        · intro w'
          go_simp
          with_reducible rfl
        rotate_left
        · simp only [Act.put, List.setIfInBounds_toArray, List.set_cons_zero, List.set_cons_succ, i64_w, i32_w]
          rfl
        refine pure_ (i := 19) (N := (some 99)) (v := ?_) (a' := ?_) #[true, true, true, true, true, true, true, true, true, true, true, true, true, true, true, true, true, true, true, true, false, false, false, false, false, false, false, false, false, false, false, false, false, false] rfl rfl (any_of HT_.out (by kernel_rfl)) (fun _ _ _ h => h) (Or.inl ⟨by rfl, ?_⟩) ?_ ?_
        rotate_left
        · intro w'
          go_simp
          with_reducible rfl
        rotate_left
        · simp only [Act.put, List.setIfInBounds_toArray, List.set_cons_zero, List.set_cons_succ, i64_w, i32_w]
          rfl
        refine pure_ (i := 21) (N := (some 101)) (v := ?_) (a' := ?_) #[true, true, true, true, true, true, true, true, true, true, true, true, true, true, true, true, true, true, true, true, false, true, false, false, false, false, false, false, false, false, false, false, false, false] rfl rfl (any_of HT_.out (by kernel_rfl)) (fun _ _ _ h => h) (Or.inl ⟨by rfl, ?_⟩) ?_ ?_
        rotate_left
        · intro w'
          go_simp
          with_reducible rfl
        rotate_left
        · simp only [Act.put, List.setIfInBounds_toArray, List.set_cons_zero, List.set_cons_succ, i64_w, i32_w]
          rfl
        refine take_ (i := 22) (N := (some 102)) (v := ?_) (a' := ?_) #[true, true, true, true, true, true, true, true, true, true, true, true, true, true, true, true, true, true, true, true, false, true, true, false, false, false, false, false, false, false, false, false, false, false] rfl rfl (take_ofW HT_.out HW_.out (by kernel_rfl)) (fun _ _ _ h => h) (Or.inl ⟨by rfl, ?_⟩) hHeld ?_ ?_
        rotate_left
        · rintro w' ⟨s0, s1, s2⟩
          go_simp
          with_reducible rfl
        rotate_left
        · simp only [Act.put, List.setIfInBounds_toArray, List.set_cons_zero, List.set_cons_succ, i64_w, i32_w]
          rfl
        refine one_ (i := 20) (N := (some 100)) #[true, true, true, true, true, true, true, true, true, true, true, true, true, true, true, true, true, true, true, true, true, true, true, false, false, false, false, false, false, false, false, false, false, false] rfl rfl (one_of HT_.out (by kernel_rfl)) (by decide) (fun K hK => ?_)
        refine goes_ Try.func17 (by kernel_rfl) rfl #[.pointer (some ⟨g, 0, none⟩)] (by rfl) rfl rfl (by (try simp only [List.map_toArray, List.map_cons, List.map_nil]); first | done | rfl | simp [Act.eval]) ?_
        refine (Count_walk w.heap.size own3 g n (splitOf n C N (x.map Int.toNat)).N (splitOf n C N (x.map Int.toNat)).C _ (HS12.out.get 4 rfl)).mono ?_
        rintro e w13 ⟨rfl, hd⟩
        refine ⟨_, rfl, ?_⟩
        have HS13 := Aside0.mk (HS12.out.low hd)
        have HB13 := Aside0.mk (below_step HB12.out hd)
        clear hd
        refine hK.out _ _ ⟨(blk_cell (HS13.out.get 6 rfl) 0).trans rfl, (blk_cell (HS13.out.get 6 rfl) 1).trans rfl, (HB13.out.cell (World.block_lt_of_cell? w _ HCX0.out)).trans HCX0.out⟩ (fun hHeld => ?_); clear hK K
        refine norm_ (a' := ?_) ?_ ?_
        rotate_left
        · show Act.put _ (some 100) _ = _
          simp only [Act.put, List.setIfInBounds_toArray, List.set_cons_zero, List.set_cons_succ, i64_w, i32_w]
          rfl
        refine pure_ (i := 23) (N := (some 103)) (v := ?_) (a' := ?_) #[true, true, true, true, true, true, true, true, true, true, true, true, true, true, true, true, true, true, true, true, true, true, true, true, false, false, false, false, false, false, false, false, false, false] rfl rfl (any_of HT_.out (by kernel_rfl)) (fun _ _ _ h => h) (Or.inl ⟨by rfl, ?_⟩) ?_ ?_
        rotate_left
        · intro w'
          go_simp
          with_reducible rfl
        rotate_left
        · simp only [Act.put, List.setIfInBounds_toArray, List.set_cons_zero, List.set_cons_succ, i64_w, i32_w]
          rfl
        refine pure_ (i := 24) (N := (some 104)) (v := ?_) (a' := ?_) #[true, true, true, true, true, true, true, true, true, true, true, true, true, true, true, true, true, true, true, true, true, true, true, true, true, false, false, false, false, false, false, false, false, false] rfl rfl (any_of HT_.out (by kernel_rfl)) (fun _ _ _ h => h) (Or.inl ⟨by rfl, ?_⟩) ?_ ?_
        rotate_left
        · intro w'
          go_simp
          with_reducible rfl
        rotate_left
        · simp only [Act.put, List.setIfInBounds_toArray, List.set_cons_zero, List.set_cons_succ, i64_w, i32_w]
          rfl
        refine pure_ (i := 25) (N := (some 105)) (v := ?_) (a' := ?_) #[true, true, true, true, true, true, true, true, true, true, true, true, true, true, true, true, true, true, true, true, true, true, true, true, true, true, false, false, false, false, false, false, false, false] rfl rfl (any_of HT_.out (by kernel_rfl)) (fun _ _ _ h => h) (Or.inl ⟨by rfl, ?_⟩) ?_ ?_
        rotate_left
        · intro w'
          go_simp
          with_reducible rfl
        rotate_left
        · simp only [Act.put, List.setIfInBounds_toArray, List.set_cons_zero, List.set_cons_succ, i64_w, i32_w]
          rfl
        refine pure_ (i := 26) (N := (some 106)) (v := ?_) (a' := ?_) #[true, true, true, true, true, true, true, true, true, true, true, true, true, true, true, true, true, true, true, true, true, true, true, true, true, true, true, false, false, false, false, false, false, false] rfl rfl (any_of HT_.out (by kernel_rfl)) (fun _ _ _ h => h) (Or.inl ⟨by rfl, ?_⟩) ?_ ?_
        rotate_left
        · intro w'
          go_simp
          with_reducible rfl
        rotate_left
        · simp only [Act.put, List.setIfInBounds_toArray, List.set_cons_zero, List.set_cons_succ, i64_w, i32_w]
          rfl
        refine pure_ (i := 27) (N := (some 107)) (v := ?_) (a' := ?_) #[true, true, true, true, true, true, true, true, true, true, true, true, true, true, true, true, true, true, true, true, true, true, true, true, true, true, true, true, false, false, false, false, false, false] rfl rfl (any_of HT_.out (by kernel_rfl)) (fun _ _ _ h => h) (Or.inl ⟨by rfl, ?_⟩) ?_ ?_
        rotate_left
        · intro w'
          go_simp
          with_reducible rfl
        rotate_left
        · simp only [Act.put, List.setIfInBounds_toArray, List.set_cons_zero, List.set_cons_succ, i64_w, i32_w]
          rfl
        refine pure_ (i := 28) (N := (some 108)) (v := ?_) (a' := ?_) #[true, true, true, true, true, true, true, true, true, true, true, true, true, true, true, true, true, true, true, true, true, true, true, true, true, true, true, true, true, false, false, false, false, false] rfl rfl (any_of HT_.out (by kernel_rfl)) (fun _ _ _ h => h) (Or.inl ⟨by rfl, ?_⟩) ?_ ?_
        rotate_left
        · intro w'
          go_simp
          with_reducible rfl
        rotate_left
        · simp only [Act.put, List.setIfInBounds_toArray, List.set_cons_zero, List.set_cons_succ, i64_w, i32_w]
          rfl
        refine pure_ (i := 29) (N := (some 109)) (v := ?_) (a' := ?_) #[true, true, true, true, true, true, true, true, true, true, true, true, true, true, true, true, true, true, true, true, true, true, true, true, true, true, true, true, true, true, false, false, false, false] rfl rfl (any_of HT_.out (by kernel_rfl)) (fun _ _ _ h => h) (Or.inl ⟨by rfl, ?_⟩) ?_ ?_
        rotate_left
        · intro w'
          go_simp
          with_reducible rfl
        rotate_left
        · simp only [Act.put, List.setIfInBounds_toArray, List.set_cons_zero, List.set_cons_succ, i64_w, i32_w]
          rfl
        refine take_ (i := 30) (N := (some 110)) (v := ?_) (a' := ?_) #[true, true, true, true, true, true, true, true, true, true, true, true, true, true, true, true, true, true, true, true, true, true, true, true, true, true, true, true, true, true, true, false, false, false] rfl rfl (take_ofW HT_.out HW_.out (by kernel_rfl)) (fun _ _ _ h => h) (Or.inl ⟨by rfl, ?_⟩) hHeld ?_ ?_
        rotate_left
        · rintro w' ⟨s0, s1, s2⟩
          go_simp
          with_reducible rfl
        rotate_left
        · simp only [Act.put, List.setIfInBounds_toArray, List.set_cons_zero, List.set_cons_succ, i64_w, i32_w]
          rfl
        refine last_ (i := 31) (N := (some 111)) #[true, true, true, true, true, true, true, true, true, true, true, true, true, true, true, true, true, true, true, true, true, true, true, true, true, true, true, true, true, true, true, true, false, false] rfl rfl (one_of HT_.out (by kernel_rfl)) (by decide) (fun K hK => ?_)
        refine goes_ Try.func21 (by kernel_rfl) rfl #[.slice (some ⟨gv, 0, none⟩) x.length cv, .slice Dx x.length cx] (by rfl) rfl rfl (by (try simp only [List.map_toArray, List.map_cons, List.map_nil]); first | done | rfl | simp [Act.eval]) ?_
        refine (Kept_walk x gv cv Dx cx _ (row_C (HS13.out.get 2 rfl)).1 hcv (Kd.C_below HCX.out.2 HB13.out) HCX.out.1 (by omega)).mono ?_
        rintro e w14 ⟨rfl, hd⟩
        refine ⟨_, rfl, ?_⟩
        have HS14 := Aside0.mk (HS13.out.low hd)
        have HB14 := Aside0.mk (below_step HB13.out hd)
        clear hd
        refine hK.out _ _ ?_; clear hK K
        refine norm_ (a' := ?_) ?_ ?_
        rotate_left
        · show Act.put _ (some 111) _ = _
          simp only [Act.put, List.setIfInBounds_toArray, List.set_cons_zero, List.set_cons_succ, i64_w, i32_w]
          rfl
        refine pure_ (i := 32) (N := (some 112)) (v := ?_) (a' := ?_) #[true, true, true, true, true, true, true, true, true, true, true, true, true, true, true, true, true, true, true, true, true, true, true, true, true, true, true, true, true, true, true, true, true, false] rfl rfl (any_of HT_.out (by kernel_rfl)) (fun _ _ _ h => h) (Or.inl ⟨by rfl, ?_⟩) ?_ ?_
        rotate_left
        · intro w'
          go_simp
          with_reducible rfl
        rotate_left
        · simp only [Act.put, List.setIfInBounds_toArray, List.set_cons_zero, List.set_cons_succ, i64_w, i32_w]
          rfl
        refine pure_ (i := 33) (N := (some 113)) (v := ?_) (a' := ?_) #[true, true, true, true, true, true, true, true, true, true, true, true, true, true, true, true, true, true, true, true, true, true, true, true, true, true, true, true, true, true, true, true, true, true] rfl rfl (any_of HT_.out (by kernel_rfl)) (fun _ _ _ h => h) (Or.inl ⟨by rfl, ?_⟩) ?_ ?_
        rotate_left
        · intro w'
          go_simp
          with_reducible rfl
        rotate_left
        · simp only [Act.put, List.setIfInBounds_toArray, List.set_cons_zero, List.set_cons_succ, i64_w, i32_w]
          rfl
        refine done_ (done_of HT_.out (by kernel_rfl)) ?_
        go_wp2
        go_roundw
        case rel => exact ⟨j + 1, (splitOf n C N (x.map Int.toNat)).N, (splitOf n C N (x.map Int.toNat)).C, own3, Ar, cr, by go_num, ⟨by have := HJL.out; omega⟩, ⟨by
          have h := HS14.out.upd 0 rfl (r' := ints w.heap.size (.slice Ar n cr) (lst n (splitOf n C N (x.map Int.toNat)).C)) (HS14.out.get 0 rfl).1.1 (fun _ _ _ => rfl) (fun k hk => ⟨.inl (.inl hk), (HS14.out.bound 0 rfl (k := k) (.inl hk)).2⟩) HB14.out.size (Nat.le_refl _)
          exact sep_pick h⟩, HB14⟩
        case measure => have := HJL.out; simp [intOf]; omega
      · have hsp : splitAny n C N x = (⟨C, N, []⟩, 1) := by unfold splitAny; rw [if_neg hok]
        have HOK := Aside0.mk hok
        clear hok
        go_wp2_with (first
        | (go_at_call 12; refine (Split_any HS4.out 2 1 rfl rfl (by decide) HB4.out.size hn0 (by omega) x hxb (some ⟨gv, 0, none⟩) x.length cv rfl (fun w1 hk => marked_C (row_C ((ints w.heap.size (.slice (some ⟨gv, 0, none⟩) (x.length + 2) cv) (marked x)).step (HS4.out.get 0 rfl) (fun k hk1 hlt => hk k hlt (fun ho => HS4.out.apart (i := 2) (j := 0) rfl rfl (by decide) (k := k) ho hk1)))).1)).mono ?_
           rw [hsp]
           rintro e w5 ⟨mv, own3, rfl, hS, hb⟩
           obtain ⟨Aa, ca, hv⟩ := Kd.R_slice (hS.get 1 rfl)
           subst hv
           have HS5 : Aside0 (Sep w.heap.size [ints w.heap.size (.slice (some ⟨gv, 0, none⟩) (x.length + 2) cv) (marked x), ints w.heap.size (.slice Aa (tl []).length ca) (tl []), part w.heap.size own3 g n N C, ints w.heap.size (.slice Aq n cq) (lst n C), blk gq #[.slice Aq n cq, .int .i64 (N : Int)] 40] w5) := ⟨hS⟩
           have HB5 := Aside0.mk (HB4.out.trans hb)
           clear hS hb)
        | (go_at_call 19; refine (Lent_walk x Dx cx wr (Kd.C_below HCX.out.2 HB.out) HCX.out.1 hxb).mono ?_
           rintro e w4 ⟨gv, cv, rfl, hR, hb⟩
           have HS4 : Aside0 (Sep w.heap.size [ints w.heap.size (.slice (some ⟨gv, 0, none⟩) (x.length + 2) cv) (marked x), none_, part w.heap.size own g n N C, ints w.heap.size (.slice Aq n cq) (lst n C), blk gq #[.slice Aq n cq, .int .i64 (N : Int)] 40] w4) := ⟨Sep.fillRow HSF.out 0 rfl rfl hR hb HB.out.size⟩
           have HB4 := Aside0.mk (below_step HB.out hb)
           have hcv : x.length + 2 ≤ cv := (Kd.R_reads' hR).2.1
           clear hb hR hxl))
        clear hsp HS4 HB4 HSF HB HS
        refine start_ (n := 14) (S := fun w' => Below w5.heap.size w5 w') (ds := [11]) #[false, false, false, false, false, false, false, false, false, false, false, false, false, false] (by kernel_rfl) rfl rfl (below_drew1 (Below.refl _ _)) (fun hHeld => ?_)
        refine with_tabW pl16.tab16 pl16.bits16 (fun HT_ HW_ => ?_)
        generalize w5.drew = wd at hHeld ⊢
        have hsep : Sp.Sep w5.heap.size [Sp.none_, Sp.none_] wd := Sp.Sep.start _ 2 _
        have hbel := hHeld
        refine pure_ (i := 1) (N := (some 71)) (v := ?_) (a' := ?_) #[false, true, false, false, false, false, false, false, false, false, false, false, false, false] rfl rfl (any_of HT_.out (by kernel_rfl)) (fun _ _ _ h => h) (Or.inl ⟨by rfl, ?_⟩) ?_ ?_
        rotate_left
        · intro w'
          go_simp
          with_reducible rfl
        rotate_left
        · simp only [Act.put, List.setIfInBounds_toArray, List.set_cons_zero, List.set_cons_succ, i64_w, i32_w]
          rfl
        refine pure_ (i := 2) (N := (some 72)) (v := ?_) (a' := ?_) #[false, true, true, false, false, false, false, false, false, false, false, false, false, false] rfl rfl (any_of HT_.out (by kernel_rfl)) (fun _ _ _ h => h) (Or.inl ⟨by rfl, ?_⟩) ?_ ?_
        rotate_left
        · intro w'
          go_simp
          with_reducible rfl
        rotate_left
        · simp only [Act.put, List.setIfInBounds_toArray, List.set_cons_zero, List.set_cons_succ, i64_w, i32_w]
          rfl
        refine pure_ (i := 3) (N := (some 73)) (v := ?_) (a' := ?_) #[false, true, true, true, false, false, false, false, false, false, false, false, false, false] rfl rfl (any_of HT_.out (by kernel_rfl)) (fun _ _ _ h => h) (Or.inl ⟨by rfl, ?_⟩) ?_ ?_
        rotate_left
        · intro w'
          go_simp
          with_reducible rfl
        rotate_left
        · simp only [Act.put, List.setIfInBounds_toArray, List.set_cons_zero, List.set_cons_succ, i64_w, i32_w]
          rfl
        refine take_ (i := 0) (N := (some 70)) (v := ?_) (a' := ?_) #[true, true, true, true, false, false, false, false, false, false, false, false, false, false] rfl rfl (take_ofW HT_.out HW_.out (by kernel_rfl)) (fun _ _ _ h => h) (Or.inl ⟨by rfl, ?_⟩) hHeld ?_ ?_
        rotate_left
        · intro w' s0
          have pq0 : w'.cell? ⟨gq, 0, none⟩ = some (.slice Aq n cq) := (blk_cell ((HS5.out.low s0).get 4 rfl) 0).trans rfl
          have pq1 : w'.cell? ⟨gq, 1, none⟩ = some (.int .i64 (N : Int)) := (blk_cell ((HS5.out.low s0).get 4 rfl) 1).trans rfl
          have pxl : w'.cell? (adl.add j) = some (.slice Dx x.length cx) := ((below_step HB5.out s0).cell (World.block_lt_of_cell? w _ HCX0.out)).trans HCX0.out
          go_simp
          with_reducible rfl
        rotate_left
        · simp only [Act.put, List.setIfInBounds_toArray, List.set_cons_zero, List.set_cons_succ, i64_w, i32_w]
          rfl
        refine take_ (i := 4) (N := (some 74)) (v := ?_) (a' := ?_) #[true, true, true, true, true, false, false, false, false, false, false, false, false, false] rfl rfl (take_ofW HT_.out HW_.out (by kernel_rfl)) (fun _ _ _ h => h) (Or.inl ⟨by rfl, ?_⟩) hHeld ?_ ?_
        rotate_left
        · intro w' s0
          have pq0 : w'.cell? ⟨gq, 0, none⟩ = some (.slice Aq n cq) := (blk_cell ((HS5.out.low s0).get 4 rfl) 0).trans rfl
          have pq1 : w'.cell? ⟨gq, 1, none⟩ = some (.int .i64 (N : Int)) := (blk_cell ((HS5.out.low s0).get 4 rfl) 1).trans rfl
          have pxl : w'.cell? (adl.add j) = some (.slice Dx x.length cx) := ((below_step HB5.out s0).cell (World.block_lt_of_cell? w _ HCX0.out)).trans HCX0.out
          go_simp
          with_reducible rfl
        rotate_left
        · simp only [Act.put, List.setIfInBounds_toArray, List.set_cons_zero, List.set_cons_succ, i64_w, i32_w]
          rfl
        refine join_ (σ := Nat) 3 #[true, true, true, true, true, true, true, true, true, true, true, false, false, false] (fun s_ => [(75, .tuple #[.agg #[.slice Aq n cq, .int .i64 (N : Int)], .slice none 0 0, .int .i64 1]), (17, .pointer (some ⟨s_, 0, none⟩)), (69, .tuple #[.agg #[.slice Aq n cq, .int .i64 (N : Int)], .slice none 0 0, .int .i64 1]), (76, .agg #[.slice Aq n cq, .int .i64 (N : Int)]), (77, .slice none 0 0), (78, .int .i64 1)]) (fun s_ w' => Sp.Sep w5.heap.size [Sp.none_, Sp.blk s_ #[.slice none 0 0, .int .i64 0] 40] w' ∧ Below w5.heap.size w5 w') ?_ ?_
        rotate_left
        · intro hJ5_10
          refine two_ (i := 5) (j := 10) (Ni := some 75) (Nj := some 17) #[true, true, true, true, true, true, false, false, false, false, false, false, false, false] #[true, true, true, true, true, false, false, false, false, false, true, false, false, false] rfl rfl rfl rfl (two_of HT_.out (by kernel_rfl)) (by decide) (by decide) (fun K hK => ?_) (fun K hK => ?_)
          · skip
            refine goes_ Try.func20 (by kernel_rfl) rfl #[.agg #[.slice Aq n cq, .int .i64 (N : Int)], .slice Dx x.length cx] (by rfl) rfl rfl (by (try simp only [List.map_toArray, List.map_cons, List.map_nil]); first | done | rfl) ?_
            refine (RSplit_bad n N C Aq cq x Dx cx _ (row_C ((HS5.out.low hbel).get 3 rfl)).1 (row_C ((HS5.out.low hbel).get 3 rfl)).2 (Kd.C_below HCX.out.2 (below_step HB5.out hbel)) HCX.out.1 (by omega) (by have := HPP.out.2.1; omega) (by omega) HOK.out).mono ?_
            rintro e w1 ⟨rfl, hb⟩
            refine ⟨_, rfl, ?_⟩
            have hsep1 : Sp.Sep w5.heap.size [Sp.none_, Sp.none_] w1 := hsep.low hb
            have hbel1 := below_then hbel hbel.size hb
            clear hb
            refine hK.out _ _ hbel1 (fun hHeld => ?_)
            clear hK K hsep hbel
            have hsep := hsep1
            have hbel := hbel1
            clear hsep1 hbel1
            refine norm_ (a' := ?_) ?_ ?_
            rotate_left
            · show Act.put _ (some 75) _ = _
              simp only [Act.put, List.setIfInBounds_toArray, List.set_cons_zero, List.set_cons_succ, i64_w, i32_w]
              rfl
            refine pure_ (i := 6) (N := (some 69)) (v := ?_) (a' := ?_) #[true, true, true, true, true, true, true, false, false, false, false, false, false, false] rfl rfl (any_of HT_.out (by kernel_rfl)) (fun _ _ _ h => h) (Or.inl ⟨by rfl, ?_⟩) ?_ ?_
            rotate_left
            · intro w'
              go_simp
              with_reducible rfl
            rotate_left
            · simp only [Act.put, List.setIfInBounds_toArray, List.set_cons_zero, List.set_cons_succ, i64_w, i32_w]
              rfl
            refine pure_ (i := 7) (N := (some 76)) (v := ?_) (a' := ?_) #[true, true, true, true, true, true, true, true, false, false, false, false, false, false] rfl rfl (any_of HT_.out (by kernel_rfl)) (fun _ _ _ h => h) (Or.inl ⟨by rfl, ?_⟩) ?_ ?_
            rotate_left
            · intro w'
              go_simp
              with_reducible rfl
            rotate_left
            · simp only [Act.put, List.setIfInBounds_toArray, List.set_cons_zero, List.set_cons_succ, i64_w, i32_w]
              rfl
            refine pure_ (i := 8) (N := (some 77)) (v := ?_) (a' := ?_) #[true, true, true, true, true, true, true, true, true, false, false, false, false, false] rfl rfl (any_of HT_.out (by kernel_rfl)) (fun _ _ _ h => h) (Or.inl ⟨by rfl, ?_⟩) ?_ ?_
            rotate_left
            · intro w'
              go_simp
              with_reducible rfl
            rotate_left
            · simp only [Act.put, List.setIfInBounds_toArray, List.set_cons_zero, List.set_cons_succ, i64_w, i32_w]
              rfl
            refine pure_ (i := 9) (N := (some 78)) (v := ?_) (a' := ?_) #[true, true, true, true, true, true, true, true, true, true, false, false, false, false] rfl rfl (any_of HT_.out (by kernel_rfl)) (fun _ _ _ h => h) (Or.inl ⟨by rfl, ?_⟩) ?_ ?_
            rotate_left
            · intro w'
              go_simp
              with_reducible rfl
            rotate_left
            · simp only [Act.put, List.setIfInBounds_toArray, List.set_cons_zero, List.set_cons_succ, i64_w, i32_w]
              rfl
            refine one_ (i := 10) (N := some 17) #[true, true, true, true, true, true, true, true, true, true, true, false, false, false] rfl rfl (one_of HT_.out (by kernel_rfl)) (by decide) (fun K hK => ?_)
            refine box_step ?hg (N := 17) ?hd (cs := #[.slice none 0 0, .int .i64 0]) (t := 40) ?hr ?_; (case hd => rfl); (case hg => rfl); (case hr => first | (go_simp; done) | (go_simp; rfl))
            intro g17 hg w1 hbox hb
            have hsep1 : Sp.Sep w5.heap.size [Sp.none_, Sp.blk g17 #[.slice none 0 0, .int .i64 0] 40] w1 := hsep.fillBlk 1 rfl hg hbox hb hbel.size
            have hbel1 := below_then hbel hbel.size hb
            clear hg hbox hb
            refine hK.out _ _ hbel1 (fun hHeld => ?_)
            clear hK K hsep hbel
            have hsep := hsep1
            have hbel := hbel1
            clear hsep1 hbel1
            refine norm_ (a' := ?_) ?_ ?_
            rotate_left
            · show Act.put _ (some 17) _ = _
              simp only [Act.put, List.setIfInBounds_toArray, List.set_cons_zero, List.set_cons_succ, i64_w, i32_w]
              rfl
            exact norm_ (by first | (simp only [putAll, Act.put, List.setIfInBounds_toArray, List.set_cons_zero, List.set_cons_succ]; done) | (simp only [putAll, Act.put, List.setIfInBounds_toArray, List.set_cons_zero, List.set_cons_succ]; rfl)) (hJ5_10 g17 _ ⟨hsep, hbel⟩)
          · skip
            refine box_step ?hg (N := 17) ?hd (cs := #[.slice none 0 0, .int .i64 0]) (t := 40) ?hr ?_; (case hd => rfl); (case hg => rfl); (case hr => first | (go_simp; done) | (go_simp; rfl))
            intro g17 hg w1 hbox hb
            have hsep1 : Sp.Sep w5.heap.size [Sp.none_, Sp.blk g17 #[.slice none 0 0, .int .i64 0] 40] w1 := hsep.fillBlk 1 rfl hg hbox hb hbel.size
            have hbel1 := below_then hbel hbel.size hb
            clear hg hbox hb
            refine hK.out _ _ hbel1 (fun hHeld => ?_)
            clear hK K hsep hbel
            have hsep := hsep1
            have hbel := hbel1
            clear hsep1 hbel1
            refine norm_ (a' := ?_) ?_ ?_
            rotate_left
            · show Act.put _ (some 17) _ = _
              simp only [Act.put, List.setIfInBounds_toArray, List.set_cons_zero, List.set_cons_succ, i64_w, i32_w]
              rfl
            refine one_ (i := 5) (N := some 75) #[true, true, true, true, true, true, false, false, false, false, true, false, false, false] rfl rfl (one_of HT_.out (by kernel_rfl)) (by decide) (fun K hK => ?_)
            refine goes_ Try.func20 (by kernel_rfl) rfl #[.agg #[.slice Aq n cq, .int .i64 (N : Int)], .slice Dx x.length cx] (by rfl) rfl rfl (by (try simp only [List.map_toArray, List.map_cons, List.map_nil]); first | done | rfl) ?_
            refine (RSplit_bad n N C Aq cq x Dx cx _ (row_C ((HS5.out.low hbel).get 3 rfl)).1 (row_C ((HS5.out.low hbel).get 3 rfl)).2 (Kd.C_below HCX.out.2 (below_step HB5.out hbel)) HCX.out.1 (by omega) (by have := HPP.out.2.1; omega) (by omega) HOK.out).mono ?_
            rintro e w1 ⟨rfl, hb⟩
            refine ⟨_, rfl, ?_⟩
            have hsep1 : Sp.Sep w5.heap.size [Sp.none_, Sp.blk g17 #[.slice none 0 0, .int .i64 0] 40] w1 := hsep.low hb
            have hbel1 := below_then hbel hbel.size hb
            clear hb
            refine hK.out _ _ hbel1 (fun hHeld => ?_)
            clear hK K hsep hbel
            have hsep := hsep1
            have hbel := hbel1
            clear hsep1 hbel1
            refine norm_ (a' := ?_) ?_ ?_
            rotate_left
            · show Act.put _ (some 75) _ = _
              simp only [Act.put, List.setIfInBounds_toArray, List.set_cons_zero, List.set_cons_succ, i64_w, i32_w]
              rfl
            refine pure_ (i := 6) (N := (some 69)) (v := ?_) (a' := ?_) #[true, true, true, true, true, true, true, false, false, false, true, false, false, false] rfl rfl (any_of HT_.out (by kernel_rfl)) (fun _ _ _ h => h) (Or.inl ⟨by rfl, ?_⟩) ?_ ?_
            rotate_left
            · intro w'
              go_simp
              with_reducible rfl
            rotate_left
            · simp only [Act.put, List.setIfInBounds_toArray, List.set_cons_zero, List.set_cons_succ, i64_w, i32_w]
              rfl
            refine pure_ (i := 7) (N := (some 76)) (v := ?_) (a' := ?_) #[true, true, true, true, true, true, true, true, false, false, true, false, false, false] rfl rfl (any_of HT_.out (by kernel_rfl)) (fun _ _ _ h => h) (Or.inl ⟨by rfl, ?_⟩) ?_ ?_
            rotate_left
            · intro w'
              go_simp
              with_reducible rfl
            rotate_left
            · simp only [Act.put, List.setIfInBounds_toArray, List.set_cons_zero, List.set_cons_succ, i64_w, i32_w]
              rfl
            refine pure_ (i := 8) (N := (some 77)) (v := ?_) (a' := ?_) #[true, true, true, true, true, true, true, true, true, false, true, false, false, false] rfl rfl (any_of HT_.out (by kernel_rfl)) (fun _ _ _ h => h) (Or.inl ⟨by rfl, ?_⟩) ?_ ?_
            rotate_left
            · intro w'
              go_simp
              with_reducible rfl
            rotate_left
            · simp only [Act.put, List.setIfInBounds_toArray, List.set_cons_zero, List.set_cons_succ, i64_w, i32_w]
              rfl
            refine pure_ (i := 9) (N := (some 78)) (v := ?_) (a' := ?_) #[true, true, true, true, true, true, true, true, true, true, true, false, false, false] rfl rfl (any_of HT_.out (by kernel_rfl)) (fun _ _ _ h => h) (Or.inl ⟨by rfl, ?_⟩) ?_ ?_
            rotate_left
            · intro w'
              go_simp
              with_reducible rfl
            rotate_left
            · simp only [Act.put, List.setIfInBounds_toArray, List.set_cons_zero, List.set_cons_succ, i64_w, i32_w]
              rfl
            exact norm_ (by first | (simp only [putAll, Act.put, List.setIfInBounds_toArray, List.set_cons_zero, List.set_cons_succ]; done) | (simp only [putAll, Act.put, List.setIfInBounds_toArray, List.set_cons_zero, List.set_cons_succ]; rfl)) (hJ5_10 g17 _ ⟨hsep, hbel⟩)
        rintro g17 wj ⟨hsep, hbel⟩
        try dsimp only at hsep
        have hHeld : Below w5.heap.size w5 wj := hbel
        refine norm_ (a' := ?_) ?_ ?_
        rotate_left
        · simp only [putAll, Act.put, List.setIfInBounds_toArray, List.set_cons_zero, List.set_cons_succ]
          rfl
        refine last_ (i := 11) (N := none) #[true, true, true, true, true, true, true, true, true, true, true, true, false, false] rfl rfl (one_of HT_.out (by kernel_rfl)) (by decide) (fun K hK => ?_)
        refine Sp.store_row_step (by rfl) rfl 40 (.tmp 17) (.tmp 76) rfl g17 #[.slice Aq n cq, .int .i64 (N : Int)] rfl rfl 40 _ (hsep.get 1 rfl) (by rw [i40]; rfl) rfl (by simp [Value.oneCell']) ?_
        have hsep1 : Sp.Sep w5.heap.size [Sp.none_, Sp.blk g17 #[.slice Aq n cq, .int .i64 (N : Int)] 40] _ := hsep.setStruct 1 rfl #[.slice Aq n cq, .int .i64 (N : Int)] hbel.size
        have hbel1 := below_setRow hbel (hsep.bound 1 rfl (show g17 = g17 from rfl)).1 #[.slice Aq n cq, .int .i64 (N : Int)]
        refine hK.out _ _ ?_
        clear hK K hsep hbel
        refine pure_ (i := 12) (N := (some 18)) (v := ?_) (a' := ?_) #[true, true, true, true, true, true, true, true, true, true, true, true, true, false] rfl rfl (any_of HT_.out (by kernel_rfl)) (fun _ _ _ h => h) (Or.inl ⟨by rfl, ?_⟩) ?_ ?_
        rotate_left
        · intro w'
          go_simp
          with_reducible rfl
        rotate_left
        · simp only [Act.put, List.setIfInBounds_toArray, List.set_cons_zero, List.set_cons_succ, i64_w, i32_w]
          rfl
        refine pure_ (i := 13) (N := (some 19)) (v := ?_) (a' := ?_) #[true, true, true, true, true, true, true, true, true, true, true, true, true, true] rfl rfl (any_of HT_.out (by kernel_rfl)) (fun _ _ _ h => h) (Or.inl ⟨by rfl, ?_⟩) ?_ ?_
        rotate_left
        · intro w'
          go_simp
          with_reducible rfl
        rotate_left
        · simp only [Act.put, List.setIfInBounds_toArray, List.set_cons_zero, List.set_cons_succ, i64_w, i32_w]
          rfl
        refine done_ (done_of HT_.out (by kernel_rfl)) ?_
        generalize World.setRow _ g17 _ = wb at hsep1 hbel1 ⊢
        have HS6 : Aside0 (Sep w.heap.size [none_, blk g17 #[.slice Aq n cq, .int .i64 (N : Int)] 40, ints w.heap.size (.slice (some ⟨gv, 0, none⟩) (x.length + 2) cv) (marked x), ints w.heap.size (.slice Aa (tl []).length ca) (tl []), part w.heap.size own3 g n N C, ints w.heap.size (.slice Aq n cq) (lst n C), blk gq #[.slice Aq n cq, .int .i64 (N : Int)] 40] wb) := ⟨by
          have h1 := HS5.out.over hbel1 hsep1 HB5.out.size
          exact h1⟩
        have HB6 : Aside0 (Below w.heap.size w wb) := ⟨below_step HB5.out hbel1⟩
        have hy0 : wb.cell? ⟨g17, 0, none⟩ = some (.slice Aq n cq) := (blk_cell (HS6.out.get 1 rfl) 0).trans rfl
        have hy1 : wb.cell? ⟨g17, 1, none⟩ = some (.int .i64 (N : Int)) := (blk_cell (HS6.out.get 1 rfl) 1).trans rfl
        clear hsep1 hbel1 hHeld HS5 HB5
        go_wp2_with (first
        | ((with_reducible refine gate_store (t := 40) (p := 11) rfl ?_)
           refine wpList_store_rowTo rfl 40 (.tmp 11) (.tmp 79) rfl rfl gq #[.slice Aq n cq, .int .i64 (N : Int)] rfl rfl 40 _ (HS6.out.get 6 rfl) ?_ ?_ (by simp [Value.oneCell']) ?_
           (focus (rw [i40]; rfl))
           (focus rfl)
           have hS7 : Sep w.heap.size [none_, blk g17 #[.slice Aq n cq, .int .i64 (N : Int)] 40, ints w.heap.size (.slice (some ⟨gv, 0, none⟩) (x.length + 2) cv) (marked x), ints w.heap.size (.slice Aa (tl []).length ca) (tl []), part w.heap.size own3 g n N C, ints w.heap.size (.slice Aq n cq) (lst n C), blk gq #[.slice Aq n cq, .int .i64 (N : Int)] 40] _ := HS6.out.setStruct 6 rfl #[.slice Aq n cq, .int .i64 (N : Int)] HB6.out.size
           have hB7 := below_setRow HB6.out (HS6.out.bound 6 rfl (show gq = gq from rfl)).1 #[.slice Aq n cq, .int .i64 (N : Int)]
           generalize World.setRow _ gq _ = w7 at hS7 hB7 ⊢
           have HS7 := Aside0.mk hS7
           have HB7 := Aside0.mk hB7
           clear hS7 hB7 hy0 hy1))
        clear HS6 HB6
        go_wp2
        refine start_ (n := 34) (S := fun w' => w'.cell? ⟨gq, 0, none⟩ = some (.slice Aq n cq) ∧ w'.cell? ⟨gq, 1, none⟩ = some (.int .i64 (N : Int)) ∧ w'.cell? (adl.add j) = some (.slice Dx x.length cx)) (ds := [31]) #[false, false, false, false, false, false, false, false, false, false, false, false, false, false, false, false, false, false, false, false, false, false, false, false, false, false, false, false, false, false, false, false, false, false] (by kernel_rfl) rfl rfl ⟨(blk_cell ((HS7.out.low (below_drew1 (Below.refl _ _))).get 6 rfl) 0).trans rfl, (blk_cell ((HS7.out.low (below_drew1 (Below.refl _ _))).get 6 rfl) 1).trans rfl, ((below_drew1 HB7.out).cell (World.block_lt_of_cell? w _ HCX0.out)).trans HCX0.out⟩ (fun hHeld => ?_)
        refine with_tabW pl18.tab18 pl18.bits18 (fun HT_ HW_ => ?_)
        have HS8 := Aside0.mk (HS7.out.low (below_drew1 (Below.refl _ _)))
        have HB8 := Aside0.mk (below_drew1 HB7.out)
        clear HS7 HB7
        generalize w7.drew = wd at HS8 HB8 hHeld ⊢
        refine pure_ (i := 0) (N := (some 80)) (v := ?_) (a' := ?_) #[true, false, false, false, false, false, false, false, false, false, false, false, false, false, false, false, false, false, false, false, false, false, false, false, false, false, false, false, false, false, false, false, false, false] rfl rfl (any_of HT_.out (by kernel_rfl)) (fun _ _ _ h => h) (Or.inl ⟨by rfl, ?_⟩) ?_ ?_
        rotate_left
        · intro w'
          go_simp
          with_reducible rfl
        rotate_left
        · simp only [Act.put, List.setIfInBounds_toArray, List.set_cons_zero, List.set_cons_succ, i64_w, i32_w]
          rfl
        refine pure_ (i := 1) (N := (some 81)) (v := ?_) (a' := ?_) #[true, true, false, false, false, false, false, false, false, false, false, false, false, false, false, false, false, false, false, false, false, false, false, false, false, false, false, false, false, false, false, false, false, false] rfl rfl (any_of HT_.out (by kernel_rfl)) (fun _ _ _ h => h) (Or.inl ⟨by rfl, ?_⟩) ?_ ?_
        rotate_left
        · intro w'
          go_simp
          with_reducible rfl
        rotate_left
        · simp only [Act.put, List.setIfInBounds_toArray, List.set_cons_zero, List.set_cons_succ, i64_w, i32_w]
          rfl
        refine one_ (i := 2) (N := (some 82)) #[true, true, true, false, false, false, false, false, false, false, false, false, false, false, false, false, false, false, false, false, false, false, false, false, false, false, false, false, false, false, false, false, false, false] rfl rfl (one_of HT_.out (by kernel_rfl)) (by decide) (fun K hK => ?_)
        refine goes_ Try.func16 (by kernel_rfl) rfl #[.slice Aa (tl []).length ca, .slice none 0 0] (by rfl) rfl rfl (by (try simp only [List.map_toArray, List.map_cons, List.map_nil]); first | done | rfl | simp [Act.eval]) ?_
        refine (same_calls Aa (tl []).length ca (tl []) none 0 0 (tl []) _ (row_C (HS8.out.get 3 rfl)).1 (row_C (HS8.out.get 3 rfl)).2 (Kd.C_nil _ _) (Nat.le_refl _) (by decide)).mono ?_
        rw [decide_eq_true rfl]
        rintro e w9 ⟨rfl, hd0⟩
        have hd := hd0.below
        clear hd0
        refine ⟨_, rfl, ?_⟩
        have HS9 := Aside0.mk (HS8.out.low hd)
        have HB9 := Aside0.mk (below_step HB8.out hd)
        clear hd
        refine hK.out _ _ ⟨(blk_cell (HS9.out.get 6 rfl) 0).trans rfl, (blk_cell (HS9.out.get 6 rfl) 1).trans rfl, (HB9.out.cell (World.block_lt_of_cell? w _ HCX0.out)).trans HCX0.out⟩ (fun hHeld => ?_); clear hK K
        refine norm_ (a' := ?_) ?_ ?_
        rotate_left
        · show Act.put _ (some 82) _ = _
          simp only [Act.put, List.setIfInBounds_toArray, List.set_cons_zero, List.set_cons_succ, i64_w, i32_w]
          rfl
        refine pure_ (i := 3) (N := (some 83)) (v := ?_) (a' := ?_) #[true, true, true, true, false, false, false, false, false, false, false, false, false, false, false, false, false, false, false, false, false, false, false, false, false, false, false, false, false, false, false, false, false, false] rfl rfl (any_of HT_.out (by kernel_rfl)) (fun _ _ _ h => h) (Or.inl ⟨by rfl, ?_⟩) ?_ ?_
        rotate_left
        · intro w'
          go_simp
          with_reducible rfl
        rotate_left
        · simp only [Act.put, List.setIfInBounds_toArray, List.set_cons_zero, List.set_cons_succ, i64_w, i32_w]
          rfl
        refine pure_ (i := 4) (N := (some 84)) (v := ?_) (a' := ?_) #[true, true, true, true, true, false, false, false, false, false, false, false, false, false, false, false, false, false, false, false, false, false, false, false, false, false, false, false, false, false, false, false, false, false] rfl rfl (any_of HT_.out (by kernel_rfl)) (fun _ _ _ h => h) (Or.inl ⟨by rfl, ?_⟩) ?_ ?_
        rotate_left
        · intro w'
          go_simp
          with_reducible rfl
        rotate_left
        · simp only [Act.put, List.setIfInBounds_toArray, List.set_cons_zero, List.set_cons_succ, i64_w, i32_w]
          rfl
        refine pure_ (i := 5) (N := (some 85)) (v := ?_) (a' := ?_) #[true, true, true, true, true, true, false, false, false, false, false, false, false, false, false, false, false, false, false, false, false, false, false, false, false, false, false, false, false, false, false, false, false, false] rfl rfl (any_of HT_.out (by kernel_rfl)) (fun _ _ _ h => h) (Or.inl ⟨by rfl, ?_⟩) ?_ ?_
        rotate_left
        · intro w'
          go_simp
          with_reducible rfl
        rotate_left
        · simp only [Act.put, List.setIfInBounds_toArray, List.set_cons_zero, List.set_cons_succ, i64_w, i32_w]
          rfl
        refine pure_ (i := 7) (N := (some 87)) (v := ?_) (a' := ?_) #[true, true, true, true, true, true, false, true, false, false, false, false, false, false, false, false, false, false, false, false, false, false, false, false, false, false, false, false, false, false, false, false, false, false] rfl rfl (any_of HT_.out (by kernel_rfl)) (fun _ _ _ h => h) (Or.inl ⟨by rfl, ?_⟩) ?_ ?_
        rotate_left
        · intro w'
          go_simp
          with_reducible rfl
        rotate_left
        · simp only [Act.put, List.setIfInBounds_toArray, List.set_cons_zero, List.set_cons_succ, i64_w, i32_w]
          rfl
        refine one_ (i := 6) (N := (some 86)) #[true, true, true, true, true, true, true, true, false, false, false, false, false, false, false, false, false, false, false, false, false, false, false, false, false, false, false, false, false, false, false, false, false, false] rfl rfl (one_of HT_.out (by kernel_rfl)) (by decide) (fun K hK => ?_)
        refine goes_ Try.func11 (by kernel_rfl) rfl #[.int .i64 1] (by rfl) rfl rfl (by (try simp only [List.map_toArray, List.map_cons, List.map_nil]); first | done | rfl | simp [Act.eval]) ?_
        refine (tutorlaw06_num.calls 1 1 _ rfl).mono ?_
        rintro e w10 ⟨rfl, hd0⟩
        have hd := hd0.below
        clear hd0
        refine ⟨_, rfl, ?_⟩
        have HS10 := Aside0.mk (HS9.out.low hd)
        have HB10 := Aside0.mk (below_step HB9.out hd)
        clear hd
        refine hK.out _ _ ⟨(blk_cell (HS10.out.get 6 rfl) 0).trans rfl, (blk_cell (HS10.out.get 6 rfl) 1).trans rfl, (HB10.out.cell (World.block_lt_of_cell? w _ HCX0.out)).trans HCX0.out⟩ (fun hHeld => ?_); clear hK K
        refine norm_ (a' := ?_) ?_ ?_
        rotate_left
        · show Act.put _ (some 86) _ = _
          simp only [Act.put, List.setIfInBounds_toArray, List.set_cons_zero, List.set_cons_succ, i64_w, i32_w]
          rfl
        refine pure_ (i := 8) (N := (some 88)) (v := ?_) (a' := ?_) #[true, true, true, true, true, true, true, true, true, false, false, false, false, false, false, false, false, false, false, false, false, false, false, false, false, false, false, false, false, false, false, false, false, false] rfl rfl (any_of HT_.out (by kernel_rfl)) (fun _ _ _ h => h) (Or.inl ⟨by rfl, ?_⟩) ?_ ?_
        rotate_left
        · intro w'
          go_simp
          with_reducible rfl
        rotate_left
        · simp only [Act.put, List.setIfInBounds_toArray, List.set_cons_zero, List.set_cons_succ, i64_w, i32_w]
          rfl
        refine pure_ (i := 9) (N := (some 89)) (v := ?_) (a' := ?_) #[true, true, true, true, true, true, true, true, true, true, false, false, false, false, false, false, false, false, false, false, false, false, false, false, false, false, false, false, false, false, false, false, false, false] rfl rfl (any_of HT_.out (by kernel_rfl)) (fun _ _ _ h => h) (Or.inl ⟨by rfl, ?_⟩) ?_ ?_
        rotate_left
        · intro w'
          go_simp
          with_reducible rfl
        rotate_left
        · simp only [Act.put, List.setIfInBounds_toArray, List.set_cons_zero, List.set_cons_succ, i64_w, i32_w]
          rfl
        refine pure_ (i := 10) (N := (some 90)) (v := ?_) (a' := ?_) #[true, true, true, true, true, true, true, true, true, true, true, false, false, false, false, false, false, false, false, false, false, false, false, false, false, false, false, false, false, false, false, false, false, false] rfl rfl (any_of HT_.out (by kernel_rfl)) (fun _ _ _ h => h) (Or.inl ⟨by rfl, ?_⟩) ?_ ?_
        rotate_left
        · intro w'
          go_simp
          with_reducible rfl
        rotate_left
        · simp only [Act.put, List.setIfInBounds_toArray, List.set_cons_zero, List.set_cons_succ, i64_w, i32_w]
          rfl
        refine pure_ (i := 11) (N := (some 91)) (v := ?_) (a' := ?_) #[true, true, true, true, true, true, true, true, true, true, true, true, false, false, false, false, false, false, false, false, false, false, false, false, false, false, false, false, false, false, false, false, false, false] rfl rfl (any_of HT_.out (by kernel_rfl)) (fun _ _ _ h => h) (Or.inl ⟨by rfl, ?_⟩) ?_ ?_
        rotate_left
        · intro w'
          go_simp
          with_reducible rfl
        rotate_left
        · simp only [Act.put, List.setIfInBounds_toArray, List.set_cons_zero, List.set_cons_succ, i64_w, i32_w]
          rfl
        refine pure_ (i := 13) (N := (some 93)) (v := ?_) (a' := ?_) #[true, true, true, true, true, true, true, true, true, true, true, true, false, true, false, false, false, false, false, false, false, false, false, false, false, false, false, false, false, false, false, false, false, false] rfl rfl (any_of HT_.out (by kernel_rfl)) (fun _ _ _ h => h) (Or.inl ⟨by rfl, ?_⟩) ?_ ?_
        rotate_left
        · intro w'
          go_simp
          with_reducible rfl
        rotate_left
        · simp only [Act.put, List.setIfInBounds_toArray, List.set_cons_zero, List.set_cons_succ, i64_w, i32_w]
          rfl
        refine take_ (i := 14) (N := (some 94)) (v := ?_) (a' := ?_) #[true, true, true, true, true, true, true, true, true, true, true, true, false, true, true, false, false, false, false, false, false, false, false, false, false, false, false, false, false, false, false, false, false, false] rfl rfl (take_ofW HT_.out HW_.out (by kernel_rfl)) (fun _ _ _ h => h) (Or.inl ⟨by rfl, ?_⟩) hHeld ?_ ?_
        rotate_left
        · rintro w' ⟨s0, s1, s2⟩
          go_simp
          with_reducible rfl
        rotate_left
        · simp only [Act.put, List.setIfInBounds_toArray, List.set_cons_zero, List.set_cons_succ, i64_w, i32_w]
          rfl
        refine one_ (i := 12) (N := (some 92)) #[true, true, true, true, true, true, true, true, true, true, true, true, true, true, true, false, false, false, false, false, false, false, false, false, false, false, false, false, false, false, false, false, false, false] rfl rfl (one_of HT_.out (by kernel_rfl)) (by decide) (fun K hK => ?_)
        refine goes_ Try.func13 (by kernel_rfl) rfl #[.pointer (some ⟨g, 0, none⟩)] (by rfl) rfl rfl (by (try simp only [List.map_toArray, List.map_cons, List.map_nil]); first | done | rfl | simp [Act.eval]) ?_
        refine (All_law HS10.out 4 rfl (by omega)).mono ?_
        rintro e w11 ⟨v11, rfl, hR, hd⟩
        obtain ⟨An, cn, hv⟩ := Kd.R_slice hR
        rw [lst_len] at hv
        subst hv
        have HR11 := Aside0.mk hR
        clear hR
        refine ⟨_, rfl, ?_⟩
        have HS11 := Aside0.mk (HS10.out.low hd)
        have HB11 := Aside0.mk (below_step HB10.out hd)
        clear hd
        refine hK.out _ _ ⟨(blk_cell (HS11.out.get 6 rfl) 0).trans rfl, (blk_cell (HS11.out.get 6 rfl) 1).trans rfl, (HB11.out.cell (World.block_lt_of_cell? w _ HCX0.out)).trans HCX0.out⟩ (fun hHeld => ?_); clear hK K
        refine norm_ (a' := ?_) ?_ ?_
        rotate_left
        · show Act.put _ (some 92) _ = _
          simp only [Act.put, List.setIfInBounds_toArray, List.set_cons_zero, List.set_cons_succ, i64_w, i32_w]
          rfl
        refine one_ (i := 15) (N := (some 95)) #[true, true, true, true, true, true, true, true, true, true, true, true, true, true, true, true, false, false, false, false, false, false, false, false, false, false, false, false, false, false, false, false, false, false] rfl rfl (one_of HT_.out (by kernel_rfl)) (by decide) (fun K hK => ?_)
        refine goes_ Try.func16 (by kernel_rfl) rfl #[.slice An n cn, .slice Aq n cq] (by rfl) rfl rfl (by (try simp only [List.map_toArray, List.map_cons, List.map_nil]); first | done | rfl | simp [Act.eval]) ?_
        refine (same_calls An n cn (lst n C) Aq n cq (lst n C) _ (row_C HR11.out).1 (row_C HR11.out).2 (row_C (HS11.out.get 5 rfl)).1 (row_C (HS11.out.get 5 rfl)).2 (by omega)).mono ?_
        rw [decide_eq_true rfl]
        rintro e w12 ⟨rfl, hd0⟩
        have hd := hd0.below
        clear hd0
        refine ⟨_, rfl, ?_⟩
        have HS12 := Aside0.mk (HS11.out.low hd)
        have HB12 := Aside0.mk (below_step HB11.out hd)
        clear hd
        refine hK.out _ _ ⟨(blk_cell (HS12.out.get 6 rfl) 0).trans rfl, (blk_cell (HS12.out.get 6 rfl) 1).trans rfl, (HB12.out.cell (World.block_lt_of_cell? w _ HCX0.out)).trans HCX0.out⟩ (fun hHeld => ?_); clear hK K
        refine norm_ (a' := ?_) ?_ ?_
        rotate_left
        · show Act.put _ (some 95) _ = _
          simp only [Act.put, List.setIfInBounds_toArray, List.set_cons_zero, List.set_cons_succ, i64_w, i32_w]
          rfl
        refine pure_ (i := 16) (N := (some 96)) (v := ?_) (a' := ?_) #[true, true, true, true, true, true, true, true, true, true, true, true, true, true, true, true, true, false, false, false, false, false, false, false, false, false, false, false, false, false, false, false, false, false] rfl rfl (any_of HT_.out (by kernel_rfl)) (fun _ _ _ h => h) (Or.inl ⟨by rfl, ?_⟩) ?_ ?_
        rotate_left
        · intro w'
          go_simp
          with_reducible rfl
        rotate_left
        · simp only [Act.put, List.setIfInBounds_toArray, List.set_cons_zero, List.set_cons_succ, i64_w, i32_w]
          rfl
        refine pure_ (i := 17) (N := (some 97)) (v := ?_) (a' := ?_) #[true, true, true, true, true, true, true, true, true, true, true, true, true, true, true, true, true, true, false, false, false, false, false, false, false, false, false, false, false, false, false, false, false, false] rfl rfl (any_of HT_.out (by kernel_rfl)) (fun _ _ _ h => h) (Or.inl ⟨by rfl, ?_⟩) ?_ ?_
        rotate_left
        · intro w'
          go_simp
          with_reducible rfl
        rotate_left
        · simp only [Act.put, List.setIfInBounds_toArray, List.set_cons_zero, List.set_cons_succ, i64_w, i32_w]
          rfl
        refine pure_ (i := 18) (N := (some 98)) (v := ?_) (a' := ?_) #[true, true, true, true, true, true, true, true, true, true, true, true, true, true, true, true, true, true, true, false, false, false, false, false, false, false, false, false, false, false, false, false, false, false] rfl rfl (any_of HT_.out (by kernel_rfl)) (fun _ _ _ h => h) (Or.inl ⟨by rfl, ?_⟩) ?_ ?_
        rotate_left
        · intro w'
          go_simp
          with_reducible rfl
        rotate_left
        · simp only [Act.put, List.setIfInBounds_toArray, List.set_cons_zero, List.set_cons_succ, i64_w, i32_w]
          rfl
        refine pure_ (i := 19) (N := (some 99)) (v := ?_) (a' := ?_) #[true, true, true, true, true, true, true, true, true, true, true, true, true, true, true, true, true, true, true, true, false, false, false, false, false, false, false, false, false, false, false, false, false, false] rfl rfl (any_of HT_.out (by kernel_rfl)) (fun _ _ _ h => h) (Or.inl ⟨by rfl, ?_⟩) ?_ ?_
        rotate_left
        · intro w'
          go_simp
          with_reducible rfl
        rotate_left
        · simp only [Act.put, List.setIfInBounds_toArray, List.set_cons_zero, List.set_cons_succ, i64_w, i32_w]
          rfl
        refine pure_ (i := 21) (N := (some 101)) (v := ?_) (a' := ?_) #[true, true, true, true, true, true, true, true, true, true, true, true, true, true, true, true, true, true, true, true, false, true, false, false, false, false, false, false, false, false, false, false, false, false] rfl rfl (any_of HT_.out (by kernel_rfl)) (fun _ _ _ h => h) (Or.inl ⟨by rfl, ?_⟩) ?_ ?_
        rotate_left
        · intro w'
          go_simp
          with_reducible rfl
        rotate_left
        · simp only [Act.put, List.setIfInBounds_toArray, List.set_cons_zero, List.set_cons_succ, i64_w, i32_w]
          rfl
        refine take_ (i := 22) (N := (some 102)) (v := ?_) (a' := ?_) #[true, true, true, true, true, true, true, true, true, true, true, true, true, true, true, true, true, true, true, true, false, true, true, false, false, false, false, false, false, false, false, false, false, false] rfl rfl (take_ofW HT_.out HW_.out (by kernel_rfl)) (fun _ _ _ h => h) (Or.inl ⟨by rfl, ?_⟩) hHeld ?_ ?_
        rotate_left
        · rintro w' ⟨s0, s1, s2⟩
          go_simp
          with_reducible rfl
        rotate_left
        · simp only [Act.put, List.setIfInBounds_toArray, List.set_cons_zero, List.set_cons_succ, i64_w, i32_w]
          rfl
        refine one_ (i := 20) (N := (some 100)) #[true, true, true, true, true, true, true, true, true, true, true, true, true, true, true, true, true, true, true, true, true, true, true, false, false, false, false, false, false, false, false, false, false, false] rfl rfl (one_of HT_.out (by kernel_rfl)) (by decide) (fun K hK => ?_)
        refine goes_ Try.func17 (by kernel_rfl) rfl #[.pointer (some ⟨g, 0, none⟩)] (by rfl) rfl rfl (by (try simp only [List.map_toArray, List.map_cons, List.map_nil]); first | done | rfl | simp [Act.eval]) ?_
        refine (Count_walk w.heap.size own3 g n N C _ (HS12.out.get 4 rfl)).mono ?_
        rintro e w13 ⟨rfl, hd⟩
        refine ⟨_, rfl, ?_⟩
        have HS13 := Aside0.mk (HS12.out.low hd)
        have HB13 := Aside0.mk (below_step HB12.out hd)
        clear hd
        refine hK.out _ _ ⟨(blk_cell (HS13.out.get 6 rfl) 0).trans rfl, (blk_cell (HS13.out.get 6 rfl) 1).trans rfl, (HB13.out.cell (World.block_lt_of_cell? w _ HCX0.out)).trans HCX0.out⟩ (fun hHeld => ?_); clear hK K
        refine norm_ (a' := ?_) ?_ ?_
        rotate_left
        · show Act.put _ (some 100) _ = _
          simp only [Act.put, List.setIfInBounds_toArray, List.set_cons_zero, List.set_cons_succ, i64_w, i32_w]
          rfl
        refine pure_ (i := 23) (N := (some 103)) (v := ?_) (a' := ?_) #[true, true, true, true, true, true, true, true, true, true, true, true, true, true, true, true, true, true, true, true, true, true, true, true, false, false, false, false, false, false, false, false, false, false] rfl rfl (any_of HT_.out (by kernel_rfl)) (fun _ _ _ h => h) (Or.inl ⟨by rfl, ?_⟩) ?_ ?_
        rotate_left
        · intro w'
          go_simp
          with_reducible rfl
        rotate_left
        · simp only [Act.put, List.setIfInBounds_toArray, List.set_cons_zero, List.set_cons_succ, i64_w, i32_w]
          rfl
        refine pure_ (i := 24) (N := (some 104)) (v := ?_) (a' := ?_) #[true, true, true, true, true, true, true, true, true, true, true, true, true, true, true, true, true, true, true, true, true, true, true, true, true, false, false, false, false, false, false, false, false, false] rfl rfl (any_of HT_.out (by kernel_rfl)) (fun _ _ _ h => h) (Or.inl ⟨by rfl, ?_⟩) ?_ ?_
        rotate_left
        · intro w'
          go_simp
          with_reducible rfl
        rotate_left
        · simp only [Act.put, List.setIfInBounds_toArray, List.set_cons_zero, List.set_cons_succ, i64_w, i32_w]
          rfl
        refine pure_ (i := 25) (N := (some 105)) (v := ?_) (a' := ?_) #[true, true, true, true, true, true, true, true, true, true, true, true, true, true, true, true, true, true, true, true, true, true, true, true, true, true, false, false, false, false, false, false, false, false] rfl rfl (any_of HT_.out (by kernel_rfl)) (fun _ _ _ h => h) (Or.inl ⟨by rfl, ?_⟩) ?_ ?_
        rotate_left
        · intro w'
          go_simp
          with_reducible rfl
        rotate_left
        · simp only [Act.put, List.setIfInBounds_toArray, List.set_cons_zero, List.set_cons_succ, i64_w, i32_w]
          rfl
        refine pure_ (i := 26) (N := (some 106)) (v := ?_) (a' := ?_) #[true, true, true, true, true, true, true, true, true, true, true, true, true, true, true, true, true, true, true, true, true, true, true, true, true, true, true, false, false, false, false, false, false, false] rfl rfl (any_of HT_.out (by kernel_rfl)) (fun _ _ _ h => h) (Or.inl ⟨by rfl, ?_⟩) ?_ ?_
        rotate_left
        · intro w'
          go_simp
          with_reducible rfl
        rotate_left
        · simp only [Act.put, List.setIfInBounds_toArray, List.set_cons_zero, List.set_cons_succ, i64_w, i32_w]
          rfl
        refine pure_ (i := 27) (N := (some 107)) (v := ?_) (a' := ?_) #[true, true, true, true, true, true, true, true, true, true, true, true, true, true, true, true, true, true, true, true, true, true, true, true, true, true, true, true, false, false, false, false, false, false] rfl rfl (any_of HT_.out (by kernel_rfl)) (fun _ _ _ h => h) (Or.inl ⟨by rfl, ?_⟩) ?_ ?_
        rotate_left
        · intro w'
          go_simp
          with_reducible rfl
        rotate_left
        · simp only [Act.put, List.setIfInBounds_toArray, List.set_cons_zero, List.set_cons_succ, i64_w, i32_w]
          rfl
        refine pure_ (i := 28) (N := (some 108)) (v := ?_) (a' := ?_) #[true, true, true, true, true, true, true, true, true, true, true, true, true, true, true, true, true, true, true, true, true, true, true, true, true, true, true, true, true, false, false, false, false, false] rfl rfl (any_of HT_.out (by kernel_rfl)) (fun _ _ _ h => h) (Or.inl ⟨by rfl, ?_⟩) ?_ ?_
        rotate_left
        · intro w'
          go_simp
          with_reducible rfl
        rotate_left
        · simp only [Act.put, List.setIfInBounds_toArray, List.set_cons_zero, List.set_cons_succ, i64_w, i32_w]
          rfl
        refine pure_ (i := 29) (N := (some 109)) (v := ?_) (a' := ?_) #[true, true, true, true, true, true, true, true, true, true, true, true, true, true, true, true, true, true, true, true, true, true, true, true, true, true, true, true, true, true, false, false, false, false] rfl rfl (any_of HT_.out (by kernel_rfl)) (fun _ _ _ h => h) (Or.inl ⟨by rfl, ?_⟩) ?_ ?_
        rotate_left
        · intro w'
          go_simp
          with_reducible rfl
        rotate_left
        · simp only [Act.put, List.setIfInBounds_toArray, List.set_cons_zero, List.set_cons_succ, i64_w, i32_w]
          rfl
        refine take_ (i := 30) (N := (some 110)) (v := ?_) (a' := ?_) #[true, true, true, true, true, true, true, true, true, true, true, true, true, true, true, true, true, true, true, true, true, true, true, true, true, true, true, true, true, true, true, false, false, false] rfl rfl (take_ofW HT_.out HW_.out (by kernel_rfl)) (fun _ _ _ h => h) (Or.inl ⟨by rfl, ?_⟩) hHeld ?_ ?_
        rotate_left
        · rintro w' ⟨s0, s1, s2⟩
          go_simp
          with_reducible rfl
        rotate_left
        · simp only [Act.put, List.setIfInBounds_toArray, List.set_cons_zero, List.set_cons_succ, i64_w, i32_w]
          rfl
        refine last_ (i := 31) (N := (some 111)) #[true, true, true, true, true, true, true, true, true, true, true, true, true, true, true, true, true, true, true, true, true, true, true, true, true, true, true, true, true, true, true, true, false, false] rfl rfl (one_of HT_.out (by kernel_rfl)) (by decide) (fun K hK => ?_)
        refine goes_ Try.func21 (by kernel_rfl) rfl #[.slice (some ⟨gv, 0, none⟩) x.length cv, .slice Dx x.length cx] (by rfl) rfl rfl (by (try simp only [List.map_toArray, List.map_cons, List.map_nil]); first | done | rfl | simp [Act.eval]) ?_
        refine (Kept_walk x gv cv Dx cx _ (row_C (HS13.out.get 2 rfl)).1 hcv (Kd.C_below HCX.out.2 HB13.out) HCX.out.1 (by omega)).mono ?_
        rintro e w14 ⟨rfl, hd⟩
        refine ⟨_, rfl, ?_⟩
        have HS14 := Aside0.mk (HS13.out.low hd)
        have HB14 := Aside0.mk (below_step HB13.out hd)
        clear hd
        refine hK.out _ _ ?_; clear hK K
        refine norm_ (a' := ?_) ?_ ?_
        rotate_left
        · show Act.put _ (some 111) _ = _
          simp only [Act.put, List.setIfInBounds_toArray, List.set_cons_zero, List.set_cons_succ, i64_w, i32_w]
          rfl
        refine pure_ (i := 32) (N := (some 112)) (v := ?_) (a' := ?_) #[true, true, true, true, true, true, true, true, true, true, true, true, true, true, true, true, true, true, true, true, true, true, true, true, true, true, true, true, true, true, true, true, true, false] rfl rfl (any_of HT_.out (by kernel_rfl)) (fun _ _ _ h => h) (Or.inl ⟨by rfl, ?_⟩) ?_ ?_
        rotate_left
        · intro w'
          go_simp
          with_reducible rfl
        rotate_left
        · simp only [Act.put, List.setIfInBounds_toArray, List.set_cons_zero, List.set_cons_succ, i64_w, i32_w]
          rfl
        refine pure_ (i := 33) (N := (some 113)) (v := ?_) (a' := ?_) #[true, true, true, true, true, true, true, true, true, true, true, true, true, true, true, true, true, true, true, true, true, true, true, true, true, true, true, true, true, true, true, true, true, true] rfl rfl (any_of HT_.out (by kernel_rfl)) (fun _ _ _ h => h) (Or.inl ⟨by rfl, ?_⟩) ?_ ?_
        rotate_left
        · intro w'
          go_simp
          with_reducible rfl
        rotate_left
        · simp only [Act.put, List.setIfInBounds_toArray, List.set_cons_zero, List.set_cons_succ, i64_w, i32_w]
          rfl
        refine done_ (done_of HT_.out (by kernel_rfl)) ?_
        go_wp2
        go_roundw
        case rel => exact ⟨j + 1, N, C, own3, Aq, cq, by go_num, ⟨by have := HJL.out; omega⟩, ⟨HS14.out.sub (.cons _ (.cons _ (.cons _ (.cons _ (.cons_cons _ (.cons_cons _ (.cons_cons _ (List.Sublist.refl _))))))))⟩, HB14⟩
        case measure => have := HJL.out; simp [intOf]; omega
    · have hj' : ¬ ((j : Int) < (l1.length : Int)) := by omega
      clear hj
      have HPP := Aside0.mk (part_pos (HS.out.get 0 rfl) hn0)
      by_cases hg1 : a2 < 0
      · have HA2 : Aside0 (a2 < 0 ∨ a2 ≥ (n : Int)) := ⟨by omega⟩
        by_cases hc3 : 0 ≤ a3 ∧ a3 < (N : Int)
        · obtain ⟨c, rfl⟩ : ∃ c : Nat, a3 = (c : Int) := ⟨a3.toNat, by omega⟩
          have HCN : Aside0 (c < N) := ⟨by omega⟩
          have HRF : Aside0 (tutorref06_Members.f 2000 (lst n C) (N : Int) (c : Int) = some (tl (members n C c), 0)) := ⟨by rw [refMembers_is (by omega) (c : Int) (Nat.le_refl _), if_pos hc3, Int.toNat_natCast]⟩
          have HML : Aside0 ((tl (members n C c)).length ≤ 1000000000) := ⟨by
            rw [tl_len]
            unfold members
            have := List.length_filter_le (fun i => C i == c) (List.range n)
            rw [List.length_range] at this
            omega⟩
          clear hc3
          go_wp2_with (first
          | (go_at_call 9; refine (hlv w7).mono ?_
             rintro e w8 ⟨rfl, hb⟩
             have HB8 := Aside0.mk (below_step HB7.out hb)
             clear hb)
          | (go_at_call 11; with_reducible refine (tutorlaw06_num.calls 0 0 w6 rfl).mono ?_
             rintro e w7 ⟨rfl, hd⟩
             have HB7 := Aside0.mk (below_step HB6.out hd.below)
             clear hd)
          | (go_at_call 16; refine (same_calls Am (tl (members n C c)).length cm (tl (members n C c)) A5 (tl (members n C c)).length c5 (tl (members n C c)) w5 HC5.out HC4.out.2 (row_C HR5.out).1 (row_C HR5.out).2 HML.out).mono ?_
             rw [decide_eq_true rfl]
             rintro e w6 ⟨rfl, hd⟩
             have HB6 := Aside0.mk (below_step HB5.out hd.below)
             clear hd)
          | (go_at_call 23; refine (RMem n N C Aq cq (c : Int) (tl (members n C c)) 0 w4 (row_C (HS4.out.get 1 rfl)).1 (row_C (HS4.out.get 1 rfl)).2 HRF.out).mono ?_
             rintro e w5 ⟨v5, rfl, hR, hb⟩
             obtain ⟨A5, c5, hv⟩ := Kd.R_slice hR
             subst hv
             have HR5 := Aside0.mk hR
             have HC5 := Aside0.mk (Kd.C_below HC4.out.1 hb)
             have HB5 := Aside0.mk (below_step HB4.out hb)
             clear hR hb)
          | (go_at_call 14; refine (Members_law HS3.out 0 rfl (by omega) c HCN.out).mono ?_
             rintro e w4 ⟨v4, rfl, hR, hb⟩
             obtain ⟨Am, cm, hv⟩ := Kd.R_slice hR
             subst hv
             have HC4 := Aside0.mk (row_C hR)
             have HS4 := Aside0.mk (HS3.out.low hb)
             have HB4 := Aside0.mk (below_step HB3.out hb)
             have hy0 : w4.cell? ⟨gq, 0, none⟩ = some (.slice Aq n cq) := (blk_cell (HS4.out.get 2 rfl) 0).trans rfl
             have hy1 : w4.cell? ⟨gq, 1, none⟩ = some (.int .i64 (N : Int)) := (blk_cell (HS4.out.get 2 rfl) 1).trans rfl
             clear hR hb)
          | (go_at_call 11; with_reducible refine (tutorlaw06_num.calls 1 1 w2 rfl).mono ?_
             rintro e w3 ⟨rfl, hd⟩
             have HS3 := Aside0.mk (HS2.out.low hd.below)
             have HB3 := Aside0.mk (below_step HB2.out hd.below)
             clear hd)
          | (go_at_call 22; refine (Class_bad w.heap.size own g n N C wr (HS.out.get 0 rfl) a2 HA2.out (by omega)).mono ?_
             rintro e w2 ⟨rfl, hb⟩
             have HS2 := Aside0.mk (HS.out.low hb)
             have HB2 := Aside0.mk (below_step HB.out hb)
             clear hb))
          go_ret
          exact ⟨rfl, HB8.out⟩
        · have HRF : Aside0 (tutorref06_Members.f 2000 (lst n C) (N : Int) a3 = some ([], 1)) := ⟨by rw [refMembers_is (by omega) a3 (Nat.le_refl _), if_neg hc3]⟩
          have HA3 : Aside0 (a3 < 0 ∨ a3 ≥ (N : Int)) := ⟨by omega⟩
          clear hc3
          go_wp2_with (first
          | (go_at_call 9; refine (hlv w7).mono ?_
             rintro e w8 ⟨rfl, hb⟩
             have HB8 := Aside0.mk (below_step HB7.out hb)
             clear hb)
          | (go_at_call 11; with_reducible refine (tutorlaw06_num.calls 1 1 w6 rfl).mono ?_
             rintro e w7 ⟨rfl, hd⟩
             have HB7 := Aside0.mk (below_step HB6.out hd.below)
             clear hd)
          | (go_at_call 16; refine (same_calls none 0 0 [] A5 ([] : List Int).length c5 [] w5 (Kd.C_nil _ _) (Nat.le_refl _) (row_C HR5.out).1 (row_C HR5.out).2 (by decide)).mono ?_
             rw [decide_eq_true rfl]
             rintro e w6 ⟨rfl, hd⟩
             have HB6 := Aside0.mk (below_step HB5.out hd.below)
             clear hd)
          | (go_at_call 23; refine (RMem n N C Aq cq a3 [] 1 w4 (row_C (HS4.out.get 1 rfl)).1 (row_C (HS4.out.get 1 rfl)).2 HRF.out).mono ?_
             rintro e w5 ⟨v5, rfl, hR, hb⟩
             obtain ⟨A5, c5, hv⟩ := Kd.R_slice hR
             subst hv
             have HR5 := Aside0.mk hR
             have HB5 := Aside0.mk (below_step HB4.out hb)
             clear hR hb)
          | (go_at_call 14; refine (Members_bad w.heap.size own g n N C w3 (HS3.out.get 0 rfl) a3 HA3.out).mono ?_
             rintro e w4 ⟨rfl, hb⟩
             have HS4 := Aside0.mk (HS3.out.low hb)
             have HB4 := Aside0.mk (below_step HB3.out hb)
             have hy0 : w4.cell? ⟨gq, 0, none⟩ = some (.slice Aq n cq) := (blk_cell (HS4.out.get 2 rfl) 0).trans rfl
             have hy1 : w4.cell? ⟨gq, 1, none⟩ = some (.int .i64 (N : Int)) := (blk_cell (HS4.out.get 2 rfl) 1).trans rfl
             clear hb)
          | (go_at_call 11; with_reducible refine (tutorlaw06_num.calls 1 1 w2 rfl).mono ?_
             rintro e w3 ⟨rfl, hd⟩
             have HS3 := Aside0.mk (HS2.out.low hd.below)
             have HB3 := Aside0.mk (below_step HB2.out hd.below)
             clear hd)
          | (go_at_call 22; refine (Class_bad w.heap.size own g n N C wr (HS.out.get 0 rfl) a2 HA2.out (by omega)).mono ?_
             rintro e w2 ⟨rfl, hb⟩
             have HS2 := Aside0.mk (HS.out.low hb)
             have HB2 := Aside0.mk (below_step HB.out hb)
             clear hb))
          go_ret
          exact ⟨rfl, HB8.out⟩
      · by_cases hg2 : a2 ≥ (n : Int)
        · have HA2 : Aside0 (a2 < 0 ∨ a2 ≥ (n : Int)) := ⟨by omega⟩
          by_cases hc3 : 0 ≤ a3 ∧ a3 < (N : Int)
          · obtain ⟨c, rfl⟩ : ∃ c : Nat, a3 = (c : Int) := ⟨a3.toNat, by omega⟩
            have HCN : Aside0 (c < N) := ⟨by omega⟩
            have HRF : Aside0 (tutorref06_Members.f 2000 (lst n C) (N : Int) (c : Int) = some (tl (members n C c), 0)) := ⟨by rw [refMembers_is (by omega) (c : Int) (Nat.le_refl _), if_pos hc3, Int.toNat_natCast]⟩
            have HML : Aside0 ((tl (members n C c)).length ≤ 1000000000) := ⟨by
              rw [tl_len]
              unfold members
              have := List.length_filter_le (fun i => C i == c) (List.range n)
              rw [List.length_range] at this
              omega⟩
            clear hc3
            go_wp2_with (first
            | (go_at_call 9; refine (hlv w7).mono ?_
               rintro e w8 ⟨rfl, hb⟩
               have HB8 := Aside0.mk (below_step HB7.out hb)
               clear hb)
            | (go_at_call 11; with_reducible refine (tutorlaw06_num.calls 0 0 w6 rfl).mono ?_
               rintro e w7 ⟨rfl, hd⟩
               have HB7 := Aside0.mk (below_step HB6.out hd.below)
               clear hd)
            | (go_at_call 16; refine (same_calls Am (tl (members n C c)).length cm (tl (members n C c)) A5 (tl (members n C c)).length c5 (tl (members n C c)) w5 HC5.out HC4.out.2 (row_C HR5.out).1 (row_C HR5.out).2 HML.out).mono ?_
               rw [decide_eq_true rfl]
               rintro e w6 ⟨rfl, hd⟩
               have HB6 := Aside0.mk (below_step HB5.out hd.below)
               clear hd)
            | (go_at_call 23; refine (RMem n N C Aq cq (c : Int) (tl (members n C c)) 0 w4 (row_C (HS4.out.get 1 rfl)).1 (row_C (HS4.out.get 1 rfl)).2 HRF.out).mono ?_
               rintro e w5 ⟨v5, rfl, hR, hb⟩
               obtain ⟨A5, c5, hv⟩ := Kd.R_slice hR
               subst hv
               have HR5 := Aside0.mk hR
               have HC5 := Aside0.mk (Kd.C_below HC4.out.1 hb)
               have HB5 := Aside0.mk (below_step HB4.out hb)
               clear hR hb)
            | (go_at_call 14; refine (Members_law HS3.out 0 rfl (by omega) c HCN.out).mono ?_
               rintro e w4 ⟨v4, rfl, hR, hb⟩
               obtain ⟨Am, cm, hv⟩ := Kd.R_slice hR
               subst hv
               have HC4 := Aside0.mk (row_C hR)
               have HS4 := Aside0.mk (HS3.out.low hb)
               have HB4 := Aside0.mk (below_step HB3.out hb)
               have hy0 : w4.cell? ⟨gq, 0, none⟩ = some (.slice Aq n cq) := (blk_cell (HS4.out.get 2 rfl) 0).trans rfl
               have hy1 : w4.cell? ⟨gq, 1, none⟩ = some (.int .i64 (N : Int)) := (blk_cell (HS4.out.get 2 rfl) 1).trans rfl
               clear hR hb)
            | (go_at_call 11; with_reducible refine (tutorlaw06_num.calls 1 1 w2 rfl).mono ?_
               rintro e w3 ⟨rfl, hd⟩
               have HS3 := Aside0.mk (HS2.out.low hd.below)
               have HB3 := Aside0.mk (below_step HB2.out hd.below)
               clear hd)
            | (go_at_call 22; refine (Class_bad w.heap.size own g n N C wr (HS.out.get 0 rfl) a2 HA2.out (by omega)).mono ?_
               rintro e w2 ⟨rfl, hb⟩
               have HS2 := Aside0.mk (HS.out.low hb)
               have HB2 := Aside0.mk (below_step HB.out hb)
               clear hb))
            go_ret
            exact ⟨rfl, HB8.out⟩
          · have HRF : Aside0 (tutorref06_Members.f 2000 (lst n C) (N : Int) a3 = some ([], 1)) := ⟨by rw [refMembers_is (by omega) a3 (Nat.le_refl _), if_neg hc3]⟩
            have HA3 : Aside0 (a3 < 0 ∨ a3 ≥ (N : Int)) := ⟨by omega⟩
            clear hc3
            go_wp2_with (first
            | (go_at_call 9; refine (hlv w7).mono ?_
               rintro e w8 ⟨rfl, hb⟩
               have HB8 := Aside0.mk (below_step HB7.out hb)
               clear hb)
            | (go_at_call 11; with_reducible refine (tutorlaw06_num.calls 1 1 w6 rfl).mono ?_
               rintro e w7 ⟨rfl, hd⟩
               have HB7 := Aside0.mk (below_step HB6.out hd.below)
               clear hd)
            | (go_at_call 16; refine (same_calls none 0 0 [] A5 ([] : List Int).length c5 [] w5 (Kd.C_nil _ _) (Nat.le_refl _) (row_C HR5.out).1 (row_C HR5.out).2 (by decide)).mono ?_
               rw [decide_eq_true rfl]
               rintro e w6 ⟨rfl, hd⟩
               have HB6 := Aside0.mk (below_step HB5.out hd.below)
               clear hd)
            | (go_at_call 23; refine (RMem n N C Aq cq a3 [] 1 w4 (row_C (HS4.out.get 1 rfl)).1 (row_C (HS4.out.get 1 rfl)).2 HRF.out).mono ?_
               rintro e w5 ⟨v5, rfl, hR, hb⟩
               obtain ⟨A5, c5, hv⟩ := Kd.R_slice hR
               subst hv
               have HR5 := Aside0.mk hR
               have HB5 := Aside0.mk (below_step HB4.out hb)
               clear hR hb)
            | (go_at_call 14; refine (Members_bad w.heap.size own g n N C w3 (HS3.out.get 0 rfl) a3 HA3.out).mono ?_
               rintro e w4 ⟨rfl, hb⟩
               have HS4 := Aside0.mk (HS3.out.low hb)
               have HB4 := Aside0.mk (below_step HB3.out hb)
               have hy0 : w4.cell? ⟨gq, 0, none⟩ = some (.slice Aq n cq) := (blk_cell (HS4.out.get 2 rfl) 0).trans rfl
               have hy1 : w4.cell? ⟨gq, 1, none⟩ = some (.int .i64 (N : Int)) := (blk_cell (HS4.out.get 2 rfl) 1).trans rfl
               clear hb)
            | (go_at_call 11; with_reducible refine (tutorlaw06_num.calls 1 1 w2 rfl).mono ?_
               rintro e w3 ⟨rfl, hd⟩
               have HS3 := Aside0.mk (HS2.out.low hd.below)
               have HB3 := Aside0.mk (below_step HB2.out hd.below)
               clear hd)
            | (go_at_call 22; refine (Class_bad w.heap.size own g n N C wr (HS.out.get 0 rfl) a2 HA2.out (by omega)).mono ?_
               rintro e w2 ⟨rfl, hb⟩
               have HS2 := Aside0.mk (HS.out.low hb)
               have HB2 := Aside0.mk (below_step HB.out hb)
               clear hb))
            go_ret
            exact ⟨rfl, HB8.out⟩
        · obtain ⟨i, rfl⟩ : ∃ i : Nat, a2 = (i : Int) := ⟨a2.toNat, by omega⟩
          have HIN : Aside0 (i < n) := ⟨by omega⟩
          by_cases hc3 : 0 ≤ a3 ∧ a3 < (N : Int)
          · obtain ⟨c, rfl⟩ : ∃ c : Nat, a3 = (c : Int) := ⟨a3.toNat, by omega⟩
            have HCN : Aside0 (c < N) := ⟨by omega⟩
            have HRF : Aside0 (tutorref06_Members.f 2000 (lst n C) (N : Int) (c : Int) = some (tl (members n C c), 0)) := ⟨by rw [refMembers_is (by omega) (c : Int) (Nat.le_refl _), if_pos hc3, Int.toNat_natCast]⟩
            have HML : Aside0 ((tl (members n C c)).length ≤ 1000000000) := ⟨by
              rw [tl_len]
              unfold members
              have := List.length_filter_le (fun i => C i == c) (List.range n)
              rw [List.length_range] at this
              omega⟩
            clear hc3
            go_wp2_with (first
            | (go_at_call 9; refine (hlv w7).mono ?_
               rintro e w8 ⟨rfl, hb⟩
               have HB8 := Aside0.mk (below_step HB7.out hb)
               clear hb)
            | (go_at_call 11; with_reducible refine (tutorlaw06_num.calls 0 0 w6 rfl).mono ?_
               rintro e w7 ⟨rfl, hd⟩
               have HB7 := Aside0.mk (below_step HB6.out hd.below)
               clear hd)
            | (go_at_call 16; refine (same_calls Am (tl (members n C c)).length cm (tl (members n C c)) A5 (tl (members n C c)).length c5 (tl (members n C c)) w5 HC5.out HC4.out.2 (row_C HR5.out).1 (row_C HR5.out).2 HML.out).mono ?_
               rw [decide_eq_true rfl]
               rintro e w6 ⟨rfl, hd⟩
               have HB6 := Aside0.mk (below_step HB5.out hd.below)
               clear hd)
            | (go_at_call 23; refine (RMem n N C (some ad3) cq (c : Int) (tl (members n C c)) 0 w4 (row_C (HS4.out.get 1 rfl)).1 (row_C (HS4.out.get 1 rfl)).2 HRF.out).mono ?_
               rintro e w5 ⟨v5, rfl, hR, hb⟩
               obtain ⟨A5, c5, hv⟩ := Kd.R_slice hR
               subst hv
               have HR5 := Aside0.mk hR
               have HC5 := Aside0.mk (Kd.C_below HC4.out.1 hb)
               have HB5 := Aside0.mk (below_step HB4.out hb)
               clear hR hb)
            | (go_at_call 14; refine (Members_law HS3.out 0 rfl (by omega) c HCN.out).mono ?_
               rintro e w4 ⟨v4, rfl, hR, hb⟩
               obtain ⟨Am, cm, hv⟩ := Kd.R_slice hR
               subst hv
               have HC4 := Aside0.mk (row_C hR)
               have HS4 := Aside0.mk (HS3.out.low hb)
               have HB4 := Aside0.mk (below_step HB3.out hb)
               have hy0 : w4.cell? ⟨gq, 0, none⟩ = some (.slice (some ad3) n cq) := (blk_cell (HS4.out.get 2 rfl) 0).trans rfl
               have hy1 : w4.cell? ⟨gq, 1, none⟩ = some (.int .i64 (N : Int)) := (blk_cell (HS4.out.get 2 rfl) 1).trans rfl
               clear hR hb)
            | (go_at_call 11; with_reducible refine (tutorlaw06_num.calls 0 0 w2 rfl).mono ?_
               rintro e w3 ⟨rfl, hd⟩
               have HS3 := Aside0.mk (HS2.out.low hd.below)
               have HB3 := Aside0.mk (below_step HB2.out hd.below)
               have hz0 : w3.cell? ⟨gq, 0, none⟩ = some (.slice Aq n cq) := (blk_cell (HS3.out.get 2 rfl) 0).trans rfl
               obtain ⟨ad3, hA3, hz1⟩ := row_at (HS3.out.get 1 rfl) HIN.out
               subst hA3
               clear hd)
            | (go_at_call 22; refine (Class_walk w.heap.size own g n N C wr (HS.out.get 0 rfl) i HIN.out (by omega)).mono ?_
               rintro e w2 ⟨rfl, hb⟩
               have HS2 := Aside0.mk (HS.out.low hb)
               have HB2 := Aside0.mk (below_step HB.out hb)
               clear hb))
            go_ret
            exact ⟨rfl, HB8.out⟩
          · have HRF : Aside0 (tutorref06_Members.f 2000 (lst n C) (N : Int) a3 = some ([], 1)) := ⟨by rw [refMembers_is (by omega) a3 (Nat.le_refl _), if_neg hc3]⟩
            have HA3 : Aside0 (a3 < 0 ∨ a3 ≥ (N : Int)) := ⟨by omega⟩
            clear hc3
            go_wp2_with (first
            | (go_at_call 9; refine (hlv w7).mono ?_
               rintro e w8 ⟨rfl, hb⟩
               have HB8 := Aside0.mk (below_step HB7.out hb)
               clear hb)
            | (go_at_call 11; with_reducible refine (tutorlaw06_num.calls 1 1 w6 rfl).mono ?_
               rintro e w7 ⟨rfl, hd⟩
               have HB7 := Aside0.mk (below_step HB6.out hd.below)
               clear hd)
            | (go_at_call 16; refine (same_calls none 0 0 [] A5 ([] : List Int).length c5 [] w5 (Kd.C_nil _ _) (Nat.le_refl _) (row_C HR5.out).1 (row_C HR5.out).2 (by decide)).mono ?_
               rw [decide_eq_true rfl]
               rintro e w6 ⟨rfl, hd⟩
               have HB6 := Aside0.mk (below_step HB5.out hd.below)
               clear hd)
            | (go_at_call 23; refine (RMem n N C (some ad3) cq a3 [] 1 w4 (row_C (HS4.out.get 1 rfl)).1 (row_C (HS4.out.get 1 rfl)).2 HRF.out).mono ?_
               rintro e w5 ⟨v5, rfl, hR, hb⟩
               obtain ⟨A5, c5, hv⟩ := Kd.R_slice hR
               subst hv
               have HR5 := Aside0.mk hR
               have HB5 := Aside0.mk (below_step HB4.out hb)
               clear hR hb)
            | (go_at_call 14; refine (Members_bad w.heap.size own g n N C w3 (HS3.out.get 0 rfl) a3 HA3.out).mono ?_
               rintro e w4 ⟨rfl, hb⟩
               have HS4 := Aside0.mk (HS3.out.low hb)
               have HB4 := Aside0.mk (below_step HB3.out hb)
               have hy0 : w4.cell? ⟨gq, 0, none⟩ = some (.slice (some ad3) n cq) := (blk_cell (HS4.out.get 2 rfl) 0).trans rfl
               have hy1 : w4.cell? ⟨gq, 1, none⟩ = some (.int .i64 (N : Int)) := (blk_cell (HS4.out.get 2 rfl) 1).trans rfl
               clear hb)
            | (go_at_call 11; with_reducible refine (tutorlaw06_num.calls 0 0 w2 rfl).mono ?_
               rintro e w3 ⟨rfl, hd⟩
               have HS3 := Aside0.mk (HS2.out.low hd.below)
               have HB3 := Aside0.mk (below_step HB2.out hd.below)
               have hz0 : w3.cell? ⟨gq, 0, none⟩ = some (.slice Aq n cq) := (blk_cell (HS3.out.get 2 rfl) 0).trans rfl
               obtain ⟨ad3, hA3, hz1⟩ := row_at (HS3.out.get 1 rfl) HIN.out
               subst hA3
               clear hd)
            | (go_at_call 22; refine (Class_walk w.heap.size own g n N C wr (HS.out.get 0 rfl) i HIN.out (by omega)).mono ?_
               rintro e w2 ⟨rfl, hb⟩
               have HS2 := Aside0.mk (HS.out.low hb)
               have HB2 := Aside0.mk (below_step HB.out hb)
               clear hb))
            go_ret
            exact ⟨rfl, HB8.out⟩
theorem tutorlaw06_BlockPlays.calls (a0 : Int) (A1 : Option Addr) (c1 : Nat) (l1 : List (List Int)) (a2 a3 : Int) (r : Bool) (w : World) (hr1 : Kd.C (Kd.slice 3 (Kd.int .i64)) w A1 l1.length l1) (hc1 : l1.length ≤ c1) (h : r = true) : Calls Try.prog 4 #[.int .i64 a0, .slice A1 l1.length c1, .int .i64 a2, .int .i64 a3] w fun e w' => e = .returned (.bool r) ∧ Below w.heap.size w w' := by
  subst h
  cases hm : muchL a0 l1 with
  | true => exact Pl_much a0 A1 c1 l1 a2 a3 w hr1 hc1 hm
  | false =>
    have hm' := of_decide_eq_false hm
    by_cases h5 : a0 < 1
    · exact Pl_few a0 A1 c1 l1 a2 a3 w hr1 hc1 hm h5
    by_cases h6 : a0 > 65536
    · exact Pl_many a0 A1 c1 l1 a2 a3 w hr1 hc1 hm h6
    · obtain ⟨n, rfl⟩ : ∃ n : Nat, a0 = (n : Int) := ⟨a0.toNat, by omega⟩
      have g1 : ¬ ((n : Int) > 200 ∧ (n : Int) ≤ 65536) := fun e => hm' (.inl e)
      have g2 : ¬ (l1.length : Int) > 60 := fun e => hm' (.inr (.inl e))
      exact Pl_main n A1 c1 l1 a2 a3 w hr1 hc1 hm (by omega) (by omega) (by omega) (fun x hx => by
        have : ¬ (x.length : Int) > 400 := fun e => hm' (.inr (.inr ⟨x, hx, e⟩))
        omega)
end Go.Proofs.Ytdalpaobkmoomaa.X
end
