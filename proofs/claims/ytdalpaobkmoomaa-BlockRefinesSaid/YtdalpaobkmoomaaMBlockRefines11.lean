/- Texts of the statement BlockRefines, one behind the other: Go functions as Lean functions, the machine's calls, the plain law. -/
import Derived.Test.YtdalpaobkmoomaaMBlockRefines4
import Derived.Test.YtdalpaobkmoomaaMBlockRefines7
import Derived.Test.YtdalpaobkmoomaaMBlockRefines10
set_option linter.unusedVariables false
set_option linter.unusedSimpArgs false
section
namespace Go.Proofs.Ytdalpaobkmoomaa.X
open Go.RowKit Go.Proofs.YtdalpaobkmoomaaW.PrintWords Go.Proofs.YtdalpaobkmoomaaW.PrintLast Go.Proofs.YtdalpaobkmoomaaW.PrintMore
open Go.Proofs.Ytdalpaobkmoomaa Go.Proofs.Ytdalpaobkmoomaa.Sp
def mb5.T5 : Bool × List (List Nat × List Nat) := (true, [([], []), ([0], [0]), ([1], [1]), ([2], [2]), ([], []), ([4], [4]), ([5], [5]), ([6], [6]), ([], []), ([7, 8], [7, 8]), ([9], [9]), ([10], [10]), ([], []), ([12], [12]), ([13], [13]), ([14], [14]), ([], []), ([15, 16], [15, 16]), ([17], [17]), ([18], [18]), ([3, 11, 19], [3, 11, 19]), ([20], [20]), ([21, 21, 0, 1, 2, 3, 4, 5, 6, 7, 8, 9, 10, 11, 12, 13, 14, 15, 16, 17, 18, 19, 20, 21], [21])])
def mb5.B5 : List Nat := [0, 1, 3, 7, 0, 16, 48, 112, 0, 496, 1008, 2032, 0, 4096, 12288, 28672, 0, 126976, 258048, 520192, 1048575, 2097151, 4194303]
theorem mb5.tab5 : rtab .any (opsOf Try.f14 5) = mb5.T5 := by kernel_rfl
theorem mb5.bits5 : waitsOk mb5.T5.2 mb5.B5 = true := by kernel_rfl
attribute [local go_sem] max2_int min2_int max_two min_two max_three min_three max_four min_four
set_option maxHeartbeats 8000000 in
set_option maxRecDepth 100000 in
theorem Count_walk (base : Nat) (own : Nat → Prop) (g n N : Nat) (C : Nat → Nat) (w : World) (h : (part base own g n N C).at_ w) : Calls Try.prog 17 #[.pointer (some ⟨g, 0, none⟩)] w fun e w' => e = .returned (.int .i64 (N : Int)) ∧ Below w.heap.size w w' := by
  obtain ⟨R, P, A, B, gr, cr, gp, cp, gc, gs, cs, hi, hs, _⟩ := h
  have hu64 := Try.underlying64
  have hx : w.cell? ⟨g, 3, none⟩ = some (.slice (some ⟨gs, 0, none⟩) N cs) := (blk_cell (hs.get 0 rfl) 3).trans rfl
  clear hs hi
  go_enter Try.func17, Try.ntmps17
  go_wp2
  go_ret
  exact ⟨rfl, Below.refl _ _⟩
set_option maxHeartbeats 8000000 in
set_option maxRecDepth 100000 in
theorem All_walk (base : Nat) (own : Nat → Prop) (g n N : Nat) (C : Nat → Nat) (w : World) (h : (part base own g n N C).at_ w) (hn : n ≤ 65536) : Calls Try.prog 13 #[.pointer (some ⟨g, 0, none⟩)] w (RowPost w (lst n C)) := by
  obtain ⟨R, P, A, B, gr, cr, gp, cp, gc, gs, cs, hi, hs, _⟩ := h
  have hu64 := Try.underlying64
  have hx : w.cell? ⟨g, 2, none⟩ = some (.slice (some ⟨gc, 0, none⟩) n n) := (blk_cell (hs.get 0 rfl) 2).trans rfl
  have hcl := Clone_calls (some ⟨gc, 0, none⟩) n (lst n C) w (nums_C (hs.get 3 rfl) (by rw [lst_len]; omega)) (by rw [lst_len]; omega) (by rw [lst_len]; omega)
  rw [lst_len] at hcl
  have hcl' : Calls Try.prog 31 #[.slice (some ⟨gc, 0, none⟩) n n] w fun e w' => ∃ v, e = .returned v ∧ Kd.R (Kd.int .i64) 3 w' w.heap.size (fun _ => True) v (lst n C) ∧ Below w.heap.size w w' := hcl
  clear hs hi hcl
  go_enter Try.func13, Try.ntmps13
  go_wp2_with (go_at_call 31; with_reducible refine hcl'.mono ?_; rintro e w1 ⟨v, rfl, hR, hb⟩)
  go_ret
  exact ⟨v, rfl, hR, hb⟩
set_option maxHeartbeats 8000000 in
set_option maxRecDepth 100000 in
theorem Class_walk (base : Nat) (own : Nat → Prop) (g n N : Nat) (C : Nat → Nat) (w : World) (h : (part base own g n N C).at_ w) (i : Nat) (hin : i < n) (hn : n ≤ 65536) : Calls Try.prog 22 #[.pointer (some ⟨g, 0, none⟩), .int .i64 (i : Int)] w fun e w' => e = .returned (.tuple #[.int .i64 (C i : Int), .int .i64 0]) ∧ Below w.heap.size w w' := by
  obtain ⟨R, P, A, B, gr, cr, gp, cp, gc, gs, cs, hi, hs, _⟩ := h
  have hu64 := Try.underlying64
  have hx : w.cell? ⟨g, 2, none⟩ = some (.slice (some ⟨gc, 0, none⟩) n n) := (blk_cell (hs.get 0 rfl) 2).trans rfl
  have hc := lst_cell (hs.get 3 rfl) hin
  have h1 : ¬ (i : Int) < 0 := by omega
  have h2 : (i : Int) < (n : Int) := by omega
  have h3 : ¬ (i : Int) ≥ (n : Int) := by omega
  clear hs hi
  go_enter Try.func22, Try.ntmps22
  go_wp2
  try rw [Exit.noGoto_ret]
  go_ret2
  exact ⟨rfl, Below.refl _ _⟩
/-- The members of a class, in their order. -/
def members (n : Nat) (C : Nat → Nat) (c : Nat) : List Nat := (List.range n).filter fun i => C i == c
theorem members_sort {n N : Nat} {C R P A B : Nat → Nat} (h : Inv n N C R P A B) {c : Nat} (hc : c < N) : (((lst n R).take (B c)).drop (A c)).mergeSort (fun x y => decide (x ≤ y)) = tl (members n C c) := by
  have hsp := h.sp c hc
  have e : ((lst n R).take (B c)).drop (A c) = tl ((List.range' (A c) (B c - A c)).map R) := by
    apply List.ext_getElem?
    intro j
    rw [List.getElem?_drop, List.getElem?_take]
    simp only [tl, lst, List.getElem?_map]
    by_cases hj : j < B c - A c
    · rw [if_pos (by omega), List.getElem?_range (by omega)]
      simp [List.getElem?_range', hj]
    · rw [if_neg (by omega)]
      simp [List.getElem?_range', hj]
  obtain ⟨T', h1, h2, h3⟩ := sort_nat ((List.range' (A c) (B c - A c)).map R)
  rw [e, ← h1]
  congr 1
  refine same_sorted ?_ ((List.pairwise_lt_range).filter _) (fun x => ?_)
  · have hnd : ((List.range' (A c) (B c - A c)).map R).Nodup := by
      rw [List.nodup_iff_pairwise_ne, List.pairwise_map]
      refine (List.pairwise_lt_range').imp_of_mem (fun {a b} ha hb hab e => ?_)
      rw [List.mem_range'_1] at ha hb
      have g1 := h.pi a (by omega)
      have g2 := h.pi b (by omega)
      rw [e] at g1
      omega
    have hnd' : T'.Nodup := h2.nodup_iff.2 hnd
    rw [List.nodup_iff_pairwise_ne] at hnd'
    exact (h3.and hnd').imp (fun {a b} hh => by omega)
  · rw [h2.mem_iff, List.mem_map]
    simp only [members, List.mem_filter, List.mem_range, beq_iff_eq]
    constructor
    · rintro ⟨p, hp, rfl⟩
      rw [List.mem_range'_1] at hp
      have g := h.some hc (p := p) (by omega) (by omega)
      exact ⟨g.1, g.2.2⟩
    · rintro ⟨hx, hcx⟩
      have g1 := h.ip x hx
      have g2 := h.at' x hx
      rw [hcx] at g2
      exact ⟨P x, by rw [List.mem_range'_1]; omega, g1.2⟩
set_option maxHeartbeats 8000000 in
set_option maxRecDepth 100000 in
theorem Members_walk (base : Nat) (own : Nat → Prop) (g n N : Nat) (C : Nat → Nat) (w : World) (h : (part base own g n N C).at_ w) (c : Nat) (hc : c < N) (hn : n ≤ 65536) : Calls Try.prog 14 #[.pointer (some ⟨g, 0, none⟩), .int .i64 (c : Int)] w fun e w' => ∃ v, e = .returned (.tuple #[v, .int .i64 0]) ∧ Kd.R (Kd.int .i64) 3 w' w.heap.size (fun _ => True) v (tl (members n C c)) ∧ Below w.heap.size w w' := by
  obtain ⟨R, P, A, B, gr, cr, gp, cp, gc, gs, cs, hi, hs, _⟩ := h
  have hu64 := Try.underlying64
  have hu22 := Try.underlying22
  have hu62 := Try.underlying62
  have hu61 := Try.underlying61
  have HS := Aside0.mk hs
  have HI := Aside0.mk hi
  have hx3 : w.cell? ⟨g, 3, none⟩ = some (.slice (some ⟨gs, 0, none⟩) N cs) := (blk_cell (hs.get 0 rfl) 3).trans rfl
  have h1 : ¬ (c : Int) < 0 := by omega
  have h2 : (c : Int) < (N : Int) := by omega
  have h3 : ¬ (c : Int) ≥ (N : Int) := by omega
  have hsp := hi.sp c hc
  have hcr : n ≤ cr := (Kd.R_reads' (hs.get 1 rfl)).2.1
  have h4 : (A c : Int) ≤ (B c : Int) := by omega
  have h5 : (B c : Int) ≤ (cr : Int) := by omega
  have h6 : ¬ cr = A c := by omega
  have hxl : (((lst n R).take (B c)).drop (A c)).length = B c - A c := by rw [List.length_drop, List.length_take, lst_len]; omega
  have hcl : ∀ W, Sep base (pcs base g n N C R P A B gr cr gp cp gc gs cs) W → Calls Try.prog 31 #[.slice (some ⟨gr, A c, none⟩) (B c - A c) (cr - A c)] W fun e w' => ∃ v, e = .returned v ∧ Kd.R (Kd.int .i64) 3 w' W.heap.size (fun _ => True) v (((lst n R).take (B c)).drop (A c)) ∧ Below W.heap.size W w' := fun W hS => by
    have h1 := (Kd.R_reads' (hS.get 1 rfl)).2.2
    have h2 := Kd.C_mid (lo := A c) (hi := B c) (c := cr) h1 (by omega) (by rw [lst_len]; omega) (by rw [lst_len]; omega)
    rw [if_neg h6] at h2
    have h3 : Kd.C (Kd.int .i64) W (some ⟨gr, A c, none⟩) (((lst n R).take (B c)).drop (A c)).length (((lst n R).take (B c)).drop (A c)) := by
      have e : (Option.map (fun x : Addr => x.add (A c * (Kd.int .i64).sz)) (some ⟨gr, 0, none⟩)) = some ⟨gr, A c, none⟩ := by
        show some ((⟨gr, 0, none⟩ : Addr).add (A c * 1)) = _
        rw [Addr.add_mid, Nat.zero_add, Nat.mul_one]
      rw [e] at h2
      exact h2
    have h4 := Clone_calls (some ⟨gr, A c, none⟩) (cr - A c) (((lst n R).take (B c)).drop (A c)) W h3 (by rw [hxl]; omega) (by rw [hxl]; omega)
    rw [hxl] at h4
    exact h4
  have hms := members_sort hi hc
  have hlb : (((lst n R).take (B c)).drop (A c)).length < 4611686018427387904 := by rw [hxl]; omega
  clear hi hxl
  go_enter Try.func14, Try.ntmps14
  go_wp2
  have HE : Aside0 (Sep base (pcs base g n N C R P A B gr cr gp cp gc gs cs) w.drew) := ⟨hs.low (below_drew1 (Below.refl _ _))⟩
  have HD : Aside0 (Below w.heap.size w w.drew) := ⟨below_drew1 (Below.refl _ _)⟩
  clear hs hx3
  refine start_ (n := 23) (S := fun w' => w'.cell? ⟨g, 0, none⟩ = some (.slice (some ⟨gr, 0, none⟩) n cr) ∧ w'.cell? ⟨g, 3, none⟩ = some (.slice (some ⟨gs, 0, none⟩) N cs) ∧ w'.cell? ⟨gs, c * 2, none⟩ = some (.int .i64 (A c : Int)) ∧ w'.cell? ⟨gs, c * 2 + 1, none⟩ = some (.int .i64 (B c : Int))) (ds := [21]) #[false, false, false, false, false, false, false, false, false, false, false, false, false, false, false, false, false, false, false, false, false, false, false] (by kernel_rfl) rfl rfl ⟨(blk_cell (HE.out.get 0 rfl) 0).trans rfl, (blk_cell (HE.out.get 0 rfl) 3).trans rfl, (pair_cells (HE.out.get 4 rfl) c _ (slst_get A B hc)).1, (pair_cells (HE.out.get 4 rfl) c _ (slst_get A B hc)).2.1⟩ (fun hHeld => ?_)
  refine with_tabW mb5.tab5 mb5.bits5 (fun HT_ HW_ => ?_)
  have HE2 := HE
  clear HE
  have HWD : Aside0 (w.heap.size = w.drew.heap.size) := ⟨rfl⟩
  generalize w.drew = wd at HE2 HD HWD hHeld ⊢
  refine pure_ (i := 0) (N := (some 22)) (v := ?_) (a' := ?_) #[true, false, false, false, false, false, false, false, false, false, false, false, false, false, false, false, false, false, false, false, false, false, false] rfl rfl (any_of HT_.out (by kernel_rfl)) (fun _ _ _ h => h) (Or.inl ⟨by rfl, ?_⟩) ?_ ?_
  rotate_left
  · intro w'
    go_simp
    with_reducible rfl
  rotate_left
  · simp only [Act.put, List.setIfInBounds_toArray, List.set_cons_zero, List.set_cons_succ, i64_w, i32_w]
    rfl
  refine pure_ (i := 1) (N := (some 23)) (v := ?_) (a' := ?_) #[true, true, false, false, false, false, false, false, false, false, false, false, false, false, false, false, false, false, false, false, false, false, false] rfl rfl (any_of HT_.out (by kernel_rfl)) (fun _ _ _ h => h) (Or.inl ⟨by rfl, ?_⟩) ?_ ?_
  rotate_left
  · intro w'
    go_simp
    with_reducible rfl
  rotate_left
  · simp only [Act.put, List.setIfInBounds_toArray, List.set_cons_zero, List.set_cons_succ, i64_w, i32_w]
    rfl
  refine pure_ (i := 2) (N := (some 24)) (v := ?_) (a' := ?_) #[true, true, true, false, false, false, false, false, false, false, false, false, false, false, false, false, false, false, false, false, false, false, false] rfl rfl (any_of HT_.out (by kernel_rfl)) (fun _ _ _ h => h) (Or.inl ⟨by rfl, ?_⟩) ?_ ?_
  rotate_left
  · intro w'
    go_simp
    with_reducible rfl
  rotate_left
  · simp only [Act.put, List.setIfInBounds_toArray, List.set_cons_zero, List.set_cons_succ, i64_w, i32_w]
    rfl
  refine pure_ (i := 4) (N := (some 26)) (v := ?_) (a' := ?_) #[true, true, true, false, true, false, false, false, false, false, false, false, false, false, false, false, false, false, false, false, false, false, false] rfl rfl (any_of HT_.out (by kernel_rfl)) (fun _ _ _ h => h) (Or.inl ⟨by rfl, ?_⟩) ?_ ?_
  rotate_left
  · intro w'
    go_simp
    with_reducible rfl
  rotate_left
  · simp only [Act.put, List.setIfInBounds_toArray, List.set_cons_zero, List.set_cons_succ, i64_w, i32_w]
    rfl
  refine pure_ (i := 5) (N := (some 27)) (v := ?_) (a' := ?_) #[true, true, true, false, true, true, false, false, false, false, false, false, false, false, false, false, false, false, false, false, false, false, false] rfl rfl (any_of HT_.out (by kernel_rfl)) (fun _ _ _ h => h) (Or.inl ⟨by rfl, ?_⟩) ?_ ?_
  rotate_left
  · intro w'
    go_simp
    with_reducible rfl
  rotate_left
  · simp only [Act.put, List.setIfInBounds_toArray, List.set_cons_zero, List.set_cons_succ, i64_w, i32_w]
    rfl
  refine pure_ (i := 6) (N := (some 28)) (v := ?_) (a' := ?_) #[true, true, true, false, true, true, true, false, false, false, false, false, false, false, false, false, false, false, false, false, false, false, false] rfl rfl (any_of HT_.out (by kernel_rfl)) (fun _ _ _ h => h) (Or.inl ⟨by rfl, ?_⟩) ?_ ?_
  rotate_left
  · intro w'
    go_simp
    with_reducible rfl
  rotate_left
  · simp only [Act.put, List.setIfInBounds_toArray, List.set_cons_zero, List.set_cons_succ, i64_w, i32_w]
    rfl
  refine pure_ (i := 8) (N := (some 30)) (v := ?_) (a' := ?_) #[true, true, true, false, true, true, true, false, true, false, false, false, false, false, false, false, false, false, false, false, false, false, false] rfl rfl (any_of HT_.out (by kernel_rfl)) (fun _ _ _ h => h) (Or.inl ⟨by rfl, ?_⟩) ?_ ?_
  rotate_left
  · intro w'
    go_simp
    with_reducible rfl
  rotate_left
  · simp only [Act.put, List.setIfInBounds_toArray, List.set_cons_zero, List.set_cons_succ, i64_w, i32_w]
    rfl
  refine pure_ (i := 12) (N := (some 34)) (v := ?_) (a' := ?_) #[true, true, true, false, true, true, true, false, true, false, false, false, true, false, false, false, false, false, false, false, false, false, false] rfl rfl (any_of HT_.out (by kernel_rfl)) (fun _ _ _ h => h) (Or.inl ⟨by rfl, ?_⟩) ?_ ?_
  rotate_left
  · intro w'
    go_simp
    with_reducible rfl
  rotate_left
  · simp only [Act.put, List.setIfInBounds_toArray, List.set_cons_zero, List.set_cons_succ, i64_w, i32_w]
    rfl
  refine pure_ (i := 13) (N := (some 35)) (v := ?_) (a' := ?_) #[true, true, true, false, true, true, true, false, true, false, false, false, true, true, false, false, false, false, false, false, false, false, false] rfl rfl (any_of HT_.out (by kernel_rfl)) (fun _ _ _ h => h) (Or.inl ⟨by rfl, ?_⟩) ?_ ?_
  rotate_left
  · intro w'
    go_simp
    with_reducible rfl
  rotate_left
  · simp only [Act.put, List.setIfInBounds_toArray, List.set_cons_zero, List.set_cons_succ, i64_w, i32_w]
    rfl
  refine pure_ (i := 14) (N := (some 36)) (v := ?_) (a' := ?_) #[true, true, true, false, true, true, true, false, true, false, false, false, true, true, true, false, false, false, false, false, false, false, false] rfl rfl (any_of HT_.out (by kernel_rfl)) (fun _ _ _ h => h) (Or.inl ⟨by rfl, ?_⟩) ?_ ?_
  rotate_left
  · intro w'
    go_simp
    with_reducible rfl
  rotate_left
  · simp only [Act.put, List.setIfInBounds_toArray, List.set_cons_zero, List.set_cons_succ, i64_w, i32_w]
    rfl
  refine pure_ (i := 16) (N := (some 38)) (v := ?_) (a' := ?_) #[true, true, true, false, true, true, true, false, true, false, false, false, true, true, true, false, true, false, false, false, false, false, false] rfl rfl (any_of HT_.out (by kernel_rfl)) (fun _ _ _ h => h) (Or.inl ⟨by rfl, ?_⟩) ?_ ?_
  rotate_left
  · intro w'
    go_simp
    with_reducible rfl
  rotate_left
  · simp only [Act.put, List.setIfInBounds_toArray, List.set_cons_zero, List.set_cons_succ, i64_w, i32_w]
    rfl
  refine take_ (i := 3) (N := (some 25)) (v := ?_) (a' := ?_) #[true, true, true, true, true, true, true, false, true, false, false, false, true, true, true, false, true, false, false, false, false, false, false] rfl rfl (take_ofW HT_.out HW_.out (by kernel_rfl)) (fun _ _ _ h => h) (Or.inl ⟨by rfl, ?_⟩) hHeld ?_ ?_
  rotate_left
  · rintro w' ⟨s0, s1, s2, s3⟩
    go_simp
    with_reducible rfl
  rotate_left
  · simp only [Act.put, List.setIfInBounds_toArray, List.set_cons_zero, List.set_cons_succ, i64_w, i32_w]
    rfl
  refine take_ (i := 7) (N := (some 29)) (v := ?_) (a' := ?_) #[true, true, true, true, true, true, true, true, true, false, false, false, true, true, true, false, true, false, false, false, false, false, false] rfl rfl (take_ofW HT_.out HW_.out (by kernel_rfl)) (fun _ _ _ h => h) (Or.inl ⟨by rfl, ?_⟩) hHeld ?_ ?_
  rotate_left
  · rintro w' ⟨s0, s1, s2, s3⟩
    go_simp
    with_reducible rfl
  rotate_left
  · simp only [Act.put, List.setIfInBounds_toArray, List.set_cons_zero, List.set_cons_succ, i64_w, i32_w]
    rfl
  refine pure_ (i := 9) (N := (some 31)) (v := ?_) (a' := ?_) #[true, true, true, true, true, true, true, true, true, true, false, false, true, true, true, false, true, false, false, false, false, false, false] rfl rfl (any_of HT_.out (by kernel_rfl)) (fun _ _ _ h => h) (Or.inl ⟨by rfl, ?_⟩) ?_ ?_
  rotate_left
  · intro w'
    go_simp
    with_reducible rfl
  rotate_left
  · simp only [Act.put, List.setIfInBounds_toArray, List.set_cons_zero, List.set_cons_succ, i64_w, i32_w]
    rfl
  refine pure_ (i := 10) (N := (some 32)) (v := ?_) (a' := ?_) #[true, true, true, true, true, true, true, true, true, true, true, false, true, true, true, false, true, false, false, false, false, false, false] rfl rfl (any_of HT_.out (by kernel_rfl)) (fun _ _ _ h => h) (Or.inl ⟨by rfl, ?_⟩) ?_ ?_
  rotate_left
  · intro w'
    go_simp
    with_reducible rfl
  rotate_left
  · simp only [Act.put, List.setIfInBounds_toArray, List.set_cons_zero, List.set_cons_succ, i64_w, i32_w]
    rfl
  refine take_ (i := 11) (N := (some 33)) (v := ?_) (a' := ?_) #[true, true, true, true, true, true, true, true, true, true, true, true, true, true, true, false, true, false, false, false, false, false, false] rfl rfl (take_ofW HT_.out HW_.out (by kernel_rfl)) (fun _ _ _ h => h) (Or.inl ⟨by rfl, ?_⟩) hHeld ?_ ?_
  rotate_left
  · rintro w' ⟨s0, s1, s2, s3⟩
    go_simp
    with_reducible rfl
  rotate_left
  · simp only [Act.put, List.setIfInBounds_toArray, List.set_cons_zero, List.set_cons_succ, i64_w, i32_w]
    rfl
  refine take_ (i := 15) (N := (some 37)) (v := ?_) (a' := ?_) #[true, true, true, true, true, true, true, true, true, true, true, true, true, true, true, true, true, false, false, false, false, false, false] rfl rfl (take_ofW HT_.out HW_.out (by kernel_rfl)) (fun _ _ _ h => h) (Or.inl ⟨by rfl, ?_⟩) hHeld ?_ ?_
  rotate_left
  · rintro w' ⟨s0, s1, s2, s3⟩
    go_simp
    with_reducible rfl
  rotate_left
  · simp only [Act.put, List.setIfInBounds_toArray, List.set_cons_zero, List.set_cons_succ, i64_w, i32_w]
    rfl
  refine pure_ (i := 17) (N := (some 39)) (v := ?_) (a' := ?_) #[true, true, true, true, true, true, true, true, true, true, true, true, true, true, true, true, true, true, false, false, false, false, false] rfl rfl (any_of HT_.out (by kernel_rfl)) (fun _ _ _ h => h) (Or.inl ⟨by rfl, ?_⟩) ?_ ?_
  rotate_left
  · intro w'
    go_simp
    with_reducible rfl
  rotate_left
  · simp only [Act.put, List.setIfInBounds_toArray, List.set_cons_zero, List.set_cons_succ, i64_w, i32_w]
    rfl
  refine pure_ (i := 18) (N := (some 40)) (v := ?_) (a' := ?_) #[true, true, true, true, true, true, true, true, true, true, true, true, true, true, true, true, true, true, true, false, false, false, false] rfl rfl (any_of HT_.out (by kernel_rfl)) (fun _ _ _ h => h) (Or.inl ⟨by rfl, ?_⟩) ?_ ?_
  rotate_left
  · intro w'
    go_simp
    with_reducible rfl
  rotate_left
  · simp only [Act.put, List.setIfInBounds_toArray, List.set_cons_zero, List.set_cons_succ, i64_w, i32_w]
    rfl
  refine take_ (i := 19) (N := (some 41)) (v := ?_) (a' := ?_) #[true, true, true, true, true, true, true, true, true, true, true, true, true, true, true, true, true, true, true, true, false, false, false] rfl rfl (take_ofW HT_.out HW_.out (by kernel_rfl)) (fun _ _ _ h => h) (Or.inl ⟨by rfl, ?_⟩) hHeld ?_ ?_
  rotate_left
  · rintro w' ⟨s0, s1, s2, s3⟩
    go_simp
    with_reducible rfl
  rotate_left
  · simp only [Act.put, List.setIfInBounds_toArray, List.set_cons_zero, List.set_cons_succ, i64_w, i32_w]
    rfl
  refine pure_ (i := 20) (N := (some 42)) (v := ?_) (a' := ?_) #[true, true, true, true, true, true, true, true, true, true, true, true, true, true, true, true, true, true, true, true, true, false, false] rfl rfl (any_of HT_.out (by kernel_rfl)) (fun _ _ _ h => h) (Or.inl ⟨by rfl, ?_⟩) ?_ ?_
  rotate_left
  · intro w'
    go_simp
    with_reducible rfl
  rotate_left
  · simp only [Act.put, List.setIfInBounds_toArray, List.set_cons_zero, List.set_cons_succ, i64_w, i32_w]
    rfl
  refine last_ (i := 21) (N := (some 43)) #[true, true, true, true, true, true, true, true, true, true, true, true, true, true, true, true, true, true, true, true, true, true, false] rfl rfl (one_of HT_.out (by kernel_rfl)) (by decide) (fun K hK => ?_)
  refine goes_ Try.func31 (by kernel_rfl) rfl #[.slice (some ⟨gr, A c, none⟩) (B c - A c) (cr - A c)] (by rfl) rfl rfl (by simp [Act.eval]) ?_
  refine (hcl wd HE2.out).mono ?_
  rintro e w8 ⟨v8, rfl, hR8, hb8⟩
  refine ⟨_, rfl, ?_⟩
  have HR8 := Aside0.mk hR8
  have HB8 := Aside0.mk hb8
  clear hR8 hb8
  refine hK.out _ _ ?_; clear hK K
  refine norm_ (a' := ?_) ?_ ?_
  rotate_left
  · show Act.put _ (some 43) _ = _
    simp only [Act.put, List.setIfInBounds_toArray, List.set_cons_zero, List.set_cons_succ, i64_w, i32_w]
    rfl
  refine pure_ (i := 22) (N := (some 6)) (v := ?_) (a' := ?_) #[true, true, true, true, true, true, true, true, true, true, true, true, true, true, true, true, true, true, true, true, true, true, true] rfl rfl (any_of HT_.out (by kernel_rfl)) (fun _ _ _ h => h) (Or.inl ⟨by rfl, ?_⟩) ?_ ?_
  rotate_left
  · intro w'
    go_simp
    with_reducible rfl
  rotate_left
  · simp only [Act.put, List.setIfInBounds_toArray, List.set_cons_zero, List.set_cons_succ, i64_w, i32_w]
    rfl
  refine done_ (done_of HT_.out (by kernel_rfl)) ?_
  have HHD : Aside0 (Hold wd.heap.size (fun _ => False) wd [ints wd.heap.size v8 (((lst n R).take (B c)).drop (A c))] w8) := ⟨⟨⟨fun r hr => by
    rw [List.mem_singleton] at hr
    subst hr
    refine ⟨Kd.R_tight rfl HR8.out, fun k hk => ?_⟩
    have hk' : some k = v8.ownBlock := hk
    refine ⟨?_, Kd.R_lt HR8.out k hk'.symm⟩
    rcases Kd.R_base2 HR8.out with h3 | ⟨j, h3, h4⟩
    · rw [h3] at hk'; cases hk'
    · rw [h3] at hk'; injection hk' with h1; omega, List.pairwise_singleton _ _⟩, fun r hr k hk => .inr (by
    rw [List.mem_singleton] at hr
    subst hr
    have hk' : some k = v8.ownBlock := hk
    rcases Kd.R_base2 HR8.out with h3 | ⟨j, h3, h4⟩
    · rw [h3] at hk'; cases hk'
    · rw [h3] at hk'; injection hk' with h1; omega), fun k hk _ => HB8.out.block k hk, HB8.out, Nat.le_refl _⟩⟩
  clear hHeld hcl HE2
  go_wp2_with (go_at_call 30; refine (sort_calls HHD.out 0 rfl hlb).mono ?_; rintro e w12 ⟨rfl, hso⟩; rw [hms] at hso; have HSO := Aside0.mk hso; clear hso)
  go_ret2
  have hwd : w.heap.size = wd.heap.size := HWD.out
  refine ⟨v8, rfl, ?_, ?_⟩
  · rw [hwd]
    exact Kd.R_mono (HSO.out.get 0 rfl) (fun _ _ => trivial)
  · have h := HD.out
    have h2 := HSO.out.below
    exact below_then h (Nat.le_of_eq hwd) h2
end Go.Proofs.Ytdalpaobkmoomaa.X
end

section
namespace Go.Proofs.Ytdalpaobkmoomaa.X
open Go.RowKit Go.Proofs.YtdalpaobkmoomaaW.PrintWords Go.Proofs.YtdalpaobkmoomaaW.PrintLast Go.Proofs.YtdalpaobkmoomaaW.PrintMore
open Go.Proofs.Ytdalpaobkmoomaa Go.Proofs.Ytdalpaobkmoomaa.Sp
theorem rd_nat {xs : List Int} {i : Nat} (h : i < xs.length) : rd xs (i : Int) = xs[i] := by simp [rd, List.getD_eq_getElem?_getD, List.getElem?_eq_getElem h]
theorem same_l0 (a b : List Int) (hl : a.length = b.length) (hb : a.length ≤ 1000000000) : ∀ (d k i : Nat), i + d = a.length → d < k → tutorref01_Same.l0 k a b (i : Int) = some (decide (a.drop i = b.drop i)) := by
  intro d
  induction d with
  | zero =>
    intro k i h hk
    obtain ⟨k, rfl⟩ : ∃ m, k = m + 1 := ⟨k - 1, by omega⟩
    simp only [tutorref01_Same.l0]
    rw [if_neg (by omega), List.drop_of_length_le (by omega), List.drop_of_length_le (by omega)]
    rfl
  | succ d ih =>
    intro k i h hk
    obtain ⟨k, rfl⟩ : ∃ m, k = m + 1 := ⟨k - 1, by omega⟩
    simp only [tutorref01_Same.l0]
    have hda : a.drop i = a[i]'(by omega) :: a.drop (i + 1) := List.drop_eq_getElem_cons (by omega)
    have hdb : b.drop i = b[i]'(by omega) :: b.drop (i + 1) := List.drop_eq_getElem_cons (by omega)
    rw [if_pos (by omega), if_pos (by omega), if_pos (by omega), rd_nat (by omega), rd_nat (by omega), hda, hdb]
    by_cases he : a[i]'(by omega) = b[i]'(by omega)
    · rw [if_pos he, w64s (by omega), ih k (i + 1) (by omega) (by omega), he]
      congr 1
      exact decide_eq_decide.2 ⟨fun h => by rw [h], fun h => (List.cons.inj h).2⟩
    · rw [if_neg he]
      congr 1
      exact (decide_eq_false (fun h => he (List.cons.inj h).1)).symm
theorem same_f {a b : List Int} {k : Nat} (hb : a.length ≤ 1000000000) (hk : a.length < k) : tutorref01_Same.f k a b = some (decide (a = b)) := by
  unfold tutorref01_Same.f
  by_cases hl : a.length = b.length
  · rw [if_pos (by omega)]
    have := same_l0 a b hl hb a.length k 0 (by omega) hk
    simpa using this
  · rw [if_neg (by omega)]
    have : a ≠ b := fun h => hl (by rw [h])
    simp [this]
/-- Same of two rows, with lengths as they are told. -/
theorem same_calls (A0 : Option Addr) (n c0 : Nat) (a : List Int) (A1 : Option Addr) (m c1 : Nat) (b : List Int) (w : World) (h0 : Kd.C (Kd.int .i64) w A0 n a) (hc0 : n ≤ c0) (h1 : Kd.C (Kd.int .i64) w A1 m b) (hc1 : m ≤ c1) (hl : n ≤ 1000000000) :
    Calls Try.prog 16 #[.slice A0 n c0, .slice A1 m c1] w fun e w' => e = .returned (.bool (decide (a = b))) ∧ Drawn0 w w' := by
  have e0 := Kd.C_len h0
  have e1 := Kd.C_len h1
  subst e0
  subst e1
  exact tutorref01_Same.calls (a.length + 1) A0 c0 a A1 c1 b _ w h0 hc0 h1 hc1 (same_f hl (by omega))
/-- The reading of a row of the call's own. -/
theorem row_C {w : World} {base : Nat} {ok : Nat → Prop} {A : Option Addr} {n c : Nat} {xs : List Int} (h : Kd.R (Kd.int .i64) 3 w base ok (.slice A n c) xs) : Kd.C (Kd.int .i64) w A n xs ∧ n ≤ c := by
  obtain ⟨h1, h2, h3⟩ := Kd.R_reads' h
  exact ⟨h1 ▸ h3, h2⟩
theorem lit_C {w : World} {g n : Nat} {xs : List Int} {cs : Array Value} (h : w.heap[g]? = some (.cells cs 3 (0, 0))) (e : cs = numsA xs) (hn : n = xs.length) (hm : n ≤ 1000000000) : Kd.C (Kd.int .i64) w (some ⟨g, 0, none⟩) n xs := by
  subst e
  subst hn
  exact nums_C h (by omega)
/-- A piece that a call turned, and a row that it answered. -/
theorem Sep.turn {base : Nat} {own : Nat → Prop} {rs : List Res} {w w1 : World} {p p' m : Res} (h : Sep base rs w) (i j : Nat) (hi : rs[i]? = some p) (hp : ∀ k, p.own k → own k) (hp2 : ∀ k, own k → p.own k) (hj : rs[j]? = some none_) (hij : i ≠ j) (hh : Hold base own w [m, p'] w1) : Sep base ((rs.set i p').set j m) w1 := by
  have hil := (List.getElem?_eq_some_iff.1 hi).1
  have hjl := (List.getElem?_eq_some_iff.1 hj).1
  have hget : ∀ a x, ((rs.set i p').set j m)[a]? = some x → (a = j ∧ x = m) ∨ (a ≠ j ∧ a = i ∧ x = p') ∨ (a ≠ j ∧ a ≠ i ∧ rs[a]? = some x) := by
    intro a x hx
    by_cases ha : a = j
    · subst ha
      rw [List.getElem?_set_self (by simpa using hjl)] at hx
      exact .inl ⟨rfl, (Option.some.inj hx).symm⟩
    · rw [List.getElem?_set_ne (fun e => ha e.symm)] at hx
      by_cases hb : a = i
      · subst hb
        rw [List.getElem?_set_self hil] at hx
        exact .inr (.inl ⟨ha, rfl, (Option.some.inj hx).symm⟩)
      · rw [List.getElem?_set_ne (fun e => hb e.symm)] at hx
        exact .inr (.inr ⟨ha, hb, hx⟩)
  have old : ∀ a x, a ≠ i → rs[a]? = some x → ∀ k, x.own k → ¬ own k ∧ k < w.heap.size ∧ base ≤ k := fun a x ha hx k hk => ⟨fun ho => h.apart hx hi ha hk (hp2 k ho), (h.bound a hx hk).2, (h.bound a hx hk).1⟩
  have new : ∀ r ∈ [m, p'], ∀ k, r.own k → own k ∨ w.heap.size ≤ k := hh.mine
  refine Sep.of_apart (fun a x hx => ?_) (fun a b x y hx hy hab k hk hk' => ?_)
  · rcases hget a x hx with ⟨_, rfl⟩ | ⟨_, _, rfl⟩ | ⟨_, h2, h3⟩
    · exact ⟨hh.get 0 rfl, fun k hk => hh.sep.bound 0 rfl hk⟩
    · exact ⟨hh.get 1 rfl, fun k hk => hh.sep.bound 1 rfl hk⟩
    · refine ⟨x.step (h.get a h3) (fun k hk hlt => hh.kept k hlt (old a x h2 h3 k hk).1), fun k hk => ?_⟩
      have := old a x h2 h3 k hk
      have := hh.size
      omega
  · rcases hget a x hx with ⟨ha, rfl⟩ | ⟨ha, ha2, rfl⟩ | ⟨ha, ha2, hx3⟩
    · rcases hget b y hy with ⟨hb, rfl⟩ | ⟨hb, hb2, rfl⟩ | ⟨hb, hb2, hy3⟩
      · exact hab (ha.trans hb.symm)
      · exact hh.sep.apart (i := 0) (j := 1) rfl rfl (by decide) hk hk'
      · have g1 := old b y hb2 hy3 k hk'
        rcases new x (by simp) k hk with h1 | h1
        · exact g1.1 h1
        · omega
    · rcases hget b y hy with ⟨hb, rfl⟩ | ⟨hb, hb2, rfl⟩ | ⟨hb, hb2, hy3⟩
      · exact hh.sep.apart (i := 1) (j := 0) rfl rfl (by decide) hk hk'
      · exact hab (ha2.trans hb2.symm)
      · have g1 := old b y hb2 hy3 k hk'
        rcases new x (by simp) k hk with h1 | h1
        · exact g1.1 h1
        · omega
    · have g1 := old a x ha2 hx3 k hk
      rcases hget b y hy with ⟨hb, rfl⟩ | ⟨hb, hb2, rfl⟩ | ⟨hb, hb2, hy3⟩
      · rcases new y (by simp) k hk' with h1 | h1
        · exact g1.1 h1
        · omega
      · rcases new y (by simp) k hk' with h1 | h1
        · exact g1.1 h1
        · omega
      · exact h.apart hx3 hy3 hab hk hk'
/-- Split, by a Part among other pieces. -/
theorem Split_law {base : Nat} {own : Nat → Prop} {rs : List Res} {w : World} {g n N : Nat} {C : Nat → Nat} (h : Sep base rs w) (i j : Nat) (hi : rs[i]? = some (part base own g n N C)) (hj : rs[j]? = some none_) (hij : i ≠ j) (hb : base ≤ w.heap.size) (hn0 : 0 < n) (hn : n ≤ 65536) (l : List Nat) (hl : ∀ x ∈ l, x < n) (hll : l.length ≤ 1000000) (Al : Option Addr) (m cl : Nat) (hm : m = l.length)
    (hrd : ∀ w1, (∀ k, k < w.heap.size → ¬ own k → w1.heap[k]? = w.heap[k]?) → Kd.C (Kd.int .i64) w1 Al m (tl l)) :
    Calls Try.prog 12 #[.pointer (some ⟨g, 0, none⟩), .slice Al m cl] w fun e w' => ∃ (mv : Value) (own' : Nat → Prop), e = .returned (.tuple #[mv, .int .i64 0]) ∧ Sep base ((rs.set i (part base own' g n (splitOf n C N l).N (splitOf n C N l).C)).set j (ints base mv (tl (splitOf n C N l).made))) w' ∧ Below base w w' := by
  subst hm
  obtain ⟨R, P, A, B, gr, cr, gp, cp, gc, gs, cs, h1, h2, h3⟩ := h.get i hi
  have H : Hold base own w (pcs base g n N C R P A B gr cr gp cp gc gs cs) w := Hold.start h2 h3 hb
  refine (Split_walk base own w g n N C R P A B gr cr gp cp gc gs cs l Al cl H h1 hn0 hn hl hll hrd).mono ?_
  rintro e w' ⟨mv, own', rfl, hh⟩
  exact ⟨mv, own', rfl, Sep.turn h i j hi (fun _ hk => hk) (fun _ hk => hk) hj hij hh, hh.below⟩
theorem All_law {base : Nat} {own : Nat → Prop} {rs : List Res} {w : World} {g n N : Nat} {C : Nat → Nat} (h : Sep base rs w) (i : Nat) (hi : rs[i]? = some (part base own g n N C)) (hn : n ≤ 65536) :
    Calls Try.prog 13 #[.pointer (some ⟨g, 0, none⟩)] w fun e w' => ∃ v, e = .returned v ∧ Kd.R (Kd.int .i64) 3 w' w.heap.size (fun _ => True) v (lst n C) ∧ Below w.heap.size w w' := All_walk base own g n N C w (h.get i hi) hn
/-- A list of the walk's own, as Split reads it. -/
theorem lit_rd {base : Nat} {own : Nat → Prop} {rs : List Res} {w : World} {p : Res} (h : Sep base rs w) (i : Nat) (hi : rs[i]? = some p) (hp : ∀ k, own k → p.own k) (cs : Array Value) (l : List Nat) (n : Nat) (e : cs = numsA (tl l)) (hn : n = l.length) (hm : n ≤ 1000000000) :
    ∀ w1, (∀ k, k < (w.alloc (.cells cs 3)).heap.size → ¬ own k → w1.heap[k]? = (w.alloc (.cells cs 3)).heap[k]?) → Kd.C (Kd.int .i64) w1 (some ⟨w.heap.size, 0, none⟩) n (tl l) := fun w1 hk => by
  refine lit_C (cs := cs) ?_ e (by rw [tl_len]; exact hn) hm
  rw [hk w.heap.size (by simp) (fun ho => by have := (h.bound i hi (hp _ ho)).2; omega)]
  exact blk_new w _
end Go.Proofs.Ytdalpaobkmoomaa.X
end

section
namespace Go.Proofs.Ytdalpaobkmoomaa.X
open Go.RowKit Go.Proofs.YtdalpaobkmoomaaW.PrintWords Go.Proofs.YtdalpaobkmoomaaW.PrintLast Go.Proofs.YtdalpaobkmoomaaW.PrintMore
open Go.Proofs.Ytdalpaobkmoomaa Go.Proofs.Ytdalpaobkmoomaa.Sp
attribute [local go_sem] max2_int min2_int max_two min_two max_three min_three max_four min_four
set_option maxHeartbeats 16000000 in
set_option maxRecDepth 100000 in
theorem live_walk (w : World) : Calls Try.prog 9 #[] w fun e w' => e = .returned (.bool true) ∧ Below w.heap.size w w' := by
  have hu22 := Try.underlying22
  have hnew : Calls Try.prog 10 #[.int .i64 4] w fun e w' => ∃ (g : Nat) (own : Nat → Prop), e = .returned (.tuple #[.pointer (some ⟨g, 0, none⟩), .int .i64 0]) ∧ Sep w.heap.size [part w.heap.size own g 4 1 (fun _ => 0)] w' ∧ Below w.heap.size w w' := New_walk 4 w (by decide) (by decide)
  go_enter Try.func9, Try.ntmps9
  go_wp2_with (first
  | (go_at_call 17; refine (Count_walk w.heap.size own2 g 4 (splitOf 4 (splitOf 4 (fun _ => 0) 1 [1, 2]).C (splitOf 4 (fun _ => 0) 1 [1, 2]).N [0, 1, 1]).N (splitOf 4 (splitOf 4 (fun _ => 0) 1 [1, 2]).C (splitOf 4 (fun _ => 0) 1 [1, 2]).N [0, 1, 1]).C w12 (HS12.out.get 1 rfl)).mono ?_
     rintro e w13 ⟨rfl, hb⟩
     have hc4 : (((splitOf 4 (splitOf 4 (fun _ => 0) 1 [1, 2]).C (splitOf 4 (fun _ => 0) 1 [1, 2]).N [0, 1, 1]).N : Nat) : Int) = 4 := by decide
     have HB13 := Aside0.mk (below_step HB12.out hb)
     clear hb)
  | (go_at_call 16; refine (same_calls Ad 4 cd [2, 3, 1, 0] (some ⟨w11.heap.size, 0, none⟩) 4 4 [2, 3, 1, 0] (w11.alloc (.cells #[.int .i64 2, .int .i64 3, .int .i64 1, .int .i64 0] 3)) (row_C ((HS11.out.low (below_alloc (Below.refl w11.heap.size w11) (.cells #[.int .i64 2, .int .i64 3, .int .i64 1, .int .i64 0] 3))).get 0 rfl)).1 (row_C (HS11.out.get 0 rfl)).2 (lit_C (blk_new w11 (.cells #[.int .i64 2, .int .i64 3, .int .i64 1, .int .i64 0] 3)) rfl rfl (by decide)) (Nat.le_refl _) (by decide)).mono ?_
     rintro e w12 ⟨rfl, hd⟩
     have HS12 := Aside0.mk ((HS11.out.low (below_alloc (Below.refl w11.heap.size w11) (.cells #[.int .i64 2, .int .i64 3, .int .i64 1, .int .i64 0] 3))).low hd.below)
     have HB12 := Aside0.mk (below_step (below_alloc HB11.out (.cells #[.int .i64 2, .int .i64 3, .int .i64 1, .int .i64 0] 3)) hd.below)
     clear hd)
  | (go_at_call 13; with_reducible refine (All_law HS10.out 3 rfl (by decide)).mono ?_
     rintro e w11 ⟨v11, rfl, hR, hb⟩
     have hS' : Sep w.heap.size [ints w.heap.size v11 [2, 3, 1, 0], part w.heap.size own2 g 4 (splitOf 4 (splitOf 4 (fun _ => 0) 1 [1, 2]).C (splitOf 4 (fun _ => 0) 1 [1, 2]).N [0, 1, 1]).N (splitOf 4 (splitOf 4 (fun _ => 0) 1 [1, 2]).C (splitOf 4 (fun _ => 0) 1 [1, 2]).N [0, 1, 1]).C] w11 := (((HS10.out.sub (rs' := [part w.heap.size own2 g 4 (splitOf 4 (splitOf 4 (fun _ => 0) 1 [1, 2]).C (splitOf 4 (fun _ => 0) 1 [1, 2]).N [0, 1, 1]).N (splitOf 4 (splitOf 4 (fun _ => 0) 1 [1, 2]).C (splitOf 4 (fun _ => 0) 1 [1, 2]).N [0, 1, 1]).C]) (.cons _ (.cons _ (.cons _ (List.Sublist.refl _))))).free none_ trivial (fun _ hk => hk.elim)).fillRow 0 rfl rfl hR hb HB10.out.size)
     obtain ⟨Ad, cd, hv⟩ := Kd.R_slice (hS'.get 0 rfl)
     have hv' : v11 = .slice Ad 4 cd := hv
     subst hv'
     have HS11 := Aside0.mk hS'
     have HB11 := Aside0.mk (below_step HB10.out hb)
     clear hS' hb hv hR)
  | (go_at_call 16; refine (same_calls Ac 2 cc [2, 3] (some ⟨w9.heap.size, 0, none⟩) 2 2 [2, 3] (w9.alloc (.cells #[.int .i64 2, .int .i64 3] 3)) (row_C ((HS9.out.low (below_alloc (Below.refl w9.heap.size w9) (.cells #[.int .i64 2, .int .i64 3] 3))).get 2 rfl)).1 (row_C (HS9.out.get 2 rfl)).2 (lit_C (blk_new w9 (.cells #[.int .i64 2, .int .i64 3] 3)) rfl rfl (by decide)) (Nat.le_refl _) (by decide)).mono ?_
     rintro e w10 ⟨rfl, hd⟩
     have HS10 := Aside0.mk ((HS9.out.low (below_alloc (Below.refl w9.heap.size w9) (.cells #[.int .i64 2, .int .i64 3] 3))).low hd.below)
     have HB10 := Aside0.mk (below_step (below_alloc HB9.out (.cells #[.int .i64 2, .int .i64 3] 3)) hd.below)
     clear hd)
  | (go_at_call 16; refine (same_calls Ab 4 cb [0, 1, 1, 0] (some ⟨w8.heap.size, 0, none⟩) 4 4 [0, 1, 1, 0] (w8.alloc (.cells #[.int .i64 0, .int .i64 1, .int .i64 1, .int .i64 0] 3)) (row_C ((HS8.out.low (below_alloc (Below.refl w8.heap.size w8) (.cells #[.int .i64 0, .int .i64 1, .int .i64 1, .int .i64 0] 3))).get 1 rfl)).1 (row_C (HS8.out.get 1 rfl)).2 (lit_C (blk_new w8 (.cells #[.int .i64 0, .int .i64 1, .int .i64 1, .int .i64 0] 3)) rfl rfl (by decide)) (Nat.le_refl _) (by decide)).mono ?_
     rintro e w9 ⟨rfl, hd⟩
     have HS9 := Aside0.mk ((HS8.out.low (below_alloc (Below.refl w8.heap.size w8) (.cells #[.int .i64 0, .int .i64 1, .int .i64 1, .int .i64 0] 3))).low hd.below)
     have HB9 := Aside0.mk (below_step (below_alloc HB8.out (.cells #[.int .i64 0, .int .i64 1, .int .i64 1, .int .i64 0] 3)) hd.below)
     clear hd)
  | (go_at_call 16; refine (same_calls Aa 1 ca [1] (some ⟨w7.heap.size, 0, none⟩) 1 1 [1] (w7.alloc (.cells #[.int .i64 1] 3)) (row_C ((HS7.out.low (below_alloc (Below.refl w7.heap.size w7) (.cells #[.int .i64 1] 3))).get 0 rfl)).1 (row_C (HS7.out.get 0 rfl)).2 (lit_C (blk_new w7 (.cells #[.int .i64 1] 3)) rfl rfl (by decide)) (Nat.le_refl _) (by decide)).mono ?_
     rintro e w8 ⟨rfl, hd⟩
     have HS8 := Aside0.mk ((HS7.out.low (below_alloc (Below.refl w7.heap.size w7) (.cells #[.int .i64 1] 3))).low hd.below)
     have HB8 := Aside0.mk (below_step (below_alloc HB7.out (.cells #[.int .i64 1] 3)) hd.below)
     clear hd)
  | (go_at_call 11; with_reducible refine (tutorlaw06_num.calls 0 0 w6 rfl).mono ?_
     rintro e w7 ⟨rfl, hd⟩
     have HS7 := Aside0.mk (HS6.out.low hd.below)
     have HB7 := Aside0.mk (below_step HB6.out hd.below)
     clear hd)
  | (go_at_call 11; with_reducible refine (tutorlaw06_num.calls 0 0 w5 rfl).mono ?_
     rintro e w6 ⟨rfl, hd⟩
     have HS6 := Aside0.mk (HS5.out.low hd.below)
     have HB6 := Aside0.mk (below_step HB5.out hd.below)
     clear hd)
  | (go_at_call 12
     refine (Split_law (HS4.out.low (below_alloc (Below.refl w4.heap.size w4) (.cells #[.int .i64 0, .int .i64 1, .int .i64 1] 3))) 3 2 rfl rfl (by decide) (by have := HB4.out.size; simp; omega) (by decide) (by decide) [0, 1, 1] (by decide) (by decide) (some ⟨w4.heap.size, 0, none⟩) 3 3 rfl (lit_rd HS4.out 3 rfl (fun _ hk => hk) #[.int .i64 0, .int .i64 1, .int .i64 1] [0, 1, 1] 3 rfl rfl (by decide))).mono ?_
     rintro e w5 ⟨m2, own2, rfl, hS, hb⟩
     have hS' : Sep w.heap.size [ints w.heap.size (.slice Aa 1 ca) [1], ints w.heap.size (.slice Ab 4 cb) [0, 1, 1, 0], ints w.heap.size m2 [2, 3], part w.heap.size own2 g 4 (splitOf 4 (splitOf 4 (fun _ => 0) 1 [1, 2]).C (splitOf 4 (fun _ => 0) 1 [1, 2]).N [0, 1, 1]).N (splitOf 4 (splitOf 4 (fun _ => 0) 1 [1, 2]).C (splitOf 4 (fun _ => 0) 1 [1, 2]).N [0, 1, 1]).C] w5 := hS
     obtain ⟨Ac, cc, hv⟩ := Kd.R_slice (hS'.get 2 rfl)
     have hv' : m2 = .slice Ac 2 cc := hv
     subst hv'
     have HS5 := Aside0.mk hS'
     have HB5 := Aside0.mk ((below_alloc HB4.out (.cells #[.int .i64 0, .int .i64 1, .int .i64 1] 3)).trans hb)
     clear hS hS' hb hv)
  | (go_at_call 13; with_reducible refine (All_law HS3.out 3 rfl (by decide)).mono ?_
     rintro e w4 ⟨v4, rfl, hR, hb⟩
     have hS' : Sep w.heap.size [ints w.heap.size (.slice Aa 1 ca) [1], ints w.heap.size v4 [0, 1, 1, 0], none_, part w.heap.size own1 g 4 (splitOf 4 (fun _ => 0) 1 [1, 2]).N (splitOf 4 (fun _ => 0) 1 [1, 2]).C] w4 := HS3.out.fillRow 1 rfl rfl hR hb HB3.out.size
     obtain ⟨Ab, cb, hv⟩ := Kd.R_slice (hS'.get 1 rfl)
     have hv' : v4 = .slice Ab 4 cb := hv
     subst hv'
     have HS4 := Aside0.mk hS'
     have HB4 := Aside0.mk (below_step HB3.out hb)
     clear hS' hb hv hR)
  | (go_at_call 12
     refine (Split_law (HS2.out.low (below_alloc (Below.refl w2.heap.size w2) (.cells #[.int .i64 1, .int .i64 2] 3))) 3 0 rfl rfl (by decide) (by have := HB2.out.size; simp; omega) (by decide) (by decide) [1, 2] (by decide) (by decide) (some ⟨w2.heap.size, 0, none⟩) 2 2 rfl (lit_rd HS2.out 3 rfl (fun _ hk => hk) #[.int .i64 1, .int .i64 2] [1, 2] 2 rfl rfl (by decide))).mono ?_
     rintro e w3 ⟨m1, own1, rfl, hS, hb⟩
     have hS' : Sep w.heap.size [ints w.heap.size m1 [1], none_, none_, part w.heap.size own1 g 4 (splitOf 4 (fun _ => 0) 1 [1, 2]).N (splitOf 4 (fun _ => 0) 1 [1, 2]).C] w3 := hS
     obtain ⟨Aa, ca, hv⟩ := Kd.R_slice (hS'.get 0 rfl)
     have hv' : m1 = .slice Aa 1 ca := hv
     subst hv'
     have HS3 := Aside0.mk hS'
     have HB3 := Aside0.mk ((below_alloc HB2.out (.cells #[.int .i64 1, .int .i64 2] 3)).trans hb)
     clear hS hS' hb hv)
  | (go_at_call 11; with_reducible refine (tutorlaw06_num.calls 0 0 w1 rfl).mono ?_
     rintro e w2 ⟨rfl, hd⟩
     have HS2 := Aside0.mk (HS1.out.low hd.below)
     have HB2 := Aside0.mk (below_step HB1.out hd.below)
     clear hd)
  | (go_at_call 10; with_reducible refine hnew.mono ?_
     rintro e w1 ⟨g, own, rfl, hS, hb⟩
     have HS1 : Aside0 (Sep w.heap.size [none_, none_, none_, part w.heap.size own g 4 1 (fun _ => 0)] w1) := ⟨((hS.free none_ trivial (fun _ hk => hk.elim)).free none_ trivial (fun _ hk => hk.elim)).free none_ trivial (fun _ hk => hk.elim)⟩
     have HB1 := Aside0.mk hb
     clear hS hb))
  go_ret
  exact ⟨rfl, HB13.out⟩
end Go.Proofs.Ytdalpaobkmoomaa.X
end

section
namespace Go.Proofs.Ytdalpaobkmoomaa.X
open Go.RowKit Go.Proofs.YtdalpaobkmoomaaW.PrintWords Go.Proofs.YtdalpaobkmoomaaW.PrintLast Go.Proofs.YtdalpaobkmoomaaW.PrintMore
open Go.Proofs.Ytdalpaobkmoomaa Go.Proofs.Ytdalpaobkmoomaa.Sp
attribute [local go_sem] max2_int min2_int max_two min_two max_three min_three max_four min_four
set_option maxHeartbeats 8000000 in
set_option maxRecDepth 100000 in
theorem Split_bad (base : Nat) (own : Nat → Prop) (g n N : Nat) (C : Nat → Nat) (w : World) (h : (part base own g n N C).at_ w) (l : List Int) (Al : Option Addr) (cl : Nat) (hc : Kd.C (Kd.int .i64) w Al l.length l) (hn : n ≤ 65536) (hll : l.length ≤ 1000000) (hb : ¬ ∀ x ∈ l, 0 ≤ x ∧ x < (n : Int)) :
    Calls Try.prog 12 #[.pointer (some ⟨g, 0, none⟩), .slice Al l.length cl] w fun e w' => e = .returned (.tuple #[.slice none 0 0, .int .i64 1]) ∧ Below w.heap.size w w' := by
  obtain ⟨R, P, A, B, gr, cr, gp, cp, gc, gs, cs, hi, hs, _⟩ := h
  have hu64 := Try.underlying64
  have hu22 := Try.underlying22
  have hu66 := Try.underlying66
  have hmm := @run_makeMap Try.prog
  have HC := Aside0.mk hc
  have HBAD := Aside0.mk hb
  have hx0 : w.cell? ⟨g, 0, none⟩ = some (.slice (some ⟨gr, 0, none⟩) n cr) := (blk_cell (hs.get 0 rfl) 0).trans rfl
  have hs1 := hs.low (below_alloc (Below.refl w.heap.size w) (.map #[] 0))
  have hx0b : (w.alloc (.map #[] 0)).cell? ⟨g, 0, none⟩ = some (.slice (some ⟨gr, 0, none⟩) n cr) := (blk_cell (hs1.get 0 rfl) 0).trans rfl
  have HS1 := Aside0.mk hs1
  clear hs hi hc hb hs1
  go_enter Try.func12, Try.ntmps12
  go_wp2_with ((with_reducible refine gate_dst (N := 30) rfl ?_); (refine fresh_make Try.underlying66 info4 rfl (by decide) (by decide) rfl rfl rfl (by omega) (by omega) ?_; intro w1 hg1 hb1 hz1; have HB1 := Aside0.mk (below_step (below_alloc (Below.refl w.heap.size w) (.map #[] 0)) hb1); have hx1 : w1.cell? ⟨g, 0, none⟩ = some (.slice (some ⟨gr, 0, none⟩) n cr) := (blk_cell ((HS1.out.low hb1).get 0 rfl) 0).trans rfl; clear hg1 hb1 hz1))
  have HX1 := Aside0.mk hx1
  clear hx0 hx0b hx1
  go_loopw [33] (fun v33 wr => ∃ (j : Nat), v33 = .int .i64 (j : Int) ∧ Aside0 (j ≤ l.length) ∧ Aside0 (∀ x ∈ l.take j, 0 ≤ x ∧ x < (n : Int)) ∧ Aside0 (wr = w1)) (fun v33 _ => l.length - (intOf v33).toNat)
  case atStart => exact ⟨0, rfl, ⟨by omega⟩, ⟨fun x hx => by simp at hx⟩, ⟨by first | rfl | trivial⟩⟩
  case round =>
    obtain ⟨j, rfl, HJI, HOK, HWR⟩ := hrel
    have hwr := HWR.out
    subst hwr
    clear HWR
    by_cases hj : j < l.length
    · have HJ := Aside0.mk hj
      have hj' : (j : Int) < (l.length : Int) := by omega
      obtain ⟨x, hli⟩ : ∃ x, l[j] = x := ⟨_, rfl⟩
      obtain ⟨adl, el, hxl⟩ := Kd.at_int (Kd.C_below HC.out HB1.out) (j : Int) (by omega) hj'
      cases el
      rw [rd_nat hj, hli, Int.toNat_natCast] at hxl
      have hx0 := HX1.out
      have htk : l.take (j + 1) = l.take j ++ [x] := by rw [List.take_succ_eq_append_getElem hj, hli]
      have HTK := Aside0.mk htk
      clear hj hli htk
      by_cases h1 : x < 0
      · go_wp2
        go_ret2
        exact ⟨rfl, HB1.out⟩
      · by_cases h2 : x ≥ (n : Int)
        · go_wp2
          go_ret2
          exact ⟨rfl, HB1.out⟩
        · have hOK2 : Aside0 (∀ y ∈ l.take (j + 1), 0 ≤ y ∧ y < (n : Int)) := ⟨fun y hy => by
            rw [HTK.out, List.mem_append, List.mem_singleton] at hy
            rcases hy with hy | rfl
            · exact HOK.out y hy
            · omega⟩
          go_wp2
          go_roundw
          case rel => exact ⟨j + 1, by go_num, ⟨by have := HJ.out; omega⟩, hOK2, ⟨by first | rfl | trivial⟩⟩
          case measure => have := HJ.out; simp [intOf]; omega
    · exact absurd (fun x hx => HOK.out x (by rw [List.take_of_length_le (by have := HJI.out; omega)]; exact hx)) HBAD.out
/-- What Split answers to any list. -/
def splitAny (n : Nat) (C : Nat → Nat) (N : Nat) (l : List Int) : St × Int := if ∀ x ∈ l, 0 ≤ x ∧ x < (n : Int) then (splitOf n C N (l.map Int.toNat), 0) else (⟨C, N, []⟩, 1)
theorem Sep.same {base : Nat} {rs : List Res} {w : World} (h : Sep base rs w) (i : Nat) {r : Res} (hi : rs[i]? = some r) : Sep base (rs.set i r) w := by
  have e : rs.set i r = rs := List.ext_getElem? fun j => by
    by_cases hj : j = i
    · subst hj
      rw [List.getElem?_set_self (List.getElem?_eq_some_iff.1 hi).1, hi]
    · rw [List.getElem?_set_ne (fun e => hj e.symm)]
  rw [e]
  exact h
theorem Split_any {base : Nat} {own : Nat → Prop} {rs : List Res} {w : World} {g n N : Nat} {C : Nat → Nat} (h : Sep base rs w) (i j : Nat) (hi : rs[i]? = some (part base own g n N C)) (hj : rs[j]? = some none_) (hij : i ≠ j) (hb : base ≤ w.heap.size) (hn0 : 0 < n) (hn : n ≤ 65536) (l : List Int) (hll : l.length ≤ 1000000) (Al : Option Addr) (m cl : Nat) (hm : m = l.length)
    (hrd : ∀ w1, (∀ k, k < w.heap.size → ¬ own k → w1.heap[k]? = w.heap[k]?) → Kd.C (Kd.int .i64) w1 Al m l) :
    Calls Try.prog 12 #[.pointer (some ⟨g, 0, none⟩), .slice Al m cl] w fun e w' => ∃ (mv : Value) (own' : Nat → Prop), e = .returned (.tuple #[mv, .int .i64 (splitAny n C N l).2]) ∧ Sep base ((rs.set i (part base own' g n (splitAny n C N l).1.N (splitAny n C N l).1.C)).set j (ints base mv (tl (splitAny n C N l).1.made))) w' ∧ Below base w w' := by
  subst hm
  unfold splitAny
  by_cases hok : ∀ x ∈ l, 0 ≤ x ∧ x < (n : Int)
  · rw [if_pos hok]
    have e : tl (l.map Int.toNat) = l := tl_toNat l (fun x hx => (hok x hx).1)
    refine Split_law h i j hi hj hij hb hn0 hn (l.map Int.toNat) (fun x hx => ?_) (by simpa using hll) Al l.length cl (by simp) (by rw [e]; exact hrd)
    obtain ⟨y, hy, rfl⟩ := List.mem_map.1 hx
    have := hok y hy
    omega
  · rw [if_neg hok]
    refine (Split_bad base own g n N C w (h.get i hi) l Al cl (hrd w (fun _ _ _ => rfl)) hn hll hok).mono ?_
    rintro e w' ⟨rfl, hbl⟩
    refine ⟨.slice none 0 0, own, rfl, ?_, ⟨hbl.os, hbl.tape, hbl.output, hbl.size, fun k hk => hbl.block k (by omega)⟩⟩
    have h1 := Sep.same (h.low hbl) i hi
    exact h1.upd j (by rw [List.getElem?_set_ne hij]; exact hj) (Kd.R_nil _ _ _ _ _) (fun _ _ _ => rfl) (fun k hk => by simp [ints, row, Value.ownBlock] at hk) (Nat.le_trans hb hbl.size) (Nat.le_refl _)
theorem part_lower {base base' : Nat} {own : Nat → Prop} {g n N : Nat} {C : Nat → Nat} {w : World} (hb : base' ≤ base) (h : (part base own g n N C).at_ w) : (part base' own g n N C).at_ w := by
  obtain ⟨R, P, A, B, gr, cr, gp, cp, gc, gs, cs, h1, h2, h3⟩ := h
  have key : ∀ (i : Nat) (r : Res), (pcs base' g n N C R P A B gr cr gp cp gc gs cs)[i]? = some r → ∃ r0, (pcs base g n N C R P A B gr cr gp cp gc gs cs)[i]? = some r0 ∧ (∀ k, r.own k → r0.own k) ∧ (r0.at_ w → r.at_ w) := by
    intro i r hr
    match i, hr with
    | 0, hr => obtain rfl := Option.some.inj hr; exact ⟨_, rfl, fun _ hk => hk, fun h => h⟩
    | 1, hr => obtain rfl := Option.some.inj hr; exact ⟨_, rfl, fun _ hk => hk, fun h => Kd.R_lower h hb⟩
    | 2, hr => obtain rfl := Option.some.inj hr; exact ⟨_, rfl, fun _ hk => hk, fun h => Kd.R_lower h hb⟩
    | 3, hr => obtain rfl := Option.some.inj hr; exact ⟨_, rfl, fun _ hk => hk, fun h => h⟩
    | 4, hr => obtain rfl := Option.some.inj hr; exact ⟨_, rfl, fun _ hk => hk, fun h => Kd.R_lower h hb⟩
    | i + 5, hr => cases hr
  refine ⟨R, P, A, B, gr, cr, gp, cp, gc, gs, cs, h1, Sep.of_apart (fun i r hr => ?_) (fun i j r q hr hq hij k hk hk' => ?_), fun r hr k hk => ?_⟩
  · obtain ⟨r0, g1, g2, g3⟩ := key i r hr
    exact ⟨g3 (h2.get i g1), fun k hk => by have := h2.bound i g1 (g2 k hk); omega⟩
  · obtain ⟨r0, g1, g2, _⟩ := key i r hr
    obtain ⟨q0, f1, f2, _⟩ := key j q hq
    exact h2.apart g1 f1 hij (g2 k hk) (f2 k hk')
  · obtain ⟨i, hi⟩ := List.getElem?_of_mem hr
    obtain ⟨r0, g1, g2, _⟩ := key i r hi
    exact h3 r0 (List.mem_of_getElem? g1) k (g2 k hk)
theorem part_pos {base : Nat} {own : Nat → Prop} {g n N : Nat} {C : Nat → Nat} {w : World} (h : (part base own g n N C).at_ w) (hn : 0 < n) : 0 < N ∧ N ≤ n ∧ ∀ i, i < n → C i < N := by
  obtain ⟨R, P, A, B, gr, cr, gp, cp, gc, gs, cs, h1, h2, h3⟩ := h
  have := h1.cn 0 hn
  exact ⟨by omega, h1.few, h1.cn⟩
theorem New_law {base : Nat} {rs : List Res} {w : World} (h : Sep base rs w) (hb : base ≤ w.heap.size) (n : Nat) (hn0 : 0 < n) (hn : n ≤ 65536) :
    Calls Try.prog 10 #[.int .i64 (n : Int)] w fun e w' => ∃ (g : Nat) (own : Nat → Prop), e = .returned (.tuple #[.pointer (some ⟨g, 0, none⟩), .int .i64 0]) ∧ Sep base (part base own g n 1 (fun _ => 0) :: rs) w' ∧ Below w.heap.size w w' := by
  refine (New_walk n w hn0 hn).mono ?_
  rintro e w' ⟨g, own, rfl, hs, hbl⟩
  have h1 := h.over hbl hs hb
  refine ⟨g, own, rfl, ?_, hbl⟩
  exact h1.upd 0 rfl (part_lower hb (hs.get 0 rfl)) (fun _ _ _ => rfl) (fun k hk => ⟨.inl hk, (hs.bound 0 rfl hk).2⟩) (Nat.le_trans hb hbl.size) (Nat.le_refl _)
theorem Members_law {base : Nat} {own : Nat → Prop} {rs : List Res} {w : World} {g n N : Nat} {C : Nat → Nat} (h : Sep base rs w) (i : Nat) (hi : rs[i]? = some (part base own g n N C)) (hn : n ≤ 65536) (c : Nat) (hc : c < N) :
    Calls Try.prog 14 #[.pointer (some ⟨g, 0, none⟩), .int .i64 (c : Int)] w fun e w' => ∃ v, e = .returned (.tuple #[v, .int .i64 0]) ∧ Kd.R (Kd.int .i64) 3 w' w.heap.size (fun _ => True) v (tl (members n C c)) ∧ Below w.heap.size w w' := Members_walk base own g n N C w (h.get i hi) c hc hn
end Go.Proofs.Ytdalpaobkmoomaa.X
end

section
namespace Go.Proofs.Ytdalpaobkmoomaa.X
open Go.RowKit Go.Proofs.YtdalpaobkmoomaaW.PrintWords Go.Proofs.YtdalpaobkmoomaaW.PrintLast Go.Proofs.YtdalpaobkmoomaaW.PrintMore
open Go.Proofs.Ytdalpaobkmoomaa Go.Proofs.Ytdalpaobkmoomaa.Sp
/-- While classes are cut in their order: which numbers are together. -/
structure Tog (n N0 : Nat) (C0 : Nat → Nat) (D : Nat → Bool) (done : List Nat) (s : St) : Prop where
  lt : ∀ i, i < n → s.C i < s.N
  tog : ∀ i k, i < n → k < n → (s.C i = s.C k ↔ C0 i = C0 k ∧ (C0 i ∈ done → D i = D k))
theorem Tog.step {n N0 : Nat} {C0 : Nat → Nat} {D : Nat → Bool} {done : List Nat} {s : St} (h : Tog n N0 C0 D done s) (c : Nat) : Tog n N0 C0 D (done ++ [c]) (cutOf n C0 D c s) := by
  unfold cutOf
  by_cases hc : (∃ i, i < n ∧ C0 i = c ∧ D i = true) ∧ (∃ i, i < n ∧ C0 i = c ∧ D i = false)
  · rw [if_pos hc]
    refine ⟨fun i hi => ?_, fun i k hi hk => ?_⟩
    · show (if C0 i = c ∧ D i = true then s.N else s.C i) < s.N + 1
      have := h.lt i hi
      split <;> omega
    · show (if C0 i = c ∧ D i = true then s.N else s.C i) = (if C0 k = c ∧ D k = true then s.N else s.C k) ↔ _
      have hi1 := h.lt i hi
      have hk1 := h.lt k hk
      have ht := h.tog i k hi hk
      by_cases g1 : C0 i = c ∧ D i = true
      · rw [if_pos g1]
        by_cases g2 : C0 k = c ∧ D k = true
        · rw [if_pos g2]
          simp [g1.1, g1.2, g2.1, g2.2]
        · rw [if_neg g2]
          constructor
          · intro e; omega
          · rintro ⟨e1, e2⟩
            have e3 := e2 (by rw [g1.1]; simp)
            exact absurd ⟨e1.symm.trans g1.1, e3.symm.trans g1.2⟩ g2
      · rw [if_neg g1]
        by_cases g2 : C0 k = c ∧ D k = true
        · rw [if_pos g2]
          constructor
          · intro e; omega
          · rintro ⟨e1, e2⟩
            have e3 := e2 (by rw [e1, g2.1]; simp)
            exact absurd ⟨e1.trans g2.1, e3.trans g2.2⟩ g1
        · rw [if_neg g2, ht]
          constructor
          · rintro ⟨e1, e2⟩
            refine ⟨e1, fun hm => ?_⟩
            rw [List.mem_append, List.mem_singleton] at hm
            rcases hm with hm | hm
            · exact e2 hm
            · have a1 : D i = false := by
                cases hd : D i with
                | false => rfl
                | true => exact absurd ⟨hm, hd⟩ g1
              have a2 : D k = false := by
                cases hd : D k with
                | false => rfl
                | true => exact absurd ⟨e1.symm.trans hm, hd⟩ g2
              rw [a1, a2]
          · rintro ⟨e1, e2⟩
            exact ⟨e1, fun hm => e2 (List.mem_append_left _ hm)⟩
  · rw [if_neg hc]
    refine ⟨h.lt, fun i k hi hk => ?_⟩
    rw [h.tog i k hi hk]
    constructor
    · rintro ⟨e1, e2⟩
      refine ⟨e1, fun hm => ?_⟩
      rw [List.mem_append, List.mem_singleton] at hm
      rcases hm with hm | hm
      · exact e2 hm
      · cases hd : D i with
        | true =>
          cases hd' : D k with
          | true => rfl
          | false => exact absurd ⟨⟨i, hi, hm, hd⟩, ⟨k, hk, e1.symm.trans hm, hd'⟩⟩ hc
        | false =>
          cases hd' : D k with
          | false => rfl
          | true => exact absurd ⟨⟨k, hk, e1.symm.trans hm, hd'⟩, ⟨i, hi, hm, hd⟩⟩ hc
    · rintro ⟨e1, e2⟩
      exact ⟨e1, fun hm => e2 (List.mem_append_left _ hm)⟩
theorem Tog.all {n N0 : Nat} {C0 : Nat → Nat} {D : Nat → Bool} : ∀ (l done : List Nat) (s : St), Tog n N0 C0 D done s → Tog n N0 C0 D (done ++ l) (cuts n C0 D l s)
  | [], done, s, h => by rw [List.append_nil]; exact h
  | c :: l, done, s, h => by
    have := Tog.all l (done ++ [c]) _ (h.step c)
    rw [List.append_assoc] at this
    exact this
/-- After a split two numbers are together just if they were, and both or none are in the list. -/
theorem refine_is {n N : Nat} {C : Nat → Nat} (hC : ∀ i, i < n → C i < N) (l : List Nat) {i k : Nat} (hi : i < n) (hk : k < n) : (splitOf n C N l).C i = (splitOf n C N l).C k ↔ (C i = C k ∧ (i ∈ l ↔ k ∈ l)) := by
  have h0 : Tog n N C (fun i => decide (i ∈ l)) [] ⟨C, N, []⟩ := ⟨hC, fun i k _ _ => by simp⟩
  have h1 := (Tog.all (List.range N) [] _ h0).tog i k hi hk
  rw [List.nil_append] at h1
  unfold splitOf
  rw [h1]
  have hm : C i ∈ List.range N := List.mem_range.2 (hC i hi)
  constructor
  · rintro ⟨e1, e2⟩
    have e3 := e2 hm
    exact ⟨e1, decide_eq_decide.1 e3⟩
  · rintro ⟨e1, e2⟩
    exact ⟨e1, fun _ => decide_eq_decide.2 e2⟩
def cnt (n : Nat) (C : Nat → Nat) (c : Nat) : Nat := (List.range n).countP fun i => decide (C i < c)
theorem cnt_succ (n : Nat) (C : Nat → Nat) (c : Nat) : cnt n C (c + 1) = cnt n C c + (members n C c).length := by
  unfold cnt members
  rw [← List.countP_eq_length_filter]
  induction (List.range n) with
  | nil => rfl
  | cons a l ih =>
    rw [List.countP_cons, List.countP_cons, List.countP_cons, ih]
    by_cases h1 : C a < c
    · have h2 : C a < c + 1 := by omega
      have h3 : ¬ C a = c := by omega
      simp [h1, h2, h3]
      omega
    · by_cases h2 : C a = c
      · simp [h2]
        omega
      · have h3 : ¬ C a < c + 1 := by omega
        simp [h1, h2, h3]
theorem cnt_zero (n : Nat) (C : Nat → Nat) : cnt n C 0 = 0 := by simp [cnt]
theorem cnt_all {n N : Nat} {C : Nat → Nat} (h : ∀ i, i < n → C i < N) : cnt n C N = n := by
  unfold cnt
  have : (List.range n).countP (fun i => decide (C i < N)) = (List.range n).length := List.countP_eq_length.2 (fun i hi => by simpa using h i (List.mem_range.1 hi))
  rw [this, List.length_range]
theorem cnt_le (n : Nat) (C : Nat → Nat) (c : Nat) : cnt n C c ≤ n := by
  have := List.countP_le_length (p := fun i => decide (C i < c)) (l := List.range n)
  rwa [List.length_range] at this
theorem part_full {base : Nat} {own : Nat → Prop} {g n N : Nat} {C : Nat → Nat} {w : World} (h : (part base own g n N C).at_ w) {c : Nat} (hc : c < N) : 0 < (members n C c).length := by
  obtain ⟨R, P, A, B, gr, cr, gp, cp, gc, gs, cs, h1, h2, h3⟩ := h
  have g1 := h1.some hc (p := A c) (Nat.le_refl _) (h1.sp c hc).1
  have : R (A c) ∈ members n C c := by
    unfold members
    rw [List.mem_filter]
    exact ⟨List.mem_range.2 g1.1, by simp [g1.2.2]⟩
  exact List.length_pos_of_mem this
theorem members_at {n : Nat} {C : Nat → Nat} {c x : Nat} (hx : x < (members n C c).length) : (members n C c)[x] < n ∧ C ((members n C c)[x]) = c := by
  have hm := List.getElem_mem hx
  unfold members at hm
  rw [List.mem_filter, List.mem_range] at hm
  exact ⟨hm.1, eq_of_beq hm.2⟩
def muchL (n : Int) (ls : List (List Int)) : Bool := decide ((n > 200 ∧ n ≤ 65536) ∨ (ls.length : Int) > 60 ∨ ∃ l ∈ ls, (l.length : Int) > 400)
theorem much_l0 (ls : List (List Int)) (hl : ls.length ≤ 1000000) : ∀ (d k i : Nat), i + d = ls.length → d < k → tutorlaw06_much.l0 k ls (i : Int) = some (decide (∃ l ∈ ls.drop i, (l.length : Int) > 400)) := by
  intro d
  induction d with
  | zero =>
    intro k i h hk
    obtain ⟨k, rfl⟩ : ∃ m, k = m + 1 := ⟨k - 1, by omega⟩
    rw [tutorlaw06_much.l0, if_neg (by omega), List.drop_of_length_le (by omega)]
    simp
  | succ d ih =>
    intro k i h hk
    obtain ⟨k, rfl⟩ : ∃ m, k = m + 1 := ⟨k - 1, by omega⟩
    have hi : i < ls.length := by omega
    have hr : rd_L1 ls (i : Int) = ls[i] := by simp [rd_L1, List.getD_eq_getElem?_getD, List.getElem?_eq_getElem hi]
    have hd : ls.drop i = ls[i] :: ls.drop (i + 1) := List.drop_eq_getElem_cons hi
    rw [tutorlaw06_much.l0, if_pos (by omega), if_pos (by omega), hr, hd]
    by_cases h4 : (ls[i].length : Int) > 400
    · rw [if_pos h4]
      congr 1
      exact (decide_eq_true ⟨_, List.mem_cons_self, h4⟩).symm
    · rw [if_neg h4, w64s (by omega), ih k (i + 1) (by omega) (by omega)]
      congr 1
      refine decide_eq_decide.2 ⟨fun ⟨l, h1, h2⟩ => ⟨l, List.mem_cons_of_mem _ h1, h2⟩, fun ⟨l, h1, h2⟩ => ?_⟩
      rcases List.mem_cons.1 h1 with rfl | h1
      · exact absurd h2 h4
      · exact ⟨l, h1, h2⟩
theorem much_is (n : Int) (ls : List (List Int)) : tutorlaw06_much.f 1000 n ls = some (muchL n ls) := by
  have j : ∀ b : Bool, tutorlaw06_much.j0 1000 ls b = if b = true then some true else tutorlaw06_much.l0 999 ls 0 := fun b => rfl
  unfold tutorlaw06_much.f muchL
  simp only [j]
  by_cases g3 : (ls.length : Int) > 60
  · by_cases g1 : n > 200
    · by_cases g2 : n ≤ 65536 <;> simp [g1, g2, g3]
    · simp [g1, g3]
  · have h0 := much_l0 ls (by omega) ls.length 999 0 (by omega) (by omega)
    rw [List.drop_zero] at h0
    have h0' : tutorlaw06_much.l0 999 ls 0 = _ := h0
    by_cases g1 : n > 200
    · by_cases g2 : n ≤ 65536
      · simp [g1, g2]
      · simp [g1, g2, g3, h0']
    · simp [g1, g3, h0']
end Go.Proofs.Ytdalpaobkmoomaa.X
end

section
namespace Go.Proofs.Ytdalpaobkmoomaa.X
open Go.RowKit Go.Proofs.YtdalpaobkmoomaaW.PrintWords Go.Proofs.YtdalpaobkmoomaaW.PrintLast Go.Proofs.YtdalpaobkmoomaaW.PrintMore
open Go.Proofs.Ytdalpaobkmoomaa Go.Proofs.Ytdalpaobkmoomaa.Sp
theorem at_list {w : World} {A : Option Addr} {n : Nat} {xs : List (List Int)} (h : Kd.C (Kd.slice 3 (Kd.int .i64)) w A n xs) (j : Nat) (hj : j < xs.length) : ∃ ad, A = some ad ∧ ∃ D c, w.cell? (ad.add j) = some (.slice D (xs[j]).length c) ∧ (xs[j]).length ≤ c ∧ Kd.C (Kd.int .i64) w D (xs[j]).length xs[j] := by
  have hn : xs.length = n := h.1
  obtain ⟨ad, e, hc⟩ := h.2.2 (by omega)
  obtain ⟨c, _, ⟨D, c', rfl, h3, h4⟩, h5⟩ := hc j _ (List.getElem?_eq_getElem hj)
  have := h5 0 _ rfl
  refine ⟨ad, e, D, c', ?_, h3, h4⟩
  have e2 : j * (Kd.slice 3 (Kd.int .i64)).sz + 0 = j := by
    show j * 1 + 0 = j
    omega
  rwa [e2] at this
/-- A cell of a row among the pieces. -/
theorem row_at {w : World} {base n c : Nat} {ok : Nat → Prop} {A : Option Addr} {f : Nat → Nat} (h : Kd.R (Kd.int .i64) 3 w base ok (.slice A n c) (lst n f)) {i : Nat} (hi : i < n) : ∃ ad, A = some ad ∧ w.cell? (ad.add i) = some (.int .i64 (f i : Int)) := by
  obtain ⟨ad, e, hc⟩ := Kd.at_int (row_C h).1 (i : Int) (by omega) (by omega)
  rw [Int.toNat_natCast, rd_lst f hi] at hc
  exact ⟨ad, e, hc⟩
attribute [local go_sem] max2_int min2_int max_two min_two max_three min_three max_four min_four
set_option maxHeartbeats 16000000 in
set_option maxRecDepth 100000 in
theorem Ref_much (a0 : Int) (A1 : Option Addr) (c1 : Nat) (l1 : List (List Int)) (a2 a3 : Int) (w : World) (hr1 : Kd.C (Kd.slice 3 (Kd.int .i64)) w A1 l1.length l1) (hc1 : l1.length ≤ c1) (h : muchL a0 l1 = true) : Calls Try.prog 6 #[.int .i64 a0, .slice A1 l1.length c1, .int .i64 a2, .int .i64 a3] w fun e w' => e = .returned (.bool true) ∧ Below w.heap.size w w' := by
  have hu22 := Try.underlying22
  have hu24 := Try.underlying24
  have hmu := tutorlaw06_much.calls 1000 a0 A1 c1 l1 _ w hr1 hc1 (much_is a0 l1)
  have hlv := live_walk
  rw [h] at hmu
  clear hr1 h
  go_enter Try.func6, Try.ntmps6
  go_wp2_with (first
  | (go_at_call 9; refine (hlv w1).mono ?_
     rintro e w2 ⟨rfl, hb⟩
     have HB2 := Aside0.mk (below_step HB1.out hb)
     clear hb)
  | (go_at_call 8; with_reducible refine hmu.mono ?_
     rintro e w1 ⟨rfl, hd⟩
     have HB1 := Aside0.mk hd.below
     clear hd))
  go_ret
  exact ⟨rfl, HB2.out⟩
set_option maxHeartbeats 16000000 in
set_option maxRecDepth 100000 in
theorem Ref_g2 (a0 : Int) (A1 : Option Addr) (c1 : Nat) (l1 : List (List Int)) (a2 a3 : Int) (w : World) (hr1 : Kd.C (Kd.slice 3 (Kd.int .i64)) w A1 l1.length l1) (hc1 : l1.length ≤ c1) (h : muchL a0 l1 = false) (h2 : a2 < 0) : Calls Try.prog 6 #[.int .i64 a0, .slice A1 l1.length c1, .int .i64 a2, .int .i64 a3] w fun e w' => e = .returned (.bool true) ∧ Below w.heap.size w w' := by
  have hu22 := Try.underlying22
  have hu24 := Try.underlying24
  have hmu := tutorlaw06_much.calls 1000 a0 A1 c1 l1 _ w hr1 hc1 (much_is a0 l1)
  have hlv := live_walk
  rw [h] at hmu
  clear hr1 h
  go_enter Try.func6, Try.ntmps6
  go_wp2_with (first
  | (go_at_call 9; refine (hlv w1).mono ?_
     rintro e w2 ⟨rfl, hb⟩
     have HB2 := Aside0.mk (below_step HB1.out hb)
     clear hb)
  | (go_at_call 8; with_reducible refine hmu.mono ?_
     rintro e w1 ⟨rfl, hd⟩
     have HB1 := Aside0.mk hd.below
     clear hd))
  go_ret
  exact ⟨rfl, HB2.out⟩
set_option maxHeartbeats 16000000 in
set_option maxRecDepth 100000 in
theorem Ref_g3 (a0 : Int) (A1 : Option Addr) (c1 : Nat) (l1 : List (List Int)) (a2 a3 : Int) (w : World) (hr1 : Kd.C (Kd.slice 3 (Kd.int .i64)) w A1 l1.length l1) (hc1 : l1.length ≤ c1) (h : muchL a0 l1 = false) (h2 : ¬ a2 < 0) (h3 : a3 < 0) : Calls Try.prog 6 #[.int .i64 a0, .slice A1 l1.length c1, .int .i64 a2, .int .i64 a3] w fun e w' => e = .returned (.bool true) ∧ Below w.heap.size w w' := by
  have hu22 := Try.underlying22
  have hu24 := Try.underlying24
  have hmu := tutorlaw06_much.calls 1000 a0 A1 c1 l1 _ w hr1 hc1 (much_is a0 l1)
  have hlv := live_walk
  rw [h] at hmu
  clear hr1 h
  go_enter Try.func6, Try.ntmps6
  go_wp2_with (first
  | (go_at_call 9; refine (hlv w1).mono ?_
     rintro e w2 ⟨rfl, hb⟩
     have HB2 := Aside0.mk (below_step HB1.out hb)
     clear hb)
  | (go_at_call 8; with_reducible refine hmu.mono ?_
     rintro e w1 ⟨rfl, hd⟩
     have HB1 := Aside0.mk hd.below
     clear hd))
  go_ret
  exact ⟨rfl, HB2.out⟩
set_option maxHeartbeats 16000000 in
set_option maxRecDepth 100000 in
theorem Ref_g4 (a0 : Int) (A1 : Option Addr) (c1 : Nat) (l1 : List (List Int)) (a2 a3 : Int) (w : World) (hr1 : Kd.C (Kd.slice 3 (Kd.int .i64)) w A1 l1.length l1) (hc1 : l1.length ≤ c1) (h : muchL a0 l1 = false) (h2 : ¬ a2 < 0) (h3 : ¬ a3 < 0) (h4 : a2 ≥ a0) : Calls Try.prog 6 #[.int .i64 a0, .slice A1 l1.length c1, .int .i64 a2, .int .i64 a3] w fun e w' => e = .returned (.bool true) ∧ Below w.heap.size w w' := by
  have hu22 := Try.underlying22
  have hu24 := Try.underlying24
  have hmu := tutorlaw06_much.calls 1000 a0 A1 c1 l1 _ w hr1 hc1 (much_is a0 l1)
  have hlv := live_walk
  rw [h] at hmu
  clear hr1 h
  go_enter Try.func6, Try.ntmps6
  go_wp2_with (first
  | (go_at_call 9; refine (hlv w1).mono ?_
     rintro e w2 ⟨rfl, hb⟩
     have HB2 := Aside0.mk (below_step HB1.out hb)
     clear hb)
  | (go_at_call 8; with_reducible refine hmu.mono ?_
     rintro e w1 ⟨rfl, hd⟩
     have HB1 := Aside0.mk hd.below
     clear hd))
  go_ret
  exact ⟨rfl, HB2.out⟩
set_option maxHeartbeats 16000000 in
set_option maxRecDepth 100000 in
theorem Ref_g5 (a0 : Int) (A1 : Option Addr) (c1 : Nat) (l1 : List (List Int)) (a2 a3 : Int) (w : World) (hr1 : Kd.C (Kd.slice 3 (Kd.int .i64)) w A1 l1.length l1) (hc1 : l1.length ≤ c1) (h : muchL a0 l1 = false) (h2 : ¬ a2 < 0) (h3 : ¬ a3 < 0) (h4 : ¬ a2 ≥ a0) (h5 : a3 ≥ a0) : Calls Try.prog 6 #[.int .i64 a0, .slice A1 l1.length c1, .int .i64 a2, .int .i64 a3] w fun e w' => e = .returned (.bool true) ∧ Below w.heap.size w w' := by
  have hu22 := Try.underlying22
  have hu24 := Try.underlying24
  have hmu := tutorlaw06_much.calls 1000 a0 A1 c1 l1 _ w hr1 hc1 (much_is a0 l1)
  have hlv := live_walk
  rw [h] at hmu
  clear hr1 h
  go_enter Try.func6, Try.ntmps6
  go_wp2_with (first
  | (go_at_call 9; refine (hlv w1).mono ?_
     rintro e w2 ⟨rfl, hb⟩
     have HB2 := Aside0.mk (below_step HB1.out hb)
     clear hb)
  | (go_at_call 8; with_reducible refine hmu.mono ?_
     rintro e w1 ⟨rfl, hd⟩
     have HB1 := Aside0.mk hd.below
     clear hd))
  go_ret
  exact ⟨rfl, HB2.out⟩
set_option maxHeartbeats 16000000 in
set_option maxRecDepth 100000 in
theorem Ref_many (a0 : Int) (A1 : Option Addr) (c1 : Nat) (l1 : List (List Int)) (a2 a3 : Int) (w : World) (hr1 : Kd.C (Kd.slice 3 (Kd.int .i64)) w A1 l1.length l1) (hc1 : l1.length ≤ c1) (h : muchL a0 l1 = false) (h2 : ¬ a2 < 0) (h3 : ¬ a3 < 0) (h4 : ¬ a2 ≥ a0) (h5 : ¬ a3 ≥ a0) (hn : a0 > 65536) : Calls Try.prog 6 #[.int .i64 a0, .slice A1 l1.length c1, .int .i64 a2, .int .i64 a3] w fun e w' => e = .returned (.bool true) ∧ Below w.heap.size w w' := by
  have hu22 := Try.underlying22
  have hu24 := Try.underlying24
  have hmu := tutorlaw06_much.calls 1000 a0 A1 c1 l1 _ w hr1 hc1 (much_is a0 l1)
  have hlv := live_walk
  rw [h] at hmu
  have hnw := fun W => New_many a0 W hn
  clear hr1 h
  go_enter Try.func6, Try.ntmps6
  go_wp2_with (first
  | (go_at_call 9; refine (hlv w4).mono ?_
     rintro e w5 ⟨rfl, hb⟩
     have HB5 := Aside0.mk (below_step HB4.out hb)
     clear hb)
  | (go_at_call 11; with_reducible refine (tutorlaw06_num.calls 3 3 w3 rfl).mono ?_
     rintro e w4 ⟨rfl, hd⟩
     have HB4 := Aside0.mk (below_step HB3.out hd.below)
     clear hd)
  | (go_at_call 11; with_reducible refine (tutorlaw06_num.calls 3 3 w2 rfl).mono ?_
     rintro e w3 ⟨rfl, hd⟩
     have HB3 := Aside0.mk (below_step HB2.out hd.below)
     clear hd)
  | (go_at_call 10; refine (hnw w1).mono ?_
     rintro e w2 ⟨rfl, hb⟩
     have HB2 := Aside0.mk (below_step HB1.out hb)
     clear hb)
  | (go_at_call 8; with_reducible refine hmu.mono ?_
     rintro e w1 ⟨rfl, hd⟩
     have HB1 := Aside0.mk hd.below
     clear hd))
  go_ret
  exact ⟨rfl, HB5.out⟩
set_option maxHeartbeats 16000000 in
set_option maxRecDepth 100000 in
theorem Ref_main (n i k : Nat) (A1 : Option Addr) (c1 : Nat) (l1 : List (List Int)) (w : World) (hr1 : Kd.C (Kd.slice 3 (Kd.int .i64)) w A1 l1.length l1) (hc1 : l1.length ≤ c1) (h : muchL (n : Int) l1 = false) (hi : i < n) (hk : k < n) (hn2 : n ≤ 200) (hl6 : l1.length ≤ 60) (hx4 : ∀ x ∈ l1, x.length ≤ 400) : Calls Try.prog 6 #[.int .i64 (n : Int), .slice A1 l1.length c1, .int .i64 (i : Int), .int .i64 (k : Int)] w fun e w' => e = .returned (.bool true) ∧ Below w.heap.size w w' := by
  have hu22 := Try.underlying22
  have hu24 := Try.underlying24
  have hmu := tutorlaw06_much.calls 1000 (n : Int) A1 c1 l1 _ w hr1 hc1 (much_is (n : Int) l1)
  have hlv := live_walk
  rw [h] at hmu
  have hn0 : 0 < n := by omega
  have h2 : ¬ (i : Int) < 0 := by omega
  have h3 : ¬ (k : Int) < 0 := by omega
  have h4 : ¬ (i : Int) ≥ (n : Int) := by omega
  have h5 : ¬ (k : Int) ≥ (n : Int) := by omega
  have HRC := Aside0.mk hr1
  have HX4 := Aside0.mk hx4
  clear hr1 h hx4
  go_enter Try.func6, Try.ntmps6
  go_wp2_with (first
  | (go_at_call 11; with_reducible refine (tutorlaw06_num.calls 0 0 w2 rfl).mono ?_
     rintro e w3 ⟨rfl, hd⟩
     have HS3 := Aside0.mk (HS2.out.low hd.below)
     have HB3 := Aside0.mk (below_step HB2.out hd.below)
     clear hd)
  | (go_at_call 10; refine (New_law (Sep.nil w.heap.size w1) HB1.out.size n hn0 (by omega)).mono ?_
     rintro e w2 ⟨g, own, rfl, hS, hb⟩
     have HS2 := Aside0.mk hS
     have HB2 := Aside0.mk (below_step HB1.out hb)
     clear hS hb)
  | (go_at_call 8; with_reducible refine hmu.mono ?_
     rintro e w1 ⟨rfl, hd⟩
     have HB1 := Aside0.mk hd.below
     clear hd))
  clear hmu HS2 HB1 HB2
  go_loopw [11] (fun v11 wr => ∃ (j N : Nat) (C : Nat → Nat) (own : Nat → Prop), v11 = .int .i64 (j : Int) ∧ Aside0 (j ≤ l1.length) ∧ Aside0 (Sep w.heap.size [part w.heap.size own g n N C] wr) ∧ Aside0 (Below w.heap.size w wr)) (fun v11 _ => l1.length - (intOf v11).toNat)
  case atStart => exact ⟨0, 1, fun _ => 0, own, rfl, ⟨by omega⟩, HS3, HB3⟩
  case round =>
    clear HS3 HB3
    obtain ⟨j, N, C, own, rfl, HJ, HS, HB⟩ := hrel
    by_cases hj : j < l1.length
    · have HJL := Aside0.mk hj
      have hj' : (j : Int) < (l1.length : Int) := by omega
      obtain ⟨adl, ea, Dx, cx, hcell, hxle, hxC⟩ := at_list HRC.out j hj
      have hxb4 := HX4.out l1[j] (List.getElem_mem hj)
      generalize l1[j] = x at hcell hxle hxC hxb4
      subst ea
      have HCX0 := Aside0.mk hcell
      have HCX := Aside0.mk (And.intro hxle hxC)
      have hxb : x.length ≤ 1000000 := by omega
      have HPP := Aside0.mk (part_pos (HS.out.get 0 rfl) hn0)
      have HSF : Aside0 (Sep w.heap.size [none_, none_, none_, part w.heap.size own g n N C] wr) := ⟨((HS.out.free none_ trivial (fun _ hk => hk.elim)).free none_ trivial (fun _ hk => hk.elim)).free none_ trivial (fun _ hk => hk.elim)⟩
      clear hcell hxle hxC hj hxb4
      by_cases hok : ∀ z ∈ x, 0 ≤ z ∧ z < (n : Int)
      · have hsp : splitAny n C N x = ((splitOf n C N (x.map Int.toNat)), 0) := by unfold splitAny; rw [if_pos hok]
        have HOK := Aside0.mk hok
        clear hok
        go_wp2_with (first
        | (go_at_call 11; with_reducible refine (tutorlaw06_num.calls 0 0 w6 rfl).mono ?_
           rintro e w7 ⟨rfl, hd⟩
           have HS7 := Aside0.mk (HS6.out.low hd.below)
           have HB7 := Aside0.mk (below_step HB6.out hd.below)
           clear hd)
        | (go_at_call 13; refine (All_law HS5.out 3 rfl (by omega)).mono ?_
           rintro e w6 ⟨v6, rfl, hR, hb⟩
           obtain ⟨An, cn, hv⟩ := Kd.R_slice hR
           rw [lst_len] at hv
           subst hv
           have HS6 : Aside0 (Sep w.heap.size [ints w.heap.size (.slice Aw n cw) (lst n C), none_, ints w.heap.size (.slice An n cn) (lst n (splitOf n C N (x.map Int.toNat)).C), part w.heap.size own3 g n (splitOf n C N (x.map Int.toNat)).N (splitOf n C N (x.map Int.toNat)).C] w6) := ⟨Sep.fillRow HS5.out 2 rfl rfl hR hb HB5.out.size⟩
           have HB6 := Aside0.mk (below_step HB5.out hb)
           have hxl : w6.cell? (adl.add j) = some (.slice Dx x.length cx) := (HB6.out.cell (World.block_lt_of_cell? w _ HCX0.out)).trans HCX0.out
           clear hR hb)
        | (go_at_call 12; refine (Split_any HS4.out 3 1 rfl rfl (by decide) HB4.out.size hn0 (by omega) x hxb Dx x.length cx rfl (fun w1 hk => (Kd.heap_int .i64).C (fun k hlt => (hk k (Nat.lt_of_lt_of_le hlt HB4.out.size) (fun ho => by have := (HS4.out.bound 3 rfl (k := k) ho).1; omega)).trans (HB4.out.block k hlt)) HCX.out.2)).mono ?_
           rw [hsp]
           rintro e w5 ⟨mv, own3, rfl, hS, hb⟩
           have HS5 : Aside0 (Sep w.heap.size [ints w.heap.size (.slice Aw n cw) (lst n C), none_, none_, part w.heap.size own3 g n (splitOf n C N (x.map Int.toNat)).N (splitOf n C N (x.map Int.toNat)).C] w5) := ⟨hS.upd 1 rfl (r' := none_) trivial (fun _ _ _ => rfl) (fun _ hk => hk.elim) (Nat.le_trans HB4.out.size hb.size) (Nat.le_refl _)⟩
           have HB5 := Aside0.mk (HB4.out.trans hb)
           clear hS hb hxl)
        | (go_at_call 13; refine (All_law HSF.out 3 rfl (by omega)).mono ?_
           rintro e w4 ⟨v4, rfl, hR, hb⟩
           obtain ⟨Aw, cw, hv⟩ := Kd.R_slice hR
           rw [lst_len] at hv
           subst hv
           have HS4 : Aside0 (Sep w.heap.size [ints w.heap.size (.slice Aw n cw) (lst n C), none_, none_, part w.heap.size own g n N C] w4) := ⟨Sep.fillRow HSF.out 0 rfl rfl hR hb HB.out.size⟩
           have HB4 := Aside0.mk (below_step HB.out hb)
           have hxl : w4.cell? (adl.add j) = some (.slice Dx x.length cx) := (HB4.out.cell (World.block_lt_of_cell? w _ HCX0.out)).trans HCX0.out
           clear hR hb))
        clear hsp HS4 HS5 HS6 HB4 HB5 HB6 HSF HB HS
        go_loopw [18, 16, 17] (fun v18 v16 v17 wr2 => ∃ (q : Nat) (b1 b2 : Bool), v18 = .int .i64 (q : Int) ∧ v16 = .bool b1 ∧ v17 = .bool b2 ∧ Aside0 (q ≤ x.length) ∧ Aside0 (b1 = true ↔ (i : Int) ∈ x.take q) ∧ Aside0 (b2 = true ↔ (k : Int) ∈ x.take q) ∧ Aside0 (wr2 = w7)) (fun v18 _ _ _ => x.length - (intOf v18).toNat)
        case atStart => exact ⟨0, false, false, rfl, rfl, rfl, ⟨by omega⟩, ⟨by simp⟩, ⟨by simp⟩, ⟨by first | rfl | trivial⟩⟩
        case round =>
          obtain ⟨q, b1, b2, rfl, rfl, rfl, HQ, H1, H2, HW⟩ := hrel
          have hw7 := HW.out
          subst hw7
          clear HW
          have hxl : wr.cell? (adl.add j) = some (.slice Dx x.length cx) := (HB7.out.cell (World.block_lt_of_cell? w _ HCX0.out)).trans HCX0.out
          by_cases hq : q < x.length
          · have HQL := Aside0.mk hq
            have hq' : (q : Int) < (x.length : Int) := by omega
            obtain ⟨y, hy⟩ : ∃ y, x[q] = y := ⟨_, rfl⟩
            obtain ⟨adx, ex, hyc⟩ := Kd.at_int (Kd.C_below HCX.out.2 HB7.out) (q : Int) (by omega) hq'
            subst ex
            rw [rd_nat hq, hy, Int.toNat_natCast] at hyc
            have HTK : Aside0 (x.take (q + 1) = x.take q ++ [y]) := ⟨by rw [List.take_succ_eq_append_getElem hq, hy]⟩
            clear hq hy
            have fin : ∀ (b : Bool) (z : Int), (b = true ↔ z ∈ x.take q) → b = true → (true = true ↔ z ∈ x.take (q + 1)) := fun b z h hb => by rw [HTK.out, List.mem_append]; exact ⟨fun _ => .inl (h.1 hb), fun _ => rfl⟩
            have fin2 : ∀ (b : Bool) (z : Int), (b = true ↔ z ∈ x.take q) → b = false → y = z → (true = true ↔ z ∈ x.take (q + 1)) := fun b z _ _ e => by rw [HTK.out, List.mem_append]; exact ⟨fun _ => .inr (by rw [e]; exact List.mem_singleton_self _), fun _ => rfl⟩
            have fin3 : ∀ (b : Bool) (z : Int), (b = true ↔ z ∈ x.take q) → b = false → ¬ y = z → (false = true ↔ z ∈ x.take (q + 1)) := fun b z h hb e => by
              rw [HTK.out, List.mem_append, List.mem_singleton]
              constructor
              · intro h0; cases h0
              · rintro (h0 | h0)
                · have := h.2 h0; rw [hb] at this; cases this
                · exact absurd h0.symm e
            have HF := Aside0.mk (And.intro fin (And.intro fin2 fin3))
            clear fin fin2 fin3
            cases b1 with
            | true =>
              cases b2 with
              | true =>
                go_wp2
                go_roundw
                case rel => exact ⟨q + 1, true, true, by go_num, rfl, rfl, ⟨by have := HQL.out; omega⟩, ⟨HF.out.1 _ _ H1.out rfl⟩, ⟨HF.out.1 _ _ H2.out rfl⟩, ⟨trivial⟩⟩
                case measure => have := HQL.out; simp [intOf]; omega
              | false =>
                by_cases g2 : y = (k : Int)
                · have hg2 : (y == (k : Int)) = true := by rw [g2]; simp
                  have G2_ := Aside0.mk g2
                  clear g2
                  go_wp2
                  go_roundw
                  case rel => exact ⟨q + 1, true, true, by go_num, rfl, rfl, ⟨by have := HQL.out; omega⟩, ⟨HF.out.1 _ _ H1.out rfl⟩, ⟨HF.out.2.1 _ _ H2.out rfl G2_.out⟩, ⟨trivial⟩⟩
                  case measure => have := HQL.out; simp [intOf]; omega
                · have hg2 : (y == (k : Int)) = false := by simpa using g2
                  have G2_ := Aside0.mk g2
                  clear g2
                  go_wp2
                  go_roundw
                  case rel => exact ⟨q + 1, true, false, by go_num, rfl, rfl, ⟨by have := HQL.out; omega⟩, ⟨HF.out.1 _ _ H1.out rfl⟩, ⟨HF.out.2.2 _ _ H2.out rfl G2_.out⟩, ⟨trivial⟩⟩
                  case measure => have := HQL.out; simp [intOf]; omega
            | false =>
              by_cases g1 : y = (i : Int)
              · have hg1 : (y == (i : Int)) = true := by rw [g1]; simp
                have G1_ := Aside0.mk g1
                clear g1
                cases b2 with
                | true =>
                  go_wp2
                  go_roundw
                  case rel => exact ⟨q + 1, true, true, by go_num, rfl, rfl, ⟨by have := HQL.out; omega⟩, ⟨HF.out.2.1 _ _ H1.out rfl G1_.out⟩, ⟨HF.out.1 _ _ H2.out rfl⟩, ⟨trivial⟩⟩
                  case measure => have := HQL.out; simp [intOf]; omega
                | false =>
                  by_cases g2 : y = (k : Int)
                  · have hg2 : (y == (k : Int)) = true := by rw [g2]; simp
                    have G2_ := Aside0.mk g2
                    clear g2
                    go_wp2
                    go_roundw
                    case rel => exact ⟨q + 1, true, true, by go_num, rfl, rfl, ⟨by have := HQL.out; omega⟩, ⟨HF.out.2.1 _ _ H1.out rfl G1_.out⟩, ⟨HF.out.2.1 _ _ H2.out rfl G2_.out⟩, ⟨trivial⟩⟩
                    case measure => have := HQL.out; simp [intOf]; omega
                  · have hg2 : (y == (k : Int)) = false := by simpa using g2
                    have G2_ := Aside0.mk g2
                    clear g2
                    go_wp2
                    go_roundw
                    case rel => exact ⟨q + 1, true, false, by go_num, rfl, rfl, ⟨by have := HQL.out; omega⟩, ⟨HF.out.2.1 _ _ H1.out rfl G1_.out⟩, ⟨HF.out.2.2 _ _ H2.out rfl G2_.out⟩, ⟨trivial⟩⟩
                    case measure => have := HQL.out; simp [intOf]; omega
              · have hg1 : (y == (i : Int)) = false := by simpa using g1
                have G1_ := Aside0.mk g1
                clear g1
                cases b2 with
                | true =>
                  go_wp2
                  go_roundw
                  case rel => exact ⟨q + 1, false, true, by go_num, rfl, rfl, ⟨by have := HQL.out; omega⟩, ⟨HF.out.2.2 _ _ H1.out rfl G1_.out⟩, ⟨HF.out.1 _ _ H2.out rfl⟩, ⟨trivial⟩⟩
                  case measure => have := HQL.out; simp [intOf]; omega
                | false =>
                  by_cases g2 : y = (k : Int)
                  · have hg2 : (y == (k : Int)) = true := by rw [g2]; simp
                    have G2_ := Aside0.mk g2
                    clear g2
                    go_wp2
                    go_roundw
                    case rel => exact ⟨q + 1, false, true, by go_num, rfl, rfl, ⟨by have := HQL.out; omega⟩, ⟨HF.out.2.2 _ _ H1.out rfl G1_.out⟩, ⟨HF.out.2.1 _ _ H2.out rfl G2_.out⟩, ⟨trivial⟩⟩
                    case measure => have := HQL.out; simp [intOf]; omega
                  · have hg2 : (y == (k : Int)) = false := by simpa using g2
                    have G2_ := Aside0.mk g2
                    clear g2
                    go_wp2
                    go_roundw
                    case rel => exact ⟨q + 1, false, false, by go_num, rfl, rfl, ⟨by have := HQL.out; omega⟩, ⟨HF.out.2.2 _ _ H1.out rfl G1_.out⟩, ⟨HF.out.2.2 _ _ H2.out rfl G2_.out⟩, ⟨trivial⟩⟩
                    case measure => have := HQL.out; simp [intOf]; omega
          · have hq' : ¬ ((q : Int) < (x.length : Int)) := by omega
            have hqe : q = x.length := by have := HQ.out; omega
            have HI1 : Aside0 (b1 = true ↔ (i : Int) ∈ x) := ⟨by have h := H1.out; rw [hqe, List.take_length] at h; exact h⟩
            have HI2 : Aside0 (b2 = true ↔ (k : Int) ∈ x) := ⟨by have h := H2.out; rw [hqe, List.take_length] at h; exact h⟩
            have hrf := refine_is (C := C) (N := N) HPP.out.2.2 (x.map Int.toNat) hi hk
            have hmem : ∀ z : Nat, z ∈ x.map Int.toNat ↔ (z : Int) ∈ x := fun z => by
              rw [List.mem_map]
              constructor
              · rintro ⟨u, hu, e⟩
                have := (HOK.out u hu).1
                rw [← e, Int.toNat_of_nonneg this]
                exact hu
              · intro hu
                exact ⟨(z : Int), hu, Int.toNat_natCast z⟩
            rw [hmem, hmem] at hrf
            have hbb : (b1 = b2) ↔ ((i : Int) ∈ x ↔ (k : Int) ∈ x) := by
              rw [← HI1.out, ← HI2.out]
              cases b1 <;> cases b2 <;> simp
            have c1_ := row_at (HS7.out.get 2 rfl) hi
            have c2_ := row_at (HS7.out.get 2 rfl) hk
            have c3_ := row_at (HS7.out.get 0 rfl) hi
            have c4_ := row_at (HS7.out.get 0 rfl) hk
            obtain ⟨adn, en, c1⟩ := c1_
            subst en
            obtain ⟨_, e2, c2⟩ := c2_
            injection e2 with e2
            subst e2
            obtain ⟨adw, ew, c3⟩ := c3_
            subst ew
            obtain ⟨_, e4, c4⟩ := c4_
            injection e4 with e4
            subst e4
            have hin1 : (i : Int) < (n : Int) := by omega
            have hin2 : (k : Int) < (n : Int) := by omega
            have HRF := Aside0.mk hrf
            have HBB := Aside0.mk hbb
            clear hrf hbb hmem hqe
            generalize hs1 : (splitOf n C N (x.map Int.toNat)).C i = s1 at c1
            generalize hs2 : (splitOf n C N (x.map Int.toNat)).C k = s2 at c2
            have HS12 := Aside0.mk (And.intro hs1 hs2)
            clear hs1 hs2
            have hE : ∀ (p q : Nat), p = q → ((p : Int) == (q : Int)) = true := fun p q e => by rw [e]; simp
            have hN : ∀ (p q : Nat), ¬ p = q → ((p : Int) == (q : Int)) = false := fun p q e => by simp; omega
            by_cases hw : C i = C k
            · have hwb := hE _ _ hw
              by_cases hbe : b1 = b2
              · have hsb := hE s1 s2 (by rw [← HS12.out.1, ← HS12.out.2]; exact HRF.out.2 ⟨hw, HBB.out.1 hbe⟩)
                have hb12 : (b1 == b2) = true := by rw [hbe]; simp
                clear hE hN hbe hw
                go_wp2
                go_quiet (fail)
                go_wp2
                go_roundw
                case rel => exact ⟨j + 1, _, _, own3, by go_num, ⟨by have := HJL.out; omega⟩, ⟨(HS7.out.low (pw_below_drewN (Below.refl _ _) _)).sub (.cons _ (.cons _ (.cons _ (List.Sublist.refl _))))⟩, ⟨pw_below_drewN HB7.out _⟩⟩
                case measure => have := HJL.out; simp [intOf]; omega
              · have hsb := hN s1 s2 (fun e => hbe (HBB.out.2 (HRF.out.1 (by rw [HS12.out.1, HS12.out.2]; exact e)).2))
                have hb12 : (b1 == b2) = false := by simpa using hbe
                clear hE hN hbe hw
                go_wp2
                go_quiet (fail)
                go_wp2
                go_roundw
                case rel => exact ⟨j + 1, _, _, own3, by go_num, ⟨by have := HJL.out; omega⟩, ⟨(HS7.out.low (pw_below_drewN (Below.refl _ _) _)).sub (.cons _ (.cons _ (.cons _ (List.Sublist.refl _))))⟩, ⟨pw_below_drewN HB7.out _⟩⟩
                case measure => have := HJL.out; simp [intOf]; omega
            · have hwb := hN _ _ hw
              have hsb := hN s1 s2 (fun e => hw (HRF.out.1 (by rw [HS12.out.1, HS12.out.2]; exact e)).1)
              clear hE hN hw
              go_wp2
              go_quiet (fail)
              go_wp2
              go_roundw
              case rel => exact ⟨j + 1, _, _, own3, by go_num, ⟨by have := HJL.out; omega⟩, ⟨(HS7.out.low (pw_below_drewN (Below.refl _ _) _)).sub (.cons _ (.cons _ (.cons _ (List.Sublist.refl _))))⟩, ⟨pw_below_drewN HB7.out _⟩⟩
              case measure => have := HJL.out; simp [intOf]; omega
      · have hsp : splitAny n C N x = (⟨C, N, []⟩, 1) := by unfold splitAny; rw [if_neg hok]
        clear hok
        go_wp2_with (first
        | (go_at_call 16; refine (same_calls Aw n cw (lst n C) An n cn (lst n C) w7 (row_C (HS7.out.get 0 rfl)).1 (row_C (HS7.out.get 0 rfl)).2 (row_C (HS7.out.get 2 rfl)).1 (row_C (HS7.out.get 2 rfl)).2 (by omega)).mono ?_
           rw [decide_eq_true rfl]
           rintro e w8 ⟨rfl, hd⟩
           have HS8 := Aside0.mk (HS7.out.low hd.below)
           have HB8 := Aside0.mk (below_step HB7.out hd.below)
           clear hd)
        | (go_at_call 11; with_reducible refine (tutorlaw06_num.calls 1 1 w6 rfl).mono ?_
           rintro e w7 ⟨rfl, hd⟩
           have HS7 := Aside0.mk (HS6.out.low hd.below)
           have HB7 := Aside0.mk (below_step HB6.out hd.below)
           clear hd)
        | (go_at_call 13; refine (All_law HS5.out 3 rfl (by omega)).mono ?_
           rintro e w6 ⟨v6, rfl, hR, hb⟩
           obtain ⟨An, cn, hv⟩ := Kd.R_slice hR
           rw [lst_len] at hv
           subst hv
           have HS6 : Aside0 (Sep w.heap.size [ints w.heap.size (.slice Aw n cw) (lst n C), none_, ints w.heap.size (.slice An n cn) (lst n C), part w.heap.size own3 g n N C] w6) := ⟨Sep.fillRow HS5.out 2 rfl rfl hR hb HB5.out.size⟩
           have HB6 := Aside0.mk (below_step HB5.out hb)
           have hxl : w6.cell? (adl.add j) = some (.slice Dx x.length cx) := (HB6.out.cell (World.block_lt_of_cell? w _ HCX0.out)).trans HCX0.out
           clear hR hb)
        | (go_at_call 12; refine (Split_any HS4.out 3 1 rfl rfl (by decide) HB4.out.size hn0 (by omega) x hxb Dx x.length cx rfl (fun w1 hk => (Kd.heap_int .i64).C (fun k hlt => (hk k (Nat.lt_of_lt_of_le hlt HB4.out.size) (fun ho => by have := (HS4.out.bound 3 rfl (k := k) ho).1; omega)).trans (HB4.out.block k hlt)) HCX.out.2)).mono ?_
           rw [hsp]
           rintro e w5 ⟨mv, own3, rfl, hS, hb⟩
           have HS5 : Aside0 (Sep w.heap.size [ints w.heap.size (.slice Aw n cw) (lst n C), none_, none_, part w.heap.size own3 g n N C] w5) := ⟨hS.upd 1 rfl (r' := none_) trivial (fun _ _ _ => rfl) (fun _ hk => hk.elim) (Nat.le_trans HB4.out.size hb.size) (Nat.le_refl _)⟩
           have HB5 := Aside0.mk (HB4.out.trans hb)
           clear hS hb hxl)
        | (go_at_call 13; refine (All_law HSF.out 3 rfl (by omega)).mono ?_
           rintro e w4 ⟨v4, rfl, hR, hb⟩
           obtain ⟨Aw, cw, hv⟩ := Kd.R_slice hR
           rw [lst_len] at hv
           subst hv
           have HS4 : Aside0 (Sep w.heap.size [ints w.heap.size (.slice Aw n cw) (lst n C), none_, none_, part w.heap.size own g n N C] w4) := ⟨Sep.fillRow HSF.out 0 rfl rfl hR hb HB.out.size⟩
           have HB4 := Aside0.mk (below_step HB.out hb)
           have hxl : w4.cell? (adl.add j) = some (.slice Dx x.length cx) := (HB4.out.cell (World.block_lt_of_cell? w _ HCX0.out)).trans HCX0.out
           clear hR hb))
        clear hsp
        go_roundw
        case rel => exact ⟨j + 1, N, C, own3, by go_num, ⟨by have := HJL.out; omega⟩, ⟨HS8.out.sub (.cons _ (.cons _ (.cons _ (List.Sublist.refl _))))⟩, HB8⟩
        case measure => have := HJL.out; simp [intOf]; omega
    · have hj' : ¬ ((j : Int) < (l1.length : Int)) := by omega
      clear hj
      have HPP := Aside0.mk (part_pos (HS.out.get 0 rfl) hn0)
      go_wp2
      go_loopw [20, 19] (fun v20 v19 wr => ∃ c : Nat, v20 = .int .i64 (c : Int) ∧ v19 = .int .i64 (cnt n C c : Int) ∧ Aside0 (c ≤ N) ∧ Aside0 (Sep w.heap.size [part w.heap.size own g n N C] wr) ∧ Aside0 (Below w.heap.size w wr)) (fun v20 _ _ => N - (intOf v20).toNat)
      case atStart => exact ⟨0, rfl, by rw [cnt_zero]; rfl, ⟨Nat.zero_le _⟩, HS, HB⟩
      case round =>
        clear HS HB
        obtain ⟨c, rfl, rfl, HC, HS, HB⟩ := hrel
        have hNn : N ≤ 200 := by have := HPP.out.2.1; omega
        by_cases hc : c < N
        · have HCN := Aside0.mk hc
          have hc' : (c : Int) < (N : Int) := by omega
          have hpos := part_full (HS.out.get 0 rfl) hc
          have hmle : (members n C c).length ≤ n := by
            unfold members
            have := List.length_filter_le (fun i => C i == c) (List.range n)
            rwa [List.length_range] at this
          have hcl := cnt_le n C c
          obtain ⟨ml, hml⟩ : ∃ ml, (members n C c).length = ml := ⟨_, rfl⟩
          obtain ⟨cc, hcc⟩ : ∃ cc, cnt n C c = cc := ⟨_, rfl⟩
          rw [hml] at hpos hmle
          have HML := Aside0.mk hml
          have HCC := Aside0.mk hcc
          have HSM : Aside0 (wrap64 ((cc : Int) + (ml : Int)) = ((cnt n C (c + 1) : Nat) : Int)) := ⟨by rw [w64p (by omega) (by omega), cnt_succ, hml, hcc]⟩
          have hmz : ((ml : Int) == 0) = false := by simp; omega
          rw [hcc]
          clear hc hml hcc hcl
          go_wp2_with (first
          | (go_at_call 11; with_reducible refine (tutorlaw06_num.calls 0 0 w5 rfl).mono ?_
             rintro e w6 ⟨rfl, hd⟩
             have HS6 := Aside0.mk (HS5.out.low hd.below)
             have HB6 := Aside0.mk (below_step HB5.out hd.below)
             clear hd)
          | (go_at_call 14; refine (Members_law HS4.out 0 rfl (by omega) c HCN.out).mono ?_
             rintro e w5 ⟨v5, rfl, hR, hb⟩
             obtain ⟨Am, cm, hv⟩ := Kd.R_slice hR
             rw [tl_len, HML.out] at hv
             subst hv
             have HS5 : Aside0 (Sep w.heap.size [ints w.heap.size (.slice Am ml cm) (tl (members n C c)), part w.heap.size own g n N C] w5) := ⟨(HS4.out.free none_ trivial (fun _ hk => hk.elim)).fillRow 0 rfl rfl hR hb HB4.out.size⟩
             have HB5 := Aside0.mk (below_step HB4.out hb)
             clear hR hb)
          | (go_at_call 17; refine (Count_walk w.heap.size own g n N C wr (HS.out.get 0 rfl)).mono ?_
             rintro e w4 ⟨rfl, hb⟩
             have HS4 := Aside0.mk (HS.out.low hb)
             have HB4 := Aside0.mk (below_step HB.out hb)
             clear hb))
          clear HS4 HS5 HS HB4 HB5 HB
          go_loopw [23] (fun v23 wr2 => ∃ x : Nat, v23 = .int .i64 (x : Int) ∧ Aside0 (x ≤ ml) ∧ Aside0 (Sep w.heap.size [ints w.heap.size (.slice Am ml cm) (tl (members n C c)), part w.heap.size own g n N C] wr2) ∧ Aside0 (Below w.heap.size w wr2)) (fun v23 _ => ml - (intOf v23).toNat)
          case atStart => exact ⟨0, rfl, ⟨Nat.zero_le _⟩, HS6, HB6⟩
          case round =>
            clear HS6 HB6
            obtain ⟨x, rfl, HX, HS, HB⟩ := hrel
            by_cases hx : x < ml
            · have HXL := Aside0.mk hx
              have hx' : (x : Int) < (ml : Int) := by omega
              have hxm : x < (members n C c).length := by rw [HML.out]; exact hx
              have hmem := members_at hxm
              obtain ⟨adm, em, hcm⟩ := Kd.at_int (row_C (HS.out.get 0 rfl)).1 (x : Int) (by omega) hx'
              subst em
              rw [rd_tl hxm, Int.toNat_natCast] at hcm
              generalize (members n C c)[x] = z at hcm hmem
              have HMZ := Aside0.mk hmem
              have hzc : ((C z : Int) == (c : Int)) = true := by rw [hmem.2]; simp
              clear hx hxm hmem
              go_wp2_with (first
              | (go_at_call 11; with_reducible refine (tutorlaw06_num.calls 0 0 w5 rfl).mono ?_
                 rintro e w6 ⟨rfl, hd⟩
                 have HS6 := Aside0.mk (HS5.out.low hd.below)
                 have HB6 := Aside0.mk (below_step HB5.out hd.below)
                 clear hd)
              | (go_at_call 22; refine (Class_walk w.heap.size own g n N C wr (HS.out.get 1 rfl) z HMZ.out.1 (by omega)).mono ?_
                 rw [HMZ.out.2]
                 rintro e w5 ⟨rfl, hb⟩
                 have HS5 := Aside0.mk (HS.out.low hb)
                 have HB5 := Aside0.mk (below_step HB.out hb)
                 clear hb))
              go_roundw
              case rel => exact ⟨x + 1, by go_num, ⟨by have := HXL.out; omega⟩, HS6, HB6⟩
              case measure => have := HXL.out; simp [intOf]; omega
            · have hx' : ¬ ((x : Int) < (ml : Int)) := by omega
              clear hx
              go_wp2
              go_roundw
              case rel => exact ⟨c + 1, by go_num, by rw [HSM.out], ⟨by have := HCN.out; omega⟩, ⟨HS.out.sub (.cons _ (List.Sublist.refl _))⟩, HB⟩
              case measure => have := HCN.out; simp [intOf]; omega
        · have hc' : ¬ ((c : Int) < (N : Int)) := by omega
          have hce : c = N := by have := HC.out; omega
          have hcn : cnt n C c = n := by rw [hce]; exact cnt_all HPP.out.2.2
          rw [hcn]
          clear hc hcn hce
          go_wp2_with (first
          | (go_at_call 9; refine (hlv w4).mono ?_
             rintro e w5 ⟨rfl, hb⟩
             have HB5 := Aside0.mk (below_step HB4.out hb)
             clear hb)
          | (go_at_call 17; refine (Count_walk w.heap.size own g n N C wr (HS.out.get 0 rfl)).mono ?_
             rintro e w4 ⟨rfl, hb⟩
             have HB4 := Aside0.mk (below_step HB.out hb)
             clear hb))
          go_ret
          exact ⟨rfl, HB5.out⟩
theorem tutorlaw06_BlockRefines.calls (a0 : Int) (A1 : Option Addr) (c1 : Nat) (l1 : List (List Int)) (a2 a3 : Int) (r : Bool) (w : World) (hr1 : Kd.C (Kd.slice 3 (Kd.int .i64)) w A1 l1.length l1) (hc1 : l1.length ≤ c1) (h : r = true) : Calls Try.prog 6 #[.int .i64 a0, .slice A1 l1.length c1, .int .i64 a2, .int .i64 a3] w fun e w' => e = .returned (.bool r) ∧ Below w.heap.size w w' := by
  subst h
  cases hm : muchL a0 l1 with
  | true => exact Ref_much a0 A1 c1 l1 a2 a3 w hr1 hc1 hm
  | false =>
    have hm' := of_decide_eq_false hm
    by_cases h2 : a2 < 0
    · exact Ref_g2 a0 A1 c1 l1 a2 a3 w hr1 hc1 hm h2
    by_cases h3 : a3 < 0
    · exact Ref_g3 a0 A1 c1 l1 a2 a3 w hr1 hc1 hm h2 h3
    by_cases h4 : a2 ≥ a0
    · exact Ref_g4 a0 A1 c1 l1 a2 a3 w hr1 hc1 hm h2 h3 h4
    by_cases h5 : a3 ≥ a0
    · exact Ref_g5 a0 A1 c1 l1 a2 a3 w hr1 hc1 hm h2 h3 h4 h5
    by_cases h6 : a0 > 65536
    · exact Ref_many a0 A1 c1 l1 a2 a3 w hr1 hc1 hm h2 h3 h4 h5 h6
    · obtain ⟨n, rfl⟩ : ∃ n : Nat, a0 = (n : Int) := ⟨a0.toNat, by omega⟩
      obtain ⟨i, rfl⟩ : ∃ n : Nat, a2 = (n : Int) := ⟨a2.toNat, by omega⟩
      obtain ⟨k, rfl⟩ : ∃ n : Nat, a3 = (n : Int) := ⟨a3.toNat, by omega⟩
      have g1 : ¬ ((n : Int) > 200 ∧ (n : Int) ≤ 65536) := fun e => hm' (.inl e)
      have g2 : ¬ (l1.length : Int) > 60 := fun e => hm' (.inr (.inl e))
      exact Ref_main n i k A1 c1 l1 w hr1 hc1 hm (by omega) (by omega) (by omega) (by omega) (fun x hx => by
        have : ¬ (x.length : Int) > 400 := fun e => hm' (.inr (.inr ⟨x, hx, e⟩))
        omega)
end Go.Proofs.Ytdalpaobkmoomaa.X
end
