/- Texts of the statement BlockOwn, one behind the other: Go functions as Lean functions, the machine's calls, the plain law. -/
import Derived.Test.YtdalpaobkmoomaaMBlockOwn4
import Derived.Test.YtdalpaobkmoomaaMBlockOwn7
import Derived.Test.YtdalpaobkmoomaaMBlockOwn10
set_option linter.unusedVariables false
set_option linter.unusedSimpArgs false
section
namespace Go.Proofs.Ytdalpaobkmoomaa.X
open Go.RowKit Go.Proofs.YtdalpaobkmoomaaW.PrintWords Go.Proofs.YtdalpaobkmoomaaW.PrintLast Go.Proofs.YtdalpaobkmoomaaW.PrintMore
open Go.Proofs.Ytdalpaobkmoomaa Go.Proofs.Ytdalpaobkmoomaa.Sp
def mb5.T5 : Bool × List (List Nat × List Nat) := (true, [([], []), ([0], [0]), ([1], [1]), ([2], [2]), ([], []), ([4], [4]), ([5], [5]), ([6], [6]), ([], []), ([7, 8], [7, 8]), ([9], [9]), ([10], [10]), ([], []), ([12], [12]), ([13], [13]), ([14], [14]), ([], []), ([15, 16], [15, 16]), ([17], [17]), ([18], [18]), ([3, 11, 19], [3, 11, 19]), ([20], [20]), ([21, 21, 0, 1, 2, 3, 4, 5, 6, 7, 8, 9, 10, 11, 12, 13, 14, 15, 16, 17, 18, 19, 20, 21], [21])])
def mb5.B5 : List Nat := [0, 1, 3, 7, 0, 16, 48, 112, 0, 496, 1008, 2032, 0, 4096, 12288, 28672, 0, 126976, 258048, 520192, 1048575, 2097151, 4194303]
theorem mb5.tab5 : rtab .any (opsOf Try.f14 5) = mb5.T5 := by kernel_rfl
theorem mb5.bits5 : waitsOk mb5.T5.2 mb5.B5 = true := by kernel_rfl
attribute [local go_sem] max2_int min2_int max_two min_two max_three min_three max_four min_four
set_option maxHeartbeats 8000000 in
set_option maxRecDepth 100000 in
theorem Count_walk (base : Nat) (own : Nat → Prop) (g n N : Nat) (C : Nat → Nat) (w : World) (h : (part base own g n N C).at_ w) : Calls Try.prog 17 #[.pointer (some ⟨g, 0, none⟩)] w fun e w' => e = .returned (.int .i64 (N : Int)) ∧ Below w.heap.size w w' := by
  obtain ⟨R, P, A, B, gr, cr, gp, cp, gc, gs, cs, hi, hs, _⟩ := h
  have hu64 := Try.underlying64
  have hx : w.cell? ⟨g, 3, none⟩ = some (.slice (some ⟨gs, 0, none⟩) N cs) := (blk_cell (hs.get 0 rfl) 3).trans rfl
  clear hs hi
  go_enter Try.func17, Try.ntmps17
  go_wp2
  go_ret
  exact ⟨rfl, Below.refl _ _⟩
set_option maxHeartbeats 8000000 in
set_option maxRecDepth 100000 in
theorem All_walk (base : Nat) (own : Nat → Prop) (g n N : Nat) (C : Nat → Nat) (w : World) (h : (part base own g n N C).at_ w) (hn : n ≤ 65536) : Calls Try.prog 13 #[.pointer (some ⟨g, 0, none⟩)] w (RowPost w (lst n C)) := by
  obtain ⟨R, P, A, B, gr, cr, gp, cp, gc, gs, cs, hi, hs, _⟩ := h
  have hu64 := Try.underlying64
  have hx : w.cell? ⟨g, 2, none⟩ = some (.slice (some ⟨gc, 0, none⟩) n n) := (blk_cell (hs.get 0 rfl) 2).trans rfl
  have hcl := Clone_calls (some ⟨gc, 0, none⟩) n (lst n C) w (nums_C (hs.get 3 rfl) (by rw [lst_len]; omega)) (by rw [lst_len]; omega) (by rw [lst_len]; omega)
  rw [lst_len] at hcl
  have hcl' : Calls Try.prog 31 #[.slice (some ⟨gc, 0, none⟩) n n] w fun e w' => ∃ v, e = .returned v ∧ Kd.R (Kd.int .i64) 3 w' w.heap.size (fun _ => True) v (lst n C) ∧ Below w.heap.size w w' := hcl
  clear hs hi hcl
  go_enter Try.func13, Try.ntmps13
  go_wp2_with (go_at_call 31; with_reducible refine hcl'.mono ?_; rintro e w1 ⟨v, rfl, hR, hb⟩)
  go_ret
  exact ⟨v, rfl, hR, hb⟩
/-- The members of a class, in their order. -/
def members (n : Nat) (C : Nat → Nat) (c : Nat) : List Nat := (List.range n).filter fun i => C i == c
theorem members_sort {n N : Nat} {C R P A B : Nat → Nat} (h : Inv n N C R P A B) {c : Nat} (hc : c < N) : (((lst n R).take (B c)).drop (A c)).mergeSort (fun x y => decide (x ≤ y)) = tl (members n C c) := by
  have hsp := h.sp c hc
  have e : ((lst n R).take (B c)).drop (A c) = tl ((List.range' (A c) (B c - A c)).map R) := by
    apply List.ext_getElem?
    intro j
    rw [List.getElem?_drop, List.getElem?_take]
    simp only [tl, lst, List.getElem?_map]
    by_cases hj : j < B c - A c
    · rw [if_pos (by omega), List.getElem?_range (by omega)]
      simp [List.getElem?_range', hj]
    · rw [if_neg (by omega)]
      simp [List.getElem?_range', hj]
  obtain ⟨T', h1, h2, h3⟩ := sort_nat ((List.range' (A c) (B c - A c)).map R)
  rw [e, ← h1]
  congr 1
  refine same_sorted ?_ ((List.pairwise_lt_range).filter _) (fun x => ?_)
  · have hnd : ((List.range' (A c) (B c - A c)).map R).Nodup := by
      rw [List.nodup_iff_pairwise_ne, List.pairwise_map]
      refine (List.pairwise_lt_range').imp_of_mem (fun {a b} ha hb hab e => ?_)
      rw [List.mem_range'_1] at ha hb
      have g1 := h.pi a (by omega)
      have g2 := h.pi b (by omega)
      rw [e] at g1
      omega
    have hnd' : T'.Nodup := h2.nodup_iff.2 hnd
    rw [List.nodup_iff_pairwise_ne] at hnd'
    exact (h3.and hnd').imp (fun {a b} hh => by omega)
  · rw [h2.mem_iff, List.mem_map]
    simp only [members, List.mem_filter, List.mem_range, beq_iff_eq]
    constructor
    · rintro ⟨p, hp, rfl⟩
      rw [List.mem_range'_1] at hp
      have g := h.some hc (p := p) (by omega) (by omega)
      exact ⟨g.1, g.2.2⟩
    · rintro ⟨hx, hcx⟩
      have g1 := h.ip x hx
      have g2 := h.at' x hx
      rw [hcx] at g2
      exact ⟨P x, by rw [List.mem_range'_1]; omega, g1.2⟩
set_option maxHeartbeats 8000000 in
set_option maxRecDepth 100000 in
theorem Members_walk (base : Nat) (own : Nat → Prop) (g n N : Nat) (C : Nat → Nat) (w : World) (h : (part base own g n N C).at_ w) (c : Nat) (hc : c < N) (hn : n ≤ 65536) : Calls Try.prog 14 #[.pointer (some ⟨g, 0, none⟩), .int .i64 (c : Int)] w fun e w' => ∃ v, e = .returned (.tuple #[v, .int .i64 0]) ∧ Kd.R (Kd.int .i64) 3 w' w.heap.size (fun _ => True) v (tl (members n C c)) ∧ Below w.heap.size w w' := by
  obtain ⟨R, P, A, B, gr, cr, gp, cp, gc, gs, cs, hi, hs, _⟩ := h
  have hu64 := Try.underlying64
  have hu22 := Try.underlying22
  have hu62 := Try.underlying62
  have hu61 := Try.underlying61
  have HS := Aside0.mk hs
  have HI := Aside0.mk hi
  have hx3 : w.cell? ⟨g, 3, none⟩ = some (.slice (some ⟨gs, 0, none⟩) N cs) := (blk_cell (hs.get 0 rfl) 3).trans rfl
  have h1 : ¬ (c : Int) < 0 := by omega
  have h2 : (c : Int) < (N : Int) := by omega
  have h3 : ¬ (c : Int) ≥ (N : Int) := by omega
  have hsp := hi.sp c hc
  have hcr : n ≤ cr := (Kd.R_reads' (hs.get 1 rfl)).2.1
  have h4 : (A c : Int) ≤ (B c : Int) := by omega
  have h5 : (B c : Int) ≤ (cr : Int) := by omega
  have h6 : ¬ cr = A c := by omega
  have hxl : (((lst n R).take (B c)).drop (A c)).length = B c - A c := by rw [List.length_drop, List.length_take, lst_len]; omega
  have hcl : ∀ W, Sep base (pcs base g n N C R P A B gr cr gp cp gc gs cs) W → Calls Try.prog 31 #[.slice (some ⟨gr, A c, none⟩) (B c - A c) (cr - A c)] W fun e w' => ∃ v, e = .returned v ∧ Kd.R (Kd.int .i64) 3 w' W.heap.size (fun _ => True) v (((lst n R).take (B c)).drop (A c)) ∧ Below W.heap.size W w' := fun W hS => by
    have h1 := (Kd.R_reads' (hS.get 1 rfl)).2.2
    have h2 := Kd.C_mid (lo := A c) (hi := B c) (c := cr) h1 (by omega) (by rw [lst_len]; omega) (by rw [lst_len]; omega)
    rw [if_neg h6] at h2
    have h3 : Kd.C (Kd.int .i64) W (some ⟨gr, A c, none⟩) (((lst n R).take (B c)).drop (A c)).length (((lst n R).take (B c)).drop (A c)) := by
      have e : (Option.map (fun x : Addr => x.add (A c * (Kd.int .i64).sz)) (some ⟨gr, 0, none⟩)) = some ⟨gr, A c, none⟩ := by
        show some ((⟨gr, 0, none⟩ : Addr).add (A c * 1)) = _
        rw [Addr.add_mid, Nat.zero_add, Nat.mul_one]
      rw [e] at h2
      exact h2
    have h4 := Clone_calls (some ⟨gr, A c, none⟩) (cr - A c) (((lst n R).take (B c)).drop (A c)) W h3 (by rw [hxl]; omega) (by rw [hxl]; omega)
    rw [hxl] at h4
    exact h4
  have hms := members_sort hi hc
  have hlb : (((lst n R).take (B c)).drop (A c)).length < 4611686018427387904 := by rw [hxl]; omega
  clear hi hxl
  go_enter Try.func14, Try.ntmps14
  go_wp2
  have HE : Aside0 (Sep base (pcs base g n N C R P A B gr cr gp cp gc gs cs) w.drew) := ⟨hs.low (below_drew1 (Below.refl _ _))⟩
  have HD : Aside0 (Below w.heap.size w w.drew) := ⟨below_drew1 (Below.refl _ _)⟩
  clear hs hx3
  refine start_ (n := 23) (S := fun w' => w'.cell? ⟨g, 0, none⟩ = some (.slice (some ⟨gr, 0, none⟩) n cr) ∧ w'.cell? ⟨g, 3, none⟩ = some (.slice (some ⟨gs, 0, none⟩) N cs) ∧ w'.cell? ⟨gs, c * 2, none⟩ = some (.int .i64 (A c : Int)) ∧ w'.cell? ⟨gs, c * 2 + 1, none⟩ = some (.int .i64 (B c : Int))) (ds := [21]) #[false, false, false, false, false, false, false, false, false, false, false, false, false, false, false, false, false, false, false, false, false, false, false] (by kernel_rfl) rfl rfl ⟨(blk_cell (HE.out.get 0 rfl) 0).trans rfl, (blk_cell (HE.out.get 0 rfl) 3).trans rfl, (pair_cells (HE.out.get 4 rfl) c _ (slst_get A B hc)).1, (pair_cells (HE.out.get 4 rfl) c _ (slst_get A B hc)).2.1⟩ (fun hHeld => ?_)
  refine with_tabW mb5.tab5 mb5.bits5 (fun HT_ HW_ => ?_)
  have HE2 := HE
  clear HE
  have HWD : Aside0 (w.heap.size = w.drew.heap.size) := ⟨rfl⟩
  generalize w.drew = wd at HE2 HD HWD hHeld ⊢
  refine pure_ (i := 0) (N := (some 22)) (v := ?_) (a' := ?_) #[true, false, false, false, false, false, false, false, false, false, false, false, false, false, false, false, false, false, false, false, false, false, false] rfl rfl (any_of HT_.out (by kernel_rfl)) (fun _ _ _ h => h) (Or.inl ⟨by rfl, ?_⟩) ?_ ?_
  rotate_left
  · intro w'
    go_simp
    with_reducible rfl
  rotate_left
  · simp only [Act.put, List.setIfInBounds_toArray, List.set_cons_zero, List.set_cons_succ, i64_w, i32_w]
    rfl
  refine pure_ (i := 1) (N := (some 23)) (v := ?_) (a' := ?_) #[true, true, false, false, false, false, false, false, false, false, false, false, false, false, false, false, false, false, false, false, false, false, false] rfl rfl (any_of HT_.out (by kernel_rfl)) (fun _ _ _ h => h) (Or.inl ⟨by rfl, ?_⟩) ?_ ?_
  rotate_left
  · intro w'
    go_simp
    with_reducible rfl
  rotate_left
  · simp only [Act.put, List.setIfInBounds_toArray, List.set_cons_zero, List.set_cons_succ, i64_w, i32_w]
    rfl
  refine pure_ (i := 2) (N := (some 24)) (v := ?_) (a' := ?_) #[true, true, true, false, false, false, false, false, false, false, false, false, false, false, false, false, false, false, false, false, false, false, false] rfl rfl (any_of HT_.out (by kernel_rfl)) (fun _ _ _ h => h) (Or.inl ⟨by rfl, ?_⟩) ?_ ?_
  rotate_left
  · intro w'
    go_simp
    with_reducible rfl
  rotate_left
  · simp only [Act.put, List.setIfInBounds_toArray, List.set_cons_zero, List.set_cons_succ, i64_w, i32_w]
    rfl
  refine pure_ (i := 4) (N := (some 26)) (v := ?_) (a' := ?_) #[true, true, true, false, true, false, false, false, false, false, false, false, false, false, false, false, false, false, false, false, false, false, false] rfl rfl (any_of HT_.out (by kernel_rfl)) (fun _ _ _ h => h) (Or.inl ⟨by rfl, ?_⟩) ?_ ?_
  rotate_left
  · intro w'
    go_simp
    with_reducible rfl
  rotate_left
  · simp only [Act.put, List.setIfInBounds_toArray, List.set_cons_zero, List.set_cons_succ, i64_w, i32_w]
    rfl
  refine pure_ (i := 5) (N := (some 27)) (v := ?_) (a' := ?_) #[true, true, true, false, true, true, false, false, false, false, false, false, false, false, false, false, false, false, false, false, false, false, false] rfl rfl (any_of HT_.out (by kernel_rfl)) (fun _ _ _ h => h) (Or.inl ⟨by rfl, ?_⟩) ?_ ?_
  rotate_left
  · intro w'
    go_simp
    with_reducible rfl
  rotate_left
  · simp only [Act.put, List.setIfInBounds_toArray, List.set_cons_zero, List.set_cons_succ, i64_w, i32_w]
    rfl
  refine pure_ (i := 6) (N := (some 28)) (v := ?_) (a' := ?_) #[true, true, true, false, true, true, true, false, false, false, false, false, false, false, false, false, false, false, false, false, false, false, false] rfl rfl (any_of HT_.out (by kernel_rfl)) (fun _ _ _ h => h) (Or.inl ⟨by rfl, ?_⟩) ?_ ?_
  rotate_left
  · intro w'
    go_simp
    with_reducible rfl
  rotate_left
  · simp only [Act.put, List.setIfInBounds_toArray, List.set_cons_zero, List.set_cons_succ, i64_w, i32_w]
    rfl
  refine pure_ (i := 8) (N := (some 30)) (v := ?_) (a' := ?_) #[true, true, true, false, true, true, true, false, true, false, false, false, false, false, false, false, false, false, false, false, false, false, false] rfl rfl (any_of HT_.out (by kernel_rfl)) (fun _ _ _ h => h) (Or.inl ⟨by rfl, ?_⟩) ?_ ?_
  rotate_left
  · intro w'
    go_simp
    with_reducible rfl
  rotate_left
  · simp only [Act.put, List.setIfInBounds_toArray, List.set_cons_zero, List.set_cons_succ, i64_w, i32_w]
    rfl
  refine pure_ (i := 12) (N := (some 34)) (v := ?_) (a' := ?_) #[true, true, true, false, true, true, true, false, true, false, false, false, true, false, false, false, false, false, false, false, false, false, false] rfl rfl (any_of HT_.out (by kernel_rfl)) (fun _ _ _ h => h) (Or.inl ⟨by rfl, ?_⟩) ?_ ?_
  rotate_left
  · intro w'
    go_simp
    with_reducible rfl
  rotate_left
  · simp only [Act.put, List.setIfInBounds_toArray, List.set_cons_zero, List.set_cons_succ, i64_w, i32_w]
    rfl
  refine pure_ (i := 13) (N := (some 35)) (v := ?_) (a' := ?_) #[true, true, true, false, true, true, true, false, true, false, false, false, true, true, false, false, false, false, false, false, false, false, false] rfl rfl (any_of HT_.out (by kernel_rfl)) (fun _ _ _ h => h) (Or.inl ⟨by rfl, ?_⟩) ?_ ?_
  rotate_left
  · intro w'
    go_simp
    with_reducible rfl
  rotate_left
  · simp only [Act.put, List.setIfInBounds_toArray, List.set_cons_zero, List.set_cons_succ, i64_w, i32_w]
    rfl
  refine pure_ (i := 14) (N := (some 36)) (v := ?_) (a' := ?_) #[true, true, true, false, true, true, true, false, true, false, false, false, true, true, true, false, false, false, false, false, false, false, false] rfl rfl (any_of HT_.out (by kernel_rfl)) (fun _ _ _ h => h) (Or.inl ⟨by rfl, ?_⟩) ?_ ?_
  rotate_left
  · intro w'
    go_simp
    with_reducible rfl
  rotate_left
  · simp only [Act.put, List.setIfInBounds_toArray, List.set_cons_zero, List.set_cons_succ, i64_w, i32_w]
    rfl
  refine pure_ (i := 16) (N := (some 38)) (v := ?_) (a' := ?_) #[true, true, true, false, true, true, true, false, true, false, false, false, true, true, true, false, true, false, false, false, false, false, false] rfl rfl (any_of HT_.out (by kernel_rfl)) (fun _ _ _ h => h) (Or.inl ⟨by rfl, ?_⟩) ?_ ?_
  rotate_left
  · intro w'
    go_simp
    with_reducible rfl
  rotate_left
  · simp only [Act.put, List.setIfInBounds_toArray, List.set_cons_zero, List.set_cons_succ, i64_w, i32_w]
    rfl
  refine take_ (i := 3) (N := (some 25)) (v := ?_) (a' := ?_) #[true, true, true, true, true, true, true, false, true, false, false, false, true, true, true, false, true, false, false, false, false, false, false] rfl rfl (take_ofW HT_.out HW_.out (by kernel_rfl)) (fun _ _ _ h => h) (Or.inl ⟨by rfl, ?_⟩) hHeld ?_ ?_
  rotate_left
  · rintro w' ⟨s0, s1, s2, s3⟩
    go_simp
    with_reducible rfl
  rotate_left
  · simp only [Act.put, List.setIfInBounds_toArray, List.set_cons_zero, List.set_cons_succ, i64_w, i32_w]
    rfl
  refine take_ (i := 7) (N := (some 29)) (v := ?_) (a' := ?_) #[true, true, true, true, true, true, true, true, true, false, false, false, true, true, true, false, true, false, false, false, false, false, false] rfl rfl (take_ofW HT_.out HW_.out (by kernel_rfl)) (fun _ _ _ h => h) (Or.inl ⟨by rfl, ?_⟩) hHeld ?_ ?_
  rotate_left
  · rintro w' ⟨s0, s1, s2, s3⟩
    go_simp
    with_reducible rfl
  rotate_left
  · simp only [Act.put, List.setIfInBounds_toArray, List.set_cons_zero, List.set_cons_succ, i64_w, i32_w]
    rfl
  refine pure_ (i := 9) (N := (some 31)) (v := ?_) (a' := ?_) #[true, true, true, true, true, true, true, true, true, true, false, false, true, true, true, false, true, false, false, false, false, false, false] rfl rfl (any_of HT_.out (by kernel_rfl)) (fun _ _ _ h => h) (Or.inl ⟨by rfl, ?_⟩) ?_ ?_
  rotate_left
  · intro w'
    go_simp
    with_reducible rfl
  rotate_left
  · simp only [Act.put, List.setIfInBounds_toArray, List.set_cons_zero, List.set_cons_succ, i64_w, i32_w]
    rfl
  refine pure_ (i := 10) (N := (some 32)) (v := ?_) (a' := ?_) #[true, true, true, true, true, true, true, true, true, true, true, false, true, true, true, false, true, false, false, false, false, false, false] rfl rfl (any_of HT_.out (by kernel_rfl)) (fun _ _ _ h => h) (Or.inl ⟨by rfl, ?_⟩) ?_ ?_
  rotate_left
  · intro w'
    go_simp
    with_reducible rfl
  rotate_left
  · simp only [Act.put, List.setIfInBounds_toArray, List.set_cons_zero, List.set_cons_succ, i64_w, i32_w]
    rfl
  refine take_ (i := 11) (N := (some 33)) (v := ?_) (a' := ?_) #[true, true, true, true, true, true, true, true, true, true, true, true, true, true, true, false, true, false, false, false, false, false, false] rfl rfl (take_ofW HT_.out HW_.out (by kernel_rfl)) (fun _ _ _ h => h) (Or.inl ⟨by rfl, ?_⟩) hHeld ?_ ?_
  rotate_left
  · rintro w' ⟨s0, s1, s2, s3⟩
    go_simp
    with_reducible rfl
  rotate_left
  · simp only [Act.put, List.setIfInBounds_toArray, List.set_cons_zero, List.set_cons_succ, i64_w, i32_w]
    rfl
  refine take_ (i := 15) (N := (some 37)) (v := ?_) (a' := ?_) #[true, true, true, true, true, true, true, true, true, true, true, true, true, true, true, true, true, false, false, false, false, false, false] rfl rfl (take_ofW HT_.out HW_.out (by kernel_rfl)) (fun _ _ _ h => h) (Or.inl ⟨by rfl, ?_⟩) hHeld ?_ ?_
  rotate_left
  · rintro w' ⟨s0, s1, s2, s3⟩
    go_simp
    with_reducible rfl
  rotate_left
  · simp only [Act.put, List.setIfInBounds_toArray, List.set_cons_zero, List.set_cons_succ, i64_w, i32_w]
    rfl
  refine pure_ (i := 17) (N := (some 39)) (v := ?_) (a' := ?_) #[true, true, true, true, true, true, true, true, true, true, true, true, true, true, true, true, true, true, false, false, false, false, false] rfl rfl (any_of HT_.out (by kernel_rfl)) (fun _ _ _ h => h) (Or.inl ⟨by rfl, ?_⟩) ?_ ?_
  rotate_left
  · intro w'
    go_simp
    with_reducible rfl
  rotate_left
  · simp only [Act.put, List.setIfInBounds_toArray, List.set_cons_zero, List.set_cons_succ, i64_w, i32_w]
    rfl
  refine pure_ (i := 18) (N := (some 40)) (v := ?_) (a' := ?_) #[true, true, true, true, true, true, true, true, true, true, true, true, true, true, true, true, true, true, true, false, false, false, false] rfl rfl (any_of HT_.out (by kernel_rfl)) (fun _ _ _ h => h) (Or.inl ⟨by rfl, ?_⟩) ?_ ?_
  rotate_left
  · intro w'
    go_simp
    with_reducible rfl
  rotate_left
  · simp only [Act.put, List.setIfInBounds_toArray, List.set_cons_zero, List.set_cons_succ, i64_w, i32_w]
    rfl
  refine take_ (i := 19) (N := (some 41)) (v := ?_) (a' := ?_) #[true, true, true, true, true, true, true, true, true, true, true, true, true, true, true, true, true, true, true, true, false, false, false] rfl rfl (take_ofW HT_.out HW_.out (by kernel_rfl)) (fun _ _ _ h => h) (Or.inl ⟨by rfl, ?_⟩) hHeld ?_ ?_
  rotate_left
  · rintro w' ⟨s0, s1, s2, s3⟩
    go_simp
    with_reducible rfl
  rotate_left
  · simp only [Act.put, List.setIfInBounds_toArray, List.set_cons_zero, List.set_cons_succ, i64_w, i32_w]
    rfl
  refine pure_ (i := 20) (N := (some 42)) (v := ?_) (a' := ?_) #[true, true, true, true, true, true, true, true, true, true, true, true, true, true, true, true, true, true, true, true, true, false, false] rfl rfl (any_of HT_.out (by kernel_rfl)) (fun _ _ _ h => h) (Or.inl ⟨by rfl, ?_⟩) ?_ ?_
  rotate_left
  · intro w'
    go_simp
    with_reducible rfl
  rotate_left
  · simp only [Act.put, List.setIfInBounds_toArray, List.set_cons_zero, List.set_cons_succ, i64_w, i32_w]
    rfl
  refine last_ (i := 21) (N := (some 43)) #[true, true, true, true, true, true, true, true, true, true, true, true, true, true, true, true, true, true, true, true, true, true, false] rfl rfl (one_of HT_.out (by kernel_rfl)) (by decide) (fun K hK => ?_)
  refine goes_ Try.func31 (by kernel_rfl) rfl #[.slice (some ⟨gr, A c, none⟩) (B c - A c) (cr - A c)] (by rfl) rfl rfl (by simp [Act.eval]) ?_
  refine (hcl wd HE2.out).mono ?_
  rintro e w8 ⟨v8, rfl, hR8, hb8⟩
  refine ⟨_, rfl, ?_⟩
  have HR8 := Aside0.mk hR8
  have HB8 := Aside0.mk hb8
  clear hR8 hb8
  refine hK.out _ _ ?_; clear hK K
  refine norm_ (a' := ?_) ?_ ?_
  rotate_left
  · show Act.put _ (some 43) _ = _
    simp only [Act.put, List.setIfInBounds_toArray, List.set_cons_zero, List.set_cons_succ, i64_w, i32_w]
    rfl
  refine pure_ (i := 22) (N := (some 6)) (v := ?_) (a' := ?_) #[true, true, true, true, true, true, true, true, true, true, true, true, true, true, true, true, true, true, true, true, true, true, true] rfl rfl (any_of HT_.out (by kernel_rfl)) (fun _ _ _ h => h) (Or.inl ⟨by rfl, ?_⟩) ?_ ?_
  rotate_left
  · intro w'
    go_simp
    with_reducible rfl
  rotate_left
  · simp only [Act.put, List.setIfInBounds_toArray, List.set_cons_zero, List.set_cons_succ, i64_w, i32_w]
    rfl
  refine done_ (done_of HT_.out (by kernel_rfl)) ?_
  have HHD : Aside0 (Hold wd.heap.size (fun _ => False) wd [ints wd.heap.size v8 (((lst n R).take (B c)).drop (A c))] w8) := ⟨⟨⟨fun r hr => by
    rw [List.mem_singleton] at hr
    subst hr
    refine ⟨Kd.R_tight rfl HR8.out, fun k hk => ?_⟩
    have hk' : some k = v8.ownBlock := hk
    refine ⟨?_, Kd.R_lt HR8.out k hk'.symm⟩
    rcases Kd.R_base2 HR8.out with h3 | ⟨j, h3, h4⟩
    · rw [h3] at hk'; cases hk'
    · rw [h3] at hk'; injection hk' with h1; omega, List.pairwise_singleton _ _⟩, fun r hr k hk => .inr (by
    rw [List.mem_singleton] at hr
    subst hr
    have hk' : some k = v8.ownBlock := hk
    rcases Kd.R_base2 HR8.out with h3 | ⟨j, h3, h4⟩
    · rw [h3] at hk'; cases hk'
    · rw [h3] at hk'; injection hk' with h1; omega), fun k hk _ => HB8.out.block k hk, HB8.out, Nat.le_refl _⟩⟩
  clear hHeld hcl HE2
  go_wp2_with (go_at_call 30; refine (sort_calls HHD.out 0 rfl hlb).mono ?_; rintro e w12 ⟨rfl, hso⟩; rw [hms] at hso; have HSO := Aside0.mk hso; clear hso)
  go_ret2
  have hwd : w.heap.size = wd.heap.size := HWD.out
  refine ⟨v8, rfl, ?_, ?_⟩
  · rw [hwd]
    exact Kd.R_mono (HSO.out.get 0 rfl) (fun _ _ => trivial)
  · have h := HD.out
    have h2 := HSO.out.below
    exact below_then h (Nat.le_of_eq hwd) h2
end Go.Proofs.Ytdalpaobkmoomaa.X
end

section
namespace Go.Proofs.Ytdalpaobkmoomaa.X
open Go.RowKit Go.Proofs.YtdalpaobkmoomaaW.PrintWords Go.Proofs.YtdalpaobkmoomaaW.PrintLast Go.Proofs.YtdalpaobkmoomaaW.PrintMore
open Go.Proofs.Ytdalpaobkmoomaa Go.Proofs.Ytdalpaobkmoomaa.Sp
theorem rd_nat {xs : List Int} {i : Nat} (h : i < xs.length) : rd xs (i : Int) = xs[i] := by simp [rd, List.getD_eq_getElem?_getD, List.getElem?_eq_getElem h]
theorem same_l0 (a b : List Int) (hl : a.length = b.length) (hb : a.length ≤ 1000000000) : ∀ (d k i : Nat), i + d = a.length → d < k → tutorref01_Same.l0 k a b (i : Int) = some (decide (a.drop i = b.drop i)) := by
  intro d
  induction d with
  | zero =>
    intro k i h hk
    obtain ⟨k, rfl⟩ : ∃ m, k = m + 1 := ⟨k - 1, by omega⟩
    simp only [tutorref01_Same.l0]
    rw [if_neg (by omega), List.drop_of_length_le (by omega), List.drop_of_length_le (by omega)]
    rfl
  | succ d ih =>
    intro k i h hk
    obtain ⟨k, rfl⟩ : ∃ m, k = m + 1 := ⟨k - 1, by omega⟩
    simp only [tutorref01_Same.l0]
    have hda : a.drop i = a[i]'(by omega) :: a.drop (i + 1) := List.drop_eq_getElem_cons (by omega)
    have hdb : b.drop i = b[i]'(by omega) :: b.drop (i + 1) := List.drop_eq_getElem_cons (by omega)
    rw [if_pos (by omega), if_pos (by omega), if_pos (by omega), rd_nat (by omega), rd_nat (by omega), hda, hdb]
    by_cases he : a[i]'(by omega) = b[i]'(by omega)
    · rw [if_pos he, w64s (by omega), ih k (i + 1) (by omega) (by omega), he]
      congr 1
      exact decide_eq_decide.2 ⟨fun h => by rw [h], fun h => (List.cons.inj h).2⟩
    · rw [if_neg he]
      congr 1
      exact (decide_eq_false (fun h => he (List.cons.inj h).1)).symm
theorem same_f {a b : List Int} {k : Nat} (hb : a.length ≤ 1000000000) (hk : a.length < k) : tutorref01_Same.f k a b = some (decide (a = b)) := by
  unfold tutorref01_Same.f
  by_cases hl : a.length = b.length
  · rw [if_pos (by omega)]
    have := same_l0 a b hl hb a.length k 0 (by omega) hk
    simpa using this
  · rw [if_neg (by omega)]
    have : a ≠ b := fun h => hl (by rw [h])
    simp [this]
/-- Same of two rows, with lengths as they are told. -/
theorem same_calls (A0 : Option Addr) (n c0 : Nat) (a : List Int) (A1 : Option Addr) (m c1 : Nat) (b : List Int) (w : World) (h0 : Kd.C (Kd.int .i64) w A0 n a) (hc0 : n ≤ c0) (h1 : Kd.C (Kd.int .i64) w A1 m b) (hc1 : m ≤ c1) (hl : n ≤ 1000000000) :
    Calls Try.prog 16 #[.slice A0 n c0, .slice A1 m c1] w fun e w' => e = .returned (.bool (decide (a = b))) ∧ Drawn0 w w' := by
  have e0 := Kd.C_len h0
  have e1 := Kd.C_len h1
  subst e0
  subst e1
  exact tutorref01_Same.calls (a.length + 1) A0 c0 a A1 c1 b _ w h0 hc0 h1 hc1 (same_f hl (by omega))
/-- The reading of a row of the call's own. -/
theorem row_C {w : World} {base : Nat} {ok : Nat → Prop} {A : Option Addr} {n c : Nat} {xs : List Int} (h : Kd.R (Kd.int .i64) 3 w base ok (.slice A n c) xs) : Kd.C (Kd.int .i64) w A n xs ∧ n ≤ c := by
  obtain ⟨h1, h2, h3⟩ := Kd.R_reads' h
  exact ⟨h1 ▸ h3, h2⟩
theorem lit_C {w : World} {g n : Nat} {xs : List Int} {cs : Array Value} (h : w.heap[g]? = some (.cells cs 3 (0, 0))) (e : cs = numsA xs) (hn : n = xs.length) (hm : n ≤ 1000000000) : Kd.C (Kd.int .i64) w (some ⟨g, 0, none⟩) n xs := by
  subst e
  subst hn
  exact nums_C h (by omega)
/-- A piece that a call turned, and a row that it answered. -/
theorem Sep.turn {base : Nat} {own : Nat → Prop} {rs : List Res} {w w1 : World} {p p' m : Res} (h : Sep base rs w) (i j : Nat) (hi : rs[i]? = some p) (hp : ∀ k, p.own k → own k) (hp2 : ∀ k, own k → p.own k) (hj : rs[j]? = some none_) (hij : i ≠ j) (hh : Hold base own w [m, p'] w1) : Sep base ((rs.set i p').set j m) w1 := by
  have hil := (List.getElem?_eq_some_iff.1 hi).1
  have hjl := (List.getElem?_eq_some_iff.1 hj).1
  have hget : ∀ a x, ((rs.set i p').set j m)[a]? = some x → (a = j ∧ x = m) ∨ (a ≠ j ∧ a = i ∧ x = p') ∨ (a ≠ j ∧ a ≠ i ∧ rs[a]? = some x) := by
    intro a x hx
    by_cases ha : a = j
    · subst ha
      rw [List.getElem?_set_self (by simpa using hjl)] at hx
      exact .inl ⟨rfl, (Option.some.inj hx).symm⟩
    · rw [List.getElem?_set_ne (fun e => ha e.symm)] at hx
      by_cases hb : a = i
      · subst hb
        rw [List.getElem?_set_self hil] at hx
        exact .inr (.inl ⟨ha, rfl, (Option.some.inj hx).symm⟩)
      · rw [List.getElem?_set_ne (fun e => hb e.symm)] at hx
        exact .inr (.inr ⟨ha, hb, hx⟩)
  have old : ∀ a x, a ≠ i → rs[a]? = some x → ∀ k, x.own k → ¬ own k ∧ k < w.heap.size ∧ base ≤ k := fun a x ha hx k hk => ⟨fun ho => h.apart hx hi ha hk (hp2 k ho), (h.bound a hx hk).2, (h.bound a hx hk).1⟩
  have new : ∀ r ∈ [m, p'], ∀ k, r.own k → own k ∨ w.heap.size ≤ k := hh.mine
  refine Sep.of_apart (fun a x hx => ?_) (fun a b x y hx hy hab k hk hk' => ?_)
  · rcases hget a x hx with ⟨_, rfl⟩ | ⟨_, _, rfl⟩ | ⟨_, h2, h3⟩
    · exact ⟨hh.get 0 rfl, fun k hk => hh.sep.bound 0 rfl hk⟩
    · exact ⟨hh.get 1 rfl, fun k hk => hh.sep.bound 1 rfl hk⟩
    · refine ⟨x.step (h.get a h3) (fun k hk hlt => hh.kept k hlt (old a x h2 h3 k hk).1), fun k hk => ?_⟩
      have := old a x h2 h3 k hk
      have := hh.size
      omega
  · rcases hget a x hx with ⟨ha, rfl⟩ | ⟨ha, ha2, rfl⟩ | ⟨ha, ha2, hx3⟩
    · rcases hget b y hy with ⟨hb, rfl⟩ | ⟨hb, hb2, rfl⟩ | ⟨hb, hb2, hy3⟩
      · exact hab (ha.trans hb.symm)
      · exact hh.sep.apart (i := 0) (j := 1) rfl rfl (by decide) hk hk'
      · have g1 := old b y hb2 hy3 k hk'
        rcases new x (by simp) k hk with h1 | h1
        · exact g1.1 h1
        · omega
    · rcases hget b y hy with ⟨hb, rfl⟩ | ⟨hb, hb2, rfl⟩ | ⟨hb, hb2, hy3⟩
      · exact hh.sep.apart (i := 1) (j := 0) rfl rfl (by decide) hk hk'
      · exact hab (ha2.trans hb2.symm)
      · have g1 := old b y hb2 hy3 k hk'
        rcases new x (by simp) k hk with h1 | h1
        · exact g1.1 h1
        · omega
    · have g1 := old a x ha2 hx3 k hk
      rcases hget b y hy with ⟨hb, rfl⟩ | ⟨hb, hb2, rfl⟩ | ⟨hb, hb2, hy3⟩
      · rcases new y (by simp) k hk' with h1 | h1
        · exact g1.1 h1
        · omega
      · rcases new y (by simp) k hk' with h1 | h1
        · exact g1.1 h1
        · omega
      · exact h.apart hx3 hy3 hab hk hk'
/-- Split, by a Part among other pieces. -/
theorem Split_law {base : Nat} {own : Nat → Prop} {rs : List Res} {w : World} {g n N : Nat} {C : Nat → Nat} (h : Sep base rs w) (i j : Nat) (hi : rs[i]? = some (part base own g n N C)) (hj : rs[j]? = some none_) (hij : i ≠ j) (hb : base ≤ w.heap.size) (hn0 : 0 < n) (hn : n ≤ 65536) (l : List Nat) (hl : ∀ x ∈ l, x < n) (hll : l.length ≤ 1000000) (Al : Option Addr) (m cl : Nat) (hm : m = l.length)
    (hrd : ∀ w1, (∀ k, k < w.heap.size → ¬ own k → w1.heap[k]? = w.heap[k]?) → Kd.C (Kd.int .i64) w1 Al m (tl l)) :
    Calls Try.prog 12 #[.pointer (some ⟨g, 0, none⟩), .slice Al m cl] w fun e w' => ∃ (mv : Value) (own' : Nat → Prop), e = .returned (.tuple #[mv, .int .i64 0]) ∧ Sep base ((rs.set i (part base own' g n (splitOf n C N l).N (splitOf n C N l).C)).set j (ints base mv (tl (splitOf n C N l).made))) w' ∧ Below base w w' := by
  subst hm
  obtain ⟨R, P, A, B, gr, cr, gp, cp, gc, gs, cs, h1, h2, h3⟩ := h.get i hi
  have H : Hold base own w (pcs base g n N C R P A B gr cr gp cp gc gs cs) w := Hold.start h2 h3 hb
  refine (Split_walk base own w g n N C R P A B gr cr gp cp gc gs cs l Al cl H h1 hn0 hn hl hll hrd).mono ?_
  rintro e w' ⟨mv, own', rfl, hh⟩
  exact ⟨mv, own', rfl, Sep.turn h i j hi (fun _ hk => hk) (fun _ hk => hk) hj hij hh, hh.below⟩
theorem All_law {base : Nat} {own : Nat → Prop} {rs : List Res} {w : World} {g n N : Nat} {C : Nat → Nat} (h : Sep base rs w) (i : Nat) (hi : rs[i]? = some (part base own g n N C)) (hn : n ≤ 65536) :
    Calls Try.prog 13 #[.pointer (some ⟨g, 0, none⟩)] w fun e w' => ∃ v, e = .returned v ∧ Kd.R (Kd.int .i64) 3 w' w.heap.size (fun _ => True) v (lst n C) ∧ Below w.heap.size w w' := All_walk base own g n N C w (h.get i hi) hn
/-- A list of the walk's own, as Split reads it. -/
theorem lit_rd {base : Nat} {own : Nat → Prop} {rs : List Res} {w : World} {p : Res} (h : Sep base rs w) (i : Nat) (hi : rs[i]? = some p) (hp : ∀ k, own k → p.own k) (cs : Array Value) (l : List Nat) (n : Nat) (e : cs = numsA (tl l)) (hn : n = l.length) (hm : n ≤ 1000000000) :
    ∀ w1, (∀ k, k < (w.alloc (.cells cs 3)).heap.size → ¬ own k → w1.heap[k]? = (w.alloc (.cells cs 3)).heap[k]?) → Kd.C (Kd.int .i64) w1 (some ⟨w.heap.size, 0, none⟩) n (tl l) := fun w1 hk => by
  refine lit_C (cs := cs) ?_ e (by rw [tl_len]; exact hn) hm
  rw [hk w.heap.size (by simp) (fun ho => by have := (h.bound i hi (hp _ ho)).2; omega)]
  exact blk_new w _
end Go.Proofs.Ytdalpaobkmoomaa.X
end

section
namespace Go.Proofs.Ytdalpaobkmoomaa.X
open Go.RowKit Go.Proofs.YtdalpaobkmoomaaW.PrintWords Go.Proofs.YtdalpaobkmoomaaW.PrintLast Go.Proofs.YtdalpaobkmoomaaW.PrintMore
open Go.Proofs.Ytdalpaobkmoomaa Go.Proofs.Ytdalpaobkmoomaa.Sp
attribute [local go_sem] max2_int min2_int max_two min_two max_three min_three max_four min_four
set_option maxHeartbeats 16000000 in
set_option maxRecDepth 100000 in
theorem live_walk (w : World) : Calls Try.prog 9 #[] w fun e w' => e = .returned (.bool true) ∧ Below w.heap.size w w' := by
  have hu22 := Try.underlying22
  have hnew : Calls Try.prog 10 #[.int .i64 4] w fun e w' => ∃ (g : Nat) (own : Nat → Prop), e = .returned (.tuple #[.pointer (some ⟨g, 0, none⟩), .int .i64 0]) ∧ Sep w.heap.size [part w.heap.size own g 4 1 (fun _ => 0)] w' ∧ Below w.heap.size w w' := New_walk 4 w (by decide) (by decide)
  go_enter Try.func9, Try.ntmps9
  go_wp2_with (first
  | (go_at_call 17; refine (Count_walk w.heap.size own2 g 4 (splitOf 4 (splitOf 4 (fun _ => 0) 1 [1, 2]).C (splitOf 4 (fun _ => 0) 1 [1, 2]).N [0, 1, 1]).N (splitOf 4 (splitOf 4 (fun _ => 0) 1 [1, 2]).C (splitOf 4 (fun _ => 0) 1 [1, 2]).N [0, 1, 1]).C w12 (HS12.out.get 1 rfl)).mono ?_
     rintro e w13 ⟨rfl, hb⟩
     have hc4 : (((splitOf 4 (splitOf 4 (fun _ => 0) 1 [1, 2]).C (splitOf 4 (fun _ => 0) 1 [1, 2]).N [0, 1, 1]).N : Nat) : Int) = 4 := by decide
     have HB13 := Aside0.mk (below_step HB12.out hb)
     clear hb)
  | (go_at_call 16; refine (same_calls Ad 4 cd [2, 3, 1, 0] (some ⟨w11.heap.size, 0, none⟩) 4 4 [2, 3, 1, 0] (w11.alloc (.cells #[.int .i64 2, .int .i64 3, .int .i64 1, .int .i64 0] 3)) (row_C ((HS11.out.low (below_alloc (Below.refl w11.heap.size w11) (.cells #[.int .i64 2, .int .i64 3, .int .i64 1, .int .i64 0] 3))).get 0 rfl)).1 (row_C (HS11.out.get 0 rfl)).2 (lit_C (blk_new w11 (.cells #[.int .i64 2, .int .i64 3, .int .i64 1, .int .i64 0] 3)) rfl rfl (by decide)) (Nat.le_refl _) (by decide)).mono ?_
     rintro e w12 ⟨rfl, hd⟩
     have HS12 := Aside0.mk ((HS11.out.low (below_alloc (Below.refl w11.heap.size w11) (.cells #[.int .i64 2, .int .i64 3, .int .i64 1, .int .i64 0] 3))).low hd.below)
     have HB12 := Aside0.mk (below_step (below_alloc HB11.out (.cells #[.int .i64 2, .int .i64 3, .int .i64 1, .int .i64 0] 3)) hd.below)
     clear hd)
  | (go_at_call 13; with_reducible refine (All_law HS10.out 3 rfl (by decide)).mono ?_
     rintro e w11 ⟨v11, rfl, hR, hb⟩
     have hS' : Sep w.heap.size [ints w.heap.size v11 [2, 3, 1, 0], part w.heap.size own2 g 4 (splitOf 4 (splitOf 4 (fun _ => 0) 1 [1, 2]).C (splitOf 4 (fun _ => 0) 1 [1, 2]).N [0, 1, 1]).N (splitOf 4 (splitOf 4 (fun _ => 0) 1 [1, 2]).C (splitOf 4 (fun _ => 0) 1 [1, 2]).N [0, 1, 1]).C] w11 := (((HS10.out.sub (rs' := [part w.heap.size own2 g 4 (splitOf 4 (splitOf 4 (fun _ => 0) 1 [1, 2]).C (splitOf 4 (fun _ => 0) 1 [1, 2]).N [0, 1, 1]).N (splitOf 4 (splitOf 4 (fun _ => 0) 1 [1, 2]).C (splitOf 4 (fun _ => 0) 1 [1, 2]).N [0, 1, 1]).C]) (.cons _ (.cons _ (.cons _ (List.Sublist.refl _))))).free none_ trivial (fun _ hk => hk.elim)).fillRow 0 rfl rfl hR hb HB10.out.size)
     obtain ⟨Ad, cd, hv⟩ := Kd.R_slice (hS'.get 0 rfl)
     have hv' : v11 = .slice Ad 4 cd := hv
     subst hv'
     have HS11 := Aside0.mk hS'
     have HB11 := Aside0.mk (below_step HB10.out hb)
     clear hS' hb hv hR)
  | (go_at_call 16; refine (same_calls Ac 2 cc [2, 3] (some ⟨w9.heap.size, 0, none⟩) 2 2 [2, 3] (w9.alloc (.cells #[.int .i64 2, .int .i64 3] 3)) (row_C ((HS9.out.low (below_alloc (Below.refl w9.heap.size w9) (.cells #[.int .i64 2, .int .i64 3] 3))).get 2 rfl)).1 (row_C (HS9.out.get 2 rfl)).2 (lit_C (blk_new w9 (.cells #[.int .i64 2, .int .i64 3] 3)) rfl rfl (by decide)) (Nat.le_refl _) (by decide)).mono ?_
     rintro e w10 ⟨rfl, hd⟩
     have HS10 := Aside0.mk ((HS9.out.low (below_alloc (Below.refl w9.heap.size w9) (.cells #[.int .i64 2, .int .i64 3] 3))).low hd.below)
     have HB10 := Aside0.mk (below_step (below_alloc HB9.out (.cells #[.int .i64 2, .int .i64 3] 3)) hd.below)
     clear hd)
  | (go_at_call 16; refine (same_calls Ab 4 cb [0, 1, 1, 0] (some ⟨w8.heap.size, 0, none⟩) 4 4 [0, 1, 1, 0] (w8.alloc (.cells #[.int .i64 0, .int .i64 1, .int .i64 1, .int .i64 0] 3)) (row_C ((HS8.out.low (below_alloc (Below.refl w8.heap.size w8) (.cells #[.int .i64 0, .int .i64 1, .int .i64 1, .int .i64 0] 3))).get 1 rfl)).1 (row_C (HS8.out.get 1 rfl)).2 (lit_C (blk_new w8 (.cells #[.int .i64 0, .int .i64 1, .int .i64 1, .int .i64 0] 3)) rfl rfl (by decide)) (Nat.le_refl _) (by decide)).mono ?_
     rintro e w9 ⟨rfl, hd⟩
     have HS9 := Aside0.mk ((HS8.out.low (below_alloc (Below.refl w8.heap.size w8) (.cells #[.int .i64 0, .int .i64 1, .int .i64 1, .int .i64 0] 3))).low hd.below)
     have HB9 := Aside0.mk (below_step (below_alloc HB8.out (.cells #[.int .i64 0, .int .i64 1, .int .i64 1, .int .i64 0] 3)) hd.below)
     clear hd)
  | (go_at_call 16; refine (same_calls Aa 1 ca [1] (some ⟨w7.heap.size, 0, none⟩) 1 1 [1] (w7.alloc (.cells #[.int .i64 1] 3)) (row_C ((HS7.out.low (below_alloc (Below.refl w7.heap.size w7) (.cells #[.int .i64 1] 3))).get 0 rfl)).1 (row_C (HS7.out.get 0 rfl)).2 (lit_C (blk_new w7 (.cells #[.int .i64 1] 3)) rfl rfl (by decide)) (Nat.le_refl _) (by decide)).mono ?_
     rintro e w8 ⟨rfl, hd⟩
     have HS8 := Aside0.mk ((HS7.out.low (below_alloc (Below.refl w7.heap.size w7) (.cells #[.int .i64 1] 3))).low hd.below)
     have HB8 := Aside0.mk (below_step (below_alloc HB7.out (.cells #[.int .i64 1] 3)) hd.below)
     clear hd)
  | (go_at_call 11; with_reducible refine (tutorlaw06_num.calls 0 0 w6 rfl).mono ?_
     rintro e w7 ⟨rfl, hd⟩
     have HS7 := Aside0.mk (HS6.out.low hd.below)
     have HB7 := Aside0.mk (below_step HB6.out hd.below)
     clear hd)
  | (go_at_call 11; with_reducible refine (tutorlaw06_num.calls 0 0 w5 rfl).mono ?_
     rintro e w6 ⟨rfl, hd⟩
     have HS6 := Aside0.mk (HS5.out.low hd.below)
     have HB6 := Aside0.mk (below_step HB5.out hd.below)
     clear hd)
  | (go_at_call 12
     refine (Split_law (HS4.out.low (below_alloc (Below.refl w4.heap.size w4) (.cells #[.int .i64 0, .int .i64 1, .int .i64 1] 3))) 3 2 rfl rfl (by decide) (by have := HB4.out.size; simp; omega) (by decide) (by decide) [0, 1, 1] (by decide) (by decide) (some ⟨w4.heap.size, 0, none⟩) 3 3 rfl (lit_rd HS4.out 3 rfl (fun _ hk => hk) #[.int .i64 0, .int .i64 1, .int .i64 1] [0, 1, 1] 3 rfl rfl (by decide))).mono ?_
     rintro e w5 ⟨m2, own2, rfl, hS, hb⟩
     have hS' : Sep w.heap.size [ints w.heap.size (.slice Aa 1 ca) [1], ints w.heap.size (.slice Ab 4 cb) [0, 1, 1, 0], ints w.heap.size m2 [2, 3], part w.heap.size own2 g 4 (splitOf 4 (splitOf 4 (fun _ => 0) 1 [1, 2]).C (splitOf 4 (fun _ => 0) 1 [1, 2]).N [0, 1, 1]).N (splitOf 4 (splitOf 4 (fun _ => 0) 1 [1, 2]).C (splitOf 4 (fun _ => 0) 1 [1, 2]).N [0, 1, 1]).C] w5 := hS
     obtain ⟨Ac, cc, hv⟩ := Kd.R_slice (hS'.get 2 rfl)
     have hv' : m2 = .slice Ac 2 cc := hv
     subst hv'
     have HS5 := Aside0.mk hS'
     have HB5 := Aside0.mk ((below_alloc HB4.out (.cells #[.int .i64 0, .int .i64 1, .int .i64 1] 3)).trans hb)
     clear hS hS' hb hv)
  | (go_at_call 13; with_reducible refine (All_law HS3.out 3 rfl (by decide)).mono ?_
     rintro e w4 ⟨v4, rfl, hR, hb⟩
     have hS' : Sep w.heap.size [ints w.heap.size (.slice Aa 1 ca) [1], ints w.heap.size v4 [0, 1, 1, 0], none_, part w.heap.size own1 g 4 (splitOf 4 (fun _ => 0) 1 [1, 2]).N (splitOf 4 (fun _ => 0) 1 [1, 2]).C] w4 := HS3.out.fillRow 1 rfl rfl hR hb HB3.out.size
     obtain ⟨Ab, cb, hv⟩ := Kd.R_slice (hS'.get 1 rfl)
     have hv' : v4 = .slice Ab 4 cb := hv
     subst hv'
     have HS4 := Aside0.mk hS'
     have HB4 := Aside0.mk (below_step HB3.out hb)
     clear hS' hb hv hR)
  | (go_at_call 12
     refine (Split_law (HS2.out.low (below_alloc (Below.refl w2.heap.size w2) (.cells #[.int .i64 1, .int .i64 2] 3))) 3 0 rfl rfl (by decide) (by have := HB2.out.size; simp; omega) (by decide) (by decide) [1, 2] (by decide) (by decide) (some ⟨w2.heap.size, 0, none⟩) 2 2 rfl (lit_rd HS2.out 3 rfl (fun _ hk => hk) #[.int .i64 1, .int .i64 2] [1, 2] 2 rfl rfl (by decide))).mono ?_
     rintro e w3 ⟨m1, own1, rfl, hS, hb⟩
     have hS' : Sep w.heap.size [ints w.heap.size m1 [1], none_, none_, part w.heap.size own1 g 4 (splitOf 4 (fun _ => 0) 1 [1, 2]).N (splitOf 4 (fun _ => 0) 1 [1, 2]).C] w3 := hS
     obtain ⟨Aa, ca, hv⟩ := Kd.R_slice (hS'.get 0 rfl)
     have hv' : m1 = .slice Aa 1 ca := hv
     subst hv'
     have HS3 := Aside0.mk hS'
     have HB3 := Aside0.mk ((below_alloc HB2.out (.cells #[.int .i64 1, .int .i64 2] 3)).trans hb)
     clear hS hS' hb hv)
  | (go_at_call 11; with_reducible refine (tutorlaw06_num.calls 0 0 w1 rfl).mono ?_
     rintro e w2 ⟨rfl, hd⟩
     have HS2 := Aside0.mk (HS1.out.low hd.below)
     have HB2 := Aside0.mk (below_step HB1.out hd.below)
     clear hd)
  | (go_at_call 10; with_reducible refine hnew.mono ?_
     rintro e w1 ⟨g, own, rfl, hS, hb⟩
     have HS1 : Aside0 (Sep w.heap.size [none_, none_, none_, part w.heap.size own g 4 1 (fun _ => 0)] w1) := ⟨((hS.free none_ trivial (fun _ hk => hk.elim)).free none_ trivial (fun _ hk => hk.elim)).free none_ trivial (fun _ hk => hk.elim)⟩
     have HB1 := Aside0.mk hb
     clear hS hb))
  go_ret
  exact ⟨rfl, HB13.out⟩
end Go.Proofs.Ytdalpaobkmoomaa.X
end

section
namespace Go.Proofs.Ytdalpaobkmoomaa.X
open Go.RowKit Go.Proofs.YtdalpaobkmoomaaW.PrintWords Go.Proofs.YtdalpaobkmoomaaW.PrintLast Go.Proofs.YtdalpaobkmoomaaW.PrintMore
open Go.Proofs.Ytdalpaobkmoomaa Go.Proofs.Ytdalpaobkmoomaa.Sp
attribute [local go_sem] max2_int min2_int max_two min_two max_three min_three max_four min_four
set_option maxHeartbeats 8000000 in
set_option maxRecDepth 100000 in
theorem Split_bad (base : Nat) (own : Nat → Prop) (g n N : Nat) (C : Nat → Nat) (w : World) (h : (part base own g n N C).at_ w) (l : List Int) (Al : Option Addr) (cl : Nat) (hc : Kd.C (Kd.int .i64) w Al l.length l) (hn : n ≤ 65536) (hll : l.length ≤ 1000000) (hb : ¬ ∀ x ∈ l, 0 ≤ x ∧ x < (n : Int)) :
    Calls Try.prog 12 #[.pointer (some ⟨g, 0, none⟩), .slice Al l.length cl] w fun e w' => e = .returned (.tuple #[.slice none 0 0, .int .i64 1]) ∧ Below w.heap.size w w' := by
  obtain ⟨R, P, A, B, gr, cr, gp, cp, gc, gs, cs, hi, hs, _⟩ := h
  have hu64 := Try.underlying64
  have hu22 := Try.underlying22
  have hu66 := Try.underlying66
  have hmm := @run_makeMap Try.prog
  have HC := Aside0.mk hc
  have HBAD := Aside0.mk hb
  have hx0 : w.cell? ⟨g, 0, none⟩ = some (.slice (some ⟨gr, 0, none⟩) n cr) := (blk_cell (hs.get 0 rfl) 0).trans rfl
  have hs1 := hs.low (below_alloc (Below.refl w.heap.size w) (.map #[] 0))
  have hx0b : (w.alloc (.map #[] 0)).cell? ⟨g, 0, none⟩ = some (.slice (some ⟨gr, 0, none⟩) n cr) := (blk_cell (hs1.get 0 rfl) 0).trans rfl
  have HS1 := Aside0.mk hs1
  clear hs hi hc hb hs1
  go_enter Try.func12, Try.ntmps12
  go_wp2_with ((with_reducible refine gate_dst (N := 30) rfl ?_); (refine fresh_make Try.underlying66 info4 rfl (by decide) (by decide) rfl rfl rfl (by omega) (by omega) ?_; intro w1 hg1 hb1 hz1; have HB1 := Aside0.mk (below_step (below_alloc (Below.refl w.heap.size w) (.map #[] 0)) hb1); have hx1 : w1.cell? ⟨g, 0, none⟩ = some (.slice (some ⟨gr, 0, none⟩) n cr) := (blk_cell ((HS1.out.low hb1).get 0 rfl) 0).trans rfl; clear hg1 hb1 hz1))
  have HX1 := Aside0.mk hx1
  clear hx0 hx0b hx1
  go_loopw [33] (fun v33 wr => ∃ (j : Nat), v33 = .int .i64 (j : Int) ∧ Aside0 (j ≤ l.length) ∧ Aside0 (∀ x ∈ l.take j, 0 ≤ x ∧ x < (n : Int)) ∧ Aside0 (wr = w1)) (fun v33 _ => l.length - (intOf v33).toNat)
  case atStart => exact ⟨0, rfl, ⟨by omega⟩, ⟨fun x hx => by simp at hx⟩, ⟨by first | rfl | trivial⟩⟩
  case round =>
    obtain ⟨j, rfl, HJI, HOK, HWR⟩ := hrel
    have hwr := HWR.out
    subst hwr
    clear HWR
    by_cases hj : j < l.length
    · have HJ := Aside0.mk hj
      have hj' : (j : Int) < (l.length : Int) := by omega
      obtain ⟨x, hli⟩ : ∃ x, l[j] = x := ⟨_, rfl⟩
      obtain ⟨adl, el, hxl⟩ := Kd.at_int (Kd.C_below HC.out HB1.out) (j : Int) (by omega) hj'
      cases el
      rw [rd_nat hj, hli, Int.toNat_natCast] at hxl
      have hx0 := HX1.out
      have htk : l.take (j + 1) = l.take j ++ [x] := by rw [List.take_succ_eq_append_getElem hj, hli]
      have HTK := Aside0.mk htk
      clear hj hli htk
      by_cases h1 : x < 0
      · go_wp2
        go_ret2
        exact ⟨rfl, HB1.out⟩
      · by_cases h2 : x ≥ (n : Int)
        · go_wp2
          go_ret2
          exact ⟨rfl, HB1.out⟩
        · have hOK2 : Aside0 (∀ y ∈ l.take (j + 1), 0 ≤ y ∧ y < (n : Int)) := ⟨fun y hy => by
            rw [HTK.out, List.mem_append, List.mem_singleton] at hy
            rcases hy with hy | rfl
            · exact HOK.out y hy
            · omega⟩
          go_wp2
          go_roundw
          case rel => exact ⟨j + 1, by go_num, ⟨by have := HJ.out; omega⟩, hOK2, ⟨by first | rfl | trivial⟩⟩
          case measure => have := HJ.out; simp [intOf]; omega
    · exact absurd (fun x hx => HOK.out x (by rw [List.take_of_length_le (by have := HJI.out; omega)]; exact hx)) HBAD.out
/-- What Split answers to any list. -/
def splitAny (n : Nat) (C : Nat → Nat) (N : Nat) (l : List Int) : St × Int := if ∀ x ∈ l, 0 ≤ x ∧ x < (n : Int) then (splitOf n C N (l.map Int.toNat), 0) else (⟨C, N, []⟩, 1)
theorem Sep.same {base : Nat} {rs : List Res} {w : World} (h : Sep base rs w) (i : Nat) {r : Res} (hi : rs[i]? = some r) : Sep base (rs.set i r) w := by
  have e : rs.set i r = rs := List.ext_getElem? fun j => by
    by_cases hj : j = i
    · subst hj
      rw [List.getElem?_set_self (List.getElem?_eq_some_iff.1 hi).1, hi]
    · rw [List.getElem?_set_ne (fun e => hj e.symm)]
  rw [e]
  exact h
theorem Split_any {base : Nat} {own : Nat → Prop} {rs : List Res} {w : World} {g n N : Nat} {C : Nat → Nat} (h : Sep base rs w) (i j : Nat) (hi : rs[i]? = some (part base own g n N C)) (hj : rs[j]? = some none_) (hij : i ≠ j) (hb : base ≤ w.heap.size) (hn0 : 0 < n) (hn : n ≤ 65536) (l : List Int) (hll : l.length ≤ 1000000) (Al : Option Addr) (m cl : Nat) (hm : m = l.length)
    (hrd : ∀ w1, (∀ k, k < w.heap.size → ¬ own k → w1.heap[k]? = w.heap[k]?) → Kd.C (Kd.int .i64) w1 Al m l) :
    Calls Try.prog 12 #[.pointer (some ⟨g, 0, none⟩), .slice Al m cl] w fun e w' => ∃ (mv : Value) (own' : Nat → Prop), e = .returned (.tuple #[mv, .int .i64 (splitAny n C N l).2]) ∧ Sep base ((rs.set i (part base own' g n (splitAny n C N l).1.N (splitAny n C N l).1.C)).set j (ints base mv (tl (splitAny n C N l).1.made))) w' ∧ Below base w w' := by
  subst hm
  unfold splitAny
  by_cases hok : ∀ x ∈ l, 0 ≤ x ∧ x < (n : Int)
  · rw [if_pos hok]
    have e : tl (l.map Int.toNat) = l := tl_toNat l (fun x hx => (hok x hx).1)
    refine Split_law h i j hi hj hij hb hn0 hn (l.map Int.toNat) (fun x hx => ?_) (by simpa using hll) Al l.length cl (by simp) (by rw [e]; exact hrd)
    obtain ⟨y, hy, rfl⟩ := List.mem_map.1 hx
    have := hok y hy
    omega
  · rw [if_neg hok]
    refine (Split_bad base own g n N C w (h.get i hi) l Al cl (hrd w (fun _ _ _ => rfl)) hn hll hok).mono ?_
    rintro e w' ⟨rfl, hbl⟩
    refine ⟨.slice none 0 0, own, rfl, ?_, ⟨hbl.os, hbl.tape, hbl.output, hbl.size, fun k hk => hbl.block k (by omega)⟩⟩
    have h1 := Sep.same (h.low hbl) i hi
    exact h1.upd j (by rw [List.getElem?_set_ne hij]; exact hj) (Kd.R_nil _ _ _ _ _) (fun _ _ _ => rfl) (fun k hk => by simp [ints, row, Value.ownBlock] at hk) (Nat.le_trans hb hbl.size) (Nat.le_refl _)
theorem part_lower {base base' : Nat} {own : Nat → Prop} {g n N : Nat} {C : Nat → Nat} {w : World} (hb : base' ≤ base) (h : (part base own g n N C).at_ w) : (part base' own g n N C).at_ w := by
  obtain ⟨R, P, A, B, gr, cr, gp, cp, gc, gs, cs, h1, h2, h3⟩ := h
  have key : ∀ (i : Nat) (r : Res), (pcs base' g n N C R P A B gr cr gp cp gc gs cs)[i]? = some r → ∃ r0, (pcs base g n N C R P A B gr cr gp cp gc gs cs)[i]? = some r0 ∧ (∀ k, r.own k → r0.own k) ∧ (r0.at_ w → r.at_ w) := by
    intro i r hr
    match i, hr with
    | 0, hr => obtain rfl := Option.some.inj hr; exact ⟨_, rfl, fun _ hk => hk, fun h => h⟩
    | 1, hr => obtain rfl := Option.some.inj hr; exact ⟨_, rfl, fun _ hk => hk, fun h => Kd.R_lower h hb⟩
    | 2, hr => obtain rfl := Option.some.inj hr; exact ⟨_, rfl, fun _ hk => hk, fun h => Kd.R_lower h hb⟩
    | 3, hr => obtain rfl := Option.some.inj hr; exact ⟨_, rfl, fun _ hk => hk, fun h => h⟩
    | 4, hr => obtain rfl := Option.some.inj hr; exact ⟨_, rfl, fun _ hk => hk, fun h => Kd.R_lower h hb⟩
    | i + 5, hr => cases hr
  refine ⟨R, P, A, B, gr, cr, gp, cp, gc, gs, cs, h1, Sep.of_apart (fun i r hr => ?_) (fun i j r q hr hq hij k hk hk' => ?_), fun r hr k hk => ?_⟩
  · obtain ⟨r0, g1, g2, g3⟩ := key i r hr
    exact ⟨g3 (h2.get i g1), fun k hk => by have := h2.bound i g1 (g2 k hk); omega⟩
  · obtain ⟨r0, g1, g2, _⟩ := key i r hr
    obtain ⟨q0, f1, f2, _⟩ := key j q hq
    exact h2.apart g1 f1 hij (g2 k hk) (f2 k hk')
  · obtain ⟨i, hi⟩ := List.getElem?_of_mem hr
    obtain ⟨r0, g1, g2, _⟩ := key i r hi
    exact h3 r0 (List.mem_of_getElem? g1) k (g2 k hk)
theorem part_pos {base : Nat} {own : Nat → Prop} {g n N : Nat} {C : Nat → Nat} {w : World} (h : (part base own g n N C).at_ w) (hn : 0 < n) : 0 < N ∧ N ≤ n ∧ ∀ i, i < n → C i < N := by
  obtain ⟨R, P, A, B, gr, cr, gp, cp, gc, gs, cs, h1, h2, h3⟩ := h
  have := h1.cn 0 hn
  exact ⟨by omega, h1.few, h1.cn⟩
theorem New_law {base : Nat} {rs : List Res} {w : World} (h : Sep base rs w) (hb : base ≤ w.heap.size) (n : Nat) (hn0 : 0 < n) (hn : n ≤ 65536) :
    Calls Try.prog 10 #[.int .i64 (n : Int)] w fun e w' => ∃ (g : Nat) (own : Nat → Prop), e = .returned (.tuple #[.pointer (some ⟨g, 0, none⟩), .int .i64 0]) ∧ Sep base (part base own g n 1 (fun _ => 0) :: rs) w' ∧ Below w.heap.size w w' := by
  refine (New_walk n w hn0 hn).mono ?_
  rintro e w' ⟨g, own, rfl, hs, hbl⟩
  have h1 := h.over hbl hs hb
  refine ⟨g, own, rfl, ?_, hbl⟩
  exact h1.upd 0 rfl (part_lower hb (hs.get 0 rfl)) (fun _ _ _ => rfl) (fun k hk => ⟨.inl hk, (hs.bound 0 rfl hk).2⟩) (Nat.le_trans hb hbl.size) (Nat.le_refl _)
theorem Members_law {base : Nat} {own : Nat → Prop} {rs : List Res} {w : World} {g n N : Nat} {C : Nat → Nat} (h : Sep base rs w) (i : Nat) (hi : rs[i]? = some (part base own g n N C)) (hn : n ≤ 65536) (c : Nat) (hc : c < N) :
    Calls Try.prog 14 #[.pointer (some ⟨g, 0, none⟩), .int .i64 (c : Int)] w fun e w' => ∃ v, e = .returned (.tuple #[v, .int .i64 0]) ∧ Kd.R (Kd.int .i64) 3 w' w.heap.size (fun _ => True) v (tl (members n C c)) ∧ Below w.heap.size w w' := Members_walk base own g n N C w (h.get i hi) c hc hn
/-- A row among the pieces, as Split reads it. -/
theorem row_rd {base : Nat} {own : Nat → Prop} {rs : List Res} {w : World} {p : Res} {A : Option Addr} {n c : Nat} {xs : List Int} (h : Sep base rs w) (i j : Nat) (hi : rs[i]? = some p) (hp : ∀ k, own k → p.own k) (hj : rs[j]? = some (ints base (.slice A n c) xs)) (hij : i ≠ j) :
    ∀ w1, (∀ k, k < w.heap.size → ¬ own k → w1.heap[k]? = w.heap[k]?) → Kd.C (Kd.int .i64) w1 A n xs := fun w1 hk =>
  (row_C ((ints base (.slice A n c) xs).step (h.get j hj) (fun k hk1 hlt => hk k hlt (fun ho => h.apart hi hj hij (hp k ho) hk1)))).1
end Go.Proofs.Ytdalpaobkmoomaa.X
end

section
namespace Go.Proofs.Ytdalpaobkmoomaa.X
open Go.RowKit Go.Proofs.YtdalpaobkmoomaaW.PrintWords Go.Proofs.YtdalpaobkmoomaaW.PrintLast Go.Proofs.YtdalpaobkmoomaaW.PrintMore
open Go.Proofs.Ytdalpaobkmoomaa Go.Proofs.Ytdalpaobkmoomaa.Sp
def muchB (n : Int) (l : List Int) : Bool := decide ((n > 200 ∧ n ≤ 65536) ∨ (l.length : Int) > 400)
theorem much_one (n : Int) (l : List Int) : tutorlaw06_much.f 5 n [l] = some (muchB n l) := by
  have h1 : rd_L1 [l] 0 = l := rfl
  have h2 : wrap64 ((0 : Int) + 1) = 1 := by have := w64s (a := 0) (by decide); simpa using this
  unfold tutorlaw06_much.f muchB
  simp only [tutorlaw06_much.j0, tutorlaw06_much.l0, List.length_singleton, h1, h2]
  by_cases g1 : n > 200
  · by_cases g2 : n ≤ 65536
    · simp [g1, g2]
    · by_cases g3 : (l.length : Int) > 400
      · simp [g1, g2, g3]
      · simp [g1, g2, g3]
  · by_cases g3 : (l.length : Int) > 400
    · simp [g1, g3]
    · simp [g1, g3]
theorem one_C {W : World} {g : Nat} {A : Option Addr} {c : Nat} {l : List Int} (hg : W.heap[g]? = some (.cells #[.slice A l.length c] 22 (0, 0))) (hl : l.length ≤ c) (hc : Kd.C (Kd.int .i64) W A l.length l) : Kd.C (Kd.slice 3 (Kd.int .i64)) W (some ⟨g, 0, none⟩) 1 [l] := by
  refine ⟨rfl, by decide, fun _ => ⟨⟨g, 0, none⟩, rfl, fun j p hj => ?_⟩⟩
  cases j with
  | zero =>
    simp only [List.getElem?_cons_zero, Option.some.injEq] at hj
    subst hj
    refine ⟨[.slice A l.length c], rfl, ⟨A, c, rfl, hl, hc⟩, fun i u hu => ?_⟩
    cases i with
    | zero =>
      simp only [List.getElem?_cons_zero, Option.some.injEq] at hu
      subst hu
      exact (blk_cell hg 0).trans rfl
    | succ i => simp at hu
  | succ j => simp at hj
/-- A store into a row of numbers among the pieces. -/
theorem Sep.putInt {base : Nat} {rs : List Res} {w : World} {g n cap : Nat} {xs : List Int} (h : Sep base rs w) (i : Nat) (hi : rs[i]? = some (ints base (.slice (some ⟨g, 0, none⟩) n cap) xs)) (j : Nat) (x : Int) (hbase : base ≤ w.heap.size) : Sep base (rs.set i (ints base (.slice (some ⟨g, 0, none⟩) n cap) (xs.set j x))) (w.setCell ⟨g, j, none⟩ (.int .i64 x)) := by
  obtain ⟨h2, h3⟩ := Kd.R_putg (h.get i hi) (j : Int) x
  rw [Int.toNat_natCast] at h2 h3
  exact h.upd i hi h2 (fun k hk hlt => h3.block k hlt (fun e => hk (show some k = some g from e))) (fun k hk => ⟨.inl hk, Kd.R_lt h2 k (show _ = some k from hk.symm)⟩) hbase h3.size
theorem lists_sep {base : Nat} {rs : List Res} {W : World} (h : Sep base rs W) (g : Nat) (vs : List Value) (ls : List (List Int)) (idx : List Nat) (hnd : idx.Nodup) (hl : vs.length = ls.length) (hg : W.heap[g]? = some (.cells vs.toArray 22 (0, 0))) (hlow : base ≤ g)
    (hp : ∀ (k : Nat) (v : Value) (l : List Int), vs[k]? = some v → ls[k]? = some l → ∃ m, idx[k]? = some m ∧ rs[m]? = some (ints base v l)) : Lists W base g vs ls := by
  refine ⟨hg, hlow, hl, fun j v l hv hl' => ?_, fun i j v v' hij hv hv' => ?_⟩
  · obtain ⟨m, _, hm⟩ := hp j v l hv hl'
    exact OR_of_R (h.get m hm)
  · have li : ∃ l, ls[i]? = some l := ⟨_, List.getElem?_eq_getElem (by rw [← hl]; exact (List.getElem?_eq_some_iff.1 hv).1)⟩
    have lj : ∃ l, ls[j]? = some l := ⟨_, List.getElem?_eq_getElem (by rw [← hl]; exact (List.getElem?_eq_some_iff.1 hv').1)⟩
    obtain ⟨l, hl1⟩ := li
    obtain ⟨l', hl2⟩ := lj
    obtain ⟨m, hm1, hm2⟩ := hp i v l hv hl1
    obtain ⟨m', hn1, hn2⟩ := hp j v' l' hv' hl2
    have hmm : m ≠ m' := fun e => by
      subst e
      have h1 := (List.getElem?_eq_some_iff.1 hm1)
      have h2 := (List.getElem?_eq_some_iff.1 hn1)
      exact hij ((List.getElem_inj hnd).1 (h1.2.trans h2.2.symm))
    cases hv0 : v.ownBlock with
    | none => exact .inl rfl
    | some k => exact .inr (fun e => h.apart hm2 hn2 hmm (k := k) (show some k = v.ownBlock from hv0.symm) (show some k = v'.ownBlock from e))
theorem members_all (n : Nat) : members n (fun _ => 0) 0 = List.range n := by
  unfold members
  rw [List.filter_eq_self]
  intro i _
  rfl
theorem cuts_made (n : Nat) (C0 : Nat → Nat) (D : Nat → Bool) : ∀ (l : List Nat) (s : St), (cuts n C0 D l s).made.length ≤ s.made.length + l.length
  | [], s => by simp [cuts]
  | c :: l, s => by
    have h1 := cuts_made n C0 D l (cutOf n C0 D c s)
    have h2 : (cutOf n C0 D c s).made.length ≤ s.made.length + 1 := by
      unfold cutOf
      split
      · simp
      · omega
    simp only [cuts, List.length_cons]
    omega
theorem made_few (n : Nat) (C : Nat → Nat) (N : Nat) (l : List Int) {m : Nat} (_hn : n ≤ m) (hN : N ≤ 1000000 := by decide) : (tl (splitAny n C N l).1.made).length ≤ 1000000 := by
  rw [tl_len]
  unfold splitAny
  split
  · have := cuts_made n C (fun i => decide (i ∈ l.map Int.toNat)) (List.range N) ⟨C, N, []⟩
    rw [List.length_range] at this
    unfold splitOf
    simp at this ⊢
    omega
  · simp
attribute [local go_sem] max2_int min2_int max_two min_two max_three min_three max_four min_four
set_option maxHeartbeats 16000000 in
set_option maxRecDepth 100000 in
theorem Own_much (a0 : Int) (A1 : Option Addr) (c1 : Nat) (l1 : List Int) (w : World) (hr1 : Kd.C (Kd.int .i64) w A1 l1.length l1) (hc1 : l1.length ≤ c1) (h : muchB a0 l1 = true) : Calls Try.prog 3 #[.int .i64 a0, .slice A1 l1.length c1] w fun e w' => e = .returned (.bool true) ∧ Below w.heap.size w w' := by
  have hu22 := Try.underlying22
  have hu24 := Try.underlying24
  have hC1 := one_C (blk_new w (.cells #[.slice A1 l1.length c1] 22)) hc1 (Kd.C_below hr1 (below_alloc (Below.refl w.heap.size w) (.cells #[.slice A1 l1.length c1] 22)))
  have hmu : Calls Try.prog 8 #[.int .i64 a0, .slice (some ⟨w.heap.size, 0, none⟩) 1 1] (w.alloc (.cells #[.slice A1 l1.length c1] 22)) fun e w' => e = .returned (.bool (muchB a0 l1)) ∧ Drawn0 (w.alloc (.cells #[.slice A1 l1.length c1] 22)) w' := tutorlaw06_much.calls 5 a0 (some ⟨w.heap.size, 0, none⟩) 1 [l1] _ (w.alloc (.cells #[.slice A1 l1.length c1] 22)) hC1 (Nat.le_refl _) (much_one a0 l1)
  have hlv := live_walk
  rw [h] at hmu
  go_enter Try.func3, Try.ntmps3
  go_wp2_with (first
  | (go_at_call 9; refine (hlv w1).mono ?_
     rintro e w2 ⟨rfl, hb⟩
     have HB2 := Aside0.mk (below_step HB1.out hb)
     clear hb)
  | (go_at_call 8; with_reducible refine hmu.mono ?_
     rintro e w1 ⟨rfl, hd⟩
     have HB1 := Aside0.mk (below_step (below_alloc (Below.refl w.heap.size w) (.cells #[.slice A1 l1.length c1] 22)) hd.below)
     clear hd))
  go_ret
  exact ⟨rfl, HB2.out⟩
set_option maxHeartbeats 16000000 in
set_option maxRecDepth 100000 in
theorem Own_few (a0 : Int) (A1 : Option Addr) (c1 : Nat) (l1 : List Int) (w : World) (hr1 : Kd.C (Kd.int .i64) w A1 l1.length l1) (hc1 : l1.length ≤ c1) (h : muchB a0 l1 = false) (hn : a0 < 1) : Calls Try.prog 3 #[.int .i64 a0, .slice A1 l1.length c1] w fun e w' => e = .returned (.bool true) ∧ Below w.heap.size w w' := by
  have hu22 := Try.underlying22
  have hu24 := Try.underlying24
  have hC1 := one_C (blk_new w (.cells #[.slice A1 l1.length c1] 22)) hc1 (Kd.C_below hr1 (below_alloc (Below.refl w.heap.size w) (.cells #[.slice A1 l1.length c1] 22)))
  have hmu : Calls Try.prog 8 #[.int .i64 a0, .slice (some ⟨w.heap.size, 0, none⟩) 1 1] (w.alloc (.cells #[.slice A1 l1.length c1] 22)) fun e w' => e = .returned (.bool (muchB a0 l1)) ∧ Drawn0 (w.alloc (.cells #[.slice A1 l1.length c1] 22)) w' := tutorlaw06_much.calls 5 a0 (some ⟨w.heap.size, 0, none⟩) 1 [l1] _ (w.alloc (.cells #[.slice A1 l1.length c1] 22)) hC1 (Nat.le_refl _) (much_one a0 l1)
  have hlv := live_walk
  rw [h] at hmu
  have hnw := fun W => New_few a0 W hn
  go_enter Try.func3, Try.ntmps3
  go_wp2_with (first
  | (go_at_call 9; refine (hlv w7).mono ?_
     rintro e w8 ⟨rfl, hb⟩
     have HB8 := Aside0.mk (below_step HB7.out hb)
     clear hb)
  | (go_at_call 11; with_reducible refine (tutorlaw06_num.calls 1 1 w6 rfl).mono ?_
     rintro e w7 ⟨rfl, hd⟩
     have HB7 := Aside0.mk (below_step HB6.out hd.below)
     clear hd)
  | (go_at_call 11; with_reducible refine (tutorlaw06_num.calls 1 1 w5 rfl).mono ?_
     rintro e w6 ⟨rfl, hd⟩
     have HB6 := Aside0.mk (below_step HB5.out hd.below)
     clear hd)
  | (go_at_call 11; with_reducible refine (tutorlaw06_num.calls 1 1 w4 rfl).mono ?_
     rintro e w5 ⟨rfl, hd⟩
     have HB5 := Aside0.mk (below_step HB4.out hd.below)
     clear hd)
  | (go_at_call 11; with_reducible refine (tutorlaw06_num.calls 1 1 w3 rfl).mono ?_
     rintro e w4 ⟨rfl, hd⟩
     have HB4 := Aside0.mk (below_step HB3.out hd.below)
     clear hd)
  | (go_at_call 10; refine (hnw w2).mono ?_
     rintro e w3 ⟨rfl, hb⟩
     have HB3 := Aside0.mk (below_step HB2.out hb)
     clear hb)
  | (go_at_call 10; refine (hnw w1).mono ?_
     rintro e w2 ⟨rfl, hb⟩
     have HB2 := Aside0.mk (below_step HB1.out hb)
     clear hb)
  | (go_at_call 8; with_reducible refine hmu.mono ?_
     rintro e w1 ⟨rfl, hd⟩
     have HB1 := Aside0.mk (below_step (below_alloc (Below.refl w.heap.size w) (.cells #[.slice A1 l1.length c1] 22)) hd.below)
     clear hd))
  go_ret
  exact ⟨rfl, HB8.out⟩
set_option maxHeartbeats 16000000 in
set_option maxRecDepth 100000 in
theorem Own_many (a0 : Int) (A1 : Option Addr) (c1 : Nat) (l1 : List Int) (w : World) (hr1 : Kd.C (Kd.int .i64) w A1 l1.length l1) (hc1 : l1.length ≤ c1) (h : muchB a0 l1 = false) (hn : a0 > 65536) : Calls Try.prog 3 #[.int .i64 a0, .slice A1 l1.length c1] w fun e w' => e = .returned (.bool true) ∧ Below w.heap.size w w' := by
  have hu22 := Try.underlying22
  have hu24 := Try.underlying24
  have hC1 := one_C (blk_new w (.cells #[.slice A1 l1.length c1] 22)) hc1 (Kd.C_below hr1 (below_alloc (Below.refl w.heap.size w) (.cells #[.slice A1 l1.length c1] 22)))
  have hmu : Calls Try.prog 8 #[.int .i64 a0, .slice (some ⟨w.heap.size, 0, none⟩) 1 1] (w.alloc (.cells #[.slice A1 l1.length c1] 22)) fun e w' => e = .returned (.bool (muchB a0 l1)) ∧ Drawn0 (w.alloc (.cells #[.slice A1 l1.length c1] 22)) w' := tutorlaw06_much.calls 5 a0 (some ⟨w.heap.size, 0, none⟩) 1 [l1] _ (w.alloc (.cells #[.slice A1 l1.length c1] 22)) hC1 (Nat.le_refl _) (much_one a0 l1)
  have hlv := live_walk
  rw [h] at hmu
  have hnw := fun W => New_many a0 W hn
  go_enter Try.func3, Try.ntmps3
  go_wp2_with (first
  | (go_at_call 9; refine (hlv w7).mono ?_
     rintro e w8 ⟨rfl, hb⟩
     have HB8 := Aside0.mk (below_step HB7.out hb)
     clear hb)
  | (go_at_call 11; with_reducible refine (tutorlaw06_num.calls 3 3 w6 rfl).mono ?_
     rintro e w7 ⟨rfl, hd⟩
     have HB7 := Aside0.mk (below_step HB6.out hd.below)
     clear hd)
  | (go_at_call 11; with_reducible refine (tutorlaw06_num.calls 3 3 w5 rfl).mono ?_
     rintro e w6 ⟨rfl, hd⟩
     have HB6 := Aside0.mk (below_step HB5.out hd.below)
     clear hd)
  | (go_at_call 11; with_reducible refine (tutorlaw06_num.calls 3 3 w4 rfl).mono ?_
     rintro e w5 ⟨rfl, hd⟩
     have HB5 := Aside0.mk (below_step HB4.out hd.below)
     clear hd)
  | (go_at_call 11; with_reducible refine (tutorlaw06_num.calls 3 3 w3 rfl).mono ?_
     rintro e w4 ⟨rfl, hd⟩
     have HB4 := Aside0.mk (below_step HB3.out hd.below)
     clear hd)
  | (go_at_call 10; refine (hnw w2).mono ?_
     rintro e w3 ⟨rfl, hb⟩
     have HB3 := Aside0.mk (below_step HB2.out hb)
     clear hb)
  | (go_at_call 10; refine (hnw w1).mono ?_
     rintro e w2 ⟨rfl, hb⟩
     have HB2 := Aside0.mk (below_step HB1.out hb)
     clear hb)
  | (go_at_call 8; with_reducible refine hmu.mono ?_
     rintro e w1 ⟨rfl, hd⟩
     have HB1 := Aside0.mk (below_step (below_alloc (Below.refl w.heap.size w) (.cells #[.slice A1 l1.length c1] 22)) hd.below)
     clear hd))
  go_ret
  exact ⟨rfl, HB8.out⟩
set_option maxHeartbeats 16000000 in
set_option maxRecDepth 100000 in
theorem Own_main (n : Nat) (A1 : Option Addr) (c1 : Nat) (l1 : List Int) (w : World) (hr1 : Kd.C (Kd.int .i64) w A1 l1.length l1) (hc1 : l1.length ≤ c1) (h : muchB (n : Int) l1 = false) (hn0 : 0 < n) (hn2 : n ≤ 200) (hl4 : l1.length ≤ 400) : Calls Try.prog 3 #[.int .i64 (n : Int), .slice A1 l1.length c1] w fun e w' => e = .returned (.bool true) ∧ Below w.heap.size w w' := by
  have hu22 := Try.underlying22
  have hu24 := Try.underlying24
  have hC1 := one_C (blk_new w (.cells #[.slice A1 l1.length c1] 22)) hc1 (Kd.C_below hr1 (below_alloc (Below.refl w.heap.size w) (.cells #[.slice A1 l1.length c1] 22)))
  have hmu : Calls Try.prog 8 #[.int .i64 (n : Int), .slice (some ⟨w.heap.size, 0, none⟩) 1 1] (w.alloc (.cells #[.slice A1 l1.length c1] 22)) fun e w' => e = .returned (.bool (muchB (n : Int) l1)) ∧ Drawn0 (w.alloc (.cells #[.slice A1 l1.length c1] 22)) w' := tutorlaw06_much.calls 5 (n : Int) (some ⟨w.heap.size, 0, none⟩) 1 [l1] _ (w.alloc (.cells #[.slice A1 l1.length c1] 22)) hC1 (Nat.le_refl _) (much_one (n : Int) l1)
  have hlv := live_walk
  rw [h] at hmu
  have HRC := Aside0.mk hr1
  have HMADE : Aside0 ((tl (splitAny n (fun _ => 0) 1 l1).1.made).length ≤ 1000000) := ⟨made_few n (fun _ => 0) 1 l1 hn2⟩
  clear hr1
  go_enter Try.func3, Try.ntmps3
  go_wp2_with (first
  | (go_at_call 12; refine (Split_any HS7.out 8 0 rfl rfl (by decide) HB7.out.size hn0 (by omega) l1 (by omega) Av l1.length cv rfl (row_rd HS7.out 8 1 rfl (fun _ hk => hk) rfl (by decide))).mono ?_
     rintro e w8 ⟨mv, own3, rfl, hS, hb⟩
     obtain ⟨Aa, ca, hv⟩ := Kd.R_slice (hS.get 0 rfl)
     subst hv
     have HS8 : Aside0 (Sep w.heap.size [ints w.heap.size (.slice Aa (tl (splitAny n (fun _ => 0) 1 l1).1.made).length ca) (tl (splitAny n (fun _ => 0) 1 l1).1.made), ints w.heap.size (.slice Av l1.length cv) l1, none_, none_, none_, none_, none_, part w.heap.size own2 g2 n 1 (fun _ => 0), part w.heap.size own3 g n (splitAny n (fun _ => 0) 1 l1).1.N (splitAny n (fun _ => 0) 1 l1).1.C] w8) := ⟨hS⟩
     have HB8 := Aside0.mk (HB7.out.trans hb)
     clear hS hb)
  | ((with_reducible refine gate_builtin (b := .append) (xs := #[.tmp 62, .tmp 63]) rfl ?_)
     at_builtin
     refine Kd.R_append_rows (Kd.int .i64) (w0 := w) w.heap.size rfl (.tmp 62) (.tmp 63) 22 3 (.int .i64 0) 8 rfl Try.underlying22 info3 rfl (by decide) (by omega) v6 [] l1 A1 l1.length c1 (fun _ => True) (fun _ => False) rfl rfl (Kd.R_mono (HS6.out.get 1 rfl) (fun _ _ => trivial)) (Kd.C_below HRC.out HB6.out) (fun _ _ h => h) (fun _ h => h.elim) (fun _ _ => trivial) HB6.out HB6.out.size (by simp; omega) ?_
     intro v7 w7 ho hb hg hat
     rw [List.nil_append] at ho
     obtain ⟨Av, cv, rfl⟩ := Kd.R_slice ho
     have HS7 : Aside0 (Sep w.heap.size [none_, ints w.heap.size (.slice Av l1.length cv) l1, none_, none_, none_, none_, none_, part w.heap.size own2 g2 n 1 (fun _ => 0), part w.heap.size own g n 1 (fun _ => 0)] w7) := ⟨HS6.out.app 1 rfl rfl ho hg hat HB6.out.size⟩
     have HB7 := Aside0.mk hb
     clear ho hb hg hat)
  | ((with_reducible refine gate_dst (N := 62) rfl ?_)
     refine Kd.R_lit (Kd.int .i64) (w0 := w5) w5.heap.size 3 rfl (N := 62) rfl (xs := ([] : List Int)) (inner := []) (ok := fun _ => True) (okp := fun _ => True) ?hr ?hp (fun _ hk => hk) trivial (Below.refl _ _) (Nat.le_refl _) (by simp) ?_
     (case hr => first | (go_simp; done) | (go_simp; rfl))
     (case hp => exact (Reps.none _ _))
     intro v6 w6 ho hb hg hnew
     have HS6 := Aside0.mk (HS5.out.fillRow 1 rfl rfl ho hb HB5.out.size)
     have HB6 := Aside0.mk (below_step HB5.out hb)
     clear ho hb hg hnew)
  | (go_at_call 11; with_reducible refine (tutorlaw06_num.calls 0 0 w4 rfl).mono ?_
     rintro e w5 ⟨rfl, hd⟩
     have HB5 := Aside0.mk (below_step HB4.out hd.below)
     have HS5 := Aside0.mk (HS4.out.low hd.below)
     clear hd)
  | (go_at_call 11; with_reducible refine (tutorlaw06_num.calls 0 0 w3 rfl).mono ?_
     rintro e w4 ⟨rfl, hd⟩
     have HB4 := Aside0.mk (below_step HB3.out hd.below)
     have HS4 := Aside0.mk (HS3.out.low hd.below)
     clear hd)
  | (go_at_call 10; refine (New_law HS2.out HB2.out.size n hn0 (by omega)).mono ?_
     rintro e w3 ⟨g2, own2, rfl, hS, hb⟩
     have HS3 : Aside0 (Sep w.heap.size [none_, none_, none_, none_, none_, none_, none_, part w.heap.size own2 g2 n 1 (fun _ => 0), part w.heap.size own g n 1 (fun _ => 0)] w3) := ⟨((((((hS.free none_ trivial (fun _ hk => hk.elim)).free none_ trivial (fun _ hk => hk.elim)).free none_ trivial (fun _ hk => hk.elim)).free none_ trivial (fun _ hk => hk.elim)).free none_ trivial (fun _ hk => hk.elim)).free none_ trivial (fun _ hk => hk.elim)).free none_ trivial (fun _ hk => hk.elim)⟩
     have HB3 := Aside0.mk (below_step HB2.out hb)
     clear hS hb)
  | (go_at_call 10; refine (New_law (Sep.nil w.heap.size w1) HB1.out.size n hn0 (by omega)).mono ?_
     rintro e w2 ⟨g, own, rfl, hS, hb⟩
     have HS2 := Aside0.mk hS
     have HB2 := Aside0.mk (below_step HB1.out hb)
     clear hS hb)
  | (go_at_call 8; with_reducible refine hmu.mono ?_
     rintro e w1 ⟨rfl, hd⟩
     have HB1 := Aside0.mk (below_step (below_alloc (Below.refl w.heap.size w) (.cells #[.slice A1 l1.length c1] 22)) hd.below)
     clear hd))
  clear hmu HS2 HS3 HS5 HS6 HS7 HB1 HB2 HB3 HB5 HB6 HB7
  go_loopw [12] (fun v12 wr => ∃ (i : Nat) (zs : List Int), v12 = .int .i64 (i : Int) ∧ Aside0 (i ≤ l1.length) ∧ Aside0 (zs.length = l1.length) ∧ Aside0 (Sep w.heap.size [ints w.heap.size (.slice Aa (tl (splitAny n (fun _ => 0) 1 l1).1.made).length ca) (tl (splitAny n (fun _ => 0) 1 l1).1.made), ints w.heap.size (.slice Av l1.length cv) zs, none_, none_, none_, none_, none_, part w.heap.size own2 g2 n 1 (fun _ => 0), part w.heap.size own3 g n (splitAny n (fun _ => 0) 1 l1).1.N (splitAny n (fun _ => 0) 1 l1).1.C] wr) ∧ Aside0 (Below w.heap.size w wr)) (fun v12 _ => l1.length - (intOf v12).toNat)
  case atStart => exact ⟨0, l1, rfl, ⟨by omega⟩, ⟨rfl⟩, HS8, HB8⟩
  case round =>
    clear HS8 HB8
    obtain ⟨i, zs, rfl, HI, HZ, HS, HB⟩ := hrel
    by_cases hi : i < l1.length
    · have HIN := Aside0.mk hi
      have hi' : (i : Int) < (l1.length : Int) := by omega
      have hzl : i < zs.length := by rw [HZ.out]; exact hi
      obtain ⟨gv, cv', hv⟩ := ints_some (HS.out.get 1 rfl) (fun e => by rw [e] at hzl; simp at hzl)
      injection hv with hv1 hv2 hv3
      subst hv1
      obtain ⟨ad, ea, hcell⟩ := Kd.at_int (row_C (HS.out.get 1 rfl)).1 (i : Int) (by omega) hi'
      injection ea with ea
      subst ea
      rw [Int.toNat_natCast, Addr.add_mid, Nat.zero_add] at hcell
      have hfz := row_frozen (HS.out.get 1 rfl) i
      clear hi hzl hv2 hv3
      go_wp2
      go_roundw
      case rel => exact ⟨i + 1, zs.set i (-1), by go_num, ⟨by have := HIN.out; omega⟩, ⟨by rw [List.length_set]; exact HZ.out⟩, ⟨Sep.putInt HS.out 1 rfl i (-1) HB.out.size⟩, ⟨below_set HB.out (HS.out.bound 1 rfl (k := gv) rfl).1⟩⟩
      case measure => have := HIN.out; simp [intOf]; omega
    · have hi' : ¬ ((i : Int) < (l1.length : Int)) := by omega
      have HPP := Aside0.mk (part_pos (HS.out.get 8 rfl) hn0)
      clear hi
      have HLEN : Aside0 (∀ l ∈ [tl (splitAny n (fun _ => 0) 1 l1).1.made, (lst n (splitAny n (fun _ => 0) 1 l1).1.C), (lst n (splitAny n (fun _ => 0) 1 l1).1.C), (tl (members n (splitAny n (fun _ => 0) 1 l1).1.C 0)), (tl (members n (splitAny n (fun _ => 0) 1 l1).1.C 0))], l.length ≤ 1000000) := ⟨by
        have hmade : (tl (splitAny n (fun _ => 0) 1 l1).1.made).length ≤ 1000000 := HMADE.out
        have hmb : (tl (members n (splitAny n (fun _ => 0) 1 l1).1.C 0)).length ≤ 1000000 := by
          rw [tl_len]
          unfold members
          have := List.length_filter_le (fun i => (splitAny n (fun _ => 0) 1 l1).1.C i == 0) (List.range n)
          rw [List.length_range] at this
          omega
        intro l hl
        simp only [List.mem_cons, List.not_mem_nil, or_false] at hl
        rcases hl with rfl | rfl | rfl | rfl | rfl
        · exact hmade
        · rw [lst_len]; omega
        · rw [lst_len]; omega
        · exact hmb
        · exact hmb⟩
      go_wp2_with (first
      | (go_at_call 9; refine (hlv w18).mono ?_
         rintro e w19 ⟨rfl, hb⟩
         have HB19 := Aside0.mk (below_step HB18.out hb)
         clear hb)
      | (go_at_call 17; refine (Count_walk w.heap.size own2 g2 n 1 (fun _ => 0) w17 (HS17.out.get 7 rfl)).mono ?_
         rintro e w18 ⟨rfl, hb⟩
         have HB18 := Aside0.mk (below_step HB17.out hb)
         clear hb)
      | (go_at_call 16; refine (same_calls An n cn (lst n (splitAny n (fun _ => 0) 1 l1).1.C) Aw n cw (lst n (splitAny n (fun _ => 0) 1 l1).1.C) w16 (row_C HR16.out).1 (row_C HR16.out).2 (row_C (HS16.out.get 2 rfl)).1 (row_C (HS16.out.get 2 rfl)).2 (by omega)).mono ?_
         rw [decide_eq_true rfl]
         rintro e w17 ⟨rfl, hd⟩
         have HS17 := Aside0.mk (HS16.out.low hd.below)
         have HB17 := Aside0.mk (below_step HB16.out hd.below)
         clear hd)
      | (go_at_call 13; refine (All_law HS15.out 8 rfl (by omega)).mono ?_
         rintro e w16 ⟨v16, rfl, hR, hb⟩
         obtain ⟨An, cn, hv⟩ := Kd.R_slice hR
         rw [lst_len] at hv
         subst hv
         have HR16 := Aside0.mk hR
         have HS16 := Aside0.mk (HS15.out.low hb)
         have HB16 := Aside0.mk (below_step HB15.out hb)
         clear hR hb)
      | (go_at_call 14; refine (Members_law HS14.out 7 rfl (by omega) 0 (by decide)).mono ?_
         rintro e w15 ⟨v15, rfl, hR, hb⟩
         obtain ⟨Am, cm, hv⟩ := Kd.R_slice hR
         rw [members_all, tl_len, List.length_range] at hv
         subst hv
         have HS15 := Aside0.mk (HS14.out.low hb)
         have HB15 := Aside0.mk (below_step HB14.out hb)
         clear hR hb)
      | (go_at_call 15; refine (Apart_walk w.heap.size w13.heap.size 5 5 [.slice Aa (tl (splitAny n (fun _ => 0) 1 l1).1.made).length ca, .slice Ax n cx, .slice Ay n cy, .slice Ac (tl (members n (splitAny n (fun _ => 0) 1 l1).1.C 0)).length cc, .slice Ad (tl (members n (splitAny n (fun _ => 0) 1 l1).1.C 0)).length cd] [tl (splitAny n (fun _ => 0) 1 l1).1.made, (lst n (splitAny n (fun _ => 0) 1 l1).1.C), (lst n (splitAny n (fun _ => 0) 1 l1).1.C), (tl (members n (splitAny n (fun _ => 0) 1 l1).1.C 0)), (tl (members n (splitAny n (fun _ => 0) 1 l1).1.C 0))] (w13.alloc (.cells #[.slice Aa (tl (splitAny n (fun _ => 0) 1 l1).1.made).length ca, .slice Ax n cx, .slice Ay n cy, .slice Ac (tl (members n (splitAny n (fun _ => 0) 1 l1).1.C 0)).length cc, .slice Ad (tl (members n (splitAny n (fun _ => 0) 1 l1).1.C 0)).length cd] 22)) (lists_sep (HS13.out.low (below_alloc (Below.refl w13.heap.size w13) (.cells #[.slice Aa (tl (splitAny n (fun _ => 0) 1 l1).1.made).length ca, .slice Ax n cx, .slice Ay n cy, .slice Ac (tl (members n (splitAny n (fun _ => 0) 1 l1).1.C 0)).length cc, .slice Ad (tl (members n (splitAny n (fun _ => 0) 1 l1).1.C 0)).length cd] 22))) w13.heap.size [.slice Aa (tl (splitAny n (fun _ => 0) 1 l1).1.made).length ca, .slice Ax n cx, .slice Ay n cy, .slice Ac (tl (members n (splitAny n (fun _ => 0) 1 l1).1.C 0)).length cc, .slice Ad (tl (members n (splitAny n (fun _ => 0) 1 l1).1.C 0)).length cd] [tl (splitAny n (fun _ => 0) 1 l1).1.made, (lst n (splitAny n (fun _ => 0) 1 l1).1.C), (lst n (splitAny n (fun _ => 0) 1 l1).1.C), (tl (members n (splitAny n (fun _ => 0) 1 l1).1.C 0)), (tl (members n (splitAny n (fun _ => 0) 1 l1).1.C 0))] [0, 3, 4, 5, 6] (by decide) rfl (blk_new w13 _) HB13.out.size (fun k v l hv hl => by
           match k, hv, hl with
           | 0, hv, hl => obtain rfl := Option.some.inj hv; obtain rfl := Option.some.inj hl; exact ⟨0, rfl, rfl⟩
           | 1, hv, hl => obtain rfl := Option.some.inj hv; obtain rfl := Option.some.inj hl; exact ⟨3, rfl, rfl⟩
           | 2, hv, hl => obtain rfl := Option.some.inj hv; obtain rfl := Option.some.inj hl; exact ⟨4, rfl, rfl⟩
           | 3, hv, hl => obtain rfl := Option.some.inj hv; obtain rfl := Option.some.inj hl; exact ⟨5, rfl, rfl⟩
           | 4, hv, hl => obtain rfl := Option.some.inj hv; obtain rfl := Option.some.inj hl; exact ⟨6, rfl, rfl⟩
           | k + 5, hv, hl => cases hv)) rfl (by decide) HLEN.out (by have := HB13.out.size; simp; omega)).mono ?_
         rintro e w14 ⟨rfl, hbel⟩
         have hS := HS13.out.low (below_alloc (Below.refl w13.heap.size w13) (.cells #[.slice Aa (tl (splitAny n (fun _ => 0) 1 l1).1.made).length ca, .slice Ax n cx, .slice Ay n cy, .slice Ac (tl (members n (splitAny n (fun _ => 0) 1 l1).1.C 0)).length cc, .slice Ad (tl (members n (splitAny n (fun _ => 0) 1 l1).1.C 0)).length cd] 22))
         have hS2 : Sep w.heap.size [none_, ints w.heap.size (.slice Av l1.length cv) zs, ints w.heap.size (.slice Aw n cw) (lst n (splitAny n (fun _ => 0) 1 l1).1.C), none_, none_, none_, none_, part w.heap.size own2 g2 n 1 (fun _ => 0), part w.heap.size own3 g n (splitAny n (fun _ => 0) 1 l1).1.N (splitAny n (fun _ => 0) 1 l1).1.C] (w13.alloc (.cells #[.slice Aa (tl (splitAny n (fun _ => 0) 1 l1).1.made).length ca, .slice Ax n cx, .slice Ay n cy, .slice Ac (tl (members n (splitAny n (fun _ => 0) 1 l1).1.C 0)).length cc, .slice Ad (tl (members n (splitAny n (fun _ => 0) 1 l1).1.C 0)).length cd] 22)) := ((((hS.upd 0 rfl (r' := none_) trivial (fun _ _ _ => rfl) (fun _ hk => hk.elim) (by have := HB13.out.size; simp; omega) (Nat.le_refl _)).upd 3 rfl (r' := none_) trivial (fun _ _ _ => rfl) (fun _ hk => hk.elim) (by have := HB13.out.size; simp; omega) (Nat.le_refl _)).upd 4 rfl (r' := none_) trivial (fun _ _ _ => rfl) (fun _ hk => hk.elim) (by have := HB13.out.size; simp; omega) (Nat.le_refl _)).upd 5 rfl (r' := none_) trivial (fun _ _ _ => rfl) (fun _ hk => hk.elim) (by have := HB13.out.size; simp; omega) (Nat.le_refl _)).upd 6 rfl (r' := none_) trivial (fun _ _ _ => rfl) (fun _ hk => hk.elim) (by have := HB13.out.size; simp; omega) (Nat.le_refl _)
         have HS14 := Aside0.mk (Sep.step hS2 (w1 := w14) (fun r hr k hk hlt => hbel.kept k hlt (fun v hv he => by
           have hv' : ∃ m, m ∈ [0, 3, 4, 5, 6] ∧ ∃ l, ([ints w.heap.size (.slice Aa (tl (splitAny n (fun _ => 0) 1 l1).1.made).length ca) (tl (splitAny n (fun _ => 0) 1 l1).1.made), ints w.heap.size (.slice Av l1.length cv) zs, ints w.heap.size (.slice Aw n cw) (lst n (splitAny n (fun _ => 0) 1 l1).1.C), ints w.heap.size (.slice Ax n cx) (lst n (splitAny n (fun _ => 0) 1 l1).1.C), ints w.heap.size (.slice Ay n cy) (lst n (splitAny n (fun _ => 0) 1 l1).1.C), ints w.heap.size (.slice Ac (tl (members n (splitAny n (fun _ => 0) 1 l1).1.C 0)).length cc) (tl (members n (splitAny n (fun _ => 0) 1 l1).1.C 0)), ints w.heap.size (.slice Ad (tl (members n (splitAny n (fun _ => 0) 1 l1).1.C 0)).length cd) (tl (members n (splitAny n (fun _ => 0) 1 l1).1.C 0)), part w.heap.size own2 g2 n 1 (fun _ => 0), part w.heap.size own3 g n (splitAny n (fun _ => 0) 1 l1).1.N (splitAny n (fun _ => 0) 1 l1).1.C] : List Res)[m]? = some (ints w.heap.size v l) := by
             simp only [List.mem_cons, List.not_mem_nil, or_false] at hv
             rcases hv with rfl | rfl | rfl | rfl | rfl
             · exact ⟨0, by decide, _, rfl⟩
             · exact ⟨3, by decide, _, rfl⟩
             · exact ⟨4, by decide, _, rfl⟩
             · exact ⟨5, by decide, _, rfl⟩
             · exact ⟨6, by decide, _, rfl⟩
           obtain ⟨m, hm1, l, hm2⟩ := hv'
           simp only [List.mem_cons, List.not_mem_nil, or_false] at hr
           rcases hr with rfl | rfl | rfl | rfl | rfl | rfl | rfl | rfl | rfl
           · exact hk
           · exact hS.apart (i := 1) rfl hm2 (by rintro rfl; revert hm1; decide) hk he.symm
           · exact hS.apart (i := 2) rfl hm2 (by rintro rfl; revert hm1; decide) hk he.symm
           · exact hk
           · exact hk
           · exact hk
           · exact hk
           · exact hS.apart (i := 7) rfl hm2 (by rintro rfl; revert hm1; decide) hk he.symm
           · exact hS.apart (i := 8) rfl hm2 (by rintro rfl; revert hm1; decide) hk he.symm)))
         have HB14 := Aside0.mk ((below_alloc HB13.out (.cells #[.slice Aa (tl (splitAny n (fun _ => 0) 1 l1).1.made).length ca, .slice Ax n cx, .slice Ay n cy, .slice Ac (tl (members n (splitAny n (fun _ => 0) 1 l1).1.C 0)).length cc, .slice Ad (tl (members n (splitAny n (fun _ => 0) 1 l1).1.C 0)).length cd] 22)).trans hbel.below)
         clear hbel hS hS2)
      | (go_at_call 14; refine (Members_law HS12.out 8 rfl (by omega) 0 HPP.out.1).mono ?_
         rintro e w13 ⟨v13, rfl, hR, hb⟩
         obtain ⟨Ad, cd, hv⟩ := Kd.R_slice hR
         subst hv
         have HS13 : Aside0 (Sep w.heap.size [ints w.heap.size (.slice Aa (tl (splitAny n (fun _ => 0) 1 l1).1.made).length ca) (tl (splitAny n (fun _ => 0) 1 l1).1.made), ints w.heap.size (.slice Av l1.length cv) zs, ints w.heap.size (.slice Aw n cw) (lst n (splitAny n (fun _ => 0) 1 l1).1.C), ints w.heap.size (.slice Ax n cx) (lst n (splitAny n (fun _ => 0) 1 l1).1.C), ints w.heap.size (.slice Ay n cy) (lst n (splitAny n (fun _ => 0) 1 l1).1.C), ints w.heap.size (.slice Ac (tl (members n (splitAny n (fun _ => 0) 1 l1).1.C 0)).length cc) (tl (members n (splitAny n (fun _ => 0) 1 l1).1.C 0)), ints w.heap.size (.slice Ad (tl (members n (splitAny n (fun _ => 0) 1 l1).1.C 0)).length cd) (tl (members n (splitAny n (fun _ => 0) 1 l1).1.C 0)), part w.heap.size own2 g2 n 1 (fun _ => 0), part w.heap.size own3 g n (splitAny n (fun _ => 0) 1 l1).1.N (splitAny n (fun _ => 0) 1 l1).1.C] w13) := ⟨HS12.out.fillRow 6 rfl rfl hR hb HB12.out.size⟩
         have HB13 := Aside0.mk (below_step HB12.out hb)
         clear hR hb)
      | (go_at_call 14; refine (Members_law HS11.out 8 rfl (by omega) 0 HPP.out.1).mono ?_
         rintro e w12 ⟨v12, rfl, hR, hb⟩
         obtain ⟨Ac, cc, hv⟩ := Kd.R_slice hR
         subst hv
         have HS12 : Aside0 (Sep w.heap.size [ints w.heap.size (.slice Aa (tl (splitAny n (fun _ => 0) 1 l1).1.made).length ca) (tl (splitAny n (fun _ => 0) 1 l1).1.made), ints w.heap.size (.slice Av l1.length cv) zs, ints w.heap.size (.slice Aw n cw) (lst n (splitAny n (fun _ => 0) 1 l1).1.C), ints w.heap.size (.slice Ax n cx) (lst n (splitAny n (fun _ => 0) 1 l1).1.C), ints w.heap.size (.slice Ay n cy) (lst n (splitAny n (fun _ => 0) 1 l1).1.C), ints w.heap.size (.slice Ac (tl (members n (splitAny n (fun _ => 0) 1 l1).1.C 0)).length cc) (tl (members n (splitAny n (fun _ => 0) 1 l1).1.C 0)), none_, part w.heap.size own2 g2 n 1 (fun _ => 0), part w.heap.size own3 g n (splitAny n (fun _ => 0) 1 l1).1.N (splitAny n (fun _ => 0) 1 l1).1.C] w12) := ⟨HS11.out.fillRow 5 rfl rfl hR hb HB11.out.size⟩
         have HB12 := Aside0.mk (below_step HB11.out hb)
         clear hR hb)
      | (go_at_call 13; refine (All_law HS10.out 8 rfl (by omega)).mono ?_
         rintro e w11 ⟨v11, rfl, hR, hb⟩
         obtain ⟨Ay, cy, hv⟩ := Kd.R_slice hR
         rw [lst_len] at hv
         subst hv
         have HS11 : Aside0 (Sep w.heap.size [ints w.heap.size (.slice Aa (tl (splitAny n (fun _ => 0) 1 l1).1.made).length ca) (tl (splitAny n (fun _ => 0) 1 l1).1.made), ints w.heap.size (.slice Av l1.length cv) zs, ints w.heap.size (.slice Aw n cw) (lst n (splitAny n (fun _ => 0) 1 l1).1.C), ints w.heap.size (.slice Ax n cx) (lst n (splitAny n (fun _ => 0) 1 l1).1.C), ints w.heap.size (.slice Ay n cy) (lst n (splitAny n (fun _ => 0) 1 l1).1.C), none_, none_, part w.heap.size own2 g2 n 1 (fun _ => 0), part w.heap.size own3 g n (splitAny n (fun _ => 0) 1 l1).1.N (splitAny n (fun _ => 0) 1 l1).1.C] w11) := ⟨HS10.out.fillRow 4 rfl rfl hR hb HB10.out.size⟩
         have HB11 := Aside0.mk (below_step HB10.out hb)
         clear hR hb)
      | (go_at_call 13; refine (All_law HS9.out 8 rfl (by omega)).mono ?_
         rintro e w10 ⟨v10, rfl, hR, hb⟩
         obtain ⟨Ax, cx, hv⟩ := Kd.R_slice hR
         rw [lst_len] at hv
         subst hv
         have HS10 : Aside0 (Sep w.heap.size [ints w.heap.size (.slice Aa (tl (splitAny n (fun _ => 0) 1 l1).1.made).length ca) (tl (splitAny n (fun _ => 0) 1 l1).1.made), ints w.heap.size (.slice Av l1.length cv) zs, ints w.heap.size (.slice Aw n cw) (lst n (splitAny n (fun _ => 0) 1 l1).1.C), ints w.heap.size (.slice Ax n cx) (lst n (splitAny n (fun _ => 0) 1 l1).1.C), none_, none_, none_, part w.heap.size own2 g2 n 1 (fun _ => 0), part w.heap.size own3 g n (splitAny n (fun _ => 0) 1 l1).1.N (splitAny n (fun _ => 0) 1 l1).1.C] w10) := ⟨HS9.out.fillRow 3 rfl rfl hR hb HB9.out.size⟩
         have HB10 := Aside0.mk (below_step HB9.out hb)
         clear hR hb)
      | (go_at_call 13; refine (All_law HS.out 8 rfl (by omega)).mono ?_
         rintro e w9 ⟨v9, rfl, hR, hb⟩
         obtain ⟨Aw, cw, hv⟩ := Kd.R_slice hR
         rw [lst_len] at hv
         subst hv
         have HS9 : Aside0 (Sep w.heap.size [ints w.heap.size (.slice Aa (tl (splitAny n (fun _ => 0) 1 l1).1.made).length ca) (tl (splitAny n (fun _ => 0) 1 l1).1.made), ints w.heap.size (.slice Av l1.length cv) zs, ints w.heap.size (.slice Aw n cw) (lst n (splitAny n (fun _ => 0) 1 l1).1.C), none_, none_, none_, none_, part w.heap.size own2 g2 n 1 (fun _ => 0), part w.heap.size own3 g n (splitAny n (fun _ => 0) 1 l1).1.N (splitAny n (fun _ => 0) 1 l1).1.C] w9) := ⟨HS.out.fillRow 2 rfl rfl hR hb HB.out.size⟩
         have HB9 := Aside0.mk (below_step HB.out hb)
         clear hR hb))
      go_ret
      exact ⟨rfl, HB19.out⟩
theorem tutorlaw06_BlockOwn.calls (a0 : Int) (A1 : Option Addr) (c1 : Nat) (l1 : List Int) (r : Bool) (w : World) (hr1 : Kd.C (Kd.int .i64) w A1 l1.length l1) (hc1 : l1.length ≤ c1) (h : r = true) : Calls Try.prog 3 #[.int .i64 a0, .slice A1 l1.length c1] w fun e w' => e = .returned (.bool r) ∧ Below w.heap.size w w' := by
  subst h
  cases hm : muchB a0 l1 with
  | true => exact Own_much a0 A1 c1 l1 w hr1 hc1 hm
  | false =>
    have hm' := of_decide_eq_false hm
    by_cases h1 : a0 < 1
    · exact Own_few a0 A1 c1 l1 w hr1 hc1 hm h1
    · by_cases h2 : a0 > 65536
      · exact Own_many a0 A1 c1 l1 w hr1 hc1 hm h2
      · obtain ⟨n, rfl⟩ : ∃ n : Nat, a0 = (n : Int) := ⟨a0.toNat, by omega⟩
        exact Own_main n A1 c1 l1 w hr1 hc1 hm (by omega) (by omega) (by omega)
end Go.Proofs.Ytdalpaobkmoomaa.X
end
