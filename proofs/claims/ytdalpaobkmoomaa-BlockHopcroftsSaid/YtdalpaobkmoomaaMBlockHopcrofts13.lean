/- Texts of the statement BlockHopcrofts, one behind the other: Go functions as Lean functions, the machine's calls, the plain law. -/
import Derived.Test.YtdalpaobkmoomaaMBlockHopcrofts4
import Derived.Test.YtdalpaobkmoomaaMBlockHopcrofts5
import Derived.Test.YtdalpaobkmoomaaMBlockHopcrofts6
import Derived.Test.YtdalpaobkmoomaaMBlockHopcrofts9
import Derived.Test.YtdalpaobkmoomaaMBlockHopcrofts11
set_option linter.unusedVariables false
set_option linter.unusedSimpArgs false
section
namespace Go.Proofs.Ytdalpaobkmoomaa.X
open Go.RowKit Go.Proofs.YtdalpaobkmoomaaW.PrintWords Go.Proofs.YtdalpaobkmoomaaW.PrintLast Go.Proofs.YtdalpaobkmoomaaW.PrintMore
open Go.Proofs.Ytdalpaobkmoomaa Go.Proofs.Ytdalpaobkmoomaa.Sp
def mb5.T5 : Bool × List (List Nat × List Nat) := (true, [([], []), ([0], [0]), ([1], [1]), ([2], [2]), ([], []), ([4], [4]), ([5], [5]), ([6], [6]), ([], []), ([7, 8], [7, 8]), ([9], [9]), ([10], [10]), ([], []), ([12], [12]), ([13], [13]), ([14], [14]), ([], []), ([15, 16], [15, 16]), ([17], [17]), ([18], [18]), ([3, 11, 19], [3, 11, 19]), ([20], [20]), ([21, 21, 0, 1, 2, 3, 4, 5, 6, 7, 8, 9, 10, 11, 12, 13, 14, 15, 16, 17, 18, 19, 20, 21], [21])])
def mb5.B5 : List Nat := [0, 1, 3, 7, 0, 16, 48, 112, 0, 496, 1008, 2032, 0, 4096, 12288, 28672, 0, 126976, 258048, 520192, 1048575, 2097151, 4194303]
theorem mb5.tab5 : rtab .any (opsOf Try.f14 5) = mb5.T5 := by kernel_rfl
theorem mb5.bits5 : waitsOk mb5.T5.2 mb5.B5 = true := by kernel_rfl
attribute [local go_sem] max2_int min2_int max_two min_two max_three min_three max_four min_four
set_option maxHeartbeats 8000000 in
set_option maxRecDepth 100000 in
theorem Count_walk (base : Nat) (own : Nat → Prop) (g n N : Nat) (C : Nat → Nat) (w : World) (h : (part base own g n N C).at_ w) : Calls Try.prog 17 #[.pointer (some ⟨g, 0, none⟩)] w fun e w' => e = .returned (.int .i64 (N : Int)) ∧ Below w.heap.size w w' := by
  obtain ⟨R, P, A, B, gr, cr, gp, cp, gc, gs, cs, hi, hs, _⟩ := h
  have hu64 := Try.underlying64
  have hx : w.cell? ⟨g, 3, none⟩ = some (.slice (some ⟨gs, 0, none⟩) N cs) := (blk_cell (hs.get 0 rfl) 3).trans rfl
  clear hs hi
  go_enter Try.func17, Try.ntmps17
  go_wp2
  go_ret
  exact ⟨rfl, Below.refl _ _⟩
set_option maxHeartbeats 8000000 in
set_option maxRecDepth 100000 in
theorem All_walk (base : Nat) (own : Nat → Prop) (g n N : Nat) (C : Nat → Nat) (w : World) (h : (part base own g n N C).at_ w) (hn : n ≤ 65536) : Calls Try.prog 13 #[.pointer (some ⟨g, 0, none⟩)] w (RowPost w (lst n C)) := by
  obtain ⟨R, P, A, B, gr, cr, gp, cp, gc, gs, cs, hi, hs, _⟩ := h
  have hu64 := Try.underlying64
  have hx : w.cell? ⟨g, 2, none⟩ = some (.slice (some ⟨gc, 0, none⟩) n n) := (blk_cell (hs.get 0 rfl) 2).trans rfl
  have hcl := Clone_calls (some ⟨gc, 0, none⟩) n (lst n C) w (nums_C (hs.get 3 rfl) (by rw [lst_len]; omega)) (by rw [lst_len]; omega) (by rw [lst_len]; omega)
  rw [lst_len] at hcl
  have hcl' : Calls Try.prog 31 #[.slice (some ⟨gc, 0, none⟩) n n] w fun e w' => ∃ v, e = .returned v ∧ Kd.R (Kd.int .i64) 3 w' w.heap.size (fun _ => True) v (lst n C) ∧ Below w.heap.size w w' := hcl
  clear hs hi hcl
  go_enter Try.func13, Try.ntmps13
  go_wp2_with (go_at_call 31; with_reducible refine hcl'.mono ?_; rintro e w1 ⟨v, rfl, hR, hb⟩)
  go_ret
  exact ⟨v, rfl, hR, hb⟩
/-- The members of a class, in their order. -/
def members (n : Nat) (C : Nat → Nat) (c : Nat) : List Nat := (List.range n).filter fun i => C i == c
theorem members_sort {n N : Nat} {C R P A B : Nat → Nat} (h : Inv n N C R P A B) {c : Nat} (hc : c < N) : (((lst n R).take (B c)).drop (A c)).mergeSort (fun x y => decide (x ≤ y)) = tl (members n C c) := by
  have hsp := h.sp c hc
  have e : ((lst n R).take (B c)).drop (A c) = tl ((List.range' (A c) (B c - A c)).map R) := by
    apply List.ext_getElem?
    intro j
    rw [List.getElem?_drop, List.getElem?_take]
    simp only [tl, lst, List.getElem?_map]
    by_cases hj : j < B c - A c
    · rw [if_pos (by omega), List.getElem?_range (by omega)]
      simp [List.getElem?_range', hj]
    · rw [if_neg (by omega)]
      simp [List.getElem?_range', hj]
  obtain ⟨T', h1, h2, h3⟩ := sort_nat ((List.range' (A c) (B c - A c)).map R)
  rw [e, ← h1]
  congr 1
  refine same_sorted ?_ ((List.pairwise_lt_range).filter _) (fun x => ?_)
  · have hnd : ((List.range' (A c) (B c - A c)).map R).Nodup := by
      rw [List.nodup_iff_pairwise_ne, List.pairwise_map]
      refine (List.pairwise_lt_range').imp_of_mem (fun {a b} ha hb hab e => ?_)
      rw [List.mem_range'_1] at ha hb
      have g1 := h.pi a (by omega)
      have g2 := h.pi b (by omega)
      rw [e] at g1
      omega
    have hnd' : T'.Nodup := h2.nodup_iff.2 hnd
    rw [List.nodup_iff_pairwise_ne] at hnd'
    exact (h3.and hnd').imp (fun {a b} hh => by omega)
  · rw [h2.mem_iff, List.mem_map]
    simp only [members, List.mem_filter, List.mem_range, beq_iff_eq]
    constructor
    · rintro ⟨p, hp, rfl⟩
      rw [List.mem_range'_1] at hp
      have g := h.some hc (p := p) (by omega) (by omega)
      exact ⟨g.1, g.2.2⟩
    · rintro ⟨hx, hcx⟩
      have g1 := h.ip x hx
      have g2 := h.at' x hx
      rw [hcx] at g2
      exact ⟨P x, by rw [List.mem_range'_1]; omega, g1.2⟩
set_option maxHeartbeats 8000000 in
set_option maxRecDepth 100000 in
theorem Members_walk (base : Nat) (own : Nat → Prop) (g n N : Nat) (C : Nat → Nat) (w : World) (h : (part base own g n N C).at_ w) (c : Nat) (hc : c < N) (hn : n ≤ 65536) : Calls Try.prog 14 #[.pointer (some ⟨g, 0, none⟩), .int .i64 (c : Int)] w fun e w' => ∃ v, e = .returned (.tuple #[v, .int .i64 0]) ∧ Kd.R (Kd.int .i64) 3 w' w.heap.size (fun _ => True) v (tl (members n C c)) ∧ Below w.heap.size w w' := by
  obtain ⟨R, P, A, B, gr, cr, gp, cp, gc, gs, cs, hi, hs, _⟩ := h
  have hu64 := Try.underlying64
  have hu22 := Try.underlying22
  have hu62 := Try.underlying62
  have hu61 := Try.underlying61
  have HS := Aside0.mk hs
  have HI := Aside0.mk hi
  have hx3 : w.cell? ⟨g, 3, none⟩ = some (.slice (some ⟨gs, 0, none⟩) N cs) := (blk_cell (hs.get 0 rfl) 3).trans rfl
  have h1 : ¬ (c : Int) < 0 := by omega
  have h2 : (c : Int) < (N : Int) := by omega
  have h3 : ¬ (c : Int) ≥ (N : Int) := by omega
  have hsp := hi.sp c hc
  have hcr : n ≤ cr := (Kd.R_reads' (hs.get 1 rfl)).2.1
  have h4 : (A c : Int) ≤ (B c : Int) := by omega
  have h5 : (B c : Int) ≤ (cr : Int) := by omega
  have h6 : ¬ cr = A c := by omega
  have hxl : (((lst n R).take (B c)).drop (A c)).length = B c - A c := by rw [List.length_drop, List.length_take, lst_len]; omega
  have hcl : ∀ W, Sep base (pcs base g n N C R P A B gr cr gp cp gc gs cs) W → Calls Try.prog 31 #[.slice (some ⟨gr, A c, none⟩) (B c - A c) (cr - A c)] W fun e w' => ∃ v, e = .returned v ∧ Kd.R (Kd.int .i64) 3 w' W.heap.size (fun _ => True) v (((lst n R).take (B c)).drop (A c)) ∧ Below W.heap.size W w' := fun W hS => by
    have h1 := (Kd.R_reads' (hS.get 1 rfl)).2.2
    have h2 := Kd.C_mid (lo := A c) (hi := B c) (c := cr) h1 (by omega) (by rw [lst_len]; omega) (by rw [lst_len]; omega)
    rw [if_neg h6] at h2
    have h3 : Kd.C (Kd.int .i64) W (some ⟨gr, A c, none⟩) (((lst n R).take (B c)).drop (A c)).length (((lst n R).take (B c)).drop (A c)) := by
      have e : (Option.map (fun x : Addr => x.add (A c * (Kd.int .i64).sz)) (some ⟨gr, 0, none⟩)) = some ⟨gr, A c, none⟩ := by
        show some ((⟨gr, 0, none⟩ : Addr).add (A c * 1)) = _
        rw [Addr.add_mid, Nat.zero_add, Nat.mul_one]
      rw [e] at h2
      exact h2
    have h4 := Clone_calls (some ⟨gr, A c, none⟩) (cr - A c) (((lst n R).take (B c)).drop (A c)) W h3 (by rw [hxl]; omega) (by rw [hxl]; omega)
    rw [hxl] at h4
    exact h4
  have hms := members_sort hi hc
  have hlb : (((lst n R).take (B c)).drop (A c)).length < 4611686018427387904 := by rw [hxl]; omega
  clear hi hxl
  go_enter Try.func14, Try.ntmps14
  go_wp2
  have HE : Aside0 (Sep base (pcs base g n N C R P A B gr cr gp cp gc gs cs) w.drew) := ⟨hs.low (below_drew1 (Below.refl _ _))⟩
  have HD : Aside0 (Below w.heap.size w w.drew) := ⟨below_drew1 (Below.refl _ _)⟩
  clear hs hx3
  refine start_ (n := 23) (S := fun w' => w'.cell? ⟨g, 0, none⟩ = some (.slice (some ⟨gr, 0, none⟩) n cr) ∧ w'.cell? ⟨g, 3, none⟩ = some (.slice (some ⟨gs, 0, none⟩) N cs) ∧ w'.cell? ⟨gs, c * 2, none⟩ = some (.int .i64 (A c : Int)) ∧ w'.cell? ⟨gs, c * 2 + 1, none⟩ = some (.int .i64 (B c : Int))) (ds := [21]) #[false, false, false, false, false, false, false, false, false, false, false, false, false, false, false, false, false, false, false, false, false, false, false] (by kernel_rfl) rfl rfl ⟨(blk_cell (HE.out.get 0 rfl) 0).trans rfl, (blk_cell (HE.out.get 0 rfl) 3).trans rfl, (pair_cells (HE.out.get 4 rfl) c _ (slst_get A B hc)).1, (pair_cells (HE.out.get 4 rfl) c _ (slst_get A B hc)).2.1⟩ (fun hHeld => ?_)
  refine with_tabW mb5.tab5 mb5.bits5 (fun HT_ HW_ => ?_)
  have HE2 := HE
  clear HE
  have HWD : Aside0 (w.heap.size = w.drew.heap.size) := ⟨rfl⟩
  generalize w.drew = wd at HE2 HD HWD hHeld ⊢
  refine pure_ (i := 0) (N := (some 22)) (v := ?_) (a' := ?_) #[true, false, false, false, false, false, false, false, false, false, false, false, false, false, false, false, false, false, false, false, false, false, false] rfl rfl (any_of HT_.out (by kernel_rfl)) (fun _ _ _ h => h) (Or.inl ⟨by rfl, ?_⟩) ?_ ?_
  rotate_left
  · intro w'
    go_simp
    with_reducible rfl
  rotate_left
  · simp only [Act.put, List.setIfInBounds_toArray, List.set_cons_zero, List.set_cons_succ, i64_w, i32_w]
    rfl
  refine pure_ (i := 1) (N := (some 23)) (v := ?_) (a' := ?_) #[true, true, false, false, false, false, false, false, false, false, false, false, false, false, false, false, false, false, false, false, false, false, false] rfl rfl (any_of HT_.out (by kernel_rfl)) (fun _ _ _ h => h) (Or.inl ⟨by rfl, ?_⟩) ?_ ?_
  rotate_left
  · intro w'
    go_simp
    with_reducible rfl
  rotate_left
  · simp only [Act.put, List.setIfInBounds_toArray, List.set_cons_zero, List.set_cons_succ, i64_w, i32_w]
    rfl
  refine pure_ (i := 2) (N := (some 24)) (v := ?_) (a' := ?_) #[true, true, true, false, false, false, false, false, false, false, false, false, false, false, false, false, false, false, false, false, false, false, false] rfl rfl (any_of HT_.out (by kernel_rfl)) (fun _ _ _ h => h) (Or.inl ⟨by rfl, ?_⟩) ?_ ?_
  rotate_left
  · intro w'
    go_simp
    with_reducible rfl
  rotate_left
  · simp only [Act.put, List.setIfInBounds_toArray, List.set_cons_zero, List.set_cons_succ, i64_w, i32_w]
    rfl
  refine pure_ (i := 4) (N := (some 26)) (v := ?_) (a' := ?_) #[true, true, true, false, true, false, false, false, false, false, false, false, false, false, false, false, false, false, false, false, false, false, false] rfl rfl (any_of HT_.out (by kernel_rfl)) (fun _ _ _ h => h) (Or.inl ⟨by rfl, ?_⟩) ?_ ?_
  rotate_left
  · intro w'
    go_simp
    with_reducible rfl
  rotate_left
  · simp only [Act.put, List.setIfInBounds_toArray, List.set_cons_zero, List.set_cons_succ, i64_w, i32_w]
    rfl
  refine pure_ (i := 5) (N := (some 27)) (v := ?_) (a' := ?_) #[true, true, true, false, true, true, false, false, false, false, false, false, false, false, false, false, false, false, false, false, false, false, false] rfl rfl (any_of HT_.out (by kernel_rfl)) (fun _ _ _ h => h) (Or.inl ⟨by rfl, ?_⟩) ?_ ?_
  rotate_left
  · intro w'
    go_simp
    with_reducible rfl
  rotate_left
  · simp only [Act.put, List.setIfInBounds_toArray, List.set_cons_zero, List.set_cons_succ, i64_w, i32_w]
    rfl
  refine pure_ (i := 6) (N := (some 28)) (v := ?_) (a' := ?_) #[true, true, true, false, true, true, true, false, false, false, false, false, false, false, false, false, false, false, false, false, false, false, false] rfl rfl (any_of HT_.out (by kernel_rfl)) (fun _ _ _ h => h) (Or.inl ⟨by rfl, ?_⟩) ?_ ?_
  rotate_left
  · intro w'
    go_simp
    with_reducible rfl
  rotate_left
  · simp only [Act.put, List.setIfInBounds_toArray, List.set_cons_zero, List.set_cons_succ, i64_w, i32_w]
    rfl
  refine pure_ (i := 8) (N := (some 30)) (v := ?_) (a' := ?_) #[true, true, true, false, true, true, true, false, true, false, false, false, false, false, false, false, false, false, false, false, false, false, false] rfl rfl (any_of HT_.out (by kernel_rfl)) (fun _ _ _ h => h) (Or.inl ⟨by rfl, ?_⟩) ?_ ?_
  rotate_left
  · intro w'
    go_simp
    with_reducible rfl
  rotate_left
  · simp only [Act.put, List.setIfInBounds_toArray, List.set_cons_zero, List.set_cons_succ, i64_w, i32_w]
    rfl
  refine pure_ (i := 12) (N := (some 34)) (v := ?_) (a' := ?_) #[true, true, true, false, true, true, true, false, true, false, false, false, true, false, false, false, false, false, false, false, false, false, false] rfl rfl (any_of HT_.out (by kernel_rfl)) (fun _ _ _ h => h) (Or.inl ⟨by rfl, ?_⟩) ?_ ?_
  rotate_left
  · intro w'
    go_simp
    with_reducible rfl
  rotate_left
  · simp only [Act.put, List.setIfInBounds_toArray, List.set_cons_zero, List.set_cons_succ, i64_w, i32_w]
    rfl
  refine pure_ (i := 13) (N := (some 35)) (v := ?_) (a' := ?_) #[true, true, true, false, true, true, true, false, true, false, false, false, true, true, false, false, false, false, false, false, false, false, false] rfl rfl (any_of HT_.out (by kernel_rfl)) (fun _ _ _ h => h) (Or.inl ⟨by rfl, ?_⟩) ?_ ?_
  rotate_left
  · intro w'
    go_simp
    with_reducible rfl
  rotate_left
  · simp only [Act.put, List.setIfInBounds_toArray, List.set_cons_zero, List.set_cons_succ, i64_w, i32_w]
    rfl
  refine pure_ (i := 14) (N := (some 36)) (v := ?_) (a' := ?_) #[true, true, true, false, true, true, true, false, true, false, false, false, true, true, true, false, false, false, false, false, false, false, false] rfl rfl (any_of HT_.out (by kernel_rfl)) (fun _ _ _ h => h) (Or.inl ⟨by rfl, ?_⟩) ?_ ?_
  rotate_left
  · intro w'
    go_simp
    with_reducible rfl
  rotate_left
  · simp only [Act.put, List.setIfInBounds_toArray, List.set_cons_zero, List.set_cons_succ, i64_w, i32_w]
    rfl
  refine pure_ (i := 16) (N := (some 38)) (v := ?_) (a' := ?_) #[true, true, true, false, true, true, true, false, true, false, false, false, true, true, true, false, true, false, false, false, false, false, false] rfl rfl (any_of HT_.out (by kernel_rfl)) (fun _ _ _ h => h) (Or.inl ⟨by rfl, ?_⟩) ?_ ?_
  rotate_left
  · intro w'
    go_simp
    with_reducible rfl
  rotate_left
  · simp only [Act.put, List.setIfInBounds_toArray, List.set_cons_zero, List.set_cons_succ, i64_w, i32_w]
    rfl
  refine take_ (i := 3) (N := (some 25)) (v := ?_) (a' := ?_) #[true, true, true, true, true, true, true, false, true, false, false, false, true, true, true, false, true, false, false, false, false, false, false] rfl rfl (take_ofW HT_.out HW_.out (by kernel_rfl)) (fun _ _ _ h => h) (Or.inl ⟨by rfl, ?_⟩) hHeld ?_ ?_
  rotate_left
  · rintro w' ⟨s0, s1, s2, s3⟩
    go_simp
    with_reducible rfl
  rotate_left
  · simp only [Act.put, List.setIfInBounds_toArray, List.set_cons_zero, List.set_cons_succ, i64_w, i32_w]
    rfl
  refine take_ (i := 7) (N := (some 29)) (v := ?_) (a' := ?_) #[true, true, true, true, true, true, true, true, true, false, false, false, true, true, true, false, true, false, false, false, false, false, false] rfl rfl (take_ofW HT_.out HW_.out (by kernel_rfl)) (fun _ _ _ h => h) (Or.inl ⟨by rfl, ?_⟩) hHeld ?_ ?_
  rotate_left
  · rintro w' ⟨s0, s1, s2, s3⟩
    go_simp
    with_reducible rfl
  rotate_left
  · simp only [Act.put, List.setIfInBounds_toArray, List.set_cons_zero, List.set_cons_succ, i64_w, i32_w]
    rfl
  refine pure_ (i := 9) (N := (some 31)) (v := ?_) (a' := ?_) #[true, true, true, true, true, true, true, true, true, true, false, false, true, true, true, false, true, false, false, false, false, false, false] rfl rfl (any_of HT_.out (by kernel_rfl)) (fun _ _ _ h => h) (Or.inl ⟨by rfl, ?_⟩) ?_ ?_
  rotate_left
  · intro w'
    go_simp
    with_reducible rfl
  rotate_left
  · simp only [Act.put, List.setIfInBounds_toArray, List.set_cons_zero, List.set_cons_succ, i64_w, i32_w]
    rfl
  refine pure_ (i := 10) (N := (some 32)) (v := ?_) (a' := ?_) #[true, true, true, true, true, true, true, true, true, true, true, false, true, true, true, false, true, false, false, false, false, false, false] rfl rfl (any_of HT_.out (by kernel_rfl)) (fun _ _ _ h => h) (Or.inl ⟨by rfl, ?_⟩) ?_ ?_
  rotate_left
  · intro w'
    go_simp
    with_reducible rfl
  rotate_left
  · simp only [Act.put, List.setIfInBounds_toArray, List.set_cons_zero, List.set_cons_succ, i64_w, i32_w]
    rfl
  refine take_ (i := 11) (N := (some 33)) (v := ?_) (a' := ?_) #[true, true, true, true, true, true, true, true, true, true, true, true, true, true, true, false, true, false, false, false, false, false, false] rfl rfl (take_ofW HT_.out HW_.out (by kernel_rfl)) (fun _ _ _ h => h) (Or.inl ⟨by rfl, ?_⟩) hHeld ?_ ?_
  rotate_left
  · rintro w' ⟨s0, s1, s2, s3⟩
    go_simp
    with_reducible rfl
  rotate_left
  · simp only [Act.put, List.setIfInBounds_toArray, List.set_cons_zero, List.set_cons_succ, i64_w, i32_w]
    rfl
  refine take_ (i := 15) (N := (some 37)) (v := ?_) (a' := ?_) #[true, true, true, true, true, true, true, true, true, true, true, true, true, true, true, true, true, false, false, false, false, false, false] rfl rfl (take_ofW HT_.out HW_.out (by kernel_rfl)) (fun _ _ _ h => h) (Or.inl ⟨by rfl, ?_⟩) hHeld ?_ ?_
  rotate_left
  · rintro w' ⟨s0, s1, s2, s3⟩
    go_simp
    with_reducible rfl
  rotate_left
  · simp only [Act.put, List.setIfInBounds_toArray, List.set_cons_zero, List.set_cons_succ, i64_w, i32_w]
    rfl
  refine pure_ (i := 17) (N := (some 39)) (v := ?_) (a' := ?_) #[true, true, true, true, true, true, true, true, true, true, true, true, true, true, true, true, true, true, false, false, false, false, false] rfl rfl (any_of HT_.out (by kernel_rfl)) (fun _ _ _ h => h) (Or.inl ⟨by rfl, ?_⟩) ?_ ?_
  rotate_left
  · intro w'
    go_simp
    with_reducible rfl
  rotate_left
  · simp only [Act.put, List.setIfInBounds_toArray, List.set_cons_zero, List.set_cons_succ, i64_w, i32_w]
    rfl
  refine pure_ (i := 18) (N := (some 40)) (v := ?_) (a' := ?_) #[true, true, true, true, true, true, true, true, true, true, true, true, true, true, true, true, true, true, true, false, false, false, false] rfl rfl (any_of HT_.out (by kernel_rfl)) (fun _ _ _ h => h) (Or.inl ⟨by rfl, ?_⟩) ?_ ?_
  rotate_left
  · intro w'
    go_simp
    with_reducible rfl
  rotate_left
  · simp only [Act.put, List.setIfInBounds_toArray, List.set_cons_zero, List.set_cons_succ, i64_w, i32_w]
    rfl
  refine take_ (i := 19) (N := (some 41)) (v := ?_) (a' := ?_) #[true, true, true, true, true, true, true, true, true, true, true, true, true, true, true, true, true, true, true, true, false, false, false] rfl rfl (take_ofW HT_.out HW_.out (by kernel_rfl)) (fun _ _ _ h => h) (Or.inl ⟨by rfl, ?_⟩) hHeld ?_ ?_
  rotate_left
  · rintro w' ⟨s0, s1, s2, s3⟩
    go_simp
    with_reducible rfl
  rotate_left
  · simp only [Act.put, List.setIfInBounds_toArray, List.set_cons_zero, List.set_cons_succ, i64_w, i32_w]
    rfl
  refine pure_ (i := 20) (N := (some 42)) (v := ?_) (a' := ?_) #[true, true, true, true, true, true, true, true, true, true, true, true, true, true, true, true, true, true, true, true, true, false, false] rfl rfl (any_of HT_.out (by kernel_rfl)) (fun _ _ _ h => h) (Or.inl ⟨by rfl, ?_⟩) ?_ ?_
  rotate_left
  · intro w'
    go_simp
    with_reducible rfl
  rotate_left
  · simp only [Act.put, List.setIfInBounds_toArray, List.set_cons_zero, List.set_cons_succ, i64_w, i32_w]
    rfl
  refine last_ (i := 21) (N := (some 43)) #[true, true, true, true, true, true, true, true, true, true, true, true, true, true, true, true, true, true, true, true, true, true, false] rfl rfl (one_of HT_.out (by kernel_rfl)) (by decide) (fun K hK => ?_)
  refine goes_ Try.func31 (by kernel_rfl) rfl #[.slice (some ⟨gr, A c, none⟩) (B c - A c) (cr - A c)] (by rfl) rfl rfl (by simp [Act.eval]) ?_
  refine (hcl wd HE2.out).mono ?_
  rintro e w8 ⟨v8, rfl, hR8, hb8⟩
  refine ⟨_, rfl, ?_⟩
  have HR8 := Aside0.mk hR8
  have HB8 := Aside0.mk hb8
  clear hR8 hb8
  refine hK.out _ _ ?_; clear hK K
  refine norm_ (a' := ?_) ?_ ?_
  rotate_left
  · show Act.put _ (some 43) _ = _
    simp only [Act.put, List.setIfInBounds_toArray, List.set_cons_zero, List.set_cons_succ, i64_w, i32_w]
    rfl
  refine pure_ (i := 22) (N := (some 6)) (v := ?_) (a' := ?_) #[true, true, true, true, true, true, true, true, true, true, true, true, true, true, true, true, true, true, true, true, true, true, true] rfl rfl (any_of HT_.out (by kernel_rfl)) (fun _ _ _ h => h) (Or.inl ⟨by rfl, ?_⟩) ?_ ?_
  rotate_left
  · intro w'
    go_simp
    with_reducible rfl
  rotate_left
  · simp only [Act.put, List.setIfInBounds_toArray, List.set_cons_zero, List.set_cons_succ, i64_w, i32_w]
    rfl
  refine done_ (done_of HT_.out (by kernel_rfl)) ?_
  have HHD : Aside0 (Hold wd.heap.size (fun _ => False) wd [ints wd.heap.size v8 (((lst n R).take (B c)).drop (A c))] w8) := ⟨⟨⟨fun r hr => by
    rw [List.mem_singleton] at hr
    subst hr
    refine ⟨Kd.R_tight rfl HR8.out, fun k hk => ?_⟩
    have hk' : some k = v8.ownBlock := hk
    refine ⟨?_, Kd.R_lt HR8.out k hk'.symm⟩
    rcases Kd.R_base2 HR8.out with h3 | ⟨j, h3, h4⟩
    · rw [h3] at hk'; cases hk'
    · rw [h3] at hk'; injection hk' with h1; omega, List.pairwise_singleton _ _⟩, fun r hr k hk => .inr (by
    rw [List.mem_singleton] at hr
    subst hr
    have hk' : some k = v8.ownBlock := hk
    rcases Kd.R_base2 HR8.out with h3 | ⟨j, h3, h4⟩
    · rw [h3] at hk'; cases hk'
    · rw [h3] at hk'; injection hk' with h1; omega), fun k hk _ => HB8.out.block k hk, HB8.out, Nat.le_refl _⟩⟩
  clear hHeld hcl HE2
  go_wp2_with (go_at_call 30; refine (sort_calls HHD.out 0 rfl hlb).mono ?_; rintro e w12 ⟨rfl, hso⟩; rw [hms] at hso; have HSO := Aside0.mk hso; clear hso)
  go_ret2
  have hwd : w.heap.size = wd.heap.size := HWD.out
  refine ⟨v8, rfl, ?_, ?_⟩
  · rw [hwd]
    exact Kd.R_mono (HSO.out.get 0 rfl) (fun _ _ => trivial)
  · have h := HD.out
    have h2 := HSO.out.below
    exact below_then h (Nat.le_of_eq hwd) h2
end Go.Proofs.Ytdalpaobkmoomaa.X
end

section
namespace Go.Proofs.Ytdalpaobkmoomaa.X
open Go.RowKit Go.Proofs.YtdalpaobkmoomaaW.PrintWords Go.Proofs.YtdalpaobkmoomaaW.PrintLast Go.Proofs.YtdalpaobkmoomaaW.PrintMore
open Go.Proofs.Ytdalpaobkmoomaa Go.Proofs.Ytdalpaobkmoomaa.Sp
theorem rd_nat {xs : List Int} {i : Nat} (h : i < xs.length) : rd xs (i : Int) = xs[i] := by simp [rd, List.getD_eq_getElem?_getD, List.getElem?_eq_getElem h]
theorem same_l0 (a b : List Int) (hl : a.length = b.length) (hb : a.length ≤ 1000000000) : ∀ (d k i : Nat), i + d = a.length → d < k → tutorref01_Same.l0 k a b (i : Int) = some (decide (a.drop i = b.drop i)) := by
  intro d
  induction d with
  | zero =>
    intro k i h hk
    obtain ⟨k, rfl⟩ : ∃ m, k = m + 1 := ⟨k - 1, by omega⟩
    simp only [tutorref01_Same.l0]
    rw [if_neg (by omega), List.drop_of_length_le (by omega), List.drop_of_length_le (by omega)]
    rfl
  | succ d ih =>
    intro k i h hk
    obtain ⟨k, rfl⟩ : ∃ m, k = m + 1 := ⟨k - 1, by omega⟩
    simp only [tutorref01_Same.l0]
    have hda : a.drop i = a[i]'(by omega) :: a.drop (i + 1) := List.drop_eq_getElem_cons (by omega)
    have hdb : b.drop i = b[i]'(by omega) :: b.drop (i + 1) := List.drop_eq_getElem_cons (by omega)
    rw [if_pos (by omega), if_pos (by omega), if_pos (by omega), rd_nat (by omega), rd_nat (by omega), hda, hdb]
    by_cases he : a[i]'(by omega) = b[i]'(by omega)
    · rw [if_pos he, w64s (by omega), ih k (i + 1) (by omega) (by omega), he]
      congr 1
      exact decide_eq_decide.2 ⟨fun h => by rw [h], fun h => (List.cons.inj h).2⟩
    · rw [if_neg he]
      congr 1
      exact (decide_eq_false (fun h => he (List.cons.inj h).1)).symm
theorem same_f {a b : List Int} {k : Nat} (hb : a.length ≤ 1000000000) (hk : a.length < k) : tutorref01_Same.f k a b = some (decide (a = b)) := by
  unfold tutorref01_Same.f
  by_cases hl : a.length = b.length
  · rw [if_pos (by omega)]
    have := same_l0 a b hl hb a.length k 0 (by omega) hk
    simpa using this
  · rw [if_neg (by omega)]
    have : a ≠ b := fun h => hl (by rw [h])
    simp [this]
/-- Same of two rows, with lengths as they are told. -/
theorem same_calls (A0 : Option Addr) (n c0 : Nat) (a : List Int) (A1 : Option Addr) (m c1 : Nat) (b : List Int) (w : World) (h0 : Kd.C (Kd.int .i64) w A0 n a) (hc0 : n ≤ c0) (h1 : Kd.C (Kd.int .i64) w A1 m b) (hc1 : m ≤ c1) (hl : n ≤ 1000000000) :
    Calls Try.prog 16 #[.slice A0 n c0, .slice A1 m c1] w fun e w' => e = .returned (.bool (decide (a = b))) ∧ Drawn0 w w' := by
  have e0 := Kd.C_len h0
  have e1 := Kd.C_len h1
  subst e0
  subst e1
  exact tutorref01_Same.calls (a.length + 1) A0 c0 a A1 c1 b _ w h0 hc0 h1 hc1 (same_f hl (by omega))
/-- The reading of a row of the call's own. -/
theorem row_C {w : World} {base : Nat} {ok : Nat → Prop} {A : Option Addr} {n c : Nat} {xs : List Int} (h : Kd.R (Kd.int .i64) 3 w base ok (.slice A n c) xs) : Kd.C (Kd.int .i64) w A n xs ∧ n ≤ c := by
  obtain ⟨h1, h2, h3⟩ := Kd.R_reads' h
  exact ⟨h1 ▸ h3, h2⟩
theorem lit_C {w : World} {g n : Nat} {xs : List Int} {cs : Array Value} (h : w.heap[g]? = some (.cells cs 3 (0, 0))) (e : cs = numsA xs) (hn : n = xs.length) (hm : n ≤ 1000000000) : Kd.C (Kd.int .i64) w (some ⟨g, 0, none⟩) n xs := by
  subst e
  subst hn
  exact nums_C h (by omega)
/-- A piece that a call turned, and a row that it answered. -/
theorem Sep.turn {base : Nat} {own : Nat → Prop} {rs : List Res} {w w1 : World} {p p' m : Res} (h : Sep base rs w) (i j : Nat) (hi : rs[i]? = some p) (hp : ∀ k, p.own k → own k) (hp2 : ∀ k, own k → p.own k) (hj : rs[j]? = some none_) (hij : i ≠ j) (hh : Hold base own w [m, p'] w1) : Sep base ((rs.set i p').set j m) w1 := by
  have hil := (List.getElem?_eq_some_iff.1 hi).1
  have hjl := (List.getElem?_eq_some_iff.1 hj).1
  have hget : ∀ a x, ((rs.set i p').set j m)[a]? = some x → (a = j ∧ x = m) ∨ (a ≠ j ∧ a = i ∧ x = p') ∨ (a ≠ j ∧ a ≠ i ∧ rs[a]? = some x) := by
    intro a x hx
    by_cases ha : a = j
    · subst ha
      rw [List.getElem?_set_self (by simpa using hjl)] at hx
      exact .inl ⟨rfl, (Option.some.inj hx).symm⟩
    · rw [List.getElem?_set_ne (fun e => ha e.symm)] at hx
      by_cases hb : a = i
      · subst hb
        rw [List.getElem?_set_self hil] at hx
        exact .inr (.inl ⟨ha, rfl, (Option.some.inj hx).symm⟩)
      · rw [List.getElem?_set_ne (fun e => hb e.symm)] at hx
        exact .inr (.inr ⟨ha, hb, hx⟩)
  have old : ∀ a x, a ≠ i → rs[a]? = some x → ∀ k, x.own k → ¬ own k ∧ k < w.heap.size ∧ base ≤ k := fun a x ha hx k hk => ⟨fun ho => h.apart hx hi ha hk (hp2 k ho), (h.bound a hx hk).2, (h.bound a hx hk).1⟩
  have new : ∀ r ∈ [m, p'], ∀ k, r.own k → own k ∨ w.heap.size ≤ k := hh.mine
  refine Sep.of_apart (fun a x hx => ?_) (fun a b x y hx hy hab k hk hk' => ?_)
  · rcases hget a x hx with ⟨_, rfl⟩ | ⟨_, _, rfl⟩ | ⟨_, h2, h3⟩
    · exact ⟨hh.get 0 rfl, fun k hk => hh.sep.bound 0 rfl hk⟩
    · exact ⟨hh.get 1 rfl, fun k hk => hh.sep.bound 1 rfl hk⟩
    · refine ⟨x.step (h.get a h3) (fun k hk hlt => hh.kept k hlt (old a x h2 h3 k hk).1), fun k hk => ?_⟩
      have := old a x h2 h3 k hk
      have := hh.size
      omega
  · rcases hget a x hx with ⟨ha, rfl⟩ | ⟨ha, ha2, rfl⟩ | ⟨ha, ha2, hx3⟩
    · rcases hget b y hy with ⟨hb, rfl⟩ | ⟨hb, hb2, rfl⟩ | ⟨hb, hb2, hy3⟩
      · exact hab (ha.trans hb.symm)
      · exact hh.sep.apart (i := 0) (j := 1) rfl rfl (by decide) hk hk'
      · have g1 := old b y hb2 hy3 k hk'
        rcases new x (by simp) k hk with h1 | h1
        · exact g1.1 h1
        · omega
    · rcases hget b y hy with ⟨hb, rfl⟩ | ⟨hb, hb2, rfl⟩ | ⟨hb, hb2, hy3⟩
      · exact hh.sep.apart (i := 1) (j := 0) rfl rfl (by decide) hk hk'
      · exact hab (ha2.trans hb2.symm)
      · have g1 := old b y hb2 hy3 k hk'
        rcases new x (by simp) k hk with h1 | h1
        · exact g1.1 h1
        · omega
    · have g1 := old a x ha2 hx3 k hk
      rcases hget b y hy with ⟨hb, rfl⟩ | ⟨hb, hb2, rfl⟩ | ⟨hb, hb2, hy3⟩
      · rcases new y (by simp) k hk' with h1 | h1
        · exact g1.1 h1
        · omega
      · rcases new y (by simp) k hk' with h1 | h1
        · exact g1.1 h1
        · omega
      · exact h.apart hx3 hy3 hab hk hk'
/-- Split, by a Part among other pieces. -/
theorem Split_law {base : Nat} {own : Nat → Prop} {rs : List Res} {w : World} {g n N : Nat} {C : Nat → Nat} (h : Sep base rs w) (i j : Nat) (hi : rs[i]? = some (part base own g n N C)) (hj : rs[j]? = some none_) (hij : i ≠ j) (hb : base ≤ w.heap.size) (hn0 : 0 < n) (hn : n ≤ 65536) (l : List Nat) (hl : ∀ x ∈ l, x < n) (hll : l.length ≤ 1000000) (Al : Option Addr) (m cl : Nat) (hm : m = l.length)
    (hrd : ∀ w1, (∀ k, k < w.heap.size → ¬ own k → w1.heap[k]? = w.heap[k]?) → Kd.C (Kd.int .i64) w1 Al m (tl l)) :
    Calls Try.prog 12 #[.pointer (some ⟨g, 0, none⟩), .slice Al m cl] w fun e w' => ∃ (mv : Value) (own' : Nat → Prop), e = .returned (.tuple #[mv, .int .i64 0]) ∧ Sep base ((rs.set i (part base own' g n (splitOf n C N l).N (splitOf n C N l).C)).set j (ints base mv (tl (splitOf n C N l).made))) w' ∧ Below base w w' := by
  subst hm
  obtain ⟨R, P, A, B, gr, cr, gp, cp, gc, gs, cs, h1, h2, h3⟩ := h.get i hi
  have H : Hold base own w (pcs base g n N C R P A B gr cr gp cp gc gs cs) w := Hold.start h2 h3 hb
  refine (Split_walk base own w g n N C R P A B gr cr gp cp gc gs cs l Al cl H h1 hn0 hn hl hll hrd).mono ?_
  rintro e w' ⟨mv, own', rfl, hh0⟩
  have hh : Hold base own w [ints base mv (tl (splitOf n C N l).made), part base own' g n (splitOf n C N l).N (splitOf n C N l).C] w' := hh0.upd 1 rfl (partM_part (hh0.get 1 rfl)) (fun _ _ _ => rfl) (fun k hk => ⟨.inl hk, (hh0.sep.bound 1 rfl hk).2⟩) (Nat.le_refl _) hh0.below
  exact ⟨mv, own', rfl, Sep.turn h i j hi (fun _ hk => hk) (fun _ hk => hk) hj hij hh, hh.below⟩
theorem Split_lawM {base : Nat} {own : Nat → Prop} {rs : List Res} {w : World} {g n N : Nat} {C : Nat → Nat} (h : Sep base rs w) (i j : Nat) (hi : rs[i]? = some (part base own g n N C)) (hj : rs[j]? = some none_) (hij : i ≠ j) (hb : base ≤ w.heap.size) (hn0 : 0 < n) (hn : n ≤ 65536) (l : List Nat) (hl : ∀ x ∈ l, x < n) (hll : l.length ≤ 1000000) (Al : Option Addr) (m cl : Nat) (hm : m = l.length)
    (hrd : ∀ w1, (∀ k, k < w.heap.size → ¬ own k → w1.heap[k]? = w.heap[k]?) → Kd.C (Kd.int .i64) w1 Al m (tl l)) :
    Calls Try.prog 12 #[.pointer (some ⟨g, 0, none⟩), .slice Al m cl] w fun e w' => ∃ (mv : Value) (own' : Nat → Prop), e = .returned (.tuple #[mv, .int .i64 0]) ∧ Sep base ((rs.set i (partM base own' g n (splitOf n C N l).N (splitOf n C N l).C N C)).set j (ints base mv (tl (splitOf n C N l).made))) w' ∧ Below base w w' := by
  subst hm
  obtain ⟨R, P, A, B, gr, cr, gp, cp, gc, gs, cs, h1, h2, h3⟩ := h.get i hi
  have H : Hold base own w (pcs base g n N C R P A B gr cr gp cp gc gs cs) w := Hold.start h2 h3 hb
  refine (Split_walk base own w g n N C R P A B gr cr gp cp gc gs cs l Al cl H h1 hn0 hn hl hll hrd).mono ?_
  rintro e w' ⟨mv, own', rfl, hh⟩
  exact ⟨mv, own', rfl, Sep.turn h i j hi (fun _ hk => hk) (fun _ hk => hk) hj hij hh, hh.below⟩
theorem All_law {base : Nat} {own : Nat → Prop} {rs : List Res} {w : World} {g n N : Nat} {C : Nat → Nat} (h : Sep base rs w) (i : Nat) (hi : rs[i]? = some (part base own g n N C)) (hn : n ≤ 65536) :
    Calls Try.prog 13 #[.pointer (some ⟨g, 0, none⟩)] w fun e w' => ∃ v, e = .returned v ∧ Kd.R (Kd.int .i64) 3 w' w.heap.size (fun _ => True) v (lst n C) ∧ Below w.heap.size w w' := All_walk base own g n N C w (h.get i hi) hn
/-- A list of the walk's own, as Split reads it. -/
theorem lit_rd {base : Nat} {own : Nat → Prop} {rs : List Res} {w : World} {p : Res} (h : Sep base rs w) (i : Nat) (hi : rs[i]? = some p) (hp : ∀ k, own k → p.own k) (cs : Array Value) (l : List Nat) (n : Nat) (e : cs = numsA (tl l)) (hn : n = l.length) (hm : n ≤ 1000000000) :
    ∀ w1, (∀ k, k < (w.alloc (.cells cs 3)).heap.size → ¬ own k → w1.heap[k]? = (w.alloc (.cells cs 3)).heap[k]?) → Kd.C (Kd.int .i64) w1 (some ⟨w.heap.size, 0, none⟩) n (tl l) := fun w1 hk => by
  refine lit_C (cs := cs) ?_ e (by rw [tl_len]; exact hn) hm
  rw [hk w.heap.size (by simp) (fun ho => by have := (h.bound i hi (hp _ ho)).2; omega)]
  exact blk_new w _
end Go.Proofs.Ytdalpaobkmoomaa.X
end

section
namespace Go.Proofs.Ytdalpaobkmoomaa.X
open Go.RowKit Go.Proofs.YtdalpaobkmoomaaW.PrintWords Go.Proofs.YtdalpaobkmoomaaW.PrintLast Go.Proofs.YtdalpaobkmoomaaW.PrintMore
open Go.Proofs.Ytdalpaobkmoomaa Go.Proofs.Ytdalpaobkmoomaa.Sp
attribute [local go_sem] max2_int min2_int max_two min_two max_three min_three max_four min_four
set_option maxHeartbeats 16000000 in
set_option maxRecDepth 100000 in
theorem live_walk (w : World) : Calls Try.prog 9 #[] w fun e w' => e = .returned (.bool true) ∧ Below w.heap.size w w' := by
  have hu22 := Try.underlying22
  have hnew : Calls Try.prog 10 #[.int .i64 4] w fun e w' => ∃ (g : Nat) (own : Nat → Prop), e = .returned (.tuple #[.pointer (some ⟨g, 0, none⟩), .int .i64 0]) ∧ Sep w.heap.size [part w.heap.size own g 4 1 (fun _ => 0)] w' ∧ Below w.heap.size w w' := New_walk 4 w (by decide) (by decide)
  go_enter Try.func9, Try.ntmps9
  go_wp2_with (first
  | (go_at_call 17; refine (Count_walk w.heap.size own2 g 4 (splitOf 4 (splitOf 4 (fun _ => 0) 1 [1, 2]).C (splitOf 4 (fun _ => 0) 1 [1, 2]).N [0, 1, 1]).N (splitOf 4 (splitOf 4 (fun _ => 0) 1 [1, 2]).C (splitOf 4 (fun _ => 0) 1 [1, 2]).N [0, 1, 1]).C w12 (HS12.out.get 1 rfl)).mono ?_
     rintro e w13 ⟨rfl, hb⟩
     have hc4 : (((splitOf 4 (splitOf 4 (fun _ => 0) 1 [1, 2]).C (splitOf 4 (fun _ => 0) 1 [1, 2]).N [0, 1, 1]).N : Nat) : Int) = 4 := by decide
     have HB13 := Aside0.mk (below_step HB12.out hb)
     clear hb)
  | (go_at_call 16; refine (same_calls Ad 4 cd [2, 3, 1, 0] (some ⟨w11.heap.size, 0, none⟩) 4 4 [2, 3, 1, 0] (w11.alloc (.cells #[.int .i64 2, .int .i64 3, .int .i64 1, .int .i64 0] 3)) (row_C ((HS11.out.low (below_alloc (Below.refl w11.heap.size w11) (.cells #[.int .i64 2, .int .i64 3, .int .i64 1, .int .i64 0] 3))).get 0 rfl)).1 (row_C (HS11.out.get 0 rfl)).2 (lit_C (blk_new w11 (.cells #[.int .i64 2, .int .i64 3, .int .i64 1, .int .i64 0] 3)) rfl rfl (by decide)) (Nat.le_refl _) (by decide)).mono ?_
     rintro e w12 ⟨rfl, hd⟩
     have HS12 := Aside0.mk ((HS11.out.low (below_alloc (Below.refl w11.heap.size w11) (.cells #[.int .i64 2, .int .i64 3, .int .i64 1, .int .i64 0] 3))).low hd.below)
     have HB12 := Aside0.mk (below_step (below_alloc HB11.out (.cells #[.int .i64 2, .int .i64 3, .int .i64 1, .int .i64 0] 3)) hd.below)
     clear hd)
  | (go_at_call 13; with_reducible refine (All_law HS10.out 3 rfl (by decide)).mono ?_
     rintro e w11 ⟨v11, rfl, hR, hb⟩
     have hS' : Sep w.heap.size [ints w.heap.size v11 [2, 3, 1, 0], part w.heap.size own2 g 4 (splitOf 4 (splitOf 4 (fun _ => 0) 1 [1, 2]).C (splitOf 4 (fun _ => 0) 1 [1, 2]).N [0, 1, 1]).N (splitOf 4 (splitOf 4 (fun _ => 0) 1 [1, 2]).C (splitOf 4 (fun _ => 0) 1 [1, 2]).N [0, 1, 1]).C] w11 := (((HS10.out.sub (rs' := [part w.heap.size own2 g 4 (splitOf 4 (splitOf 4 (fun _ => 0) 1 [1, 2]).C (splitOf 4 (fun _ => 0) 1 [1, 2]).N [0, 1, 1]).N (splitOf 4 (splitOf 4 (fun _ => 0) 1 [1, 2]).C (splitOf 4 (fun _ => 0) 1 [1, 2]).N [0, 1, 1]).C]) (.cons _ (.cons _ (.cons _ (List.Sublist.refl _))))).free none_ trivial (fun _ hk => hk.elim)).fillRow 0 rfl rfl hR hb HB10.out.size)
     obtain ⟨Ad, cd, hv⟩ := Kd.R_slice (hS'.get 0 rfl)
     have hv' : v11 = .slice Ad 4 cd := hv
     subst hv'
     have HS11 := Aside0.mk hS'
     have HB11 := Aside0.mk (below_step HB10.out hb)
     clear hS' hb hv hR)
  | (go_at_call 16; refine (same_calls Ac 2 cc [2, 3] (some ⟨w9.heap.size, 0, none⟩) 2 2 [2, 3] (w9.alloc (.cells #[.int .i64 2, .int .i64 3] 3)) (row_C ((HS9.out.low (below_alloc (Below.refl w9.heap.size w9) (.cells #[.int .i64 2, .int .i64 3] 3))).get 2 rfl)).1 (row_C (HS9.out.get 2 rfl)).2 (lit_C (blk_new w9 (.cells #[.int .i64 2, .int .i64 3] 3)) rfl rfl (by decide)) (Nat.le_refl _) (by decide)).mono ?_
     rintro e w10 ⟨rfl, hd⟩
     have HS10 := Aside0.mk ((HS9.out.low (below_alloc (Below.refl w9.heap.size w9) (.cells #[.int .i64 2, .int .i64 3] 3))).low hd.below)
     have HB10 := Aside0.mk (below_step (below_alloc HB9.out (.cells #[.int .i64 2, .int .i64 3] 3)) hd.below)
     clear hd)
  | (go_at_call 16; refine (same_calls Ab 4 cb [0, 1, 1, 0] (some ⟨w8.heap.size, 0, none⟩) 4 4 [0, 1, 1, 0] (w8.alloc (.cells #[.int .i64 0, .int .i64 1, .int .i64 1, .int .i64 0] 3)) (row_C ((HS8.out.low (below_alloc (Below.refl w8.heap.size w8) (.cells #[.int .i64 0, .int .i64 1, .int .i64 1, .int .i64 0] 3))).get 1 rfl)).1 (row_C (HS8.out.get 1 rfl)).2 (lit_C (blk_new w8 (.cells #[.int .i64 0, .int .i64 1, .int .i64 1, .int .i64 0] 3)) rfl rfl (by decide)) (Nat.le_refl _) (by decide)).mono ?_
     rintro e w9 ⟨rfl, hd⟩
     have HS9 := Aside0.mk ((HS8.out.low (below_alloc (Below.refl w8.heap.size w8) (.cells #[.int .i64 0, .int .i64 1, .int .i64 1, .int .i64 0] 3))).low hd.below)
     have HB9 := Aside0.mk (below_step (below_alloc HB8.out (.cells #[.int .i64 0, .int .i64 1, .int .i64 1, .int .i64 0] 3)) hd.below)
     clear hd)
  | (go_at_call 16; refine (same_calls Aa 1 ca [1] (some ⟨w7.heap.size, 0, none⟩) 1 1 [1] (w7.alloc (.cells #[.int .i64 1] 3)) (row_C ((HS7.out.low (below_alloc (Below.refl w7.heap.size w7) (.cells #[.int .i64 1] 3))).get 0 rfl)).1 (row_C (HS7.out.get 0 rfl)).2 (lit_C (blk_new w7 (.cells #[.int .i64 1] 3)) rfl rfl (by decide)) (Nat.le_refl _) (by decide)).mono ?_
     rintro e w8 ⟨rfl, hd⟩
     have HS8 := Aside0.mk ((HS7.out.low (below_alloc (Below.refl w7.heap.size w7) (.cells #[.int .i64 1] 3))).low hd.below)
     have HB8 := Aside0.mk (below_step (below_alloc HB7.out (.cells #[.int .i64 1] 3)) hd.below)
     clear hd)
  | (go_at_call 11; with_reducible refine (tutorlaw06_num.calls 0 0 w6 rfl).mono ?_
     rintro e w7 ⟨rfl, hd⟩
     have HS7 := Aside0.mk (HS6.out.low hd.below)
     have HB7 := Aside0.mk (below_step HB6.out hd.below)
     clear hd)
  | (go_at_call 11; with_reducible refine (tutorlaw06_num.calls 0 0 w5 rfl).mono ?_
     rintro e w6 ⟨rfl, hd⟩
     have HS6 := Aside0.mk (HS5.out.low hd.below)
     have HB6 := Aside0.mk (below_step HB5.out hd.below)
     clear hd)
  | (go_at_call 12
     refine (Split_law (HS4.out.low (below_alloc (Below.refl w4.heap.size w4) (.cells #[.int .i64 0, .int .i64 1, .int .i64 1] 3))) 3 2 rfl rfl (by decide) (by have := HB4.out.size; simp; omega) (by decide) (by decide) [0, 1, 1] (by decide) (by decide) (some ⟨w4.heap.size, 0, none⟩) 3 3 rfl (lit_rd HS4.out 3 rfl (fun _ hk => hk) #[.int .i64 0, .int .i64 1, .int .i64 1] [0, 1, 1] 3 rfl rfl (by decide))).mono ?_
     rintro e w5 ⟨m2, own2, rfl, hS, hb⟩
     have hS' : Sep w.heap.size [ints w.heap.size (.slice Aa 1 ca) [1], ints w.heap.size (.slice Ab 4 cb) [0, 1, 1, 0], ints w.heap.size m2 [2, 3], part w.heap.size own2 g 4 (splitOf 4 (splitOf 4 (fun _ => 0) 1 [1, 2]).C (splitOf 4 (fun _ => 0) 1 [1, 2]).N [0, 1, 1]).N (splitOf 4 (splitOf 4 (fun _ => 0) 1 [1, 2]).C (splitOf 4 (fun _ => 0) 1 [1, 2]).N [0, 1, 1]).C] w5 := hS
     obtain ⟨Ac, cc, hv⟩ := Kd.R_slice (hS'.get 2 rfl)
     have hv' : m2 = .slice Ac 2 cc := hv
     subst hv'
     have HS5 := Aside0.mk hS'
     have HB5 := Aside0.mk ((below_alloc HB4.out (.cells #[.int .i64 0, .int .i64 1, .int .i64 1] 3)).trans hb)
     clear hS hS' hb hv)
  | (go_at_call 13; with_reducible refine (All_law HS3.out 3 rfl (by decide)).mono ?_
     rintro e w4 ⟨v4, rfl, hR, hb⟩
     have hS' : Sep w.heap.size [ints w.heap.size (.slice Aa 1 ca) [1], ints w.heap.size v4 [0, 1, 1, 0], none_, part w.heap.size own1 g 4 (splitOf 4 (fun _ => 0) 1 [1, 2]).N (splitOf 4 (fun _ => 0) 1 [1, 2]).C] w4 := HS3.out.fillRow 1 rfl rfl hR hb HB3.out.size
     obtain ⟨Ab, cb, hv⟩ := Kd.R_slice (hS'.get 1 rfl)
     have hv' : v4 = .slice Ab 4 cb := hv
     subst hv'
     have HS4 := Aside0.mk hS'
     have HB4 := Aside0.mk (below_step HB3.out hb)
     clear hS' hb hv hR)
  | (go_at_call 12
     refine (Split_law (HS2.out.low (below_alloc (Below.refl w2.heap.size w2) (.cells #[.int .i64 1, .int .i64 2] 3))) 3 0 rfl rfl (by decide) (by have := HB2.out.size; simp; omega) (by decide) (by decide) [1, 2] (by decide) (by decide) (some ⟨w2.heap.size, 0, none⟩) 2 2 rfl (lit_rd HS2.out 3 rfl (fun _ hk => hk) #[.int .i64 1, .int .i64 2] [1, 2] 2 rfl rfl (by decide))).mono ?_
     rintro e w3 ⟨m1, own1, rfl, hS, hb⟩
     have hS' : Sep w.heap.size [ints w.heap.size m1 [1], none_, none_, part w.heap.size own1 g 4 (splitOf 4 (fun _ => 0) 1 [1, 2]).N (splitOf 4 (fun _ => 0) 1 [1, 2]).C] w3 := hS
     obtain ⟨Aa, ca, hv⟩ := Kd.R_slice (hS'.get 0 rfl)
     have hv' : m1 = .slice Aa 1 ca := hv
     subst hv'
     have HS3 := Aside0.mk hS'
     have HB3 := Aside0.mk ((below_alloc HB2.out (.cells #[.int .i64 1, .int .i64 2] 3)).trans hb)
     clear hS hS' hb hv)
  | (go_at_call 11; with_reducible refine (tutorlaw06_num.calls 0 0 w1 rfl).mono ?_
     rintro e w2 ⟨rfl, hd⟩
     have HS2 := Aside0.mk (HS1.out.low hd.below)
     have HB2 := Aside0.mk (below_step HB1.out hd.below)
     clear hd)
  | (go_at_call 10; with_reducible refine hnew.mono ?_
     rintro e w1 ⟨g, own, rfl, hS, hb⟩
     have HS1 : Aside0 (Sep w.heap.size [none_, none_, none_, part w.heap.size own g 4 1 (fun _ => 0)] w1) := ⟨((hS.free none_ trivial (fun _ hk => hk.elim)).free none_ trivial (fun _ hk => hk.elim)).free none_ trivial (fun _ hk => hk.elim)⟩
     have HB1 := Aside0.mk hb
     clear hS hb))
  go_ret
  exact ⟨rfl, HB13.out⟩
end Go.Proofs.Ytdalpaobkmoomaa.X
end

section
namespace Go.Proofs.Ytdalpaobkmoomaa.X
open Go.RowKit Go.Proofs.YtdalpaobkmoomaaW.PrintWords Go.Proofs.YtdalpaobkmoomaaW.PrintLast Go.Proofs.YtdalpaobkmoomaaW.PrintMore
def tutorlaw06_live.f : Option Bool := some true
theorem tutorlaw06_live.calls (r1 : Bool) (w : World) (h : tutorlaw06_live.f = some r1) : Calls Try.prog 9 #[] w fun e w' => e = .returned (.bool r1) ∧ Below w.heap.size w w' := by
  obtain rfl := Option.some.inj h
  exact live_walk w
end Go.Proofs.Ytdalpaobkmoomaa.X
end

section
namespace Go.Proofs.Ytdalpaobkmoomaa.X
open Go.RowKit Go.Proofs.YtdalpaobkmoomaaW.PrintWords Go.Proofs.YtdalpaobkmoomaaW.PrintLast Go.Proofs.YtdalpaobkmoomaaW.PrintMore
open Go.Proofs.Ytdalpaobkmoomaa Go.Proofs.Ytdalpaobkmoomaa.Sp
attribute [local go_sem] max2_int min2_int max_two min_two max_three min_three max_four min_four
theorem part_lower {base base' : Nat} {own : Nat → Prop} {g n N : Nat} {C : Nat → Nat} {w : World} (hb : base' ≤ base) (h : (part base own g n N C).at_ w) : (part base' own g n N C).at_ w := by
  obtain ⟨R, P, A, B, gr, cr, gp, cp, gc, gs, cs, h1, h2, h3⟩ := h
  have key : ∀ (i : Nat) (r : Res), (pcs base' g n N C R P A B gr cr gp cp gc gs cs)[i]? = some r → ∃ r0, (pcs base g n N C R P A B gr cr gp cp gc gs cs)[i]? = some r0 ∧ (∀ k, r.own k → r0.own k) ∧ (r0.at_ w → r.at_ w) := by
    intro i r hr
    match i, hr with
    | 0, hr => obtain rfl := Option.some.inj hr; exact ⟨_, rfl, fun _ hk => hk, fun h => h⟩
    | 1, hr => obtain rfl := Option.some.inj hr; exact ⟨_, rfl, fun _ hk => hk, fun h => Kd.R_lower h hb⟩
    | 2, hr => obtain rfl := Option.some.inj hr; exact ⟨_, rfl, fun _ hk => hk, fun h => Kd.R_lower h hb⟩
    | 3, hr => obtain rfl := Option.some.inj hr; exact ⟨_, rfl, fun _ hk => hk, fun h => h⟩
    | 4, hr => obtain rfl := Option.some.inj hr; exact ⟨_, rfl, fun _ hk => hk, fun h => Kd.R_lower h hb⟩
    | i + 5, hr => cases hr
  refine ⟨R, P, A, B, gr, cr, gp, cp, gc, gs, cs, h1, Sep.of_apart (fun i r hr => ?_) (fun i j r q hr hq hij k hk hk' => ?_), fun r hr k hk => ?_⟩
  · obtain ⟨r0, g1, g2, g3⟩ := key i r hr
    exact ⟨g3 (h2.get i g1), fun k hk => by have := h2.bound i g1 (g2 k hk); omega⟩
  · obtain ⟨r0, g1, g2, _⟩ := key i r hr
    obtain ⟨q0, f1, f2, _⟩ := key j q hq
    exact h2.apart g1 f1 hij (g2 k hk) (f2 k hk')
  · obtain ⟨i, hi⟩ := List.getElem?_of_mem hr
    obtain ⟨r0, g1, g2, _⟩ := key i r hi
    exact h3 r0 (List.mem_of_getElem? g1) k (g2 k hk)
theorem New_law {base : Nat} {rs : List Res} {w : World} (h : Sep base rs w) (hb : base ≤ w.heap.size) (n : Nat) (hn0 : 0 < n) (hn : n ≤ 65536) :
    Calls Try.prog 10 #[.int .i64 (n : Int)] w fun e w' => ∃ (g : Nat) (own : Nat → Prop), e = .returned (.tuple #[.pointer (some ⟨g, 0, none⟩), .int .i64 0]) ∧ Sep base (part base own g n 1 (fun _ => 0) :: rs) w' ∧ Below w.heap.size w w' := by
  refine (New_walk n w hn0 hn).mono ?_
  rintro e w' ⟨g, own, rfl, hs, hbl⟩
  have h1 := h.over hbl hs hb
  refine ⟨g, own, rfl, ?_, hbl⟩
  exact h1.upd 0 rfl (part_lower hb (hs.get 0 rfl)) (fun _ _ _ => rfl) (fun k hk => ⟨.inl hk, (hs.bound 0 rfl hk).2⟩) (Nat.le_trans hb hbl.size) (Nat.le_refl _)
theorem Members_law {base : Nat} {own : Nat → Prop} {rs : List Res} {w : World} {g n N : Nat} {C : Nat → Nat} (h : Sep base rs w) (i : Nat) (hi : rs[i]? = some (part base own g n N C)) (hn : n ≤ 65536) (c : Nat) (hc : c < N) :
    Calls Try.prog 14 #[.pointer (some ⟨g, 0, none⟩), .int .i64 (c : Int)] w fun e w' => ∃ v, e = .returned (.tuple #[v, .int .i64 0]) ∧ Kd.R (Kd.int .i64) 3 w' w.heap.size (fun _ => True) v (tl (members n C c)) ∧ Below w.heap.size w w' := Members_walk base own g n N C w (h.get i hi) c hc hn
/-- A row among the pieces, as Split reads it. -/
theorem row_rd {base : Nat} {own : Nat → Prop} {rs : List Res} {w : World} {p : Res} {A : Option Addr} {n c : Nat} {xs : List Int} (h : Sep base rs w) (i j : Nat) (hi : rs[i]? = some p) (hp : ∀ k, own k → p.own k) (hj : rs[j]? = some (ints base (.slice A n c) xs)) (hij : i ≠ j) :
    ∀ w1, (∀ k, k < w.heap.size → ¬ own k → w1.heap[k]? = w.heap[k]?) → Kd.C (Kd.int .i64) w1 A n xs := fun w1 hk =>
  (row_C ((ints base (.slice A n c) xs).step (h.get j hj) (fun k hk1 hlt => hk k hlt (fun ho => h.apart hi hj hij (hp k ho) hk1)))).1
end Go.Proofs.Ytdalpaobkmoomaa.X
end

section
namespace Go.Proofs.Ytdalpaobkmoomaa.X
open Go.RowKit Go.Proofs.YtdalpaobkmoomaaW.PrintWords Go.Proofs.YtdalpaobkmoomaaW.PrintLast Go.Proofs.YtdalpaobkmoomaaW.PrintMore
open Go.Proofs.Ytdalpaobkmoomaa Go.Proofs.Ytdalpaobkmoomaa.Sp
/-- While classes are cut in their order: which numbers are together. -/
structure Tog (n N0 : Nat) (C0 : Nat → Nat) (D : Nat → Bool) (done : List Nat) (s : St) : Prop where
  lt : ∀ i, i < n → s.C i < s.N
  tog : ∀ i k, i < n → k < n → (s.C i = s.C k ↔ C0 i = C0 k ∧ (C0 i ∈ done → D i = D k))
theorem Tog.step {n N0 : Nat} {C0 : Nat → Nat} {D : Nat → Bool} {done : List Nat} {s : St} (h : Tog n N0 C0 D done s) (c : Nat) : Tog n N0 C0 D (done ++ [c]) (cutOf n C0 D c s) := by
  unfold cutOf
  by_cases hc : (∃ i, i < n ∧ C0 i = c ∧ D i = true) ∧ (∃ i, i < n ∧ C0 i = c ∧ D i = false)
  · rw [if_pos hc]
    refine ⟨fun i hi => ?_, fun i k hi hk => ?_⟩
    · show (if C0 i = c ∧ D i = true then s.N else s.C i) < s.N + 1
      have := h.lt i hi
      split <;> omega
    · show (if C0 i = c ∧ D i = true then s.N else s.C i) = (if C0 k = c ∧ D k = true then s.N else s.C k) ↔ _
      have hi1 := h.lt i hi
      have hk1 := h.lt k hk
      have ht := h.tog i k hi hk
      by_cases g1 : C0 i = c ∧ D i = true
      · rw [if_pos g1]
        by_cases g2 : C0 k = c ∧ D k = true
        · rw [if_pos g2]
          simp [g1.1, g1.2, g2.1, g2.2]
        · rw [if_neg g2]
          constructor
          · intro e; omega
          · rintro ⟨e1, e2⟩
            have e3 := e2 (by rw [g1.1]; simp)
            exact absurd ⟨e1.symm.trans g1.1, e3.symm.trans g1.2⟩ g2
      · rw [if_neg g1]
        by_cases g2 : C0 k = c ∧ D k = true
        · rw [if_pos g2]
          constructor
          · intro e; omega
          · rintro ⟨e1, e2⟩
            have e3 := e2 (by rw [e1, g2.1]; simp)
            exact absurd ⟨e1.trans g2.1, e3.trans g2.2⟩ g1
        · rw [if_neg g2, ht]
          constructor
          · rintro ⟨e1, e2⟩
            refine ⟨e1, fun hm => ?_⟩
            rw [List.mem_append, List.mem_singleton] at hm
            rcases hm with hm | hm
            · exact e2 hm
            · have a1 : D i = false := by
                cases hd : D i with
                | false => rfl
                | true => exact absurd ⟨hm, hd⟩ g1
              have a2 : D k = false := by
                cases hd : D k with
                | false => rfl
                | true => exact absurd ⟨e1.symm.trans hm, hd⟩ g2
              rw [a1, a2]
          · rintro ⟨e1, e2⟩
            exact ⟨e1, fun hm => e2 (List.mem_append_left _ hm)⟩
  · rw [if_neg hc]
    refine ⟨h.lt, fun i k hi hk => ?_⟩
    rw [h.tog i k hi hk]
    constructor
    · rintro ⟨e1, e2⟩
      refine ⟨e1, fun hm => ?_⟩
      rw [List.mem_append, List.mem_singleton] at hm
      rcases hm with hm | hm
      · exact e2 hm
      · cases hd : D i with
        | true =>
          cases hd' : D k with
          | true => rfl
          | false => exact absurd ⟨⟨i, hi, hm, hd⟩, ⟨k, hk, e1.symm.trans hm, hd'⟩⟩ hc
        | false =>
          cases hd' : D k with
          | false => rfl
          | true => exact absurd ⟨⟨k, hk, e1.symm.trans hm, hd'⟩, ⟨i, hi, hm, hd⟩⟩ hc
    · rintro ⟨e1, e2⟩
      exact ⟨e1, fun hm => e2 (List.mem_append_left _ hm)⟩
theorem Tog.all {n N0 : Nat} {C0 : Nat → Nat} {D : Nat → Bool} : ∀ (l done : List Nat) (s : St), Tog n N0 C0 D done s → Tog n N0 C0 D (done ++ l) (cuts n C0 D l s)
  | [], done, s, h => by rw [List.append_nil]; exact h
  | c :: l, done, s, h => by
    have := Tog.all l (done ++ [c]) _ (h.step c)
    rw [List.append_assoc] at this
    exact this
/-- After a split two numbers are together just if they were, and both or none are in the list. -/
theorem refine_is {n N : Nat} {C : Nat → Nat} (hC : ∀ i, i < n → C i < N) (l : List Nat) {i k : Nat} (hi : i < n) (hk : k < n) : (splitOf n C N l).C i = (splitOf n C N l).C k ↔ (C i = C k ∧ (i ∈ l ↔ k ∈ l)) := by
  have h0 : Tog n N C (fun i => decide (i ∈ l)) [] ⟨C, N, []⟩ := ⟨hC, fun i k _ _ => by simp⟩
  have h1 := (Tog.all (List.range N) [] _ h0).tog i k hi hk
  rw [List.nil_append] at h1
  unfold splitOf
  rw [h1]
  have hm : C i ∈ List.range N := List.mem_range.2 (hC i hi)
  constructor
  · rintro ⟨e1, e2⟩
    have e3 := e2 hm
    exact ⟨e1, decide_eq_decide.1 e3⟩
  · rintro ⟨e1, e2⟩
    exact ⟨e1, fun _ => decide_eq_decide.2 e2⟩
def cnt (n : Nat) (C : Nat → Nat) (c : Nat) : Nat := (List.range n).countP fun i => decide (C i < c)
theorem cnt_succ (n : Nat) (C : Nat → Nat) (c : Nat) : cnt n C (c + 1) = cnt n C c + (members n C c).length := by
  unfold cnt members
  rw [← List.countP_eq_length_filter]
  induction (List.range n) with
  | nil => rfl
  | cons a l ih =>
    rw [List.countP_cons, List.countP_cons, List.countP_cons, ih]
    by_cases h1 : C a < c
    · have h2 : C a < c + 1 := by omega
      have h3 : ¬ C a = c := by omega
      simp [h1, h2, h3]
      omega
    · by_cases h2 : C a = c
      · simp [h2]
        omega
      · have h3 : ¬ C a < c + 1 := by omega
        simp [h1, h2, h3]
theorem cnt_all {n N : Nat} {C : Nat → Nat} (h : ∀ i, i < n → C i < N) : cnt n C N = n := by
  unfold cnt
  have : (List.range n).countP (fun i => decide (C i < N)) = (List.range n).length := List.countP_eq_length.2 (fun i hi => by simpa using h i (List.mem_range.1 hi))
  rw [this, List.length_range]
theorem part_full {base : Nat} {own : Nat → Prop} {g n N : Nat} {C : Nat → Nat} {w : World} (h : (part base own g n N C).at_ w) {c : Nat} (hc : c < N) : 0 < (members n C c).length := by
  obtain ⟨R, P, A, B, gr, cr, gp, cp, gc, gs, cs, h1, h2, h3⟩ := h
  have g1 := h1.some hc (p := A c) (Nat.le_refl _) (h1.sp c hc).1
  have : R (A c) ∈ members n C c := by
    unfold members
    rw [List.mem_filter]
    exact ⟨List.mem_range.2 g1.1, by simp [g1.2.2]⟩
  exact List.length_pos_of_mem this
theorem members_at {n : Nat} {C : Nat → Nat} {c x : Nat} (hx : x < (members n C c).length) : (members n C c)[x] < n ∧ C ((members n C c)[x]) = c := by
  have hm := List.getElem_mem hx
  unfold members at hm
  rw [List.mem_filter, List.mem_range] at hm
  exact ⟨hm.1, eq_of_beq hm.2⟩
end Go.Proofs.Ytdalpaobkmoomaa.X
end

section
namespace Go.Proofs.Ytdalpaobkmoomaa.X
open Go.RowKit Go.Proofs.YtdalpaobkmoomaaW.PrintWords Go.Proofs.YtdalpaobkmoomaaW.PrintLast Go.Proofs.YtdalpaobkmoomaaW.PrintMore
open Go.Proofs.Ytdalpaobkmoomaa Go.Proofs.Ytdalpaobkmoomaa.Sp
def Bis (n K : Nat) (nx : Nat → Nat → Nat) (sy : Nat → Nat → Prop) (R : Nat → Nat → Prop) : Prop := ∀ s t, s < n → t < n → R s t → sy s t ∧ ∀ x, x < K → R (nx s x) (nx t x)
def Alike (n K : Nat) (nx : Nat → Nat → Nat) (sy : Nat → Nat → Prop) (s t : Nat) : Prop := ∃ R, Bis n K nx sy R ∧ R s t
section
variable {n K : Nat} {nx : Nat → Nat → Nat} {sy : Nat → Nat → Prop}
theorem Alike.say {s t : Nat} (h : Alike n K nx sy s t) (hs : s < n) (ht : t < n) : sy s t := by
  obtain ⟨R, h1, h2⟩ := h
  exact (h1 s t hs ht h2).1
theorem Alike.next {s t : Nat} (h : Alike n K nx sy s t) (hs : s < n) (ht : t < n) {x : Nat} (hx : x < K) : Alike n K nx sy (nx s x) (nx t x) := by
  obtain ⟨R, h1, h2⟩ := h
  exact ⟨R, h1, (h1 s t hs ht h2).2 x hx⟩
end
theorem cuts_keep (n : Nat) (C0 : Nat → Nat) (D : Nat → Bool) : ∀ (l : List Nat) (s : St), s.N ≤ (cuts n C0 D l s).N ∧ (∀ i, (cuts n C0 D l s).C i = s.C i ∨ (s.N ≤ (cuts n C0 D l s).C i ∧ (cuts n C0 D l s).C i < (cuts n C0 D l s).N)) ∧ (cuts n C0 D l s).made = s.made ++ List.range' s.N ((cuts n C0 D l s).N - s.N)
  | [], s => ⟨Nat.le_refl _, fun _ => .inl rfl, by simp [cuts]⟩
  | c :: l, s => by
    have h1 : s.N ≤ (cutOf n C0 D c s).N ∧ (∀ i, (cutOf n C0 D c s).C i = s.C i ∨ (s.N ≤ (cutOf n C0 D c s).C i ∧ (cutOf n C0 D c s).C i < (cutOf n C0 D c s).N)) ∧ (cutOf n C0 D c s).made = s.made ++ List.range' s.N ((cutOf n C0 D c s).N - s.N) := by
      unfold cutOf
      split
      · refine ⟨Nat.le_succ _, fun i => ?_, ?_⟩
        · show (if C0 i = c ∧ D i = true then s.N else s.C i) = s.C i ∨ _ ≤ (if C0 i = c ∧ D i = true then s.N else s.C i) ∧ _
          by_cases g : C0 i = c ∧ D i = true
          · refine .inr ⟨?_, ?_⟩
            · rw [if_pos g]; exact Nat.le_refl _
            · show (if C0 i = c ∧ D i = true then s.N else s.C i) < s.N + 1
              rw [if_pos g]; exact Nat.lt_succ_self _
          · rw [if_neg g]; exact .inl rfl
        · show s.made ++ [s.N] = s.made ++ List.range' s.N (s.N + 1 - s.N)
          rw [Nat.add_sub_cancel_left]
          rfl
      · exact ⟨Nat.le_refl _, fun _ => .inl rfl, by simp⟩
    obtain ⟨a1, a2, a3⟩ := h1
    obtain ⟨b1, b2, b3⟩ := cuts_keep n C0 D l (cutOf n C0 D c s)
    rw [cuts]
    refine ⟨Nat.le_trans a1 b1, fun i => ?_, ?_⟩
    · rcases b2 i with e | e
      · rcases a2 i with e2 | e2
        · exact .inl (e.trans e2)
        · rw [e]
          exact .inr ⟨e2.1, Nat.lt_of_lt_of_le e2.2 b1⟩
      · exact .inr ⟨Nat.le_trans a1 e.1, e.2⟩
    · rw [b3, a3, List.append_assoc]
      congr 1
      generalize (cuts n C0 D l (cutOf n C0 D c s)).N = p at *
      generalize (cutOf n C0 D c s).N = q at *
      obtain ⟨d, rfl⟩ : ∃ d, q = s.N + d := ⟨q - s.N, by omega⟩
      obtain ⟨f, rfl⟩ : ∃ f, p = s.N + d + f := ⟨p - (s.N + d), by omega⟩
      have e1 : s.N + d - s.N = d := by omega
      have e2 : s.N + d + f - (s.N + d) = f := by omega
      have e3 : s.N + d + f - s.N = d + f := by omega
      rw [e1, e2, e3]
      exact List.range'_append_1
theorem split_le (n : Nat) (C : Nat → Nat) (N : Nat) (l : List Nat) : N ≤ (splitOf n C N l).N := (cuts_keep n C _ (List.range N) ⟨C, N, []⟩).1
theorem split_keep (n : Nat) (C : Nat → Nat) (N : Nat) (l : List Nat) (i : Nat) : (splitOf n C N l).C i = C i ∨ (N ≤ (splitOf n C N l).C i ∧ (splitOf n C N l).C i < (splitOf n C N l).N) := (cuts_keep n C _ (List.range N) ⟨C, N, []⟩).2.1 i
theorem split_made (n : Nat) (C : Nat → Nat) (N : Nat) (l : List Nat) : (splitOf n C N l).made = List.range' N ((splitOf n C N l).N - N) := by
  have h := (cuts_keep n C (fun i => decide (i ∈ l)) (List.range N) ⟨C, N, []⟩).2.2
  rw [List.nil_append] at h
  exact h
section
variable (n K : Nat) (nx : Nat → Nat → Nat) (sy : Nat → Nat → Prop)
/-- States that are alike are together. -/
def Sound (C : Nat → Nat) : Prop := ∀ s t, s < n → t < n → Alike n K nx sy s t → C s = C t
/-- Those of one class go by a symbol all into a set or all not. -/
def Stab (C : Nat → Nat) (x : Nat) (D : Nat → Prop) : Prop := ∀ s t, s < n → t < n → C s = C t → (D (nx s x) ↔ D (nx t x))
/-- Each class waits, or is done; or it is the one that is looked at. -/
def Wk (w : List Nat) (i : Nat) (D0 : Nat → Prop) (x : Nat) (C : Nat → Nat) (N : Nat) : Prop := ∀ c, c < N → (∃ j : Nat, i ≤ j ∧ w[j]? = some c) ∨ (∀ y, y < K → Stab n nx C y (fun s => C s = c)) ∨ ((∀ s, s < n → (C s = c ↔ D0 s)) ∧ ∀ y, y < x → Stab n nx C y D0)
def Wi (w : List Nat) (i : Nat) (C : Nat → Nat) (N : Nat) : Prop := ∀ c, c < N → (∃ j : Nat, i ≤ j ∧ w[j]? = some c) ∨ (∀ y, y < K → Stab n nx C y (fun s => C s = c))
end
section
variable {n K : Nat} {nx : Nat → Nat → Nat} {sy : Nat → Nat → Prop} {C : Nat → Nat} {N : Nat}
theorem Sound.split (h : Sound n K nx sy C) (hC : ∀ i, i < n → C i < N) (l : List Nat) (hl : ∀ s t, s < n → t < n → Alike n K nx sy s t → (s ∈ l ↔ t ∈ l)) : Sound n K nx sy (splitOf n C N l).C := fun s t hs ht ha =>
  (refine_is hC l hs ht).2 ⟨h s t hs ht ha, hl s t hs ht ha⟩
theorem Stab.split {x : Nat} {D : Nat → Prop} (h : Stab n nx C x D) (hC : ∀ i, i < n → C i < N) (l : List Nat) : Stab n nx (splitOf n C N l).C x D := fun s t hs ht e => h s t hs ht ((refine_is hC l hs ht).1 e).1
theorem Stab.congr {x : Nat} {D E : Nat → Prop} (h : Stab n nx C x D) (hnx : ∀ s x, s < n → x < K → nx s x < n) (hx : x < K) (he : ∀ s, s < n → (D s ↔ E s)) : Stab n nx C x E := fun s t hs ht e => by
  rw [← he _ (hnx s x hs hx), ← he _ (hnx t x ht hx)]
  exact h s t hs ht e
theorem Stab.new {x : Nat} {D : Nat → Prop} (hC : ∀ i, i < n → C i < N) (l : List Nat) (hl : ∀ s, s < n → (s ∈ l ↔ D (nx s x))) : Stab n nx (splitOf n C N l).C x D := fun s t hs ht e => by
  rw [← hl s hs, ← hl t ht]
  exact ((refine_is hC l hs ht).1 e).2
theorem Wi.begin {w : List Nat} (h : ∀ c, c < N → c ∈ w) : Wi n K nx w 0 C N := fun c hc => by
  obtain ⟨j, hj⟩ := List.mem_iff_getElem?.1 (h c hc)
  exact .inl ⟨j, Nat.zero_le _, hj⟩
theorem Wi.enter {w : List Nat} {i b : Nat} (h : Wi n K nx w i C N) (hb : w[i]? = some b) : Wk n K nx w (i + 1) (fun s => C s = b) 0 C N := fun c hc => by
  rcases h c hc with ⟨j, h1, h2⟩ | h1
  · by_cases e : j = i
    · subst e
      rw [hb] at h2
      injection h2 with h2
      subst h2
      exact .inr (.inr ⟨fun _ _ => Iff.rfl, fun y hy => absurd hy (Nat.not_lt_zero _)⟩)
    · exact .inl ⟨j, by omega, h2⟩
  · exact .inr (.inl h1)
theorem Wk.leave {w : List Nat} {i : Nat} {D0 : Nat → Prop} (h : Wk n K nx w i D0 K C N) (hnx : ∀ s x, s < n → x < K → nx s x < n) : Wi n K nx w i C N := fun c hc => by
  rcases h c hc with h1 | h1 | ⟨h1, h2⟩
  · exact .inl h1
  · exact .inr h1
  · exact .inr (fun y hy => (h2 y hy).congr hnx hy (fun s hs => (h1 s hs).symm))
/-- One split, and what waits behind it. -/
theorem Wk.step {w w' : List Nat} {i x : Nat} {D0 : Nat → Prop} (h : Wk n K nx w i D0 x C N) (hC : ∀ i, i < n → C i < N) (hnx : ∀ s x, s < n → x < K → nx s x < n) (hx : x < K) (l : List Nat) (hl : ∀ s, s < n → (s ∈ l ↔ D0 (nx s x)))
    (hw : ∀ (j c : Nat), w[j]? = some c → w'[j]? = some c) (hlen : i ≤ w.length) (hnew : ∀ f, N ≤ f → f < (splitOf n C N l).N → ∃ j : Nat, i ≤ j ∧ w'[j]? = some f) (hold : ∀ s, s < n → N ≤ (splitOf n C N l).C s → ∃ j : Nat, i ≤ j ∧ w'[j]? = some (C s)) :
    Wk n K nx w' i D0 (x + 1) (splitOf n C N l).C (splitOf n C N l).N := fun c hc => by
  by_cases hcN : c < N
  · by_cases hs : ∃ s, s < n ∧ C s = c ∧ N ≤ (splitOf n C N l).C s
    · obtain ⟨s, h1, h2, h3⟩ := hs
      rw [← h2]
      exact .inl (hold s h1 h3)
    · have same : ∀ s, s < n → ((splitOf n C N l).C s = c ↔ C s = c) := fun s hsn => by
        rcases split_keep n C N l s with e | e
        · rw [e]
        · constructor
          · intro e2; omega
          · intro e2; exact absurd ⟨s, hsn, e2, e.1⟩ hs
      rcases h c hcN with ⟨j, h1, h2⟩ | h1 | ⟨h1, h2⟩
      · exact .inl ⟨j, h1, hw j c h2⟩
      · exact .inr (.inl fun y hy => ((h1 y hy).split hC l).congr hnx hy (fun s hsn => (same s hsn).symm))
      · refine .inr (.inr ⟨fun s hsn => (same s hsn).trans (h1 s hsn), fun y hy => ?_⟩)
        by_cases e : y = x
        · rw [e]
          exact Stab.new hC l hl
        · exact (h2 y (by omega)).split hC l
  · exact .inl (hnew c (by omega) hc)
/-- All is done: those together are alike. -/
theorem Wi.over {w : List Nat} {i : Nat} (h : Wi n K nx w i C N) (hC : ∀ i, i < n → C i < N) (hi : w.length ≤ i) (hsy : ∀ s t, s < n → t < n → C s = C t → sy s t) {s t : Nat} (hs : s < n) (ht : t < n) (hnx : ∀ s x, s < n → x < K → nx s x < n) (e : C s = C t) : Alike n K nx sy s t := by
  refine ⟨fun a b => C a = C b, fun a b ha hb hab => ⟨hsy a b ha hb hab, fun x hx => ?_⟩, e⟩
  rcases h (C (nx a x)) (hC _ (hnx a x ha hx)) with ⟨j, h1, h2⟩ | h1
  · rw [List.getElem?_eq_none (by omega)] at h2
    cases h2
  · exact ((h1 x hx a b ha hb hab).1 rfl).symm
/-- Each state has a class of its own. -/
theorem one_each (hN : N = n) (hC : ∀ i, i < n → C i < N) (hf : ∀ c, c < N → 0 < (members n C c).length) {s t : Nat} (hs : s < n) (ht : t < n) (e : C s = C t) : s = t := by
  have h1 : ∀ c, c ≤ N → c ≤ cnt n C c := by
    intro c
    induction c with
    | zero => intro _; exact Nat.zero_le _
    | succ c ih =>
      intro hc
      have := ih (by omega)
      have := hf c (by omega)
      rw [cnt_succ]
      omega
  have h2 : ∀ d, C s + 1 + d ≤ N → C s + 1 + d + (members n C (C s)).length ≤ cnt n C (C s + 1 + d) + 1 := by
    intro d
    induction d with
    | zero =>
      intro hc
      have := h1 (C s) (by omega)
      show C s + 1 + (members n C (C s)).length ≤ cnt n C (C s + 1) + 1
      rw [cnt_succ]
      omega
    | succ d ih =>
      intro hc
      have := ih (by omega)
      have := hf (C s + 1 + d) (by omega)
      show C s + 1 + d + 1 + (members n C (C s)).length ≤ cnt n C (C s + 1 + d + 1) + 1
      rw [cnt_succ]
      omega
  have hcs := hC s hs
  have h3 := h2 (N - (C s + 1)) (by omega)
  rw [show C s + 1 + (N - (C s + 1)) = N by omega, cnt_all hC] at h3
  have h4 : (members n C (C s)).length = 1 := by have := hf (C s) hcs; omega
  have m1 : s ∈ members n C (C s) := by unfold members; rw [List.mem_filter]; exact ⟨List.mem_range.2 hs, by simp⟩
  have m2 : t ∈ members n C (C s) := by unfold members; rw [List.mem_filter]; exact ⟨List.mem_range.2 ht, by simp [e]⟩
  obtain ⟨z, hz⟩ := List.length_eq_one_iff.1 h4
  rw [hz, List.mem_singleton] at m1 m2
  rw [m1, m2]
theorem each_alike (hC : ∀ i, i < n → C i < N) (hN : N = n) (hf : ∀ c, c < N → 0 < (members n C c).length) (hsy : ∀ s t, s < n → t < n → C s = C t → sy s t) {s t : Nat} (hs : s < n) (ht : t < n) (e : C s = C t) : Alike n K nx sy s t := by
  have h := one_each hN hC hf hs ht e
  subst h
  exact ⟨fun a b => a = b, fun a b ha hb hab => by subst hab; exact ⟨hsy a a ha ha rfl, fun _ _ => rfl⟩, rfl⟩
end
def canon (q : Nat → Nat → Bool) : Nat → List Nat × Nat
  | 0 => ([], 0)
  | s + 1 => match (List.range s).find? (fun t => q s t) with
    | some t => ((canon q s).1 ++ [(canon q s).1.getD t 0], (canon q s).2)
    | none => ((canon q s).1 ++ [(canon q s).2], (canon q s).2 + 1)
theorem canon_len (q : Nat → Nat → Bool) : ∀ s, (canon q s).1.length = s
  | 0 => rfl
  | s + 1 => by
    rw [canon]
    split <;> simp [canon_len q s]
theorem canon_le (q : Nat → Nat → Bool) : ∀ s, (canon q s).2 ≤ s
  | 0 => Nat.le_refl _
  | s + 1 => by
    have := canon_le q s
    rw [canon]
    split <;> simp <;> omega
theorem find_congr {p r : Nat → Bool} : ∀ (l : List Nat), (∀ t ∈ l, p t = r t) → l.find? p = l.find? r
  | [], _ => rfl
  | a :: l, h => by
    rw [List.find?_cons, List.find?_cons, h a List.mem_cons_self, find_congr l (fun t ht => h t (List.mem_cons_of_mem _ ht))]
theorem canon_congr {q r : Nat → Nat → Bool} : ∀ (n : Nat), (∀ s t, s < n → t < s → q s t = r s t) → canon q n = canon r n
  | 0, _ => rfl
  | n + 1, h => by
    have ih := canon_congr n (fun s t hs ht => h s t (by omega) ht)
    have e : (List.range n).find? (fun t => q n t) = (List.range n).find? (fun t => r n t) := by
      exact find_congr _ (fun t ht => h n t (Nat.lt_succ_self _) (List.mem_range.1 ht))
    rw [canon, canon, e, ih]
end Go.Proofs.Ytdalpaobkmoomaa.X
end

section
namespace Go.Proofs.Ytdalpaobkmoomaa.X
open Go.RowKit Go.Proofs.YtdalpaobkmoomaaW.PrintWords Go.Proofs.YtdalpaobkmoomaaW.PrintLast Go.Proofs.YtdalpaobkmoomaaW.PrintMore
open Go.Proofs.Ytdalpaobkmoomaa Go.Proofs.Ytdalpaobkmoomaa.Sp
/-- What is said in (or on the way from) a state. -/
def sayOf (out : List Int) (each s i : Nat) : Int := rd out ((s * each + i : Nat) : Int)
def SameSay (out : List Int) (each s t : Nat) : Prop := ∀ i, i < each → sayOf out each s i = sayOf out each t i
def Says (out : List Int) (each n i o : Nat) (C : Nat → Nat) : Prop := ∀ s t, s < n → t < n → C s = C t → (∀ j, j < i → sayOf out each s j = sayOf out each t j) ∧ ∀ p : Nat, p < o → (sayOf out each s i = (p : Int) ↔ sayOf out each t i = (p : Int))
def sayL (out : List Int) (each i o s : Nat) : List Nat := (List.range s).filter fun t => decide (sayOf out each t i = (o : Int))
theorem sayL_succ (out : List Int) (each i o s : Nat) : sayL out each i o (s + 1) = if sayOf out each s i = (o : Int) then sayL out each i o s ++ [s] else sayL out each i o s := by
  unfold sayL
  rw [List.range_succ, List.filter_append]
  by_cases e : sayOf out each s i = (o : Int)
  · rw [if_pos e, List.filter_cons_of_pos (by simpa using e), List.filter_nil]
  · rw [if_neg e, List.filter_cons_of_neg (by simpa using e), List.filter_nil, List.append_nil]
theorem sayL_mem (out : List Int) (each i o n s : Nat) (hs : s < n) : s ∈ sayL out each i o n ↔ sayOf out each s i = (o : Int) := by
  unfold sayL
  rw [List.mem_filter, List.mem_range]
  simp [hs]
theorem sayL_lt (out : List Int) (each i o n : Nat) : ∀ s ∈ sayL out each i o n, s < n := fun s h => List.mem_range.1 (List.mem_filter.1 h).1
theorem sayL_len (out : List Int) (each i o n : Nat) : (sayL out each i o n).length ≤ n := by
  have := List.length_filter_le (fun t => decide (sayOf out each t i = (o : Int))) (List.range n)
  rwa [List.length_range] at this
theorem Says.split {out : List Int} {each n i o N : Nat} {C : Nat → Nat} (h : Says out each n i o C) (hC : ∀ i, i < n → C i < N) : Says out each n i (o + 1) (splitOf n C N (sayL out each i o n)).C := fun s t hs ht e => by
  obtain ⟨e1, e2⟩ := (refine_is hC _ hs ht).1 e
  obtain ⟨h1, h2⟩ := h s t hs ht e1
  refine ⟨h1, fun p hp => ?_⟩
  by_cases e3 : p = o
  · subst e3
    rw [← sayL_mem out each i p n s hs, ← sayL_mem out each i p n t ht]
    exact e2
  · exact h2 p (by omega)
theorem Says.next {out : List Int} {each n i o : Nat} {C : Nat → Nat} (h : Says out each n i o C) (hr : ∀ s, s < n → 0 ≤ sayOf out each s i ∧ sayOf out each s i < (o : Int)) : Says out each n (i + 1) 0 C := fun s t hs ht e => by
  obtain ⟨h1, h2⟩ := h s t hs ht e
  refine ⟨fun j hj => ?_, fun p hp => absurd hp (Nat.not_lt_zero _)⟩
  by_cases e3 : j = i
  · subst e3
    obtain ⟨g1, g2⟩ := hr s hs
    have := (h2 (sayOf out each s j).toNat (by omega)).1 (by omega)
    omega
  · exact h1 j (by omega)
theorem Says.start {out : List Int} {each n : Nat} {C : Nat → Nat} : Says out each n 0 0 C := fun _ _ _ _ _ => ⟨fun _ hj => absurd hj (Nat.not_lt_zero _), fun _ hp => absurd hp (Nat.not_lt_zero _)⟩
theorem say_split {out : List Int} {each n K i o N : Nat} {nx : Nat → Nat → Nat} {C : Nat → Nat} (h : Sound n K nx (SameSay out each) C) (hC : ∀ i, i < n → C i < N) (hi : i < each) : Sound n K nx (SameSay out each) (splitOf n C N (sayL out each i o n)).C :=
  h.split hC _ (fun s t hs ht ha => by
    rw [sayL_mem out each i o n s hs, sayL_mem out each i o n t ht, ha.say hs ht i hi])
theorem part_lt {base : Nat} {own : Nat → Prop} {g n N : Nat} {C : Nat → Nat} {w : World} (h : (part base own g n N C).at_ w) : ∀ i, i < n → C i < N := by
  obtain ⟨R, P, A, B, gr, cr, gp, cp, gc, gs, cs, h1, h2, h3⟩ := h
  exact h1.cn
theorem part_le {base : Nat} {own : Nat → Prop} {g n N : Nat} {C : Nat → Nat} {w : World} (h : (part base own g n N C).at_ w) : N ≤ n := by
  obtain ⟨R, P, A, B, gr, cr, gp, cp, gc, gs, cs, h1, h2, h3⟩ := h
  exact h1.few
theorem w64m {a b : Nat} (ha : a ≤ 100000) (hb : b ≤ 100000) : wrap64 ((a : Int) * (b : Int)) = ((a * b : Nat) : Int) := by
  have h1 : a * b ≤ 100000 * 100000 := Nat.mul_le_mul ha hb
  have h2 : ((a * b : Nat) : Int) = (a : Int) * (b : Int) := Int.natCast_mul a b
  rw [← h2]
  unfold wrap64
  omega
attribute [local go_sem] max2_int min2_int max_two min_two max_three min_three max_four min_four
set_option maxHeartbeats 16000000 in
set_option maxRecDepth 100000 in
theorem Spoken_walk (own0 : Nat → Prop) (g n N0 : Nat) (C0 : Nat → Nat) (kd : Int) (K O each nl c4 c5 : Nat) (A4 : Option Addr) (ad5 : Addr) (out : List Int) (nxt : Nat → Nat → Nat) (w0 w : World) (hB : Below w0.heap.size w0 w) (hS : Sep w0.heap.size [part w0.heap.size own0 g n N0 C0] w)
    (hr : Kd.C (Kd.int .i64) w0 (some ad5) out.length out) (hlen : out.length = n * each) (hn0 : 0 < n) (hn : n ≤ 1024) (he : each ≤ 64) (hO : O ≤ 64) (hv : ∀ x ∈ out, 0 ≤ x ∧ x < (O : Int)) (hs : Sound n K nxt (SameSay out each) C0) :
    Calls Try.prog 34 #[.pointer (some ⟨g, 0, none⟩), .agg #[.int .i64 kd, .int .i64 (K : Int), .int .i64 (O : Int), .int .i64 (n : Int), .slice A4 nl c4, .slice (some ad5) out.length c5]] w fun e w' => e = .returned (.tuple #[]) ∧ ∃ (own : Nat → Prop) (N : Nat) (C : Nat → Nat), Sep w0.heap.size [part w0.heap.size own g n N C] w' ∧ Below w0.heap.size w0 w' ∧ Sound n K nxt (SameSay out each) C ∧ ∀ s t, s < n → t < n → C s = C t → SameSay out each s t := by
  have hu53 := Try.underlying53
  have hu22 := Try.underlying22
  have HRD := Aside0.mk hr
  have HV := Aside0.mk hv
  have HLEN := Aside0.mk hlen
  have hsz := hB.size
  have HS0 := Aside0.mk (hS.alloc #[.int .i64 kd, .int .i64 (K : Int), .int .i64 (O : Int), .int .i64 (n : Int), .slice A4 nl c4, .slice (some ad5) out.length c5] 53 hsz)
  have HB0 := Aside0.mk (below_alloc hB (.cells #[.int .i64 kd, .int .i64 (K : Int), .int .i64 (O : Int), .int .i64 (n : Int), .slice A4 nl c4, .slice (some ad5) out.length c5] 53))
  have HSD := Aside0.mk hs
  have HQ : Aside0 (wrap64 ((out.length : Int) / (n : Int)) = (each : Int)) := ⟨by
    rw [hlen, Int.natCast_mul, Int.mul_ediv_cancel_left _ (by omega)]
    unfold wrap64
    omega⟩
  have hnz : ¬ (n : Int) = 0 := by omega
  have hx3 : (w.alloc (.cells #[.int .i64 kd, .int .i64 (K : Int), .int .i64 (O : Int), .int .i64 (n : Int), .slice A4 nl c4, .slice (some ad5) out.length c5] 53)).cell? ⟨w.heap.size, 3, none⟩ = some (.int .i64 (n : Int)) := (blk_cell (HS0.out.get 0 rfl) 3).trans rfl
  have hx5 : (w.alloc (.cells #[.int .i64 kd, .int .i64 (K : Int), .int .i64 (O : Int), .int .i64 (n : Int), .slice A4 nl c4, .slice (some ad5) out.length c5] 53)).cell? ⟨w.heap.size, 5, none⟩ = some (.slice (some ad5) out.length c5) := (blk_cell (HS0.out.get 0 rfl) 5).trans rfl
  clear hr hv hlen hB hS hs
  go_enter Try.func34, Try.ntmps34
  go_wp2
  clear hx3 hx5
  rw [HQ.out]
  clear HQ
  generalize w.heap.size = gb at HS0 ⊢
  generalize w.alloc (.cells #[.int .i64 kd, .int .i64 (K : Int), .int .i64 (O : Int), .int .i64 (n : Int), .slice A4 nl c4, .slice (some ad5) out.length c5] 53) = w1 at HS0 HB0 ⊢
  go_loopw [16] (fun v16 wr => ∃ (i N : Nat) (C : Nat → Nat) (own : Nat → Prop), v16 = .int .i64 (i : Int) ∧ Aside0 (i ≤ each) ∧ Aside0 (Sep w0.heap.size [blk gb #[.int .i64 kd, .int .i64 (K : Int), .int .i64 (O : Int), .int .i64 (n : Int), .slice A4 nl c4, .slice (some ad5) out.length c5] 53, part w0.heap.size own g n N C] wr) ∧ Aside0 (Below w0.heap.size w0 wr) ∧ Aside0 (Sound n K nxt (SameSay out each) C ∧ Says out each n i 0 C)) (fun v16 _ => each - (intOf v16).toNat)
  case atStart => exact ⟨0, N0, C0, own0, rfl, ⟨Nat.zero_le _⟩, HS0, HB0, ⟨HSD.out, Says.start⟩⟩
  case round =>
    clear HS0 HB0 HSD
    obtain ⟨i, N, C, own, rfl, HI, HS, HB, HSD⟩ := hrel
    by_cases hi : i < each
    · have HIL := Aside0.mk hi
      have hi' : (i : Int) < (each : Int) := by omega
      have hx2 : wr.cell? ⟨gb, 2, none⟩ = some (.int .i64 (O : Int)) := (blk_cell (HS.out.get 0 rfl) 2).trans rfl
      clear hi
      go_wp2
      clear hx2
      go_loopw [21] (fun v21 wr => ∃ (o N : Nat) (C : Nat → Nat) (own : Nat → Prop), v21 = .int .i64 (o : Int) ∧ Aside0 (o ≤ O) ∧ Aside0 (Sep w0.heap.size [blk gb #[.int .i64 kd, .int .i64 (K : Int), .int .i64 (O : Int), .int .i64 (n : Int), .slice A4 nl c4, .slice (some ad5) out.length c5] 53, part w0.heap.size own g n N C] wr) ∧ Aside0 (Below w0.heap.size w0 wr) ∧ Aside0 (Sound n K nxt (SameSay out each) C ∧ Says out each n i o C)) (fun v21 _ => O - (intOf v21).toNat)
      case atStart => exact ⟨0, N, C, own, rfl, ⟨Nat.zero_le _⟩, HS, HB, HSD⟩
      case round =>
        clear HS HB HSD
        obtain ⟨o, N, C, own, rfl, HOI, HS, HB, HSD⟩ := hrel
        by_cases ho : o < O
        · have HOL := Aside0.mk ho
          have ho' : (o : Int) < (O : Int) := by omega
          have hx3 : wr.cell? ⟨gb, 3, none⟩ = some (.int .i64 (n : Int)) := (blk_cell (HS.out.get 0 rfl) 3).trans rfl
          have HSN : Aside0 (Sep w0.heap.size [none_, ints w0.heap.size (.slice none 0 0) (tl (sayL out each i o 0)), blk gb #[.int .i64 kd, .int .i64 (K : Int), .int .i64 (O : Int), .int .i64 (n : Int), .slice A4 nl c4, .slice (some ad5) out.length c5] 53, part w0.heap.size own g n N C] wr) := ⟨((HS.out.nilRow (Kd.int .i64) 3).free none_ trivial (fun _ hk => hk.elim))⟩
          clear ho
          go_wp2
          clear hx3
          go_loopw [26, 7] (fun v26 v7 wr => ∃ (s : Nat) (tv : Value), v26 = .int .i64 (s : Int) ∧ tv = v7 ∧ Aside0 (s ≤ n) ∧ Aside0 (Sep w0.heap.size [none_, ints w0.heap.size tv (tl (sayL out each i o s)), blk gb #[.int .i64 kd, .int .i64 (K : Int), .int .i64 (O : Int), .int .i64 (n : Int), .slice A4 nl c4, .slice (some ad5) out.length c5] 53, part w0.heap.size own g n N C] wr) ∧ Aside0 (Below w0.heap.size w0 wr)) (fun v26 _ _ => n - (intOf v26).toNat)
          case atStart => exact ⟨0, _, rfl, rfl, ⟨Nat.zero_le _⟩, HSN, HB⟩
          case round =>
            clear HSN HS HB
            obtain ⟨s, tv, rfl, htv, HSI, HS, HB⟩ := hrel
            subst htv
            by_cases hs : s < n
            · have HSL := Aside0.mk hs
              have hs' : (s : Int) < (n : Int) := by omega
              have hq : s * each + i < out.length := by
                have h1 := HLEN.out
                have h2 := HIL.out
                have h3 : (s + 1) * each ≤ n * each := Nat.mul_le_mul_right _ hs
                rw [Nat.add_mul, Nat.one_mul] at h3
                omega
              have hx5 : wr.cell? ⟨gb, 5, none⟩ = some (.slice (some ad5) out.length c5) := (blk_cell (HS.out.get 2 rfl) 5).trans rfl
              obtain ⟨_, e5, hxo⟩ := Kd.at_int (Kd.C_below HRD.out HB.out) ((s * each + i : Nat) : Int) (by omega) (by omega)
              cases e5
              rw [Int.toNat_natCast] at hxo
              have hxs : wr.cell? (ad5.add (s * each + i)) = some (.int .i64 (sayOf out each s i)) := hxo
              have hw1 : IntKind.i64.wrap ((s : Int) * (each : Int)) = ((s * each : Nat) : Int) := by rw [i64_w]; exact w64m (by omega) (by omega)
              have hse : s * each ≤ 1024 * 64 := Nat.mul_le_mul (by omega) he
              have hw2 : IntKind.i64.wrap (((s * each : Nat) : Int) + (i : Int)) = ((s * each + i : Nat) : Int) := by rw [i64_w]; exact w64p (by omega) (by omega)
              have hq1 : ((s * each + i : Nat) : Int) < (out.length : Int) := by omega
              have hq2 : 0 ≤ ((s * each + i : Nat) : Int) := by omega
              have HLL : Aside0 (((tl (sayL out each i o s)).length + 1) * 8 ≤ 140737488355328) := ⟨by have := sayL_len out each i o s; rw [tl_len]; omega⟩
              generalize hQ : s * each + i = q at hw2 hq1 hq2 hxs
              generalize hSE : s * each = se at hw1 hw2
              clear hs hq hxo hse hQ hSE
              by_cases hse : sayOf out each s i = (o : Int)
              · have hsl : sayL out each i o (s + 1) = sayL out each i o s ++ [s] := by rw [sayL_succ, if_pos hse]
                have HSL2 := Aside0.mk hsl
                have hseb : (sayOf out each s i == (o : Int)) = true := by simpa using hse
                clear hsl hse
                go_wp2_with (first
                | ((with_reducible refine gate_builtin (b := .append) (xs := #[.tmp 40, .tmp 42]) rfl ?_)
                   at_builtin
                   refine Kd.R_append (Kd.int .i64) (w0 := w0) w0.heap.size rfl (.tmp 40) (.tmp 42) 22 3 (.int .i64 0) 8 rfl Try.underlying22 info3 rfl (by decide) (by omega) tv (tl (sayL out each i o s)) (s : Int) [.int .i64 (s : Int)] (fun _ => True) (fun _ => False) rfl (by simp [Act.eval]) rfl (fun _ hk => hk.elim) (fun _ _ => trivial) (Kd.R_mono (HS.out.get 1 rfl) (fun _ _ => trivial)) HB.out HB.out.size HLL.out ?_
                   intro v8 w9 ho hb hg hat
                   have HS9 : Aside0 (Sep w0.heap.size [none_, ints w0.heap.size v8 (tl (sayL out each i o (s + 1))), blk gb #[.int .i64 kd, .int .i64 (K : Int), .int .i64 (O : Int), .int .i64 (n : Int), .slice A4 nl c4, .slice (some ad5) out.length c5] 53, part w0.heap.size own g n N C] w9) := ⟨by rw [HSL2.out, tl_snoc]; exact HS.out.app 1 rfl rfl ho hg hat HB.out.size⟩
                   have HB9 := Aside0.mk hb
                   clear ho hb hg hat))
                go_roundw
                case rel => exact ⟨s + 1, _, by go_num, rfl, ⟨by have := HSL.out; omega⟩, HS9, HB9⟩
                case measure => have := HSL.out; simp [intOf]; omega
              · have hsl : sayL out each i o (s + 1) = sayL out each i o s := by rw [sayL_succ, if_neg hse]
                have HSL2 := Aside0.mk hsl
                have hseb : (sayOf out each s i == (o : Int)) = false := by simpa using hse
                clear hsl hse
                go_wp2
                go_roundw
                case rel => exact ⟨s + 1, _, by go_num, rfl, ⟨by have := HSL.out; omega⟩, ⟨by rw [HSL2.out]; exact HS.out⟩, HB⟩
                case measure => have := HSL.out; simp [intOf]; omega
            · have hs' : ¬ ((s : Int) < (n : Int)) := by omega
              have hse : s = n := by have := HSI.out; omega
              subst hse
              obtain ⟨Al, cl, hv7⟩ := Kd.R_slice (HS.out.get 1 rfl)
              rw [tl_len] at hv7
              subst hv7
              have HLT := Aside0.mk (part_lt (HS.out.get 3 rfl))
              clear hs
              go_wp2_with (first
              | (go_at_call 12; refine (Split_law HS.out 3 0 rfl rfl (by decide) HB.out.size hn0 (by omega) (sayL out each i o s) (sayL_lt out each i o s) (by have := sayL_len out each i o s; omega) Al (sayL out each i o s).length cl rfl (fun w1 hk => (row_C ((ints w0.heap.size (.slice Al (sayL out each i o s).length cl) (tl (sayL out each i o s))).step (HS.out.get 1 rfl) (fun k hk1 hlt => hk k hlt (fun ho => HS.out.apart (i := 3) (j := 1) rfl rfl (by decide) (k := k) ho hk1)))).1)).mono ?_
                 rintro e w5 ⟨mv, own3, rfl, hS, hb⟩
                 have HS5 : Aside0 (Sep w0.heap.size [blk gb #[.int .i64 kd, .int .i64 (K : Int), .int .i64 (O : Int), .int .i64 (s : Int), .slice A4 nl c4, .slice (some ad5) out.length c5] 53, part w0.heap.size own3 g s (splitOf s C N (sayL out each i o s)).N (splitOf s C N (sayL out each i o s)).C] w5) := ⟨hS.sub (.cons _ (.cons _ (List.Sublist.refl _)))⟩
                 have HB5 := Aside0.mk (HB.out.trans hb)
                 clear hS hb))
              go_roundw
              case rel => exact ⟨o + 1, _, _, own3, by go_num, ⟨by have := HOL.out; omega⟩, HS5, HB5, ⟨say_split HSD.out.1 HLT.out HIL.out, HSD.out.2.split HLT.out⟩⟩
              case measure => have := HOL.out; simp [intOf]; omega
        · have ho' : ¬ ((o : Int) < (O : Int)) := by omega
          have hoe : o = O := by have := HOI.out; omega
          have HNX : Aside0 (Says out each n (i + 1) 0 C) := ⟨HSD.out.2.next (fun s hs => by
            have hq : s * each + i < out.length := by
              have h1 := HLEN.out
              have h2 := HIL.out
              have h3 : (s + 1) * each ≤ n * each := Nat.mul_le_mul_right _ hs
              rw [Nat.add_mul, Nat.one_mul] at h3
              omega
            have h5 := HV.out _ (List.getElem_mem hq)
            unfold sayOf
            rw [rd_nat hq, hoe]
            exact h5)⟩
          clear ho hoe
          go_wp2
          go_roundw
          case rel => exact ⟨i + 1, N, C, own, by go_num, ⟨by have := HIL.out; omega⟩, HS, HB, ⟨HSD.out.1, HNX.out⟩⟩
          case measure => have := HIL.out; simp [intOf]; omega
    · have hi' : ¬ ((i : Int) < (each : Int)) := by omega
      have hie : i = each := by have := HI.out; omega
      have HF : Aside0 (∀ s t, s < n → t < n → C s = C t → SameSay out each s t) := ⟨fun s t hs ht e j hj => (HSD.out.2 s t hs ht e).1 j (by omega)⟩
      clear hi hie
      go_wp2
      go_end0
      exact ⟨rfl, own, N, C, HS.out.sub (.cons _ (List.Sublist.refl _)), HB.out, HSD.out.1, HF.out⟩
end Go.Proofs.Ytdalpaobkmoomaa.X
end

section
namespace Go.Proofs.Ytdalpaobkmoomaa.X
open Go.RowKit Go.Proofs.YtdalpaobkmoomaaW.PrintWords Go.Proofs.YtdalpaobkmoomaaW.PrintLast Go.Proofs.YtdalpaobkmoomaaW.PrintMore
open Go.Proofs.Ytdalpaobkmoomaa Go.Proofs.Ytdalpaobkmoomaa.Sp
/-- Where a state goes by a symbol. -/
def goOf (nx : List Int) (K s x : Nat) : Nat := (rd nx ((s * K + x : Nat) : Int)).toNat
def srcL (nx : List Int) (K s p : Nat) : List Nat := (List.range s).filter fun a => decide (goOf nx K a (p % K) = p / K)
def frm (nx : List Int) (n K s x : Nat) : List (List Int) := (List.range (n * K)).map fun p => tl (srcL nx K (if p % K < x then s + 1 else s) p)
theorem frm_len (nx : List Int) (n K s x : Nat) : (frm nx n K s x).length = n * K := by simp [frm]
theorem frm_get {nx : List Int} {n K s x p : Nat} (h : p < n * K) : (frm nx n K s x)[p]? = some (tl (srcL nx K (if p % K < x then s + 1 else s) p)) := by
  simp [frm, List.getElem?_map, List.getElem?_range h]
theorem srcL_succ (nx : List Int) (K s p : Nat) : srcL nx K (s + 1) p = if goOf nx K s (p % K) = p / K then srcL nx K s p ++ [s] else srcL nx K s p := by
  unfold srcL
  rw [List.range_succ, List.filter_append]
  by_cases e : goOf nx K s (p % K) = p / K
  · rw [if_pos e, List.filter_cons_of_pos (by simpa using e), List.filter_nil]
  · rw [if_neg e, List.filter_cons_of_neg (by simpa using e), List.filter_nil, List.append_nil]
theorem srcL_len (nx : List Int) (K s p : Nat) : (srcL nx K s p).length ≤ s := by
  have := List.length_filter_le (fun a => decide (goOf nx K a (p % K) = p / K)) (List.range s)
  rwa [List.length_range] at this
theorem srcL_mem (nx : List Int) (K n p s : Nat) : s ∈ srcL nx K n p ↔ s < n ∧ goOf nx K s (p % K) = p / K := by
  unfold srcL
  rw [List.mem_filter, List.mem_range]
  simp
theorem rdL {l : List (List Int)} {p : Nat} {v : List Int} (h : l[p]? = some v) : rd_L1 l (p : Int) = v := by
  simp [rd_L1, List.getD_eq_getElem?_getD, h]
theorem frm_zero (nx : List Int) (n K : Nat) : frm nx n K 0 0 = List.replicate (n * K) [] := by
  unfold frm
  apply List.ext_getElem
  · simp
  · intro i h1 h2
    simp [srcL, tl]
theorem frm_turn (nx : List Int) (n K s : Nat) (hK : 0 < K) : frm nx n K s K = frm nx n K (s + 1) 0 := by
  unfold frm
  apply List.map_congr_left
  intro p _
  rw [if_pos (Nat.mod_lt _ hK), if_neg (Nat.not_lt_zero _)]
theorem w64mp {a K x : Nat} (ha : a ≤ 1024) (hK : K ≤ 64) (hx : x < K) : wrap64 (wrap64 ((a : Int) * (K : Int)) + (x : Int)) = ((a * K + x : Nat) : Int) := by
  have h : a * K ≤ 1024 * 64 := Nat.mul_le_mul ha hK
  rw [w64m (by omega) (by omega), w64p (by omega) (by omega)]
theorem pos_lt {t n K x : Nat} (ht : t < n) (hx : x < K) : (t * K + x) % K = x ∧ t * K + x < n * K ∧ (t * K + x) / K = t := by
  have hK : 0 < K := by omega
  refine ⟨by rw [Nat.mul_comm, Nat.mul_add_mod, Nat.mod_eq_of_lt hx], ?_, by rw [Nat.mul_comm, Nat.mul_add_div hK, Nat.div_eq_of_lt hx, Nat.add_zero]⟩
  have h3 : (t + 1) * K ≤ n * K := Nat.mul_le_mul_right _ ht
  rw [Nat.add_mul, Nat.one_mul] at h3
  omega
theorem frm_step (nx : List Int) (n K s x : Nat) (hx : x < K) (hg : goOf nx K s x < n) : (frm nx n K s x).set (goOf nx K s x * K + x) (tl (srcL nx K s (goOf nx K s x * K + x)) ++ [(s : Int)]) = frm nx n K s (x + 1) := by
  obtain ⟨hm, hlt, hd⟩ := pos_lt hg hx
  apply List.ext_getElem?
  intro p
  by_cases hp : p < n * K
  · rw [frm_get hp, List.getElem?_set, frm_len, frm_get hp]
    by_cases e : goOf nx K s x * K + x = p
    · rw [if_pos e, if_pos hlt]
      rw [e] at hm hd ⊢
      rw [if_pos (by omega), srcL_succ, hm, hd, if_pos rfl, tl_snoc]
    · rw [if_neg e]
      by_cases e2 : p % K = x
      · have e3 : ¬ goOf nx K s x = p / K := fun h => e (by rw [h, ← e2]; rw [Nat.mul_comm]; exact Nat.div_add_mod p K)
        rw [if_neg (by omega), if_pos (by omega), srcL_succ, e2, if_neg e3]
      · by_cases e4 : p % K < x
        · rw [if_pos e4, if_pos (by omega)]
        · rw [if_neg e4, if_neg (by omega)]
  · rw [List.getElem?_eq_none (by rw [List.length_set, frm_len]; omega), List.getElem?_eq_none (by rw [frm_len]; omega)]
section
variable {kd O : Int} {n K : Nat} {nx out : List Int} (hl : nx.length = n * K) (hv : ∀ v ∈ nx, 0 ≤ v ∧ v < (n : Int)) (hn : n ≤ 1024) (hK0 : 0 < K) (hK : K ≤ 64)
include hl hv
theorem go_lt {s x : Nat} (hs : s < n) (hx : x < K) : s * K + x < nx.length ∧ rd nx ((s * K + x : Nat) : Int) = (goOf nx K s x : Int) ∧ goOf nx K s x < n := by
  have h3 : (s + 1) * K ≤ n * K := Nat.mul_le_mul_right _ hs
  rw [Nat.add_mul, Nat.one_mul] at h3
  have hq : s * K + x < nx.length := by omega
  have h5 := hv _ (List.getElem_mem hq)
  have h6 : rd nx ((s * K + x : Nat) : Int) = nx[s * K + x] := rd_nat hq
  refine ⟨hq, ?_, ?_⟩
  · unfold goOf
    rw [h6, Int.toNat_of_nonneg h5.1]
  · unfold goOf
    rw [h6]
    omega
include hn hK0 hK
theorem before_l1 (s : Nat) (hs : s < n) (m : Nat) (ih : ∀ k, m ≤ k → block_before.l0 k (frm nx n K (s + 1) 0) (n : Int) ((s + 1 : Nat) : Int) kd (K : Int) O (n : Int) nx out = some (frm nx n K n 0)) : ∀ (d k x : Nat), x + d = K → m + d < k → block_before.l1 k (frm nx n K s x) (s : Int) (n : Int) (s : Int) (K : Int) (x : Int) kd (K : Int) O (n : Int) nx out = some (frm nx n K n 0) := by
  intro d
  induction d with
  | zero =>
    intro k x h hk
    obtain ⟨k, rfl⟩ : ∃ m, k = m + 1 := ⟨k - 1, by omega⟩
    have hx : x = K := by omega
    subst hx
    rw [block_before.l1, if_neg (by omega), w64s (by omega), frm_turn _ _ _ _ hK0]
    exact ih k (by omega)
  | succ d ihd =>
    intro k x h hk
    obtain ⟨k, rfl⟩ : ∃ m, k = m + 1 := ⟨k - 1, by omega⟩
    have hx : x < K := by omega
    have hx9 : x ≤ 1000000000 := by omega
    obtain ⟨g1, g2, g3⟩ := go_lt hl hv hs hx
    have e1 := w64mp (a := s) (by omega) hK hx
    have e2 := w64mp (a := goOf nx K s x) (Nat.le_trans (Nat.le_of_lt g3) hn) hK hx
    obtain ⟨hm, hlt, _⟩ := pos_lt g3 hx
    have hgt := frm_get (nx := nx) (s := s) (x := x) hlt
    rw [hm, if_neg (Nat.lt_irrefl _)] at hgt
    have hll := srcL_len nx K s (goOf nx K s x * K + x)
    have hA : (tl (srcL nx K s (goOf nx K s x * K + x))).length < 17592186044416 := by rw [tl_len]; exact Nat.lt_of_le_of_lt hll (by omega)
    have hF := frm_step nx n K s x hx g3
    have hI := ihd k (x + 1) (by omega) (by omega)
    rw [← hF] at hI
    have hB : ((goOf nx K s x * K + x : Nat) : Int) < ((frm nx n K s x).length : Int) := by rw [frm_len]; exact Int.ofNat_lt.2 hlt
    clear hF hll
    rw [block_before.l1, if_pos (by omega)]
    simp only [e1, g2, e2, rdL hgt, Int.toNat_natCast]
    rw [if_pos (Int.natCast_nonneg _), if_pos (Int.ofNat_lt.2 g1), if_pos (Int.natCast_nonneg _), if_pos hB, if_pos hA, w64s hx9]
    exact hI
theorem before_l0 : ∀ (e k s : Nat), s + e = n → e * (K + 2) < k → block_before.l0 k (frm nx n K s 0) (n : Int) (s : Int) kd (K : Int) O (n : Int) nx out = some (frm nx n K n 0) := by
  intro e
  induction e with
  | zero =>
    intro k s h hk
    obtain ⟨k, rfl⟩ : ∃ m, k = m + 1 := ⟨k - 1, by omega⟩
    have hs : s = n := by omega
    subst hs
    rw [block_before.l0, if_neg (by omega)]
  | succ e ih =>
    intro k s h hk
    obtain ⟨k, rfl⟩ : ∃ m, k = m + 1 := ⟨k - 1, by omega⟩
    rw [Nat.add_mul, Nat.one_mul] at hk
    rw [block_before.l0, if_pos (by omega)]
    exact before_l1 hl hv hn hK0 hK s (by omega) (e * (K + 2) + 1) (fun k hk => ih k (s + 1) (by omega) (by omega)) K k 0 (by omega) (by omega)
theorem before_is {k : Nat} (hk : 200000 ≤ k) : block_before.f k kd (K : Int) O (n : Int) nx out = some (frm nx n K n 0) := by
  unfold block_before.f
  have h2 : n * K ≤ 1024 * 64 := Nat.mul_le_mul hn hK
  have h3 : n * (K + 2) ≤ 1024 * 66 := Nat.mul_le_mul hn (by omega)
  rw [w64m (by omega) (by omega), if_pos (by omega), Int.toNat_natCast, if_pos (by omega), ← frm_zero nx]
  exact before_l0 hl hv hn hK0 hK n k 0 (by omega) (by omega)
end
end Go.Proofs.Ytdalpaobkmoomaa.X
end

section
namespace Go.Proofs.Ytdalpaobkmoomaa.X
open Go.RowKit Go.Proofs.YtdalpaobkmoomaaW.PrintWords Go.Proofs.YtdalpaobkmoomaaW.PrintLast Go.Proofs.YtdalpaobkmoomaaW.PrintMore
open Go.Proofs.Ytdalpaobkmoomaa Go.Proofs.Ytdalpaobkmoomaa.Sp
open Classical
set_option maxHeartbeats 1000000
def rowB (n : Nat) (p : Nat → Bool) : List Bool := (List.range n).map p
def matU (n : Nat) (P : Nat → Nat → Bool) (m : Nat) : List (List Bool) := (List.range m).map fun s => rowB n (P s)
abbrev mat (n : Nat) (P : Nat → Nat → Bool) : List (List Bool) := matU n P n
theorem rowB_len (n : Nat) (p : Nat → Bool) : (rowB n p).length = n := by simp [rowB]
theorem matU_len (n : Nat) (P : Nat → Nat → Bool) (m : Nat) : (matU n P m).length = m := by simp [matU]
theorem rd_row {n t : Nat} (p : Nat → Bool) (ht : t < n) : rdOf false (rowB n p) (t : Int) = p t := by
  simp [rdOf, rowB, List.getD_eq_getElem?_getD, List.getElem?_range ht]
theorem rd_mat {n m s : Nat} (P : Nat → Nat → Bool) (hs : s < m) : rd_L3 (matU n P m) (s : Int) = rowB n (P s) := by
  simp [rd_L3, matU, List.getD_eq_getElem?_getD, List.getElem?_range hs]
theorem rowB_congr {n : Nat} {p q : Nat → Bool} (h : ∀ j, j < n → p j = q j) : rowB n p = rowB n q := List.map_congr_left fun j hj => h j (List.mem_range.1 hj)
theorem rowB_set {n t : Nat} (p : Nat → Bool) (ht : t < n) (b : Bool) : (rowB n p).set t b = rowB n (upd p t b) := by
  apply List.ext_getElem
  · simp [rowB]
  · intro i h1 h2
    rw [List.length_set, rowB_len] at h1
    rw [List.getElem_set]
    by_cases e : t = i
    · subst e; simp [rowB, upd]
    · rw [if_neg e]; simp [rowB, upd, show ¬ i = t from fun h => e h.symm]
theorem upd_upd (p : Nat → Bool) (t : Nat) (a b : Bool) : upd (upd p t a) t b = upd p t b := by
  funext j; unfold upd; split <;> rfl
theorem rowB_zero (n : Nat) (p : Nat → Bool) : List.replicate n false = rowB n (fun j => decide (j < 0) && p j) := by
  apply List.ext_getElem
  · simp [rowB]
  · intro i h1 h2; simp [rowB]
theorem rowB_full (n : Nat) (p : Nat → Bool) : rowB n (fun j => decide (j < n) && p j) = rowB n p := rowB_congr fun j hj => by simp [hj]
theorem rowB_step (n t : Nat) (p : Nat → Bool) : rowB n (upd (fun j => decide (j < t) && p j) t (p t)) = rowB n (fun j => decide (j < t + 1) && p j) := rowB_congr fun j _ => by
  unfold upd
  by_cases e : j = t
  · subst e; simp
  · rw [if_neg e]
    have : (j < t) ↔ (j < t + 1) := by omega
    simp [this]
theorem matU_snoc (n m : Nat) (P : Nat → Nat → Bool) : matU n P m ++ [rowB n (P m)] = matU n P (m + 1) := by simp [matU, List.range_succ]
theorem nat64 {n : Nat} (h : n ≤ 1000000) : ((n : Int)).toNat = n ∧ (0 : Int) ≤ (n : Int) ∧ n ≤ 281474976710656 := ⟨Int.toNat_natCast n, by omega, by omega⟩
section
variable {kd O : Int} {n K each : Nat} {nx out : List Int}
theorem now_l0 (hl : out.length = n * K) (hn : n ≤ 1024) (hK : K ≤ 64) {s t : Nat} (hs : s < n) (ht : t < n) : ∀ (d k x : Nat), x + d = K → d < k → tutorref05_now.l0 k (s : Int) (t : Int) (x : Int) kd (K : Int) O (n : Int) nx out = some (decide (∀ i, x ≤ i → i < K → sayOf out K s i = sayOf out K t i)) := by
  intro d
  induction d with
  | zero =>
    intro k x h hk
    obtain ⟨k, rfl⟩ : ∃ m, k = m + 1 := ⟨k - 1, by omega⟩
    rw [tutorref05_now.l0, if_neg (by omega)]
    congr 1
    exact (decide_eq_true (fun i h1 h2 => by omega)).symm
  | succ d ih =>
    intro k x h hk
    obtain ⟨k, rfl⟩ : ∃ m, k = m + 1 := ⟨k - 1, by omega⟩
    have hx : x < K := by omega
    have o1 : x ≤ 1000000000 := by omega
    have o2 : x + 1 + d = K := by omega
    have o3 : d < k := by omega
    have o4 : ∀ i, x + 1 ≤ i → x ≤ i := fun i h => by omega
    have o5 : ∀ i, x ≤ i → ¬ i = x → x + 1 ≤ i := fun i h h2 => by omega
    have o6 : s ≤ 1024 := by omega
    have o7 : t ≤ 1024 := by omega
    have o8 : (x : Int) < (K : Int) := by omega
    have e1 := w64mp (a := s) o6 hK hx
    have e2 := w64mp (a := t) o7 hK hx
    have p1 := (pos_lt (t := s) hs hx).2.1
    have p2 := (pos_lt (t := t) ht hx).2.1
    have q1 : ((s * K + x : Nat) : Int) < (out.length : Int) := by rw [hl]; exact Int.ofNat_lt.2 p1
    have q2 : ((t * K + x : Nat) : Int) < (out.length : Int) := by rw [hl]; exact Int.ofNat_lt.2 p2
    rw [tutorref05_now.l0, if_pos o8]
    simp only [e1, e2]
    rw [if_pos (Int.natCast_nonneg _), if_pos q1, if_pos (Int.natCast_nonneg _), if_pos q2]
    have hsx : rd out ((s * K + x : Nat) : Int) = sayOf out K s x := rfl
    have htx : rd out ((t * K + x : Nat) : Int) = sayOf out K t x := rfl
    rw [hsx, htx]
    by_cases he : sayOf out K s x = sayOf out K t x
    · rw [if_pos he, w64s o1, ih k (x + 1) o2 o3]
      congr 1
      refine decide_eq_decide.2 ⟨fun h i h1 h2 => ?_, fun h i h1 h2 => h i (o4 i h1) h2⟩
      by_cases e : i = x
      · subst e; exact he
      · exact h i (o5 i h1 e) h2
    · rw [if_neg he]
      congr 1
      exact (decide_eq_false (fun h => he (h x (Nat.le_refl _) hx))).symm
theorem now_is (hl : out.length = n * each) (he : each = if kd = 1 then 1 else K) (hn : n ≤ 1024) (hK : K ≤ 64) {s t : Nat} (hs : s < n) (ht : t < n) {k : Nat} (hk : 100 ≤ k) : tutorref05_now.f k kd (K : Int) O (n : Int) nx out (s : Int) (t : Int) = some (decide (SameSay out each s t)) := by
  unfold tutorref05_now.f
  by_cases h1 : kd = 1
  · rw [if_pos h1] at he
    subst he
    rw [Nat.mul_one] at hl
    have q1 : (s : Int) < (out.length : Int) := by omega
    have q2 : (t : Int) < (out.length : Int) := by omega
    rw [if_pos h1, if_pos (Int.natCast_nonneg _), if_pos q1, if_pos (Int.natCast_nonneg _), if_pos q2]
    congr 1
    have e1 : ∀ a : Nat, sayOf out 1 a 0 = rd out (a : Int) := fun a => by unfold sayOf; rw [Nat.mul_one, Nat.add_zero]
    rw [← e1, ← e1]
    by_cases e : sayOf out 1 s 0 = sayOf out 1 t 0
    · rw [decide_eq_true (show SameSay out 1 s t from fun i hi => by obtain rfl : i = 0 := by omega
                                                                     exact e)]
      simpa using e
    · rw [decide_eq_false (show ¬ SameSay out 1 s t from fun h => e (h 0 (by omega)))]
      simpa using e
  · rw [if_neg h1] at he
    subst he
    rw [if_neg h1]
    have this : tutorref05_now.l0 k (s : Int) (t : Int) 0 kd (each : Int) O (n : Int) nx out = _ := now_l0 (kd := kd) (O := O) (nx := nx) hl hn hK hs ht each k 0 (by omega) (by omega)
    rw [this]
    congr 1
    exact decide_eq_decide.2 ⟨fun h i hi => h i (Nat.zero_le _) hi, fun h i _ hi => h i hi⟩
noncomputable def sameB (out : List Int) (each s t : Nat) : Bool := decide (SameSay out each s t)
noncomputable def zB (kd : Int) (out : List Int) (each s t : Nat) : Bool := decide (kd = 1) && !sameB out each s t
theorem start_l1 (hl : out.length = n * each) (he : each = if kd = 1 then 1 else K) (hn : n ≤ 60) (hK : K ≤ 64) {s : Nat} (hs : s < n) (m : Nat) (hm : 100 ≤ m) (ans : Option (List (List Bool)))
    (ih : ∀ k, m ≤ k → tutorref05_start.l0 k (matU n (zB kd out each) (s + 1)) ((s + 1 : Nat) : Int) kd (K : Int) O (n : Int) nx out = ans) : ∀ (d k t : Nat), t + d = n → m + d < k → tutorref05_start.l1 k (matU n (zB kd out each) s) (s : Int) (rowB n (fun j => decide (j < t) && zB kd out each s j)) (t : Int) kd (K : Int) O (n : Int) nx out = ans := by
  intro d
  induction d with
  | zero =>
    intro k t h hk
    obtain ⟨k, rfl⟩ : ∃ m, k = m + 1 := ⟨k - 1, by omega⟩
    have ht : t = n := by omega
    subst ht
    rw [tutorref05_start.l1, if_neg (by omega), if_pos (by rw [matU_len]; omega), rowB_full, matU_snoc, w64s (by omega)]
    exact ih k (by omega)
  | succ d ihd =>
    intro k t h hk
    obtain ⟨k, rfl⟩ : ∃ m, k = m + 1 := ⟨k - 1, by omega⟩
    have ht : t < n := by omega
    have hI := ihd k (t + 1) (by omega) (by omega)
    rw [← rowB_step, ← rowB_set _ ht] at hI
    have q : (t : Int) < ((rowB n (fun j => decide (j < t) && zB kd out each s j)).length : Int) := by rw [rowB_len]; omega
    rw [tutorref05_start.l1, if_pos (by omega), w64s (by omega)]
    by_cases h1 : kd = 1
    · rw [if_pos h1, now_is hl he (by omega) hK hs ht (by omega), Option.bind_some, if_pos (Int.natCast_nonneg _), if_pos q, Int.toNat_natCast]
      have e : zB kd out each s t = !decide (SameSay out each s t) := by unfold zB sameB; rw [decide_eq_true h1]; rfl
      rw [← e]
      exact hI
    · rw [if_neg h1, if_pos (Int.natCast_nonneg _), if_pos q, Int.toNat_natCast]
      have e : zB kd out each s t = false := by unfold zB; rw [decide_eq_false h1]; rfl
      rw [e] at hI
      exact hI
theorem start_l0 (hl : out.length = n * each) (he : each = if kd = 1 then 1 else K) (hn : n ≤ 60) (hK : K ≤ 64) : ∀ (r k s : Nat), s + r = n → 100 + r * (n + 2) < k → tutorref05_start.l0 k (matU n (zB kd out each) s) (s : Int) kd (K : Int) O (n : Int) nx out = some (mat n (zB kd out each)) := by
  intro r
  induction r with
  | zero =>
    intro k s h hk
    obtain ⟨k, rfl⟩ : ∃ m, k = m + 1 := ⟨k - 1, by omega⟩
    have hs : s = n := by omega
    subst hs
    rw [tutorref05_start.l0, if_neg (by omega)]
  | succ r ih =>
    intro k s h hk
    obtain ⟨k, rfl⟩ : ∃ m, k = m + 1 := ⟨k - 1, by omega⟩
    rw [Nat.add_mul, Nat.one_mul] at hk
    obtain ⟨n1, n2, n3⟩ := nat64 (n := n) (by omega)
    rw [tutorref05_start.l0, if_pos (by omega), if_pos n2, n1, if_pos n3, rowB_zero n (zB kd out each s)]
    exact start_l1 hl he hn hK (by omega) (101 + r * (n + 2)) (by omega) _ (fun k hk => ih k (s + 1) (by omega) (by omega)) n k 0 (by omega) (by omega)
theorem start_is (hl : out.length = n * each) (he : each = if kd = 1 then 1 else K) (hn : n ≤ 60) (hK : K ≤ 64) {k : Nat} (hk : 10000 ≤ k) : tutorref05_start.f k kd (K : Int) O (n : Int) nx out = some (mat n (zB kd out each)) := by
  have h2 : n * (n + 2) ≤ 60 * 62 := Nat.mul_le_mul hn (by omega)
  exact start_l0 hl he hn hK n k 0 (by omega) (by omega)
noncomputable def exB (nx : List Int) (K : Nat) (P : Nat → Nat → Bool) (s t x : Nat) : Bool := decide (∃ y, x ≤ y ∧ y < K ∧ P (goOf nx K s y) (goOf nx K t y) = true)
noncomputable def qB (nx : List Int) (K : Nat) (first : Bool) (out : List Int) (each : Nat) (P : Nat → Nat → Bool) (s t : Nat) : Bool := (P s t || (first && !sameB out each s t)) || exB nx K P s t 0
noncomputable def difR (P Q : Nat → Nat → Bool) (s t : Nat) : Bool := @decide (∃ j, j < t ∧ Q s j ≠ P s j) (Classical.propDecidable _)
noncomputable def difM (n : Nat) (P Q : Nat → Nat → Bool) (s : Nat) : Bool := @decide (∃ i, i < s ∧ ∃ j, j < n ∧ Q i j ≠ P i j) (Classical.propDecidable _)
theorem difR_iff {P Q : Nat → Nat → Bool} {s t : Nat} : difR P Q s t = true ↔ ∃ j, j < t ∧ Q s j ≠ P s j := @decide_eq_true_iff _ (Classical.propDecidable _)
theorem difM_iff {n : Nat} {P Q : Nat → Nat → Bool} {s : Nat} : difM n P Q s = true ↔ ∃ i, i < s ∧ ∃ j, j < n ∧ Q i j ≠ P i j := @decide_eq_true_iff _ (Classical.propDecidable _)
theorem difR_zero (P Q : Nat → Nat → Bool) (s : Nat) : difR P Q s 0 = false := Bool.eq_false_iff.2 fun h => by obtain ⟨j, h, _⟩ := difR_iff.1 h; exact absurd h (Nat.not_lt_zero _)
theorem difM_zero (n : Nat) (P Q : Nat → Nat → Bool) : difM n P Q 0 = false := Bool.eq_false_iff.2 fun h => by obtain ⟨j, h, _⟩ := difM_iff.1 h; exact absurd h (Nat.not_lt_zero _)
theorem difR_succ (P Q : Nat → Nat → Bool) (s t : Nat) : (difR P Q s t || (Q s t != P s t)) = difR P Q s (t + 1) := by
  rw [Bool.eq_iff_iff, Bool.or_eq_true, difR_iff, difR_iff]
  refine ⟨?_, ?_⟩
  · rintro (⟨j, h1, h2⟩ | h2)
    · exact ⟨j, by omega, h2⟩
    · exact ⟨t, Nat.lt_succ_self _, by simpa using h2⟩
  · rintro ⟨i, h1, h2⟩
    by_cases e : i = t
    · subst e; exact .inr (by simpa using h2)
    · exact .inl ⟨i, by omega, h2⟩
theorem difM_succ (n : Nat) (P Q : Nat → Nat → Bool) (s : Nat) : (difM n P Q s || difR P Q s n) = difM n P Q (s + 1) := by
  rw [Bool.eq_iff_iff, Bool.or_eq_true, difM_iff, difM_iff, difR_iff]
  refine ⟨?_, ?_⟩
  · rintro (⟨i, h1, h2⟩ | h2)
    · exact ⟨i, by omega, h2⟩
    · exact ⟨s, Nat.lt_succ_self _, h2⟩
  · rintro ⟨i, h1, h2⟩
    by_cases e : i = s
    · subst e; exact .inr h2
    · exact .inl ⟨i, by omega, h2⟩
theorem exB_end {P : Nat → Nat → Bool} {s t x : Nat} (h : K ≤ x) : exB nx K P s t x = false := decide_eq_false (fun ⟨y, h1, h2, _⟩ => by omega)
theorem exB_step {P : Nat → Nat → Bool} {s t x : Nat} (h : x < K) : exB nx K P s t x = (P (goOf nx K s x) (goOf nx K t x) || exB nx K P s t (x + 1)) := by
  unfold exB
  cases hp : P (goOf nx K s x) (goOf nx K t x) with
  | true => simp only [Bool.true_or]; exact decide_eq_true ⟨x, Nat.le_refl _, h, hp⟩
  | false =>
    simp only [Bool.false_or]
    refine decide_eq_decide.2 ⟨fun ⟨y, h1, h2, h3⟩ => ⟨y, ?_, h2, h3⟩, fun ⟨y, h1, h2, h3⟩ => ⟨y, by omega, h2, h3⟩⟩
    by_cases e : y = x
    · subst e; rw [hp] at h3; cases h3
    · omega
variable (hnl : nx.length = n * K) (hv : ∀ v ∈ nx, 0 ≤ v ∧ v < (n : Int)) (hl : out.length = n * each) (he : each = if kd = 1 then 1 else K) (hn : n ≤ 60) (hK0 : 0 < K) (hK : K ≤ 64)
include hnl hv hn hK
theorem round_l2 (P : Nat → Nat → Bool) (first more : Bool) (acc : List (List Bool)) {s t : Nat} (hs : s < n) (ht : t < n) (q : Nat → Bool) (V : Bool) (m : Nat) (ans : Option (List (List Bool) × Bool))
    (ih : ∀ k, m ≤ k → tutorref05_round.l1 k (mat n P) first acc (more || (V != P s t)) (s : Int) (rowB n (upd q t V)) ((t + 1 : Nat) : Int) kd (K : Int) O (n : Int) nx out = ans) :
    ∀ (d k x : Nat) (b : Bool), x + d = K → m + d < k → V = (b || exB nx K P s t x) → tutorref05_round.l2 k (mat n P) first acc more (s : Int) (rowB n (upd q t b)) (t : Int) (x : Int) kd (K : Int) O (n : Int) nx out = ans := by
  have hlen : ∀ p, ((rowB n p).length : Int) = (n : Int) := fun p => by rw [rowB_len]
  have hml : ((mat n P).length : Int) = (n : Int) := by rw [matU_len]
  have hsn : (s : Int) < (n : Int) := by omega
  have htn : (t : Int) < (n : Int) := by omega
  have hbt : ∀ b, rdOf false (rowB n (upd q t b)) (t : Int) = b := fun b => by rw [rd_row _ ht, upd_at]
  have hPt : rdOf false (rowB n (P s)) (t : Int) = P s t := rd_row _ ht
  have fin : ∀ (k : Nat) (b : Bool), m ≤ k → V = b → (if more = true then tutorref05_round.l1 k (mat n P) first acc true (s : Int) (rowB n (upd q t b)) ((t + 1 : Nat) : Int) kd (K : Int) O (n : Int) nx out else tutorref05_round.l1 k (mat n P) first acc (b != P s t) (s : Int) (rowB n (upd q t b)) ((t + 1 : Nat) : Int) kd (K : Int) O (n : Int) nx out) = ans := by
    intro k b hk hb
    have h := ih k hk
    rw [hb] at h
    cases more with
    | true => rw [if_pos rfl]; exact h
    | false => rw [if_neg (by simp)]; exact h
  intro d
  induction d with
  | zero =>
    intro k x b h hk hV
    obtain ⟨k, rfl⟩ : ∃ m, k = m + 1 := ⟨k - 1, by omega⟩
    rw [exB_end (by omega), Bool.or_false] at hV
    rw [tutorref05_round.l2, if_neg (by omega), if_pos (Int.natCast_nonneg _), hlen, if_pos htn, if_pos (Int.natCast_nonneg _), hml, if_pos hsn, rd_mat P hs, hlen, if_pos htn, hbt, hPt, w64s (by omega)]
    exact fin k b (by omega) hV
  | succ d ihd =>
    intro k x b h hk hV
    obtain ⟨k, rfl⟩ : ∃ m, k = m + 1 := ⟨k - 1, by omega⟩
    have hx : x < K := by omega
    have o1 : x ≤ 1000000000 := by omega
    have o2 : x + 1 + d = K := by omega
    have o3 : m + d < k := by omega
    have o4 : m ≤ k := by omega
    have o5 : t ≤ 1000000000 := by omega
    have o6 : s ≤ 1024 := by omega
    have o7 : t ≤ 1024 := by omega
    rw [tutorref05_round.l2, if_pos (by omega), if_pos (Int.natCast_nonneg _), hlen, if_pos htn, hbt]
    cases hb : b with
    | true =>
      rw [hb, Bool.true_or] at hV
      rw [if_pos rfl, if_pos (Int.natCast_nonneg _), hml, if_pos hsn, rd_mat P hs, hlen, if_pos htn, hPt, w64s o5]
      exact fin k true o4 hV
    | false =>
      rw [hb, Bool.false_or, exB_step hx] at hV
      have e1 := w64mp (a := s) o6 hK hx
      have e2 := w64mp (a := t) o7 hK hx
      obtain ⟨a1, a2, a3⟩ := go_lt hnl hv hs hx
      obtain ⟨b1, b2, b3⟩ := go_lt hnl hv ht hx
      have c1 : ((s * K + x : Nat) : Int) < (nx.length : Int) := Int.ofNat_lt.2 a1
      have c2 : ((t * K + x : Nat) : Int) < (nx.length : Int) := Int.ofNat_lt.2 b1
      have d1 : ((goOf nx K s x : Nat) : Int) < (n : Int) := Int.ofNat_lt.2 a3
      have d2 : ((goOf nx K t x : Nat) : Int) < (n : Int) := Int.ofNat_lt.2 b3
      rw [if_neg (by simp)]
      simp only [e1, e2, a2, b2]
      rw [if_pos (Int.natCast_nonneg _), if_pos c1, if_pos (Int.natCast_nonneg _), hml, if_pos d1, if_pos (Int.natCast_nonneg _), if_pos c2, if_pos (Int.natCast_nonneg _), rd_mat P a3, hlen, if_pos d2, rd_row _ b3, Int.toNat_natCast, rowB_set _ ht, upd_upd, w64s o1]
      exact ihd k (x + 1) _ o2 o3 hV
include hl he
theorem round_l1 (P : Nat → Nat → Bool) (first more : Bool) {s : Nat} (hs : s < n) (m : Nat) (hm : 200 ≤ m) (ans : Option (List (List Bool) × Bool))
    (ih : ∀ k, m ≤ k → tutorref05_round.l0 k (mat n P) first (matU n (qB nx K first out each P) (s + 1)) (more || difR P (qB nx K first out each P) s n) ((s + 1 : Nat) : Int) kd (K : Int) O (n : Int) nx out = ans) :
    ∀ (d k t : Nat), t + d = n → m + d * (K + 4) < k → tutorref05_round.l1 k (mat n P) first (matU n (qB nx K first out each P) s) (more || difR P (qB nx K first out each P) s t) (s : Int) (rowB n (fun j => decide (j < t) && qB nx K first out each P s j)) (t : Int) kd (K : Int) O (n : Int) nx out = ans := by
  intro d
  induction d with
  | zero =>
    intro k t h hk
    obtain ⟨k, rfl⟩ : ∃ m, k = m + 1 := ⟨k - 1, by omega⟩
    have ht : t = n := by omega
    subst ht
    rw [tutorref05_round.l1, if_neg (by omega), if_pos (by rw [matU_len]; omega), rowB_full, matU_snoc, w64s (by omega)]
    exact ih k (by omega)
  | succ d ihd =>
    intro k t h hk
    obtain ⟨k, rfl⟩ : ∃ m, k = m + 1 := ⟨k - 1, by omega⟩
    have ht : t < n := by omega
    rw [Nat.add_mul, Nat.one_mul] at hk
    have hml : ((mat n P).length : Int) = (n : Int) := by rw [matU_len]
    have hlen : ∀ p, ((rowB n p).length : Int) = (n : Int) := fun p => by rw [rowB_len]
    have hsn : (s : Int) < (n : Int) := by omega
    have htn : (t : Int) < (n : Int) := by omega
    have hmore : ((more || difR P (qB nx K first out each P) s t) || (qB nx K first out each P s t != P s t)) = (more || difR P (qB nx K first out each P) s (t + 1)) := by
      rw [Bool.or_assoc, difR_succ]
    have hI := fun k hk => ihd k (t + 1) (by omega) hk
    rw [← hmore, ← rowB_step] at hI
    have l2 := round_l2 (kd := kd) (O := O) (out := out) hnl hv hn hK P first (more || difR P (qB nx K first out each P) s t) (matU n (qB nx K first out each P) s) hs ht (fun j => decide (j < t) && qB nx K first out each P s j) (qB nx K first out each P s t) (m + d * (K + 4) + 1) ans (fun k hk => hI k (by omega))
    have l3 : ∀ k b, m + d * (K + 4) + K + 2 < k → qB nx K first out each P s t = (b || exB nx K P s t 0) → tutorref05_round.j2 k (mat n P) first (matU n (qB nx K first out each P) s) (more || difR P (qB nx K first out each P) s t) (s : Int) ((rowB n (fun j => decide (j < t) && qB nx K first out each P s j)).set t b) (t : Int) kd (K : Int) O (n : Int) nx out = ans := by
      intro k b hk hb
      obtain ⟨k, rfl⟩ : ∃ m, k = m + 1 := ⟨k - 1, by omega⟩
      rw [tutorref05_round.j2, rowB_set _ ht]
      exact l2 K k 0 b (by omega) (by omega) hb
    rw [tutorref05_round.l1, if_pos (by omega), if_pos (Int.natCast_nonneg _), hml, if_pos hsn, if_pos (Int.natCast_nonneg _), rd_mat P hs, hlen, if_pos htn, rd_row _ ht, Int.toNat_natCast, hlen, now_is hl he (by omega) hK hs ht (by omega), Option.bind_some]
    simp only [if_pos htn]
    cases hp : P s t with
    | true =>
      rw [if_pos rfl]
      exact l3 k true (by omega) (by unfold qB; rw [hp, Bool.true_or])
    | false =>
      rw [if_neg (by simp)]
      cases hf : first with
      | true =>
        rw [if_pos rfl]
        rw [hf] at l3
        exact l3 k _ (by omega) (by unfold qB sameB; rw [hp, Bool.false_or, Bool.true_and])
      | false =>
        rw [if_neg (by simp)]
        rw [hf] at l3
        exact l3 k false (by omega) (by unfold qB; rw [hp, Bool.false_or, Bool.false_and])
theorem round_l0 (P : Nat → Nat → Bool) (first : Bool) : ∀ (r k s : Nat), s + r = n → 300 + r * (n * (K + 4) + 2) < k → tutorref05_round.l0 k (mat n P) first (matU n (qB nx K first out each P) s) (difM n P (qB nx K first out each P) s) (s : Int) kd (K : Int) O (n : Int) nx out = some (mat n (qB nx K first out each P), difM n P (qB nx K first out each P) n) := by
  intro r
  induction r with
  | zero =>
    intro k s h hk
    obtain ⟨k, rfl⟩ : ∃ m, k = m + 1 := ⟨k - 1, by omega⟩
    have hs : s = n := by omega
    subst hs
    rw [tutorref05_round.l0, if_neg (by omega)]
  | succ r ih =>
    intro k s h hk
    obtain ⟨k, rfl⟩ : ∃ m, k = m + 1 := ⟨k - 1, by omega⟩
    rw [Nat.add_mul, Nat.one_mul] at hk
    obtain ⟨n1, n2, n3⟩ := nat64 (n := n) (by omega)
    have hmore : (difM n P (qB nx K first out each P) s || difR P (qB nx K first out each P) s n) = difM n P (qB nx K first out each P) (s + 1) := by
      exact difM_succ n P _ s
    have h1 := round_l1 (kd := kd) (O := O) (nx := nx) (out := out) hnl hv hl he hn hK P first (difM n P (qB nx K first out each P) s) (s := s) (by omega) (301 + r * (n * (K + 4) + 2)) (by omega) (some (mat n (qB nx K first out each P), difM n P (qB nx K first out each P) n))
      (fun k hk => by rw [hmore]; exact ih k (s + 1) (by omega) (by omega)) n k 0 (by omega) (by omega)
    rw [difR_zero, Bool.or_false, ← rowB_zero] at h1
    rw [tutorref05_round.l0, if_pos (by omega), if_pos n2, n1, if_pos n3]
    exact h1
theorem round_is (P : Nat → Nat → Bool) (first : Bool) {k : Nat} (hk : 300000 ≤ k) : tutorref05_round.f k kd (K : Int) O (n : Int) nx out (mat n P) first = some (mat n (qB nx K first out each P), difM n P (qB nx K first out each P) n) := by
  have h2 : n * (K + 4) ≤ 60 * 68 := Nat.mul_le_mul hn (by omega)
  have h3 : n * (n * (K + 4) + 2) ≤ 60 * (60 * 68 + 2) := Nat.mul_le_mul hn (by omega)
  have h := round_l0 (kd := kd) (O := O) (nx := nx) (out := out) hnl hv hl he hn hK P first n k 0 (by omega) (by omega)
  rw [difM_zero] at h
  exact h
omit hnl hv hn hK hl he
theorem canon_find {q : Nat → Nat → Bool} {s t : Nat} (hq : q s t = true) (ht : t < s) (hno : ∀ j, j < t → q s j = false) : canon q (s + 1) = ((canon q s).1 ++ [(canon q s).1.getD t 0], (canon q s).2) := by
  have h : (List.range s).find? (fun j => q s j) = some t := List.find?_range_eq_some.2 ⟨hq, List.mem_range.2 ht, fun j hj => by rw [hno j hj]; rfl⟩
  rw [canon, h]
theorem canon_none {q : Nat → Nat → Bool} {s : Nat} (hno : ∀ j, j < s → q s j = false) : canon q (s + 1) = ((canon q s).1 ++ [(canon q s).2], (canon q s).2 + 1) := by
  have h : (List.range s).find? (fun j => q s j) = none := List.find?_range_eq_none.2 (fun j hj => by rw [hno j hj]; rfl)
  rw [canon, h]
theorem classes_l1 (hn : n ≤ 1024) (P : Nat → Nat → Bool) {s : Nat} (hs : s < n) (m : Nat) (ans : Option (List Int))
    (ih : ∀ k, m ≤ k → tutorref05_classes.l0 k (mat n P) (tl (canon (fun s t => !P s t) (s + 1)).1) (((canon (fun s t => !P s t) (s + 1)).2 : Nat) : Int) ((s + 1 : Nat) : Int) = ans) :
    ∀ (d k t : Nat), t + d = s → m + 2 * d + 5 < k → (∀ j, j < t → P s j = true) → tutorref05_classes.l1 k (mat n P) (tl (canon (fun s t => !P s t) s).1) (((canon (fun s t => !P s t) s).2 : Nat) : Int) (s : Int) (-1) (t : Int) = ans := by
  have hcl := canon_len (fun s t => !P s t) s
  have hcn := canon_le (fun s t => !P s t) s
  have hml : ((mat n P).length : Int) = (n : Int) := by rw [matU_len]
  have hsn : (s : Int) < (n : Int) := by omega
  intro d
  induction d with
  | zero =>
    intro k t h hk hno
    obtain ⟨k, rfl⟩ : ∃ m, k = m + 2 := ⟨k - 2, by omega⟩
    have ht : t = s := by omega
    subst ht
    have hc := canon_none (q := fun s t => !P s t) (s := t) (fun j hj => by show (!P t j) = false; rw [hno j hj]; rfl)
    rw [tutorref05_classes.l1, if_neg (by omega), tutorref05_classes.j2, if_neg (by simp), if_pos (by omega), if_pos (by rw [tl_len]; omega), w64s (by omega), w64s (by omega)]
    have := ih k (by omega)
    rw [hc, tl_snoc] at this
    exact this
  | succ d ihd =>
    intro k t h hk hno
    obtain ⟨k, rfl⟩ : ∃ m, k = m + 2 := ⟨k - 2, by omega⟩
    have ht : t < s := by omega
    rw [tutorref05_classes.l1, if_pos (by omega), tutorref05_classes.j2, if_pos (decide_eq_true (show (-1 : Int) < 0 by omega)), if_pos (Int.natCast_nonneg _), hml, if_pos hsn, if_pos (Int.natCast_nonneg _), rd_mat P hs, rowB_len, if_pos (by omega), rd_row _ (show t < n by omega), w64s (by omega)]
    cases hp : P s t with
    | true =>
      rw [if_pos rfl]
      exact ihd k (t + 1) (by omega) (by omega) (fun j hj => by
        by_cases e : j = t
        · subst e; exact hp
        · exact hno j (by omega))
    | false =>
      have hc := canon_find (q := fun s t => !P s t) (s := s) (t := t) (by show (!P s t) = true; rw [hp]; rfl) ht (fun j hj => by show (!P s j) = false; rw [hno j hj]; rfl)
      have hv : rd (tl (canon (fun s t => !P s t) s).1) (t : Int) = (((canon (fun s t => !P s t) s).1.getD t 0 : Nat) : Int) := by
        rw [rd_tl (by omega), List.getD_eq_getElem?_getD, List.getElem?_eq_getElem (by omega)]
        rfl
      rw [if_neg (by simp), tl_len, if_pos (by omega), hv]
      have := ih
      rw [hc] at this
      generalize (canon (fun s t => !P s t) s).1.getD t 0 = v at this ⊢
      obtain ⟨k, rfl⟩ : ∃ m, k = m + 2 := ⟨k - 2, by omega⟩
      have hd : decide ((v : Int) < 0) = false := decide_eq_false (by omega)
      have hlast : tutorref05_classes.j2 (k + 1) (mat n P) (tl (canon (fun s t => !P s t) s).1) (((canon (fun s t => !P s t) s).2 : Nat) : Int) (s : Int) (v : Int) ((t + 1 : Nat) : Int) false = ans := by
        rw [tutorref05_classes.j2, if_neg (by simp), if_neg (by omega), if_pos (by rw [tl_len]; omega), ← tl_snoc, w64s (by omega)]
        exact this k (by omega)
      rw [tutorref05_classes.l1]
      split
      · rw [hd]; exact hlast
      · exact hlast
theorem classes_l0 (hn : n ≤ 1024) (P : Nat → Nat → Bool) : ∀ (r k s : Nat), s + r = n → r * 3000 < k → tutorref05_classes.l0 k (mat n P) (tl (canon (fun s t => !P s t) s).1) (((canon (fun s t => !P s t) s).2 : Nat) : Int) (s : Int) = some (tl (canon (fun s t => !P s t) n).1) := by
  have hml : ((mat n P).length : Int) = (n : Int) := by rw [matU_len]
  intro r
  induction r with
  | zero =>
    intro k s h hk
    obtain ⟨k, rfl⟩ : ∃ m, k = m + 1 := ⟨k - 1, by omega⟩
    have hs : s = n := by omega
    subst hs
    rw [tutorref05_classes.l0, if_neg (by omega)]
  | succ r ih =>
    intro k s h hk
    obtain ⟨k, rfl⟩ : ∃ m, k = m + 1 := ⟨k - 1, by omega⟩
    rw [tutorref05_classes.l0, hml, if_pos (by omega)]
    have h1 : s + 1 + r = n := by omega
    have h2 : s < n := by omega
    obtain ⟨R, hR⟩ : ∃ R, R = r * 3000 := ⟨_, rfl⟩
    have h3 : R + 1 + 2 * s + 5 < k := by omega
    have ih2 : ∀ k, R + 1 ≤ k → _ := fun k hk => ih k (s + 1) h1 (hR ▸ hk)
    exact classes_l1 hn P h2 (R + 1) _ ih2 s k 0 (Nat.zero_add s) h3 (fun j hj => absurd hj (Nat.not_lt_zero _))
theorem classes_is (hn : n ≤ 60) (P : Nat → Nat → Bool) {k : Nat} (hk : 300000 ≤ k) : tutorref05_classes.f k (mat n P) = some (tl (canon (fun s t => !P s t) n).1) := classes_l0 (by omega) P n k 0 (by omega) (by omega)
theorem countP_lt {p q : Nat → Bool} : ∀ (l : List Nat), (∀ x ∈ l, p x = true → q x = true) → (∃ x ∈ l, q x = true ∧ p x = false) → l.countP p < l.countP q
  | [], _, ⟨x, h, _⟩ => by cases h
  | a :: l, h, ⟨x, hx, h1, h2⟩ => by
    have hm : l.countP p ≤ l.countP q := List.countP_mono_left (fun y hy => h y (List.mem_cons_of_mem _ hy))
    rw [List.countP_cons, List.countP_cons]
    rcases List.mem_cons.1 hx with rfl | hx
    · rw [if_pos h1, h2, if_neg (by simp)]
      omega
    · have := countP_lt l (fun y hy => h y (List.mem_cons_of_mem _ hy)) ⟨x, hx, h1, h2⟩
      have ha := h a List.mem_cons_self
      by_cases e : p a = true
      · rw [if_pos e, if_pos (ha e)]; omega
      · rw [if_neg e]; omega
def pairsOf (n : Nat) (P : Nat → Nat → Bool) : Nat := (List.range (n * n)).countP fun i => P (i / n) (i % n)
theorem pairs_le (n : Nat) (P : Nat → Nat → Bool) : pairsOf n P ≤ n * n := by
  have := List.countP_le_length (l := List.range (n * n)) (p := fun i => P (i / n) (i % n))
  rwa [List.length_range] at this
theorem pairs_lt {P Q : Nat → Nat → Bool} (h : ∀ s t, P s t = true → Q s t = true) {s t : Nat} (hs : s < n) (ht : t < n) (h1 : Q s t = true) (h2 : P s t = false) : pairsOf n P < pairsOf n Q := by
  obtain ⟨p1, p2, p3⟩ := pos_lt (t := s) (n := n) (K := n) (x := t) hs ht
  refine countP_lt _ (fun x _ => h _ _) ⟨s * n + t, List.mem_range.2 p2, ?_, ?_⟩
  · rw [p1, p3]; exact h1
  · rw [p1, p3]; exact h2
noncomputable def alikeB (nx out : List Int) (n K each : Nat) (s t : Nat) : Bool := decide (Alike n K (goOf nx K) (SameSay out each) s t)
theorem alikeB_iff {s t : Nat} : alikeB nx out n K each s t = true ↔ Alike n K (goOf nx K) (SameSay out each) s t := by
  unfold alikeB
  simp
include hnl hv hl he hn hK
theorem classes_go (hkd : kd = 1 ∨ kd = 2) : ∀ (d k : Nat) (P : Nat → Nat → Bool) (c : Int), n * n - pairsOf n P < d → 300000 + d < k → (∀ s t, s < n → t < n → P s t = true → ¬ Alike n K (goOf nx K) (SameSay out each) s t) → (∀ s t, s < n → t < n → zB kd out each s t = true → P s t = true) →
    ∃ c', tutorref05_Classes.l0 k (mat n P) c kd (K : Int) O (n : Int) nx out = some (tl (canon (alikeB nx out n K each) n).1, c', 0) := by
  intro d
  induction d with
  | zero => intro k P c h; exact absurd h (Nat.not_lt_zero _)
  | succ d ih =>
    intro k P c h hk hP hz
    obtain ⟨k, rfl⟩ : ∃ m, k = m + 1 := ⟨k - 1, by omega⟩
    rw [tutorref05_Classes.l0, round_is hnl hv hl he hn hK P (kd == 2) (by omega), Option.bind_some]
    by_cases hm : ∃ i, i < n ∧ ∃ j, j < n ∧ qB nx K (kd == 2) out each P i j ≠ P i j
    · rw [if_pos (difM_iff.2 hm)]
      obtain ⟨i, hi, j, hj, hne⟩ := hm
      have hsub : ∀ s t, P s t = true → qB nx K (kd == 2) out each P s t = true := fun s t h => by unfold qB; rw [h]; rfl
      have hpf : P i j = false := by
        cases hp : P i j with
        | false => rfl
        | true => exact absurd (hsub i j hp) (by rw [hp] at hne; exact hne)
      have hqt : qB nx K (kd == 2) out each P i j = true := by
        rw [hpf] at hne
        simpa using hne
      have h1 := pairs_lt (n := n) hsub hi hj hqt hpf
      have h2 := pairs_le n (qB nx K (kd == 2) out each P)
      refine ih k _ _ (by omega) (by omega) (fun s t hs ht hq ha => ?_) (fun s t hs ht h => hsub s t (hz s t hs ht h))
      unfold qB at hq
      rw [Bool.or_eq_true, Bool.or_eq_true, Bool.and_eq_true] at hq
      rcases hq with (hq | ⟨_, hq⟩) | hq
      · exact hP s t hs ht hq ha
      · have := ha.say hs ht
        unfold sameB at hq
        rw [decide_eq_true this] at hq
        cases hq
      · obtain ⟨y, _, hy, hq⟩ := of_decide_eq_true hq
        exact hP _ _ (go_lt hnl hv hs hy).2.2 (go_lt hnl hv ht hy).2.2 hq (ha.next hs ht hy)
    · rw [if_neg (fun h => hm (difM_iff.1 h)), classes_is hn P (by omega), Option.bind_some]
      refine ⟨c, ?_⟩
      have heq : ∀ s t, s < n → t < n → qB nx K (kd == 2) out each P s t = P s t := fun s t hs ht => Classical.byContradiction fun h => hm ⟨s, hs, t, ht, h⟩
      have hcc : canon (fun s t => !P s t) n = canon (alikeB nx out n K each) n := canon_congr n (fun s t hs ht => by
        have ht' : t < n := by omega
        cases hp : P s t with
        | true =>
          cases hb : alikeB nx out n K each s t with
          | false => rfl
          | true => exact absurd (alikeB_iff.1 hb) (hP s t hs ht' hp)
        | false =>
          show true = _
          refine (alikeB_iff.2 ⟨fun a b => P a b = false, fun a b ha hb hab => ?_, hp⟩).symm
          have hq := heq a b ha hb
          rw [hab] at hq
          unfold qB at hq
          rw [hab, Bool.false_or, Bool.or_eq_false_iff] at hq
          obtain ⟨q1, q2⟩ := hq
          refine ⟨?_, fun x hx => ?_⟩
          · refine Classical.byContradiction fun hs => ?_
            have hsb : sameB out each a b = false := decide_eq_false hs
            rcases hkd with rfl | rfl
            · have := hz a b ha hb (by unfold zB; rw [hsb]; rfl)
              rw [hab] at this
              cases this
            · rw [hsb] at q1
              cases q1
          · cases hpx : P (goOf nx K a x) (goOf nx K b x) with
            | false => exact hpx
            | true =>
              have : exB nx K P a b 0 = true := decide_eq_true ⟨x, Nat.zero_le _, hx, hpx⟩
              rw [q2] at this
              cases this)
      rw [hcc]
theorem refClasses_is (hkd : kd = 1 ∨ kd = 2) (hck : ∀ k, 300000 ≤ k → tutorref03_Check.f k kd (K : Int) O (n : Int) nx out = some (0, 0)) {k : Nat} (hk : 400000 ≤ k) : ∃ c', tutorref05_Classes.f k kd (K : Int) O (n : Int) nx out = some (tl (canon (alikeB nx out n K each) n).1, c', 0) := by
  have h2 : n * n ≤ 60 * 60 := Nat.mul_le_mul hn hn
  obtain ⟨c', h⟩ := classes_go hnl hv hl he hn hK hkd (n * n + 1) k (zB kd out each) 0 (by omega) (by omega) (fun s t hs ht hz ha => by
    have := ha.say hs ht
    unfold zB sameB at hz
    rw [decide_eq_true this] at hz
    simp at hz) (fun s t _ _ h => h)
  refine ⟨c', ?_⟩
  unfold tutorref05_Classes.f
  rw [hck _ (by omega), Option.bind_some, if_pos rfl, start_is hl he hn hK (by omega), Option.bind_some]
  exact h
end
end Go.Proofs.Ytdalpaobkmoomaa.X
end

section
namespace Go.Proofs.Ytdalpaobkmoomaa.X
open Go.RowKit Go.Proofs.YtdalpaobkmoomaaW.PrintWords Go.Proofs.YtdalpaobkmoomaaW.PrintLast Go.Proofs.YtdalpaobkmoomaaW.PrintMore
open Go.Proofs.Ytdalpaobkmoomaa Go.Proofs.Ytdalpaobkmoomaa.Sp
def byC (C : Nat → Nat) : Nat → Nat → Bool := fun s t => decide (C t = C s)
structure Ren (n : Nat) (C : Nat → Nat) (j : Nat) (es : List (Int × Int)) (xs : List Int) : Prop where
  val : ∀ t, t < j → Vm.getK es (C t : Int) = some (((canon (byC C) j).1.getD t 0 : Nat) : Int)
  non : ∀ c : Nat, (∀ t, t < j → C t ≠ c) → Vm.getK es (c : Int) = none
  len : es.length = (canon (byC C) j).2
  key : ∀ p ∈ es, (Lit.int .i64 p.1).wf = true
  row : xs = tl (canon (byC C) j).1 ++ List.replicate (n - j) 0
theorem ren_start (n : Nat) (C : Nat → Nat) : Ren n C 0 [] (List.replicate n 0) := ⟨fun t h => absurd h (Nat.not_lt_zero _), fun _ _ => rfl, rfl, fun p hp => (by cases hp), rfl⟩
theorem getD_app {l : List Nat} {a t : Nat} (h : t < l.length) : (l ++ [a]).getD t 0 = l.getD t 0 := by
  rw [List.getD_eq_getElem?_getD, List.getD_eq_getElem?_getD, List.getElem?_append_left h]
theorem getD_new {l : List Nat} {a t : Nat} (h : t = l.length) : (l ++ [a]).getD t 0 = a := by
  subst h
  rw [List.getD_eq_getElem?_getD, List.getElem?_append_right (Nat.le_refl _), Nat.sub_self]
  rfl
theorem row_set {l : List Nat} {n j a : Nat} (hl : l.length = j) (hj : j < n) : (tl l ++ List.replicate (n - j) 0).set j (a : Int) = tl (l ++ [a]) ++ List.replicate (n - (j + 1)) 0 := by
  have e : n - j = (n - (j + 1)) + 1 := by omega
  rw [e, List.replicate_succ, List.set_append_right _ _ (by rw [tl_len]; omega), tl_len, hl, Nat.sub_self, List.set_cons_zero, tl_snoc, List.append_assoc]
  rfl
/-- The class was met: its number. -/
theorem Ren.met {n : Nat} {C : Nat → Nat} {j : Nat} {es : List (Int × Int)} {xs : List Int} (h : Ren n C j es xs) (hj : j < n) {v : Int} (hv : Vm.getK es (C j : Int) = some v) : Ren n C (j + 1) es (xs.set j v) := by
  cases hf : (List.range j).find? (fun t => byC C j t) with
  | none =>
    have h1 := h.non (C j) (fun t ht e => by
      have := List.find?_eq_none.1 hf t (List.mem_range.2 ht)
      exact this (by simp [byC, e]))
    rw [h1] at hv
    cases hv
  | some t0 =>
    have ht0 := List.mem_range.1 (List.mem_of_find?_eq_some hf)
    have he : C t0 = C j := by have := List.find?_some hf; simpa [byC] using this
    have hk := h.val t0 ht0
    rw [he, hv] at hk
    injection hk with hk
    have hc : canon (byC C) (j + 1) = ((canon (byC C) j).1 ++ [(canon (byC C) j).1.getD t0 0], (canon (byC C) j).2) := by rw [canon, hf]
    have hl := canon_len (byC C) j
    refine ⟨fun t ht => ?_, fun c hn => h.non c (fun t ht => hn t (by omega)), by rw [hc]; exact h.len, h.key, ?_⟩
    · rw [hc]
      by_cases e : t = j
      · rw [e, getD_new hl.symm, ← hk]
        exact hv
      · rw [getD_app (by omega)]
        exact h.val t (by omega)
    · rw [hc, h.row, hk, row_set hl hj]
/-- A new class. -/
theorem Ren.fresh {n : Nat} {C : Nat → Nat} {j : Nat} {es : List (Int × Int)} {xs : List Int} (h : Ren n C j es xs) (hj : j < n) (hw : C j < 1099511627776) (hv : Vm.getK es (C j : Int) = none) : Ren n C (j + 1) (Vm.putK es (C j : Int) (es.length : Int)) (xs.set j (es.length : Int)) := by
  have hno : ∀ t, t < j → C t ≠ C j := fun t ht e => by
    have := h.val t ht
    rw [e, hv] at this
    cases this
  have hf : (List.range j).find? (fun t => byC C j t) = none := List.find?_eq_none.2 (fun t ht => by
    have := hno t (List.mem_range.1 ht)
    simpa [byC] using this)
  have hc : canon (byC C) (j + 1) = ((canon (byC C) j).1 ++ [(canon (byC C) j).2], (canon (byC C) j).2 + 1) := by rw [canon, hf]
  have hl := canon_len (byC C) j
  have hnk : ∀ p ∈ es, p.1 ≠ (C j : Int) := fun p hp e => by
    obtain ⟨i, hi⟩ := List.getElem?_of_mem hp
    have hg : Vm.getK es p.1 ≠ none := by
      clear hi i e hv hno hf hc hl h
      induction es with
      | nil => cases hp
      | cons q r ih =>
        rw [Vm.getK]
        rcases List.mem_cons.1 hp with rfl | hp
        · rw [if_pos rfl]; exact fun h => by cases h
        · split
          · exact fun h => by cases h
          · exact ih hp
    rw [e] at hg
    exact hg hv
  refine ⟨fun t ht => ?_, fun c hn => ?_, ?_, fun p hp => ?_, ?_⟩
  · rw [hc, Vm.getK_putK]
    by_cases e : t = j
    · rw [e, if_pos rfl, getD_new hl.symm, h.len]
    · rw [if_neg (fun e2 => hno t (by omega) (by omega)), getD_app (by omega)]
      exact h.val t (by omega)
  · rw [Vm.getK_putK, if_neg (fun e2 => hn j (by omega) (by omega))]
    exact h.non c (fun t ht => hn t (by omega))
  · rw [hc, Vm.putK_new hnk, List.length_append, h.len]
    rfl
  · rcases Vm.mem_keys_putK (List.mem_map_of_mem (f := (·.1)) hp) with h1 | h1
    · rw [h1]
      exact wf_nat hw
    · obtain ⟨q, hq, e⟩ := List.mem_map.1 h1
      rw [← e]
      exact h.key q hq
  · rw [hc, h.row, h.len, row_set hl hj]
theorem map_len {w : World} {b : Nat} {es : List (Int × Int)} (h : Vm.MapAt w b (Value.int .i64) (Value.int .i64) es) : (Builtin.len_ #[65] 3 #[.map (some b)]).run Try.prog w = .ok (.int .i64 (es.length : Int)) w := by
  obtain ⟨hn, ents, clock, h1, h2⟩ := h
  have h3 : ents.length = es.length := by have := congrArg List.length h2; simpa using this
  rw [← h3]
  simp [Builtin.len_, run_underlying Try.underlying65, MapKept.run_getObj_map h1, Result.andThen, goInt]
attribute [local go_sem] max2_int min2_int max_two min_two max_three min_three max_four min_four
set_option maxHeartbeats 16000000 in
set_option maxRecDepth 100000 in
theorem Renum_walk (n : Nat) (C : Nat → Nat) (A : Option Addr) (c : Nat) (w : World) (hr : Kd.C (Kd.int .i64) w A n (lst n C)) (hn : n ≤ 65536) (hC : ∀ i, i < n → C i < 65536) :
    Calls Try.prog 36 #[.slice A n c] w fun e w' => ∃ v, e = .returned v ∧ Kd.R (Kd.int .i64) 3 w' w.heap.size (fun _ => True) v (tl (canon (byC C) n).1) ∧ Below w.heap.size w w' := by
  have hu22 := Try.underlying22
  have hu65 := Try.underlying65
  have hmm := @run_makeMap Try.prog
  have HRD := Aside0.mk hr
  have HC := Aside0.mk hC
  clear hr hC
  go_enter Try.func36, Try.ntmps36
  go_wp2_with ((with_reducible refine gate_dst (N := 12) rfl ?_); (refine Kd.R_make (Kd.int .i64) (w0 := w) w.heap.size 3 rfl (N := 12) rfl 22 _ _ rfl (n : Int) rfl rfl Try.underlying22 (.int .i64 0) 8 infoI rfl (by decide) (by omega) 0 (ok := fun _ => True) (okp := fun _ => True) rfl (fun _ hk => hk) trivial (by omega) (by omega) (below_alloc (Below.refl _ _) _) (by simp) ?_; intro v3 w3 ho hb hg hnew; obtain ⟨gp, cp, rfl⟩ := Sp.new_slice ho hnew; simp only [List.length_replicate, Int.toNat_natCast] at ho hnew; have HS3 := Aside0.mk (((Sp.Sep.nil w.heap.size w).newMap (Value.int .i64) (Value.int .i64) (Nat.le_refl _)).newRow rfl ho hg hnew (by simp)); have HB3 := Aside0.mk hb; clear ho hb hg hnew))
  try simp only [List.length_replicate, Int.toNat_natCast]
  generalize hgm : w.heap.size = gm at *
  go_loopw [15] (fun v15 wr => ∃ (j : Nat) (es : List (Int × Int)) (xs : List Int), v15 = .int .i64 (j : Int) ∧ Aside0 (j ≤ n) ∧ Aside0 (Sep w.heap.size [ints w.heap.size (.slice (some ⟨gp, 0, none⟩) n cp) xs, mp gm (Value.int .i64) (Value.int .i64) es] wr) ∧ Aside0 (Below w.heap.size w wr) ∧ Aside0 (Ren n C j es xs)) (fun v15 _ => n - (intOf v15).toNat)
  case atStart => exact ⟨0, [], _, rfl, ⟨Nat.zero_le _⟩, ⟨by rw [hgm]; exact HS3.out⟩, ⟨by rw [hgm]; exact HB3.out⟩, ⟨ren_start n C⟩⟩
  case round =>
    clear HS3 HB3
    obtain ⟨j, es, xs, rfl, HI, HS, HB, HR⟩ := hrel
    by_cases hj : j < n
    · have HJ := Aside0.mk hj
      have hj' : (j : Int) < (n : Int) := by omega
      obtain ⟨ad, eA, hxj⟩ := Kd.at_int (Kd.C_below HRD.out HB.out) (j : Int) (by omega) (by omega)
      subst eA
      rw [Int.toNat_natCast, rd_lst C hj] at hxj
      have hlk := Vm.map_lookup (Vm.int_keys Try.underlying3) Try.underlying65 zeroI (HS.out.get 1 rfl) HR.out.key (k := (C j : Int)) (wf_nat (by have := HC.out j hj; omega)) true
      have hpc := Kd.R_celln (0 : Int) (HS.out.get 0 rfl) (j : Int) (by omega) (by omega)
      obtain ⟨hpc1, hpc2⟩ := hpc
      simp only [Int.toNat_natCast] at hpc1 hpc2
      cases hg : Vm.getK es (C j : Int) with
      | some v =>
        rw [hg] at hlk
        simp only [Option.map_some, Option.getD_some, Option.isSome_some, if_true] at hlk
        have HRN := Aside0.mk (HR.out.met hj hg)
        have HS5 := Aside0.mk (HS.out.put 0 rfl (j : Int) v HB.out.size)
        have HB5 := Aside0.mk (HB.out.setCell (p := ⟨gp, j, none⟩) (HS.out.bound 0 rfl rfl).1 (.int .i64 v))
        simp only [Int.toNat_natCast] at HS5
        clear hj hg
        go_wp2
        go_roundw
        case rel => exact ⟨j + 1, es, _, by go_num, ⟨by have := HJ.out; omega⟩, HS5, HB5, HRN⟩
        case measure => have := HJ.out; simp [intOf]; omega
      | none =>
        rw [hg] at hlk
        simp only [Option.map_none, Option.getD_none, Option.isSome_none, if_true] at hlk
        have HRN := Aside0.mk (HR.out.fresh hj (by have := HC.out j hj; omega) hg)
        have hln := map_len (HS.out.get 1 rfl)
        have HKE := Aside0.mk (And.intro HR.out.key (wf_nat (c := C j) (by have := HC.out j hj; omega)))
        clear hj hg
        go_wp2_with ((with_reducible refine Sp.gate_update rfl ?_); (refine Vm.wpList_map_put (Vm.int_keys Try.underlying3) Try.underlying65 rfl (.tmp 30) (.tmp 31) (.tmp 32) (.inr rfl) (C j : Int) (es.length : Int) rfl rfl rfl rfl (HS.out.get 1 rfl) HKE.out.1 HKE.out.2 ?_; intro w11 hm11 hg11; have HS4 := Aside0.mk (HS.out.putMap 1 rfl hm11 hg11 HB.out.size); have HB4 := Aside0.mk (HS.out.belowGrown (i := 1) rfl (fun k hk => by injection hk with hk; exact hk.symm) HB.out HB.out.size hg11); have hpd := Kd.R_celln (0 : Int) (HS4.out.get 0 rfl) (j : Int) (by omega) (by have := HJ.out; omega); obtain ⟨hpd1, hpd2⟩ := hpd; simp only [Int.toNat_natCast] at hpd1 hpd2; have HS5 := Aside0.mk (HS4.out.put 0 rfl (j : Int) (es.length : Int) HB4.out.size); have HB5 := Aside0.mk (HB4.out.setCell (p := ⟨gp, j, none⟩) (HS4.out.bound 0 rfl rfl).1 (.int .i64 (es.length : Int))); simp only [Int.toNat_natCast] at HS5; clear hm11 hg11 hlk hln hpc1 hpc2))
        go_roundw
        case rel => exact ⟨j + 1, _, _, by go_num, ⟨by have := HJ.out; omega⟩, HS5, HB5, HRN⟩
        case measure => have := HJ.out; simp [intOf]; omega
    · have hj' : ¬ ((j : Int) < (n : Int)) := by omega
      have hje : j = n := by have := HI.out; omega
      clear hj
      go_wp2
      try rw [Exit.noGoto_ret]
      go_ret
      have hrow := HR.out.row
      rw [hje, Nat.sub_self] at hrow
      have hh := HS.out.get 0 rfl
      rw [hrow] at hh
      simp only [List.replicate_zero, List.append_nil] at hh
      exact ⟨_, rfl, by rw [← hgm]; exact Kd.R_mono hh (fun _ _ => trivial), by rw [← hgm]; exact HB.out⟩
end Go.Proofs.Ytdalpaobkmoomaa.X
end

section
namespace Go.Proofs.Ytdalpaobkmoomaa.X
open Go.RowKit Go.Proofs.YtdalpaobkmoomaaW.PrintWords Go.Proofs.YtdalpaobkmoomaaW.PrintLast Go.Proofs.YtdalpaobkmoomaaW.PrintMore
open Go.Proofs.Ytdalpaobkmoomaa Go.Proofs.Ytdalpaobkmoomaa.Sp
def hp.T15 : Bool × List (List Nat × List Nat) := (true, [([], []), ([], []), ([1], [1]), ([0, 2], [0, 2]), ([3], [3]), ([4], [4]), ([5, 4, 4], [4, 5]), ([4], [4]), ([7, 4], [4, 7]), ([6, 8, 4], [4, 6, 8]), ([4, 9], [4, 9])])
def hp.B15 : List Nat := [0, 0, 2, 7, 15, 31, 63, 31, 159, 511, 1023]
theorem hp.tab15 : rtab .any (opsOf Try.f26 15) = hp.T15 := by kernel_rfl
theorem hp.bits15 : waitsOk hp.T15.2 hp.B15 = true := by kernel_rfl
def hp.T32 : Bool × List (List Nat × List Nat) := (true, [([], []), ([], []), ([1], [1]), ([2], [2]), ([3], [3]), ([], []), ([5], [5]), ([6], [6]), ([7], [7]), ([], []), ([9], [9]), ([10], [10]), ([11], [11]), ([], []), ([12, 13], [12, 13]), ([14], [14]), ([15], [15]), ([8, 16], [8, 16]), ([17], [17]), ([4, 18], [4, 18]), ([19], [19]), ([20], [20]), ([0, 21], [0, 21]), ([22, 22, 0, 1, 2, 3, 4, 5, 6, 7, 8, 9, 10, 11, 12, 13, 14, 15, 16, 17, 18, 19, 20, 21, 22], [0, 22])])
def hp.B32 : List Nat := [0, 0, 2, 6, 14, 0, 32, 96, 224, 0, 512, 1536, 3584, 0, 15872, 32256, 65024, 131040, 262112, 524286, 1048574, 2097150, 4194303, 8388607]
theorem hp.tab32 : rtab .any (opsOf Try.f26 32) = hp.T32 := by kernel_rfl
theorem hp.bits32 : waitsOk hp.T32.2 hp.B32 = true := by kernel_rfl
structure Mw (n N : Nat) (C : Nat → Nat) (s : St) (W : List Nat) (j : Nat) (W1 : List Nat) : Prop where
  ext : ∀ (a c : Nat), W[a]? = some c → W1[a]? = some c
  len : W1.length = W.length + 2 * j
  lt : ∀ c ∈ W1, c < s.N
  new : ∀ f, N ≤ f → f < N + j → ∃ a : Nat, W.length ≤ a ∧ W1[a]? = some f
  old : ∀ t, t < n → N ≤ s.C t → s.C t < N + j → ∃ a : Nat, W.length ≤ a ∧ W1[a]? = some (C t)
theorem Mw.start {n N : Nat} {C : Nat → Nat} {s : St} {W : List Nat} (h : ∀ c ∈ W, c < s.N) : Mw n N C s W 0 W := ⟨fun _ _ h => h, by omega, h, fun f h1 h2 => by omega, fun t _ h1 h2 => by omega⟩
theorem app_get {l r : List Nat} {a c : Nat} (h : l[a]? = some c) : (l ++ r)[a]? = some c := by
  rw [List.getElem?_append_left (List.getElem?_eq_some_iff.1 h).1]
  exact h
theorem Mw.step {n N : Nat} {C : Nat → Nat} {s : St} {W W1 : List Nat} {j : Nat} (h : Mw n N C s W j W1) (hj : N + j < s.N) {v : Nat} (hv : v < s.N) (hold : ∀ t, t < n → s.C t = N + j → v = C t) : Mw n N C s W (j + 1) (W1 ++ [N + j] ++ [v]) := by
  have g1 : ((W1 ++ [N + j]) ++ [v])[W1.length]? = some (N + j) := app_get (by rw [List.getElem?_append_right (Nat.le_refl _), Nat.sub_self]; rfl)
  have g2 : ((W1 ++ [N + j]) ++ [v])[W1.length + 1]? = some v := by
    rw [List.getElem?_append_right (by simp)]
    simp
  have hl := h.len
  refine ⟨fun a c ha => app_get (app_get (h.ext a c ha)), by simp; omega, fun c hc => ?_, fun f h1 h2 => ?_, fun t ht h1 h2 => ?_⟩
  · simp only [List.mem_append, List.mem_singleton] at hc
    rcases hc with (hc | rfl) | rfl
    · exact h.lt c hc
    · exact hj
    · exact hv
  · by_cases e : f = N + j
    · exact ⟨W1.length, by omega, by rw [e]; exact g1⟩
    · obtain ⟨a, ha, hb⟩ := h.new f h1 (by omega)
      exact ⟨a, ha, app_get (app_get hb)⟩
  · by_cases e : s.C t = N + j
    · exact ⟨W1.length + 1, by omega, by rw [g2, hold t ht e]⟩
    · obtain ⟨a, ha, hb⟩ := h.old t ht h1 (by omega)
      exact ⟨a, ha, app_get (app_get hb)⟩
theorem cuts_nil (n : Nat) (C0 : Nat → Nat) : ∀ (l : List Nat) (s : St), cuts n C0 (fun _ => false) l s = s
  | [], _ => rfl
  | c :: l, s => by
    have h1 : cutOf n C0 (fun _ => false) c s = s := by
      unfold cutOf
      rw [if_neg]
      rintro ⟨⟨i, _, _, h⟩, _⟩
      cases h
    rw [cuts, h1, cuts_nil n C0 l s]
theorem split_nil (n : Nat) (C : Nat → Nat) (N : Nat) : splitOf n C N [] = ⟨C, N, []⟩ := by
  unfold splitOf
  have : (fun i => decide (i ∈ ([] : List Nat))) = fun _ => false := by funext i; simp
  rw [this, cuts_nil]
theorem made_len (n : Nat) (C : Nat → Nat) (N : Nat) (l : List Nat) : (splitOf n C N l).made.length = (splitOf n C N l).N - N := by rw [split_made, List.length_range']
theorem made_rd (n : Nat) (C : Nat → Nat) (N : Nat) (l : List Nat) {j : Nat} (hj : N + j < (splitOf n C N l).N) : rd (tl (splitOf n C N l).made) (j : Int) = ((N + j : Nat) : Int) := by
  rw [rd_tl (by rw [made_len]; omega)]
  congr 1
  simp only [split_made, List.getElem_range']
  omega
def prL (nx : List Int) (K n : Nat) (l : List Nat) (x q : Nat) : List Nat := (l.take q).flatMap fun t => srcL nx K n (t * K + x)
theorem prL_succ (nx : List Int) (K n : Nat) (l : List Nat) (x : Nat) {q : Nat} (hq : q < l.length) : prL nx K n l x (q + 1) = prL nx K n l x q ++ srcL nx K n (l[q] * K + x) := by
  unfold prL
  rw [List.take_succ_eq_append_getElem hq, List.flatMap_append]
  simp
theorem prL_len (nx : List Int) (K n : Nat) (l : List Nat) (x : Nat) : ∀ q, q ≤ l.length → (prL nx K n l x q).length ≤ q * n
  | 0, _ => by simp [prL]
  | q + 1, h => by
    have h1 := prL_len nx K n l x q (by omega)
    have h2 := srcL_len nx K n (l[q] * K + x)
    rw [prL_succ _ _ _ _ _ (by omega), List.length_append, Nat.add_mul, Nat.one_mul]
    omega
theorem prL_mem {nx : List Int} {K n : Nat} {C : Nat → Nat} {b x s : Nat} (hx : x < K) (hs : s < n) (hg : goOf nx K s x < n) : s ∈ prL nx K n (members n C b) x (members n C b).length ↔ C (goOf nx K s x) = b := by
  unfold prL
  rw [List.take_length, List.mem_flatMap]
  have key : ∀ t, t < n → (s ∈ srcL nx K n (t * K + x) ↔ goOf nx K s x = t) := fun t ht => by
    obtain ⟨e1, _, e3⟩ := pos_lt (t := t) ht hx
    rw [srcL_mem, e1, e3]
    exact ⟨fun h => h.2, fun h => ⟨hs, h⟩⟩
  constructor
  · rintro ⟨t, ht, h⟩
    obtain ⟨i, hi, e⟩ := List.mem_iff_getElem.1 ht
    have h2 := members_at hi
    rw [e] at h2
    rw [(key t h2.1).1 h]
    exact h2.2
  · intro h
    refine ⟨goOf nx K s x, ?_, (key _ hg).2 rfl⟩
    unfold members
    rw [List.mem_filter]
    exact ⟨List.mem_range.2 hg, by simp [h]⟩
theorem prL_lt {nx : List Int} {K n : Nat} {l : List Nat} {x q : Nat} : ∀ s ∈ prL nx K n l x q, s < n := fun s h => by
  unfold prL at h
  obtain ⟨t, _, ht⟩ := List.mem_flatMap.1 h
  exact ((srcL_mem nx K n _ s).1 ht).1
theorem members_len (n : Nat) (C : Nat → Nat) (c : Nat) : (members n C c).length ≤ n := by
  unfold members
  have := List.length_filter_le (fun i => C i == c) (List.range n)
  rwa [List.length_range] at this
theorem six {w : World} {g : Nat} {a b c d e f : Value} {t : TypeId} (h : (blk g #[a, b, c, d, e, f] t).at_ w) : w.cell? ⟨g, 0, none⟩ = some a ∧ w.cell? ⟨g, 1, none⟩ = some b ∧ w.cell? ⟨g, 2, none⟩ = some c ∧ w.cell? ⟨g, 3, none⟩ = some d ∧ w.cell? ⟨g, 4, none⟩ = some e ∧ w.cell? ⟨g, 5, none⟩ = some f := ⟨(blk_cell h 0).trans rfl, (blk_cell h 1).trans rfl, (blk_cell h 2).trans rfl, (blk_cell h 3).trans rfl, (blk_cell h 4).trans rfl, (blk_cell h 5).trans rfl⟩
theorem tl_app (a b : List Nat) : tl (a ++ b) = tl a ++ tl b := by simp [tl]
theorem ints_at {w : World} {base : Nat} {ok : Nat → Prop} {g n c : Nat} {f : Nat → Nat} (h : Kd.R (Kd.int .i64) 3 w base ok (.slice (some ⟨g, 0, none⟩) n c) (lst n f)) {j : Nat} (hj : j < n) : w.cell? ⟨g, j, none⟩ = some (.int .i64 (f j : Int)) := by
  have h2 := Kd.R_celln (0 : Int) h (j : Int) (by omega) (by omega)
  obtain ⟨h3, _⟩ := h2
  rw [Int.toNat_natCast] at h3
  exact h3.trans (by rw [show rdOf (0 : Int) (lst n f) (j : Int) = (f j : Int) from rd_lst f hj])
theorem tl_at {w : World} {base : Nat} {ok : Nat → Prop} {g n c : Nat} {T : List Nat} (h : Kd.R (Kd.int .i64) 3 w base ok (.slice (some ⟨g, 0, none⟩) n c) (tl T)) {j : Nat} (hj : j < T.length) : w.cell? ⟨g, j, none⟩ = some (.int .i64 (T[j] : Int)) := by
  have hn := Kd.C_len (Kd.R_reads' h).2.2
  have hl := (Kd.R_reads' h).1
  have h2 := Kd.R_celln (0 : Int) h (j : Int) (by omega) (by rw [hl, tl_len]; omega)
  obtain ⟨h3, _⟩ := h2
  rw [Int.toNat_natCast] at h3
  exact h3.trans (by rw [show rdOf (0 : Int) (tl T) (j : Int) = (T[j] : Int) from rd_tl hj])
def HopPost (w : World) (xs : List Int) : Ending → World → Prop := fun e w' => ∃ v, e = .returned (.tuple #[v, .int .i64 0]) ∧ Kd.R (Kd.int .i64) 3 w' w.heap.size (fun _ => True) v xs ∧ Below w.heap.size w w'
attribute [local go_sem] max2_int min2_int max_two min_two max_three min_three max_four min_four
set_option maxHeartbeats 16000000 in
set_option maxRecDepth 100000 in
theorem Hop_walk (kd : Int) (K O n each c4 c5 : Nat) (ad4 ad5 : Addr) (nx out : List Int) (w : World)
    (hr4 : Kd.C (Kd.int .i64) w (some ad4) nx.length nx) (hc4 : nx.length ≤ c4) (hr5 : Kd.C (Kd.int .i64) w (some ad5) out.length out) (hc5 : out.length ≤ c5)
    (hck : machine_Check.f 300000 kd (K : Int) (O : Int) (n : Int) nx out = some (0, 0)) (hnl : nx.length = n * K) (hol : out.length = n * each) (he : each ≤ 64) (hv : ∀ v ∈ nx, 0 ≤ v ∧ v < (n : Int)) (hvo : ∀ x ∈ out, 0 ≤ x ∧ x < (O : Int))
    (hn0 : 0 < n) (hn : n ≤ 60) (hK0 : 0 < K) (hK : K ≤ 64) (hO : O ≤ 64) :
    Calls Try.prog 26 #[.agg #[.int .i64 kd, .int .i64 (K : Int), .int .i64 (O : Int), .int .i64 (n : Int), .slice (some ad4) nx.length c4, .slice (some ad5) out.length c5]] w (HopPost w (tl (canon (alikeB nx out n K each) n).1)) := by
  have hu53 := Try.underlying53
  have hu22 := Try.underlying22
  have hu64 := Try.underlying64
  have hu61 := Try.underlying61
  have hu62 := Try.underlying62
  have hu24 := Try.underlying24
  have HR4 := Aside0.mk hr4
  have HR5 := Aside0.mk hr5
  have HV := Aside0.mk hv
  have HVO := Aside0.mk hvo
  have HNL := Aside0.mk hnl
  have HOL := Aside0.mk hol
  have HGO : Aside0 (∀ s x, s < n → x < K → goOf nx K s x < n) := ⟨fun s x hs hx => (go_lt hnl hv hs hx).2.2⟩
  have hbf := before_is (kd := kd) (O := (O : Int)) (out := out) hnl hv (by omega) hK0 hK (k := 200000) (Nat.le_refl _)
  have HBF := Aside0.mk hbf
  have HCK := Aside0.mk hck
  clear hr4 hr5 hv hvo hnl hol hbf hck
  have HS1 := Aside0.mk ((Sep.nil w.heap.size w).alloc #[.int .i64 kd, .int .i64 (K : Int), .int .i64 (O : Int), .int .i64 (n : Int), .slice (some ad4) nx.length c4, .slice (some ad5) out.length c5] 53 (Nat.le_refl _))
  have HB1 := Aside0.mk (below_alloc (Below.refl w.heap.size w) (.cells #[.int .i64 kd, .int .i64 (K : Int), .int .i64 (O : Int), .int .i64 (n : Int), .slice (some ad4) nx.length c4, .slice (some ad5) out.length c5] 53))
  obtain ⟨hx0, hx1, hx2, hx3, hx4, hx5⟩ := six (HS1.out.get 0 rfl)
  go_enter Try.func26, Try.ntmps26
  go_wp2
  go_step3
  go_wp2_with (first
  | (go_at_call 17; refine (Count_walk w.heap.size own4 g n N4 C4 w5 (HS5.out.get 5 rfl)).mono ?_
     rintro e w6 ⟨rfl, hb⟩
     have HS6 : Aside0 (Sep w.heap.size [none_, none_, none_, rows (Kd.slice 3 (Kd.int .i64)) 22 w.heap.size ownF (.slice (some ⟨gF, 0, none⟩) (n * K) cF) (frm nx n K n 0), ints w.heap.size (.slice none 0 0) (tl (List.range 0)), part w.heap.size own4 g n N4 C4, blk w.heap.size #[.int .i64 kd, .int .i64 (K : Int), .int .i64 (O : Int), .int .i64 (n : Int), .slice (some ad4) nx.length c4, .slice (some ad5) out.length c5] 53] w6) := ⟨by
       have h1 := HS5.out.low hb
       exact h1.upd 4 rfl (r' := ints w.heap.size (.slice none 0 0) (tl (List.range 0))) (Kd.R_nil _ _ _ _ _) (fun _ _ _ => rfl) (fun k hk => (by simp [row, Value.ownBlock] at hk)) (Nat.le_trans HB5.out.size hb.size) (Nat.le_refl _)⟩
     have HB6 := Aside0.mk (below_step HB5.out hb)
     clear hb HS5 HB5)
  | (go_at_call 35; refine (block_before.calls 200000 kd (K : Int) (O : Int) (n : Int) (some ad4) c4 nx (some ad5) c5 out _ w4 (Kd.C_below HR4.out HB4.out) hc4 (Kd.C_below HR5.out HB4.out) hc5 HBF.out).mono ?_
     rintro e w5 ⟨v5, rfl, hs, hb⟩
     have hnk : 0 < n * K := Nat.mul_pos hn0 hK0
     obtain ⟨gF, cF, hvF, _, _, _⟩ := Kd.S_form hs (by rw [frm_len]; exact hnk)
     rw [frm_len] at hvF
     subst hvF
     obtain ⟨ownF, HS5⟩ : ∃ ownF, Aside0 (Sep w.heap.size [none_, none_, none_, rows (Kd.slice 3 (Kd.int .i64)) 22 w.heap.size ownF (.slice (some ⟨gF, 0, none⟩) (n * K) cF) (frm nx n K n 0), none_, part w.heap.size own4 g n N4 C4, blk w.heap.size #[.int .i64 kd, .int .i64 (K : Int), .int .i64 (O : Int), .int .i64 (n : Int), .slice (some ad4) nx.length c4, .slice (some ad5) out.length c5] 53] w5) := ⟨fun k => w4.heap.size ≤ k ∧ k < w5.heap.size, ⟨by
       have h1 := ((((HS4.out.free none_ trivial (fun _ hk => hk.elim)).free none_ trivial (fun _ hk => hk.elim)).free none_ trivial (fun _ hk => hk.elim)).free none_ trivial (fun _ hk => hk.elim)).free none_ trivial (fun _ hk => hk.elim)
       exact h1.fill 3 rfl (rows (Kd.slice 3 (Kd.int .i64)) 22 w.heap.size (fun k => w4.heap.size ≤ k ∧ k < w5.heap.size) (.slice (some ⟨gF, 0, none⟩) (n * K) cF) (frm nx n K n 0)) (Kd.S_mono (Kd.S_lower (Kd.S_bound hs) HB4.out.size) (fun k hk => ⟨hk.2.1, hk.2.2.1⟩)) hb (fun k hk => hk) HB4.out.size⟩⟩
     have HB5 := Aside0.mk (below_step HB4.out hb)
     clear hs hb hx0 hx1 hx2 hx3 hx4 hx5 HS4 HB4 hnk)
  | (go_at_call 34; refine (Spoken_walk own1 g n 1 (fun _ => 0) kd K O each nx.length c4 c5 (some ad4) ad5 out (goOf nx K) w2 w3 HNB3.out HN3.out (Kd.C_below HR5.out HB2.out) HOL.out hn0 (by omega) he hO HVO.out (fun _ _ _ _ _ => rfl)).mono ?_
     rintro e w4 ⟨rfl, own4, N4, C4, hS, hb, hsd, hsy⟩
     have HS4 : Aside0 (Sep w.heap.size [part w.heap.size own4 g n N4 C4, blk w.heap.size #[.int .i64 kd, .int .i64 (K : Int), .int .i64 (O : Int), .int .i64 (n : Int), .slice (some ad4) nx.length c4, .slice (some ad5) out.length c5] 53] w4) := ⟨by
       have h1 := HS2.out.over hb hS HB2.out.size
       exact h1.upd 0 rfl (r' := part w.heap.size own4 g n N4 C4) (part_lower HB2.out.size (h1.get 0 rfl)) (fun _ _ _ => rfl) (fun k hk => ⟨.inl hk, (h1.bound 0 rfl hk).2⟩) (Nat.le_trans HB2.out.size hb.size) (Nat.le_refl _)⟩
     have HB4 := Aside0.mk (below_step HB2.out hb)
     have HSD := Aside0.mk (And.intro hsd hsy)
     clear hS hb hsd hsy HN3 HNB3 HS2 HB2 hx0 hx1 hx2 hx3 hx4 hx5
     obtain ⟨hx0, hx1, hx2, hx3, hx4, hx5⟩ := six (w := w4) (HS4.out.get 1 rfl))
  | (go_at_call 10; refine (New_law (Sep.nil w2.heap.size w2) (Nat.le_refl _) n hn0 (by omega)).mono ?_
     rintro e w3 ⟨g, own1, rfl, hS, hb⟩
     have HN3 := Aside0.mk hS
     have HNB3 := Aside0.mk hb
     clear hS hb hx3
     obtain ⟨hx0, hx1, hx2, hx3, hx4, hx5⟩ := six (w := w3) ((HS2.out.low HNB3.out).get 0 rfl))
  | (go_at_call 33; refine (machine_Check.calls 300000 kd (K : Int) (O : Int) (n : Int) (some ad4) c4 nx (some ad5) c5 out 0 0 _ (Kd.C_below HR4.out HB1.out) hc4 (Kd.C_below HR5.out HB1.out) hc5 HCK.out).mono ?_
     rintro e w2 ⟨rfl, hb⟩
     have HS2 := Aside0.mk (HS1.out.low hb)
     have HB2 := Aside0.mk (below_step HB1.out hb)
     clear hb HS1 HB1 hx0 hx1 hx2 hx3 hx4 hx5
     have hx3 : w2.cell? ⟨w.heap.size, 3, none⟩ = some (.int .i64 (n : Int)) := (blk_cell (HS2.out.get 0 rfl) 3).trans rfl))
  go_loopw [43, 9] (fun v43 v9 wr => ∃ (c : Nat) (tv : Value), v43 = .int .i64 (c : Int) ∧ tv = v9 ∧ Aside0 (c ≤ N4) ∧ Aside0 (Sep w.heap.size [none_, none_, none_, rows (Kd.slice 3 (Kd.int .i64)) 22 w.heap.size ownF (.slice (some ⟨gF, 0, none⟩) (n * K) cF) (frm nx n K n 0), ints w.heap.size tv (tl (List.range c)), part w.heap.size own4 g n N4 C4, blk w.heap.size #[.int .i64 kd, .int .i64 (K : Int), .int .i64 (O : Int), .int .i64 (n : Int), .slice (some ad4) nx.length c4, .slice (some ad5) out.length c5] 53] wr) ∧ Aside0 (Below w.heap.size w wr)) (fun v43 _ _ => N4 - (intOf v43).toNat)
  case atStart => exact ⟨0, _, rfl, rfl, ⟨Nat.zero_le _⟩, HS6, HB6⟩
  case round =>
    clear HS6 HB6
    obtain ⟨c, tv, rfl, htv, HCI, HS, HB⟩ := hrel
    subst htv
    have HNN := Aside0.mk (part_le (HS.out.get 5 rfl))
    have hN4 : N4 ≤ 60 := by have := HNN.out; omega
    by_cases hc : c < N4
    · have HCL := Aside0.mk hc
      have hc' : (c : Int) < (N4 : Int) := by omega
      have HLL : Aside0 (((tl (List.range c)).length + 1) * 8 ≤ 140737488355328) := ⟨by rw [tl_len, List.length_range]; have := HNN.out; omega⟩
      clear hc
      go_wp2_with (first
      | ((with_reducible refine gate_builtin (b := .append) (xs := #[.tmp 46, .tmp 48]) rfl ?_)
         at_builtin
         refine Kd.R_append (Kd.int .i64) (w0 := w) w.heap.size rfl (.tmp 46) (.tmp 48) 22 3 (.int .i64 0) 8 rfl Try.underlying22 info3 rfl (by decide) (by omega) tv (tl (List.range c)) (c : Int) [.int .i64 (c : Int)] (fun _ => True) (fun _ => False) rfl (by simp [Act.eval]) rfl (fun _ hk => hk.elim) (fun _ _ => trivial) (Kd.R_mono (HS.out.get 4 rfl) (fun _ _ => trivial)) HB.out HB.out.size HLL.out ?_
         intro v8 w9 ho hb hg hat
         have HS9 : Aside0 (Sep w.heap.size [none_, none_, none_, rows (Kd.slice 3 (Kd.int .i64)) 22 w.heap.size ownF (.slice (some ⟨gF, 0, none⟩) (n * K) cF) (frm nx n K n 0), ints w.heap.size v8 (tl (List.range (c + 1))), part w.heap.size own4 g n N4 C4, blk w.heap.size #[.int .i64 kd, .int .i64 (K : Int), .int .i64 (O : Int), .int .i64 (n : Int), .slice (some ad4) nx.length c4, .slice (some ad5) out.length c5] 53] w9) := ⟨by rw [List.range_succ, tl_snoc]; exact HS.out.app 4 rfl rfl ho hg hat HB.out.size⟩
         have HB9 := Aside0.mk hb
         clear ho hb hg hat))
      go_roundw
      case rel => exact ⟨c + 1, _, by go_num, rfl, ⟨by have := HCL.out; omega⟩, HS9, HB9⟩
      case measure => have := HCL.out; simp [intOf]; omega
    · have hc' : ¬ ((c : Int) < (N4 : Int)) := by omega
      have hce : c = N4 := by have := HCI.out; omega
      subst hce
      clear hc HCI
      go_wp2
      try go_step3
      go_wp2
      go_loopw [11, 9] (fun v11 v9 wr => ∃ (i N : Nat) (W : List Nat) (C : Nat → Nat) (own : Nat → Prop) (tv : Value), v11 = .int .i64 (i : Int) ∧ tv = v9 ∧ Aside0 (i ≤ W.length ∧ W.length ≤ 2 * N ∧ ∀ c ∈ W, c < N) ∧ Aside0 (Sep w.heap.size [none_, none_, none_, rows (Kd.slice 3 (Kd.int .i64)) 22 w.heap.size ownF (.slice (some ⟨gF, 0, none⟩) (n * K) cF) (frm nx n K n 0), ints w.heap.size tv (tl W), part w.heap.size own g n N C, blk w.heap.size #[.int .i64 kd, .int .i64 (K : Int), .int .i64 (O : Int), .int .i64 (n : Int), .slice (some ad4) nx.length c4, .slice (some ad5) out.length c5] 53] wr) ∧ Aside0 (Below w.heap.size w wr) ∧ Aside0 ((Sound n K (goOf nx K) (SameSay out each) C ∧ ∀ s t, s < n → t < n → C s = C t → SameSay out each s t) ∧ Wi n K (goOf nx K) W i C N)) (fun v11 _ _ => 2 * n - (intOf v11).toNat)
      case atStart => exact ⟨0, c, List.range c, C4, own4, _, rfl, rfl, ⟨by rw [List.length_range]; exact ⟨Nat.zero_le _, by omega, fun x hx => List.mem_range.1 hx⟩⟩, HS, HB, ⟨HSD.out, Wi.begin (fun x hx => List.mem_range.2 hx)⟩⟩
      case round =>
        clear HS HB HSD HNN
        obtain ⟨i, N, W, C, own, tv, rfl, htv, HI, HS, HB, HSD⟩ := hrel
        subst htv
        have HPL := Aside0.mk (part_lt (HS.out.get 5 rfl))
        have HPN := Aside0.mk (part_le (HS.out.get 5 rfl))
        obtain ⟨Aw, cw, hvw⟩ := Kd.R_slice (HS.out.get 4 rfl)
        rw [tl_len] at hvw
        subst hvw
        by_cases hi : i = W.length
        · have hib : ((i : Int) == (W.length : Int)) = true := by rw [hi]; simp
          have HFIN : Aside0 (∀ s t, s < n → t < n → C s = C t → Alike n K (goOf nx K) (SameSay out each) s t) := ⟨fun s t hs ht e => HSD.out.2.over HPL.out (by omega) (HSD.out.1.2) hs ht HGO.out e⟩
          clear hi
          go_wp2
          go_quiet (fail)
          go_wp2_with (first
          | (go_at_call 36; refine (Renum_walk n C Av cv w10 (row_C HR10.out).1 (by omega) (fun i hi => by have := HPL.out i hi; have := HPN.out; omega)).mono ?_
             rintro e w11 ⟨v11, rfl, hR, hb⟩
             have HR11 := Aside0.mk hR
             have HB11 := Aside0.mk (below_step HB10.out hb)
             clear hR hb)
          | (go_at_call 13; refine (All_law (HS.out.low (pw_below_drewN (Below.refl _ _) _)) 5 rfl (by omega)).mono ?_
             rintro e w10 ⟨v10, rfl, hR, hb⟩
             obtain ⟨Av, cv, hv⟩ := Kd.R_slice hR
             rw [lst_len] at hv
             subst hv
             have HR10 := Aside0.mk hR
             have HB10 := Aside0.mk (below_step (pw_below_drewN HB.out _) hb)
             clear hR hb))
          try rw [Exit.noGoto_ret]
          go_ret2
          have hcc : canon (alikeB nx out n K each) n = canon (byC C) n := canon_congr n (fun s t hs ht => by
            rw [Bool.eq_iff_iff, alikeB_iff]
            unfold byC
            rw [decide_eq_true_iff]
            exact ⟨fun h => (HSD.out.1.1 s t hs (by omega) h).symm, fun h => HFIN.out s t hs (by omega) h.symm⟩)
          exact ⟨_, rfl, by rw [hcc]; exact Kd.R_mono (Kd.R_lower HR11.out HB10.out.size) (fun _ _ => trivial), HB11.out⟩
        · have hib : ((i : Int) == (W.length : Int)) = false := by simp; omega
          have HIL : Aside0 (i < W.length) := ⟨by have := HI.out.1; omega⟩
          clear hi
          by_cases hN : N = n
          · have hnb : ((N : Int) == (n : Int)) = true := by rw [hN]; simp
            have HFIN : Aside0 (∀ s t, s < n → t < n → C s = C t → Alike n K (goOf nx K) (SameSay out each) s t) := ⟨fun s t hs ht e => each_alike HPL.out hN (fun c hc => part_full (HS.out.get 5 rfl) hc) (HSD.out.1.2) hs ht e⟩
            clear hN
            go_wp2
            refine start_ (n := 11) (S := fun w' => w'.cell? ⟨w.heap.size, 3, none⟩ = some (.int .i64 (n : Int))) (ds := []) #[false, false, false, false, false, false, false, false, false, false, false] (by kernel_rfl) rfl rfl ((blk_cell ((HS.out.low (below_drew1 (Below.refl _ _))).get 6 rfl) 3).trans rfl) (fun hHeld => ?_)
            refine with_tabW hp.tab15 hp.bits15 (fun HT_ HW_ => ?_)
            have HS8 := Aside0.mk (HS.out.low (below_drew1 (Below.refl _ _)))
            have HB8 := Aside0.mk (below_drew1 HB.out)
            clear HS HB
            generalize wr.drew = wd at HS8 HB8 hHeld ⊢
            refine pure_ (i := 0) (N := (some 53)) (v := ?_) (a' := ?_) #[true, false, false, false, false, false, false, false, false, false, false] rfl rfl (any_of HT_.out (by kernel_rfl)) (fun _ _ _ h => h) (Or.inl ⟨by rfl, ?_⟩) ?_ ?_
            rotate_left
            · intro w'
              go_simp
              with_reducible rfl
            rotate_left
            · simp only [Act.put, List.setIfInBounds_toArray, List.set_cons_zero, List.set_cons_succ, i64_w, i32_w]
              rfl
            refine pure_ (i := 1) (N := (some 54)) (v := ?_) (a' := ?_) #[true, true, false, false, false, false, false, false, false, false, false] rfl rfl (any_of HT_.out (by kernel_rfl)) (fun _ _ _ h => h) (Or.inl ⟨by rfl, ?_⟩) ?_ ?_
            rotate_left
            · intro w'
              go_simp
              with_reducible rfl
            rotate_left
            · simp only [Act.put, List.setIfInBounds_toArray, List.set_cons_zero, List.set_cons_succ, i64_w, i32_w]
              rfl
            refine pure_ (i := 2) (N := (some 55)) (v := ?_) (a' := ?_) #[true, true, true, false, false, false, false, false, false, false, false] rfl rfl (any_of HT_.out (by kernel_rfl)) (fun _ _ _ h => h) (Or.inl ⟨by rfl, ?_⟩) ?_ ?_
            rotate_left
            · intro w'
              go_simp
              with_reducible rfl
            rotate_left
            · simp only [Act.put, List.setIfInBounds_toArray, List.set_cons_zero, List.set_cons_succ, i64_w, i32_w]
              rfl
            refine pure_ (i := 3) (N := (some 56)) (v := ?_) (a' := ?_) #[true, true, true, true, false, false, false, false, false, false, false] rfl rfl (any_of HT_.out (by kernel_rfl)) (fun _ _ _ h => h) (Or.inl ⟨by rfl, ?_⟩) ?_ ?_
            rotate_left
            · intro w'
              go_simp
              with_reducible rfl
            rotate_left
            · simp only [Act.put, List.setIfInBounds_toArray, List.set_cons_zero, List.set_cons_succ, i64_w, i32_w]
              rfl
            refine pure_ (i := 4) (N := (some 57)) (v := ?_) (a' := ?_) #[true, true, true, true, true, false, false, false, false, false, false] rfl rfl (any_of HT_.out (by kernel_rfl)) (fun _ _ _ h => h) (Or.inl ⟨by rfl, ?_⟩) ?_ ?_
            rotate_left
            · intro w'
              go_simp
              with_reducible rfl
            rotate_left
            · simp only [Act.put, List.setIfInBounds_toArray, List.set_cons_zero, List.set_cons_succ, i64_w, i32_w]
              rfl
            refine pure_ (i := 5) (N := (some 58)) (v := ?_) (a' := ?_) #[true, true, true, true, true, true, false, false, false, false, false] rfl rfl (any_of HT_.out (by kernel_rfl)) (fun _ _ _ h => h) (Or.inl ⟨by rfl, ?_⟩) ?_ ?_
            rotate_left
            · intro w'
              go_simp
              with_reducible rfl
            rotate_left
            · simp only [Act.put, List.setIfInBounds_toArray, List.set_cons_zero, List.set_cons_succ, i64_w, i32_w]
              rfl
            refine pure_ (i := 7) (N := (some 60)) (v := ?_) (a' := ?_) #[true, true, true, true, true, true, false, true, false, false, false] rfl rfl (any_of HT_.out (by kernel_rfl)) (fun _ _ _ h => h) (Or.inl ⟨by rfl, ?_⟩) ?_ ?_
            rotate_left
            · intro w'
              go_simp
              with_reducible rfl
            rotate_left
            · simp only [Act.put, List.setIfInBounds_toArray, List.set_cons_zero, List.set_cons_succ, i64_w, i32_w]
              rfl
            refine take_ (i := 8) (N := (some 61)) (v := ?_) (a' := ?_) #[true, true, true, true, true, true, false, true, true, false, false] rfl rfl (take_ofW HT_.out HW_.out (by kernel_rfl)) (fun _ _ _ h => h) (Or.inl ⟨by rfl, ?_⟩) hHeld ?_ ?_
            rotate_left
            · rintro w' s0
              go_simp
              with_reducible rfl
            rotate_left
            · simp only [Act.put, List.setIfInBounds_toArray, List.set_cons_zero, List.set_cons_succ, i64_w, i32_w]
              rfl
            refine one_ (i := 6) (N := (some 59)) #[true, true, true, true, true, true, true, true, true, false, false] rfl rfl (one_of HT_.out (by kernel_rfl)) (by decide) (fun K hK => ?_)
            refine goes_ Try.func17 (by kernel_rfl) rfl #[.pointer (some ⟨g, 0, none⟩)] (by rfl) rfl rfl (by (try simp only [List.map_toArray, List.map_cons, List.map_nil]); first | done | rfl | simp [Act.eval]) ?_
            refine (Count_walk w.heap.size own g n N C _ (HS8.out.get 5 rfl)).mono ?_
            rintro e w9 ⟨rfl, hd⟩
            refine ⟨_, rfl, ?_⟩
            have HS9 := Aside0.mk (HS8.out.low hd)
            have HB9 := Aside0.mk (below_step HB8.out hd)
            clear hd HS8 HB8
            refine hK.out _ _ ((blk_cell (HS9.out.get 6 rfl) 3).trans rfl) (fun hHeld => ?_); clear hK K
            refine norm_ (a' := ?_) ?_ ?_
            rotate_left
            · show Act.put _ (some 59) _ = _
              simp only [Act.put, List.setIfInBounds_toArray, List.set_cons_zero, List.set_cons_succ, i64_w, i32_w]
              rfl
            refine pure_ (i := 9) (N := (some 62)) (v := ?_) (a' := ?_) #[true, true, true, true, true, true, true, true, true, true, false] rfl rfl (any_of HT_.out (by kernel_rfl)) (fun _ _ _ h => h) (Or.inl ⟨by rfl, ?_⟩) ?_ ?_
            rotate_left
            · intro w'
              go_simp
              with_reducible rfl
            rotate_left
            · simp only [Act.put, List.setIfInBounds_toArray, List.set_cons_zero, List.set_cons_succ, i64_w, i32_w]
              rfl
            refine pure_ (i := 10) (N := (some 63)) (v := ?_) (a' := ?_) #[true, true, true, true, true, true, true, true, true, true, true] rfl rfl (any_of HT_.out (by kernel_rfl)) (fun _ _ _ h => h) (Or.inl ⟨by rfl, ?_⟩) ?_ ?_
            rotate_left
            · intro w'
              go_simp
              with_reducible rfl
            rotate_left
            · simp only [Act.put, List.setIfInBounds_toArray, List.set_cons_zero, List.set_cons_succ, i64_w, i32_w]
              rfl
            refine done_ (done_of HT_.out (by kernel_rfl)) ?_
            go_wp2_with (first
            | (go_at_call 36; refine (Renum_walk n C Av cv w10 (row_C HR10.out).1 (by omega) (fun i hi => by have := HPL.out i hi; have := HPN.out; omega)).mono ?_
               rintro e w11 ⟨v11, rfl, hR, hb⟩
               have HR11 := Aside0.mk hR
               have HB11 := Aside0.mk (below_step HB10.out hb)
               clear hR hb)
            | (go_at_call 13; refine (All_law HS9.out 5 rfl (by omega)).mono ?_
               rintro e w10 ⟨v10, rfl, hR, hb⟩
               obtain ⟨Av, cv, hv⟩ := Kd.R_slice hR
               rw [lst_len] at hv
               subst hv
               have HR10 := Aside0.mk hR
               have HB10 := Aside0.mk (below_step HB9.out hb)
               clear hR hb))
            try rw [Exit.noGoto_ret]
            go_ret2
            have hcc : canon (alikeB nx out n K each) n = canon (byC C) n := canon_congr n (fun s t hs ht => by
              rw [Bool.eq_iff_iff, alikeB_iff]
              unfold byC
              rw [decide_eq_true_iff]
              exact ⟨fun h => (HSD.out.1.1 s t hs (by omega) h).symm, fun h => HFIN.out s t hs (by omega) h.symm⟩)
            exact ⟨_, rfl, by rw [hcc]; exact Kd.R_mono (Kd.R_lower HR11.out HB10.out.size) (fun _ _ => trivial), HB11.out⟩
          · have hnb : ((N : Int) == (n : Int)) = false := by simp; omega
            clear hN
            go_wp2
            refine start_ (n := 11) (S := fun w' => w'.cell? ⟨w.heap.size, 3, none⟩ = some (.int .i64 (n : Int))) (ds := []) #[false, false, false, false, false, false, false, false, false, false, false] (by kernel_rfl) rfl rfl ((blk_cell ((HS.out.low (below_drew1 (Below.refl _ _))).get 6 rfl) 3).trans rfl) (fun hHeld => ?_)
            refine with_tabW hp.tab15 hp.bits15 (fun HT_ HW_ => ?_)
            have HS8 := Aside0.mk (HS.out.low (below_drew1 (Below.refl _ _)))
            have HB8 := Aside0.mk (below_drew1 HB.out)
            clear HS HB
            generalize wr.drew = wd at HS8 HB8 hHeld ⊢
            refine pure_ (i := 0) (N := (some 53)) (v := ?_) (a' := ?_) #[true, false, false, false, false, false, false, false, false, false, false] rfl rfl (any_of HT_.out (by kernel_rfl)) (fun _ _ _ h => h) (Or.inl ⟨by rfl, ?_⟩) ?_ ?_
            rotate_left
            · intro w'
              go_simp
              with_reducible rfl
            rotate_left
            · simp only [Act.put, List.setIfInBounds_toArray, List.set_cons_zero, List.set_cons_succ, i64_w, i32_w]
              rfl
            refine pure_ (i := 1) (N := (some 54)) (v := ?_) (a' := ?_) #[true, true, false, false, false, false, false, false, false, false, false] rfl rfl (any_of HT_.out (by kernel_rfl)) (fun _ _ _ h => h) (Or.inl ⟨by rfl, ?_⟩) ?_ ?_
            rotate_left
            · intro w'
              go_simp
              with_reducible rfl
            rotate_left
            · simp only [Act.put, List.setIfInBounds_toArray, List.set_cons_zero, List.set_cons_succ, i64_w, i32_w]
              rfl
            refine pure_ (i := 2) (N := (some 55)) (v := ?_) (a' := ?_) #[true, true, true, false, false, false, false, false, false, false, false] rfl rfl (any_of HT_.out (by kernel_rfl)) (fun _ _ _ h => h) (Or.inl ⟨by rfl, ?_⟩) ?_ ?_
            rotate_left
            · intro w'
              go_simp
              with_reducible rfl
            rotate_left
            · simp only [Act.put, List.setIfInBounds_toArray, List.set_cons_zero, List.set_cons_succ, i64_w, i32_w]
              rfl
            refine pure_ (i := 3) (N := (some 56)) (v := ?_) (a' := ?_) #[true, true, true, true, false, false, false, false, false, false, false] rfl rfl (any_of HT_.out (by kernel_rfl)) (fun _ _ _ h => h) (Or.inl ⟨by rfl, ?_⟩) ?_ ?_
            rotate_left
            · intro w'
              go_simp
              with_reducible rfl
            rotate_left
            · simp only [Act.put, List.setIfInBounds_toArray, List.set_cons_zero, List.set_cons_succ, i64_w, i32_w]
              rfl
            refine pure_ (i := 4) (N := (some 57)) (v := ?_) (a' := ?_) #[true, true, true, true, true, false, false, false, false, false, false] rfl rfl (any_of HT_.out (by kernel_rfl)) (fun _ _ _ h => h) (Or.inl ⟨by rfl, ?_⟩) ?_ ?_
            rotate_left
            · intro w'
              go_simp
              with_reducible rfl
            rotate_left
            · simp only [Act.put, List.setIfInBounds_toArray, List.set_cons_zero, List.set_cons_succ, i64_w, i32_w]
              rfl
            refine pure_ (i := 5) (N := (some 58)) (v := ?_) (a' := ?_) #[true, true, true, true, true, true, false, false, false, false, false] rfl rfl (any_of HT_.out (by kernel_rfl)) (fun _ _ _ h => h) (Or.inl ⟨by rfl, ?_⟩) ?_ ?_
            rotate_left
            · intro w'
              go_simp
              with_reducible rfl
            rotate_left
            · simp only [Act.put, List.setIfInBounds_toArray, List.set_cons_zero, List.set_cons_succ, i64_w, i32_w]
              rfl
            refine pure_ (i := 7) (N := (some 60)) (v := ?_) (a' := ?_) #[true, true, true, true, true, true, false, true, false, false, false] rfl rfl (any_of HT_.out (by kernel_rfl)) (fun _ _ _ h => h) (Or.inl ⟨by rfl, ?_⟩) ?_ ?_
            rotate_left
            · intro w'
              go_simp
              with_reducible rfl
            rotate_left
            · simp only [Act.put, List.setIfInBounds_toArray, List.set_cons_zero, List.set_cons_succ, i64_w, i32_w]
              rfl
            refine take_ (i := 8) (N := (some 61)) (v := ?_) (a' := ?_) #[true, true, true, true, true, true, false, true, true, false, false] rfl rfl (take_ofW HT_.out HW_.out (by kernel_rfl)) (fun _ _ _ h => h) (Or.inl ⟨by rfl, ?_⟩) hHeld ?_ ?_
            rotate_left
            · rintro w' s0
              go_simp
              with_reducible rfl
            rotate_left
            · simp only [Act.put, List.setIfInBounds_toArray, List.set_cons_zero, List.set_cons_succ, i64_w, i32_w]
              rfl
            refine one_ (i := 6) (N := (some 59)) #[true, true, true, true, true, true, true, true, true, false, false] rfl rfl (one_of HT_.out (by kernel_rfl)) (by decide) (fun K hK => ?_)
            refine goes_ Try.func17 (by kernel_rfl) rfl #[.pointer (some ⟨g, 0, none⟩)] (by rfl) rfl rfl (by (try simp only [List.map_toArray, List.map_cons, List.map_nil]); first | done | rfl | simp [Act.eval]) ?_
            refine (Count_walk w.heap.size own g n N C _ (HS8.out.get 5 rfl)).mono ?_
            rintro e w9 ⟨rfl, hd⟩
            refine ⟨_, rfl, ?_⟩
            have HS9 := Aside0.mk (HS8.out.low hd)
            have HB9 := Aside0.mk (below_step HB8.out hd)
            clear hd HS8 HB8
            refine hK.out _ _ ((blk_cell (HS9.out.get 6 rfl) 3).trans rfl) (fun hHeld => ?_); clear hK K
            refine norm_ (a' := ?_) ?_ ?_
            rotate_left
            · show Act.put _ (some 59) _ = _
              simp only [Act.put, List.setIfInBounds_toArray, List.set_cons_zero, List.set_cons_succ, i64_w, i32_w]
              rfl
            refine pure_ (i := 9) (N := (some 62)) (v := ?_) (a' := ?_) #[true, true, true, true, true, true, true, true, true, true, false] rfl rfl (any_of HT_.out (by kernel_rfl)) (fun _ _ _ h => h) (Or.inl ⟨by rfl, ?_⟩) ?_ ?_
            rotate_left
            · intro w'
              go_simp
              with_reducible rfl
            rotate_left
            · simp only [Act.put, List.setIfInBounds_toArray, List.set_cons_zero, List.set_cons_succ, i64_w, i32_w]
              rfl
            refine pure_ (i := 10) (N := (some 63)) (v := ?_) (a' := ?_) #[true, true, true, true, true, true, true, true, true, true, true] rfl rfl (any_of HT_.out (by kernel_rfl)) (fun _ _ _ h => h) (Or.inl ⟨by rfl, ?_⟩) ?_ ?_
            rotate_left
            · intro w'
              go_simp
              with_reducible rfl
            rotate_left
            · simp only [Act.put, List.setIfInBounds_toArray, List.set_cons_zero, List.set_cons_succ, i64_w, i32_w]
              rfl
            refine done_ (done_of HT_.out (by kernel_rfl)) ?_
            have hiN : i < 2 * n := by have := HI.out.2.1; have := HPN.out; have := HIL.out; omega
            obtain ⟨b, hwb⟩ : ∃ b, W[i]? = some b := ⟨W[i]'HIL.out, List.getElem?_eq_getElem HIL.out⟩
            have hbN : b < N := HI.out.2.2 b (List.mem_of_getElem? hwb)
            have hi' : (i : Int) < (W.length : Int) := by have := HIL.out; omega
            obtain ⟨adw, ew, hxw⟩ := Kd.at_int (row_C (HS9.out.get 4 rfl)).1 (i : Int) (by omega) hi'
            subst ew
            have hwv : rd (tl W) (i : Int) = (b : Int) := by rw [rd_tl HIL.out]; rw [List.getElem?_eq_getElem HIL.out] at hwb; injection hwb with hwb; rw [hwb]
            rw [Int.toNat_natCast, hwv] at hxw
            have HWB := Aside0.mk hwb
            have HBN := Aside0.mk hbN
            clear hwb hbN hwv
            go_wp2_with (first
            | (go_at_call 14; refine (Members_law HS9.out 5 rfl (by omega) b HBN.out).mono ?_
               rintro e w12 ⟨v12, rfl, hR, hb⟩
               obtain ⟨gl, cl, hv⟩ := ints_some hR (fun e => by have h := part_full (HS9.out.get 5 rfl) HBN.out; rw [← tl_len, e] at h; exact absurd h (Nat.lt_irrefl 0))
               rw [tl_len] at hv
               subst hv
               have HS12 : Aside0 (Sep w.heap.size [ints w.heap.size (.slice (some ⟨gl, 0, none⟩) (members n C b).length cl) (tl (members n C b)), none_, none_, rows (Kd.slice 3 (Kd.int .i64)) 22 w.heap.size ownF (.slice (some ⟨gF, 0, none⟩) (n * K) cF) (frm nx n K n 0), ints w.heap.size (.slice (some adw) W.length cw) (tl W), part w.heap.size own g n N C, blk w.heap.size #[.int .i64 kd, .int .i64 (K : Int), .int .i64 (O : Int), .int .i64 (n : Int), .slice (some ad4) nx.length c4, .slice (some ad5) out.length c5] 53] w12) := ⟨HS9.out.fillRow 0 rfl rfl hR hb HB9.out.size⟩
               have HB12 := Aside0.mk (below_step HB9.out hb)
               have hx1 : w12.cell? ⟨w.heap.size, 1, none⟩ = some (.int .i64 (K : Int)) := (blk_cell (HS12.out.get 6 rfl) 1).trans rfl
               clear hR hb HS9 HB9 hxw hHeld))
            clear hx1
            have HML := Aside0.mk (members_len n C b)
            go_loopw [75, 9] (fun v75 v9 wr => ∃ (x N1 : Nat) (W1 : List Nat) (C1 : Nat → Nat) (own1 : Nat → Prop) (tv : Value), v75 = .int .i64 (x : Int) ∧ tv = v9 ∧ Aside0 (x ≤ K) ∧ Aside0 (i < W1.length ∧ W1.length ≤ 2 * N1 ∧ ∀ c ∈ W1, c < N1) ∧ Aside0 (Sep w.heap.size [ints w.heap.size (.slice (some ⟨gl, 0, none⟩) (members n C b).length cl) (tl (members n C b)), none_, none_, rows (Kd.slice 3 (Kd.int .i64)) 22 w.heap.size ownF (.slice (some ⟨gF, 0, none⟩) (n * K) cF) (frm nx n K n 0), ints w.heap.size tv (tl W1), part w.heap.size own1 g n N1 C1, blk w.heap.size #[.int .i64 kd, .int .i64 (K : Int), .int .i64 (O : Int), .int .i64 (n : Int), .slice (some ad4) nx.length c4, .slice (some ad5) out.length c5] 53] wr) ∧ Aside0 (Below w.heap.size w wr) ∧ Aside0 ((Sound n K (goOf nx K) (SameSay out each) C1 ∧ ∀ s t, s < n → t < n → C1 s = C1 t → SameSay out each s t) ∧ Wk n K (goOf nx K) W1 (i + 1) (fun s => C s = b) x C1 N1)) (fun v75 _ _ => K - (intOf v75).toNat)
            case atStart => exact ⟨0, N, W, C, own, _, rfl, rfl, ⟨Nat.zero_le _⟩, ⟨HIL.out, HI.out.2⟩, HS12, HB12, ⟨HSD.out.1, HSD.out.2.enter HWB.out⟩⟩
            case round =>
              clear HS12 HB12
              obtain ⟨x, N1, W1, C1, own1, tv, rfl, htv, HXI, HI1, HS, HB, HSD1⟩ := hrel
              subst htv
              have HPL1 := Aside0.mk (part_lt (HS.out.get 5 rfl))
              have HPN1 := Aside0.mk (part_le (HS.out.get 5 rfl))
              have hN1 : N1 ≤ 60 := by have := HPN1.out; omega
              by_cases hx : x < K
              · have HXL := Aside0.mk hx
                have hx' : (x : Int) < (K : Int) := by omega
                have HSN : Aside0 (Sep w.heap.size [ints w.heap.size (.slice (some ⟨gl, 0, none⟩) (members n C b).length cl) (tl (members n C b)), ints w.heap.size (.slice none 0 0) (tl (prL nx K n (members n C b) x 0)), none_, rows (Kd.slice 3 (Kd.int .i64)) 22 w.heap.size ownF (.slice (some ⟨gF, 0, none⟩) (n * K) cF) (frm nx n K n 0), ints w.heap.size tv (tl W1), part w.heap.size own1 g n N1 C1, blk w.heap.size #[.int .i64 kd, .int .i64 (K : Int), .int .i64 (O : Int), .int .i64 (n : Int), .slice (some ad4) nx.length c4, .slice (some ad5) out.length c5] 53] wr) := ⟨HS.out.upd 1 rfl (r' := ints w.heap.size (.slice none 0 0) (tl (prL nx K n (members n C b) x 0))) (Kd.R_nil _ _ _ _ _) (fun _ _ _ => rfl) (fun k hk => (by simp [row, Value.ownBlock] at hk)) HB.out.size (Nat.le_refl _)⟩
                clear hx
                go_wp2
                go_loopw [80, 15] (fun v80 v15 wr => ∃ (q : Nat) (pv : Value), v80 = .int .i64 (q : Int) ∧ pv = v15 ∧ Aside0 (q ≤ (members n C b).length) ∧ Aside0 (Sep w.heap.size [ints w.heap.size (.slice (some ⟨gl, 0, none⟩) (members n C b).length cl) (tl (members n C b)), ints w.heap.size pv (tl (prL nx K n (members n C b) x q)), none_, rows (Kd.slice 3 (Kd.int .i64)) 22 w.heap.size ownF (.slice (some ⟨gF, 0, none⟩) (n * K) cF) (frm nx n K n 0), ints w.heap.size tv (tl W1), part w.heap.size own1 g n N1 C1, blk w.heap.size #[.int .i64 kd, .int .i64 (K : Int), .int .i64 (O : Int), .int .i64 (n : Int), .slice (some ad4) nx.length c4, .slice (some ad5) out.length c5] 53] wr) ∧ Aside0 (Below w.heap.size w wr)) (fun v80 _ _ => (members n C b).length - (intOf v80).toNat)
                case atStart => exact ⟨0, _, rfl, rfl, ⟨Nat.zero_le _⟩, HSN, HB⟩
                case round =>
                  clear HSN HS HB
                  obtain ⟨q, pv, rfl, hpv, HQI, HS, HB⟩ := hrel
                  subst hpv
                  by_cases hq : q < (members n C b).length
                  · have HQL := Aside0.mk hq
                    have hq60 : q < 60 := by have := HML.out; omega
                    have hq' : (q : Int) < ((members n C b).length : Int) := by omega
                    obtain ⟨t, ht⟩ : ∃ t, (members n C b)[q] = t := ⟨_, rfl⟩
                    have htn : t < n := by rw [← ht]; exact (members_at hq).1
                    have HPS := Aside0.mk (prL_succ nx K n (members n C b) x hq)
                    rw [ht] at HPS
                    have hxl := tl_at (HS.out.get 0 rfl) hq
                    rw [ht] at hxl
                    have hx1 : wr.cell? ⟨w.heap.size, 1, none⟩ = some (.int .i64 (K : Int)) := (blk_cell (HS.out.get 6 rfl) 1).trans rfl
                    have hpp := (pos_lt (t := t) htn HXL.out).2.1
                    have htk : t * K ≤ 60 * 64 := Nat.mul_le_mul (by omega) hK
                    have hfr := Kd.S_reads' (HS.out.get 3 rfl)
                    have hfr2 := hfr.2.2
                    rw [frm_len] at hfr2
                    obtain ⟨adF, D, cD, eF, hxF, hcD, hCD⟩ := at_L1 hfr2 ((t * K + x : Nat) : Int) (Int.natCast_nonneg _) (Int.ofNat_lt.2 hpp)
                    injection eF with eF
                    subst eF
                    have hgt := frm_get (nx := nx) (s := n) (x := 0) hpp
                    rw [if_neg (Nat.not_lt_zero _)] at hgt
                    rw [Int.toNat_natCast, rdL hgt, tl_len, Addr.add_mid, Nat.zero_add] at hxF
                    rw [rdL hgt, tl_len] at hCD
                    have HCD := Aside0.mk hCD
                    have hw1 : IntKind.i64.wrap ((t : Int) * (K : Int)) = ((t * K : Nat) : Int) := by rw [i64_w]; exact w64m (by omega) (by omega)
                    have hw2 : IntKind.i64.wrap (((t * K : Nat) : Int) + (x : Int)) = ((t * K + x : Nat) : Int) := by rw [i64_w]; exact w64p (by omega) (by omega)
                    have hq1 : ((t * K + x : Nat) : Int) < ((n * K : Nat) : Int) := Int.ofNat_lt.2 hpp
                    have hq2 : 0 ≤ ((t * K + x : Nat) : Int) := Int.natCast_nonneg _
                    have HLL : Aside0 (((tl (prL nx K n (members n C b) x q)).length + (srcL nx K n (t * K + x)).length) * 8 ≤ 140737488355328) := ⟨by
                      have h1 := prL_len nx K n (members n C b) x q (by omega)
                      have h2 := srcL_len nx K n (t * K + x)
                      have h3 : q * n ≤ 60 * 60 := Nat.mul_le_mul (by omega) hn
                      rw [tl_len]
                      omega⟩
                    generalize HSRC : (srcL nx K n (t * K + x)) = src at HPS HCD hxF HLL
                    have hsrl : src.length ≤ 60 := by rw [← HSRC]; exact Nat.le_trans (srcL_len nx K n (t * K + x)) hn
                    clear hcD hCD hfr hfr2 hgt hq HSRC ht
                    generalize t * K + x = tkx at hxF hw2 hq1 hq2
                    generalize t * K = tk at hw1 hw2
                    clear hpp htk
                    go_wp2_with (first
                    | ((with_reducible refine gate_builtin (b := .append) (xs := #[.tmp 84, .tmp 93]) rfl ?_)
                       at_builtin
                       refine Kd.R_append_rows (Kd.int .i64) (w0 := w) w.heap.size rfl (.tmp 84) (.tmp 93) 22 3 (.int .i64 0) 8 rfl Try.underlying22 info3 rfl (by decide) (by omega) pv (tl (prL nx K n (members n C b) x q)) (tl src) D src.length cD (fun _ => True) (fun _ => False) rfl rfl (Kd.R_mono (HS.out.get 1 rfl) (fun _ _ => trivial)) HCD.out (fun _ _ h => h) (fun _ h => h.elim) (fun _ _ => trivial) HB.out HB.out.size HLL.out ?_
                       intro v8 w9 ho hb hg hat
                       have HS9 : Aside0 (Sep w.heap.size [ints w.heap.size (.slice (some ⟨gl, 0, none⟩) (members n C b).length cl) (tl (members n C b)), ints w.heap.size v8 (tl (prL nx K n (members n C b) x (q + 1))), none_, rows (Kd.slice 3 (Kd.int .i64)) 22 w.heap.size ownF (.slice (some ⟨gF, 0, none⟩) (n * K) cF) (frm nx n K n 0), ints w.heap.size tv (tl W1), part w.heap.size own1 g n N1 C1, blk w.heap.size #[.int .i64 kd, .int .i64 (K : Int), .int .i64 (O : Int), .int .i64 (n : Int), .slice (some ad4) nx.length c4, .slice (some ad5) out.length c5] 53] w9) := ⟨by rw [HPS.out, tl_app]; exact HS.out.app 1 rfl rfl ho hg hat HB.out.size⟩
                       have HB9 := Aside0.mk hb
                       clear ho hb hg hat))
                    go_roundw
                    case rel => exact ⟨q + 1, _, by go_num, rfl, ⟨by have := HQL.out; omega⟩, HS9, HB9⟩
                    case measure => have := HQL.out; simp [intOf]; omega
                  · have hq' : ¬ ((q : Int) < ((members n C b).length : Int)) := by omega
                    have hqe : q = (members n C b).length := by have := HQI.out; omega
                    subst hqe
                    have HPR := Aside0.mk (prL_len nx K n (members n C b) x (members n C b).length (Nat.le_refl _))
                    have HPT : Aside0 (∀ s ∈ prL nx K n (members n C b) x (members n C b).length, s < n) := ⟨prL_lt⟩
                    have HPM : Aside0 (∀ s, s < n → (s ∈ prL nx K n (members n C b) x (members n C b).length ↔ C (goOf nx K s x) = b)) := ⟨fun s hs => prL_mem HXL.out hs (HGO.out s x hs HXL.out)⟩
                    have hpr : (prL nx K n (members n C b) x (members n C b).length).length ≤ 3600 := by
                      have h1 := HPR.out
                      have h3 : (members n C b).length * n ≤ 60 * 60 := Nat.mul_le_mul (by have := HML.out; omega) hn
                      omega
                    generalize prL nx K n (members n C b) x (members n C b).length = pr at HS HPT HPM hpr
                    clear hq HQI HPR
                    obtain ⟨Ap, cp, hvp⟩ := Kd.R_slice (HS.out.get 1 rfl)
                    rw [tl_len] at hvp
                    subst hvp
                    go_wp2_with (first
                    | (go_at_call 12; refine (Split_lawM HS.out 5 2 rfl rfl (by decide) HB.out.size hn0 (by omega) pr HPT.out (by omega) Ap pr.length cp rfl (row_rd HS.out 5 1 rfl (fun _ h => h) rfl (by decide))).mono ?_
                       rintro e w13 ⟨mv, own3, rfl, hS, hb⟩
                       obtain ⟨Am, cm, hvm⟩ := Kd.R_slice (hS.get 2 rfl)
                       rw [tl_len, made_len] at hvm
                       subst hvm
                       have HS13 : Aside0 (Sep w.heap.size [ints w.heap.size (.slice (some ⟨gl, 0, none⟩) (members n C b).length cl) (tl (members n C b)), ints w.heap.size (.slice Ap pr.length cp) (tl pr), ints w.heap.size (.slice Am ((splitOf n C1 N1 pr).N - N1) cm) (tl (splitOf n C1 N1 pr).made), rows (Kd.slice 3 (Kd.int .i64)) 22 w.heap.size ownF (.slice (some ⟨gF, 0, none⟩) (n * K) cF) (frm nx n K n 0), ints w.heap.size tv (tl W1), partM w.heap.size own3 g n (splitOf n C1 N1 pr).N (splitOf n C1 N1 pr).C N1 C1, blk w.heap.size #[.int .i64 kd, .int .i64 (K : Int), .int .i64 (O : Int), .int .i64 (n : Int), .slice (some ad4) nx.length c4, .slice (some ad5) out.length c5] 53] w13) := ⟨hS⟩
                       have HB13 := Aside0.mk (HB.out.trans hb)
                       clear hS hb HS HB))
                    have HSN2 := Aside0.mk (part_le (partM_part (HS13.out.get 5 rfl)))
                    have HSLE := Aside0.mk (split_le n C1 N1 pr)
                    have HMR := Aside0.mk (fun (j : Nat) => made_rd n C1 N1 pr (j := j))
                    have HSNIL : Aside0 (pr = [] → (splitOf n C1 N1 pr).N = N1) := ⟨fun e => by rw [e, split_nil]⟩
                    have HWK : Aside0 (∀ W2 : List Nat, Mw n N1 C1 (splitOf n C1 N1 pr) W1 ((splitOf n C1 N1 pr).N - N1) W2 → Wk n K (goOf nx K) W2 (i + 1) (fun s => C s = b) (x + 1) (splitOf n C1 N1 pr).C (splitOf n C1 N1 pr).N) := ⟨fun W2 hM => HSD1.out.2.step HPL1.out HGO.out HXL.out pr HPM.out hM.ext HI1.out.1 (fun f h1 h2 => by
                      obtain ⟨a, ha, hb⟩ := hM.new f h1 (by omega)
                      exact ⟨a, by have := HI1.out.1; omega, hb⟩) (fun s hs h => by
                      obtain ⟨a, ha, hb⟩ := hM.old s hs h (by have := part_lt (partM_part (HS13.out.get 5 rfl)) s hs; omega)
                      exact ⟨a, by have := HI1.out.1; omega, hb⟩)⟩
                    have HSO : Aside0 (Sound n K (goOf nx K) (SameSay out each) (splitOf n C1 N1 pr).C ∧ ∀ s t, s < n → t < n → (splitOf n C1 N1 pr).C s = (splitOf n C1 N1 pr).C t → SameSay out each s t) := ⟨HSD1.out.1.1.split HPL1.out pr (fun s t hs ht ha => by
                      rw [HPM.out s hs, HPM.out t ht, HSD.out.1.1 _ _ (HGO.out s x hs HXL.out) (HGO.out t x ht HXL.out) (ha.next hs ht HXL.out)]), fun s t hs ht e => HSD1.out.1.2 s t hs ht ((refine_is HPL1.out pr hs ht).1 e).1⟩
                    have HLT1 : Aside0 (∀ c ∈ W1, c < (splitOf n C1 N1 pr).N) := ⟨fun c hc => Nat.lt_of_lt_of_le (HI1.out.2.2 c hc) HSLE.out⟩
                    generalize splitOf n C1 N1 pr = st at HS13 HSN2 HSLE HMR HSNIL HWK HSO HLT1
                    have hst : st.N ≤ 60 := by have := HSN2.out; omega
                    obtain ⟨dl, hdl⟩ : ∃ dl, st.N - N1 = dl := ⟨_, rfl⟩
                    rw [hdl] at HS13 HWK ⊢
                    have hdl60 : dl ≤ 60 := by omega
                    have HDL := Aside0.mk hdl
                    clear hdl
                    obtain ⟨Av, cv, hvv⟩ := Kd.R_slice (HS13.out.get 4 rfl)
                    rw [tl_len] at hvv
                    subst hvv
                    go_loopw [104, 9] (fun v104 v9 wr => ∃ (j : Nat) (W2 : List Nat) (tv : Value), v104 = .int .i64 (j : Int) ∧ tv = v9 ∧ Aside0 (j ≤ dl) ∧ Aside0 (Mw n N1 C1 st W1 j W2) ∧ Aside0 (Sep w.heap.size [ints w.heap.size (.slice (some ⟨gl, 0, none⟩) (members n C b).length cl) (tl (members n C b)), ints w.heap.size (.slice Ap pr.length cp) (tl pr), ints w.heap.size (.slice Am dl cm) (tl st.made), rows (Kd.slice 3 (Kd.int .i64)) 22 w.heap.size ownF (.slice (some ⟨gF, 0, none⟩) (n * K) cF) (frm nx n K n 0), ints w.heap.size tv (tl W2), partM w.heap.size own3 g n st.N st.C N1 C1, blk w.heap.size #[.int .i64 kd, .int .i64 (K : Int), .int .i64 (O : Int), .int .i64 (n : Int), .slice (some ad4) nx.length c4, .slice (some ad5) out.length c5] 53] wr) ∧ Aside0 (Below w.heap.size w wr)) (fun v104 _ _ => dl - (intOf v104).toNat)
                    case atStart => exact ⟨0, W1, _, rfl, rfl, ⟨Nat.zero_le _⟩, ⟨Mw.start HLT1.out⟩, HS13, HB13⟩
                    case round =>
                      clear HS13 HB13
                      obtain ⟨j, W2, tv, rfl, htv, HJI, HMW, HS, HB⟩ := hrel
                      subst htv
                      have hl2 : W2.length ≤ 2 * 60 := by have h1 := HMW.out.len; have h2 := HI1.out.2.1; have h3 := HJI.out; have := HDL.out; omega
                      by_cases hj : j < dl
                      · have HJL := Aside0.mk hj
                        have hj' : (j : Int) < (dl : Int) := by omega
                        have hjN : N1 + j < st.N := by have := HDL.out; omega
                        obtain ⟨adm, em, hxm⟩ := Kd.at_int (row_C (HS.out.get 2 rfl)).1 (j : Int) (by omega) hj'
                        subst em
                        rw [Int.toNat_natCast, HMR.out j hjN] at hxm
                        have hms := fun (v : Nat) => HMW.out.step hjN (v := v)
                        obtain ⟨f, hf⟩ : ∃ f, N1 + j = f := ⟨_, rfl⟩
                        have hf0 : N1 ≤ f := by omega
                        rw [hf] at hxm hms hjN
                        have HMS := Aside0.mk hms
                        clear hf hms
                        have hpne : 0 < pr.length := by
                          refine Nat.pos_of_ne_zero fun e => ?_
                          have := HSNIL.out (List.eq_nil_of_length_eq_zero e)
                          omega
                        have hpl : (0 : Int) < (pr.length : Int) := by omega
                        have HLL : Aside0 (((tl W2).length + 1) * 8 ≤ 140737488355328) := ⟨by rw [tl_len]; omega⟩
                        have HJN := Aside0.mk hjN
                        clear hj hpne
                        go_wp2_with (first
                        | ((with_reducible refine gate_builtin (b := .append) (xs := #[.tmp 108, .tmp 110]) rfl ?_)
                           at_builtin
                           refine Kd.R_append (Kd.int .i64) (w0 := w) w.heap.size rfl (.tmp 108) (.tmp 110) 22 3 (.int .i64 0) 8 rfl Try.underlying22 info3 rfl (by decide) (by omega) tv (tl W2) (f : Int) [.int .i64 (f : Int)] (fun _ => True) (fun _ => False) rfl (by simp [Act.eval]) rfl (fun _ hk => hk.elim) (fun _ _ => trivial) (Kd.R_mono (HS.out.get 4 rfl) (fun _ _ => trivial)) HB.out HB.out.size HLL.out ?_
                           intro v8 w9 ho hb hg hat
                           have HS9 : Aside0 (Sep w.heap.size [ints w.heap.size (.slice (some ⟨gl, 0, none⟩) (members n C b).length cl) (tl (members n C b)), ints w.heap.size (.slice Ap pr.length cp) (tl pr), ints w.heap.size (.slice (some adm) dl cm) (tl st.made), rows (Kd.slice 3 (Kd.int .i64)) 22 w.heap.size ownF (.slice (some ⟨gF, 0, none⟩) (n * K) cF) (frm nx n K n 0), ints w.heap.size v8 (tl (W2 ++ [f])), partM w.heap.size own3 g n st.N st.C N1 C1, blk w.heap.size #[.int .i64 kd, .int .i64 (K : Int), .int .i64 (O : Int), .int .i64 (n : Int), .slice (some ad4) nx.length c4, .slice (some ad5) out.length c5] 53] w9) := ⟨by rw [tl_snoc]; exact HS.out.app 4 rfl rfl ho hg hat HB.out.size⟩
                           have HB9 := Aside0.mk hb
                           clear ho hb hg hat))
                        obtain ⟨R, P, A, Bf, gr, cr, gp, cp2, gc, gs, cs, ⟨hin, hbeh⟩, hps, hmine⟩ := HS9.out.get 5 rfl
                        have hsb := hbeh f hf0 HJN.out
                        have hRB := (hin.pi (Bf f) hsb.1).1
                        have hCv := hin.cn _ hRB
                        have HST := Aside0.mk (HMS.out _ hCv (fun t ht e => hsb.2 t ht e))
                        have HPS2 := Aside0.mk hps
                        have hbn : ((Bf f : Nat) : Int) < (n : Int) := by have := hsb.1; omega
                        have hrn : ((R (Bf f) : Nat) : Int) < (n : Int) := by omega
                        have hcn : (f : Int) < (st.N : Int) := by have := HJN.out; omega
                        have HL2 := Aside0.mk hsb.1
                        have HL3 := Aside0.mk hRB
                        clear hsb hRB hCv hin hbeh hps hmine HLL
                        have HLL : Aside0 (((tl (W2 ++ [f])).length + 1) * 8 ≤ 140737488355328) := ⟨by rw [tl_len, List.length_append, List.length_singleton]; omega⟩
                        generalize hC9 : st.C (R (Bf f)) = c9 at HST
                        have HC9 := Aside0.mk hC9
                        clear hC9
                        refine start_ (n := 24) (S := fun w' => w'.cell? ⟨g, 2, none⟩ = some (.slice (some ⟨gc, 0, none⟩) n n) ∧ w'.cell? ⟨g, 0, none⟩ = some (.slice (some ⟨gr, 0, none⟩) n cr) ∧ w'.cell? ⟨g, 3, none⟩ = some (.slice (some ⟨gs, 0, none⟩) st.N cs) ∧ w'.cell? ⟨gs, f * 2 + 1, none⟩ = some (.int .i64 (Bf f : Int)) ∧ w'.cell? ⟨gr, Bf f, none⟩ = some (.int .i64 (R (Bf f) : Int)) ∧ w'.cell? ⟨gc, R (Bf f), none⟩ = some (.int .i64 (c9 : Int))) (ds := [21, 22]) #[false, false, false, false, false, false, false, false, false, false, false, false, false, false, false, false, false, false, false, false, false, false, false, false] (by kernel_rfl) rfl rfl ⟨(blk_cell ((HPS2.out.low (below_drew1 (Below.refl _ _))).get 0 rfl) 2).trans rfl, (blk_cell ((HPS2.out.low (below_drew1 (Below.refl _ _))).get 0 rfl) 0).trans rfl, (blk_cell ((HPS2.out.low (below_drew1 (Below.refl _ _))).get 0 rfl) 3).trans rfl, (pair_cells ((HPS2.out.low (below_drew1 (Below.refl _ _))).get 4 rfl) f _ (slst_get A Bf HJN.out)).2.1, ints_at ((HPS2.out.low (below_drew1 (Below.refl _ _))).get 1 rfl) HL2.out, (lst_cell ((HPS2.out.low (below_drew1 (Below.refl _ _))).get 3 rfl) HL3.out).trans (by rw [HC9.out])⟩ (fun hHeld => ?_)
                        refine with_tabW hp.tab32 hp.bits32 (fun HT_ HW_ => ?_)
                        have HS10 := Aside0.mk (HS9.out.low (below_drew1 (Below.refl _ _)))
                        have HB10 := Aside0.mk (below_drew1 HB9.out)
                        clear HPS2 HS9 HB9
                        generalize w9.drew = wd at HS10 HB10 hHeld ⊢
                        refine pure_ (i := 0) (N := (some 115)) (v := ?_) (a' := ?_) #[true, false, false, false, false, false, false, false, false, false, false, false, false, false, false, false, false, false, false, false, false, false, false, false] rfl rfl (any_of HT_.out (by kernel_rfl)) (fun _ _ _ h => h) (Or.inl ⟨by rfl, ?_⟩) ?_ ?_
                        rotate_left
                        · intro w'
                          go_simp
                          with_reducible rfl
                        rotate_left
                        · simp only [Act.put, List.setIfInBounds_toArray, List.set_cons_zero, List.set_cons_succ, i64_w, i32_w]
                          rfl
                        refine pure_ (i := 1) (N := (some 116)) (v := ?_) (a' := ?_) #[true, true, false, false, false, false, false, false, false, false, false, false, false, false, false, false, false, false, false, false, false, false, false, false] rfl rfl (any_of HT_.out (by kernel_rfl)) (fun _ _ _ h => h) (Or.inl ⟨by rfl, ?_⟩) ?_ ?_
                        rotate_left
                        · intro w'
                          go_simp
                          with_reducible rfl
                        rotate_left
                        · simp only [Act.put, List.setIfInBounds_toArray, List.set_cons_zero, List.set_cons_succ, i64_w, i32_w]
                          rfl
                        refine pure_ (i := 2) (N := (some 117)) (v := ?_) (a' := ?_) #[true, true, true, false, false, false, false, false, false, false, false, false, false, false, false, false, false, false, false, false, false, false, false, false] rfl rfl (any_of HT_.out (by kernel_rfl)) (fun _ _ _ h => h) (Or.inl ⟨by rfl, ?_⟩) ?_ ?_
                        rotate_left
                        · intro w'
                          go_simp
                          with_reducible rfl
                        rotate_left
                        · simp only [Act.put, List.setIfInBounds_toArray, List.set_cons_zero, List.set_cons_succ, i64_w, i32_w]
                          rfl
                        refine pure_ (i := 3) (N := (some 118)) (v := ?_) (a' := ?_) #[true, true, true, true, false, false, false, false, false, false, false, false, false, false, false, false, false, false, false, false, false, false, false, false] rfl rfl (any_of HT_.out (by kernel_rfl)) (fun _ _ _ h => h) (Or.inl ⟨by rfl, ?_⟩) ?_ ?_
                        rotate_left
                        · intro w'
                          go_simp
                          with_reducible rfl
                        rotate_left
                        · simp only [Act.put, List.setIfInBounds_toArray, List.set_cons_zero, List.set_cons_succ, i64_w, i32_w]
                          rfl
                        refine pure_ (i := 5) (N := (some 120)) (v := ?_) (a' := ?_) #[true, true, true, true, false, true, false, false, false, false, false, false, false, false, false, false, false, false, false, false, false, false, false, false] rfl rfl (any_of HT_.out (by kernel_rfl)) (fun _ _ _ h => h) (Or.inl ⟨by rfl, ?_⟩) ?_ ?_
                        rotate_left
                        · intro w'
                          go_simp
                          with_reducible rfl
                        rotate_left
                        · simp only [Act.put, List.setIfInBounds_toArray, List.set_cons_zero, List.set_cons_succ, i64_w, i32_w]
                          rfl
                        refine pure_ (i := 6) (N := (some 121)) (v := ?_) (a' := ?_) #[true, true, true, true, false, true, true, false, false, false, false, false, false, false, false, false, false, false, false, false, false, false, false, false] rfl rfl (any_of HT_.out (by kernel_rfl)) (fun _ _ _ h => h) (Or.inl ⟨by rfl, ?_⟩) ?_ ?_
                        rotate_left
                        · intro w'
                          go_simp
                          with_reducible rfl
                        rotate_left
                        · simp only [Act.put, List.setIfInBounds_toArray, List.set_cons_zero, List.set_cons_succ, i64_w, i32_w]
                          rfl
                        refine pure_ (i := 7) (N := (some 122)) (v := ?_) (a' := ?_) #[true, true, true, true, false, true, true, true, false, false, false, false, false, false, false, false, false, false, false, false, false, false, false, false] rfl rfl (any_of HT_.out (by kernel_rfl)) (fun _ _ _ h => h) (Or.inl ⟨by rfl, ?_⟩) ?_ ?_
                        rotate_left
                        · intro w'
                          go_simp
                          with_reducible rfl
                        rotate_left
                        · simp only [Act.put, List.setIfInBounds_toArray, List.set_cons_zero, List.set_cons_succ, i64_w, i32_w]
                          rfl
                        refine pure_ (i := 9) (N := (some 124)) (v := ?_) (a' := ?_) #[true, true, true, true, false, true, true, true, false, true, false, false, false, false, false, false, false, false, false, false, false, false, false, false] rfl rfl (any_of HT_.out (by kernel_rfl)) (fun _ _ _ h => h) (Or.inl ⟨by rfl, ?_⟩) ?_ ?_
                        rotate_left
                        · intro w'
                          go_simp
                          with_reducible rfl
                        rotate_left
                        · simp only [Act.put, List.setIfInBounds_toArray, List.set_cons_zero, List.set_cons_succ, i64_w, i32_w]
                          rfl
                        refine pure_ (i := 10) (N := (some 125)) (v := ?_) (a' := ?_) #[true, true, true, true, false, true, true, true, false, true, true, false, false, false, false, false, false, false, false, false, false, false, false, false] rfl rfl (any_of HT_.out (by kernel_rfl)) (fun _ _ _ h => h) (Or.inl ⟨by rfl, ?_⟩) ?_ ?_
                        rotate_left
                        · intro w'
                          go_simp
                          with_reducible rfl
                        rotate_left
                        · simp only [Act.put, List.setIfInBounds_toArray, List.set_cons_zero, List.set_cons_succ, i64_w, i32_w]
                          rfl
                        refine pure_ (i := 11) (N := (some 126)) (v := ?_) (a' := ?_) #[true, true, true, true, false, true, true, true, false, true, true, true, false, false, false, false, false, false, false, false, false, false, false, false] rfl rfl (any_of HT_.out (by kernel_rfl)) (fun _ _ _ h => h) (Or.inl ⟨by rfl, ?_⟩) ?_ ?_
                        rotate_left
                        · intro w'
                          go_simp
                          with_reducible rfl
                        rotate_left
                        · simp only [Act.put, List.setIfInBounds_toArray, List.set_cons_zero, List.set_cons_succ, i64_w, i32_w]
                          rfl
                        refine pure_ (i := 13) (N := (some 128)) (v := ?_) (a' := ?_) #[true, true, true, true, false, true, true, true, false, true, true, true, false, true, false, false, false, false, false, false, false, false, false, false] rfl rfl (any_of HT_.out (by kernel_rfl)) (fun _ _ _ h => h) (Or.inl ⟨by rfl, ?_⟩) ?_ ?_
                        rotate_left
                        · intro w'
                          go_simp
                          with_reducible rfl
                        rotate_left
                        · simp only [Act.put, List.setIfInBounds_toArray, List.set_cons_zero, List.set_cons_succ, i64_w, i32_w]
                          rfl
                        refine take_ (i := 4) (N := (some 119)) (v := ?_) (a' := ?_) #[true, true, true, true, true, true, true, true, false, true, true, true, false, true, false, false, false, false, false, false, false, false, false, false] rfl rfl (take_ofW HT_.out HW_.out (by kernel_rfl)) (fun _ _ _ h => h) (Or.inl ⟨by rfl, ?_⟩) hHeld ?_ ?_
                        rotate_left
                        · rintro w' ⟨s0, s1, s2, s3, s4, s5⟩
                          go_simp
                          with_reducible rfl
                        rotate_left
                        · simp only [Act.put, List.setIfInBounds_toArray, List.set_cons_zero, List.set_cons_succ, i64_w, i32_w]
                          rfl
                        refine take_ (i := 8) (N := (some 123)) (v := ?_) (a' := ?_) #[true, true, true, true, true, true, true, true, true, true, true, true, false, true, false, false, false, false, false, false, false, false, false, false] rfl rfl (take_ofW HT_.out HW_.out (by kernel_rfl)) (fun _ _ _ h => h) (Or.inl ⟨by rfl, ?_⟩) hHeld ?_ ?_
                        rotate_left
                        · rintro w' ⟨s0, s1, s2, s3, s4, s5⟩
                          go_simp
                          with_reducible rfl
                        rotate_left
                        · simp only [Act.put, List.setIfInBounds_toArray, List.set_cons_zero, List.set_cons_succ, i64_w, i32_w]
                          rfl
                        refine take_ (i := 12) (N := (some 127)) (v := ?_) (a' := ?_) #[true, true, true, true, true, true, true, true, true, true, true, true, true, true, false, false, false, false, false, false, false, false, false, false] rfl rfl (take_ofW HT_.out HW_.out (by kernel_rfl)) (fun _ _ _ h => h) (Or.inl ⟨by rfl, ?_⟩) hHeld ?_ ?_
                        rotate_left
                        · rintro w' ⟨s0, s1, s2, s3, s4, s5⟩
                          go_simp
                          with_reducible rfl
                        rotate_left
                        · simp only [Act.put, List.setIfInBounds_toArray, List.set_cons_zero, List.set_cons_succ, i64_w, i32_w]
                          rfl
                        refine pure_ (i := 14) (N := (some 129)) (v := ?_) (a' := ?_) #[true, true, true, true, true, true, true, true, true, true, true, true, true, true, true, false, false, false, false, false, false, false, false, false] rfl rfl (any_of HT_.out (by kernel_rfl)) (fun _ _ _ h => h) (Or.inl ⟨by rfl, ?_⟩) ?_ ?_
                        rotate_left
                        · intro w'
                          go_simp
                          with_reducible rfl
                        rotate_left
                        · simp only [Act.put, List.setIfInBounds_toArray, List.set_cons_zero, List.set_cons_succ, i64_w, i32_w]
                          rfl
                        refine pure_ (i := 15) (N := (some 130)) (v := ?_) (a' := ?_) #[true, true, true, true, true, true, true, true, true, true, true, true, true, true, true, true, false, false, false, false, false, false, false, false] rfl rfl (any_of HT_.out (by kernel_rfl)) (fun _ _ _ h => h) (Or.inl ⟨by rfl, ?_⟩) ?_ ?_
                        rotate_left
                        · intro w'
                          go_simp
                          with_reducible rfl
                        rotate_left
                        · simp only [Act.put, List.setIfInBounds_toArray, List.set_cons_zero, List.set_cons_succ, i64_w, i32_w]
                          rfl
                        refine take_ (i := 16) (N := (some 131)) (v := ?_) (a' := ?_) #[true, true, true, true, true, true, true, true, true, true, true, true, true, true, true, true, true, false, false, false, false, false, false, false] rfl rfl (take_ofW HT_.out HW_.out (by kernel_rfl)) (fun _ _ _ h => h) (Or.inl ⟨by rfl, ?_⟩) hHeld ?_ ?_
                        rotate_left
                        · rintro w' ⟨s0, s1, s2, s3, s4, s5⟩
                          go_simp
                          with_reducible rfl
                        rotate_left
                        · simp only [Act.put, List.setIfInBounds_toArray, List.set_cons_zero, List.set_cons_succ, i64_w, i32_w]
                          rfl
                        refine pure_ (i := 17) (N := (some 132)) (v := ?_) (a' := ?_) #[true, true, true, true, true, true, true, true, true, true, true, true, true, true, true, true, true, true, false, false, false, false, false, false] rfl rfl (any_of HT_.out (by kernel_rfl)) (fun _ _ _ h => h) (Or.inl ⟨by rfl, ?_⟩) ?_ ?_
                        rotate_left
                        · intro w'
                          go_simp
                          with_reducible rfl
                        rotate_left
                        · simp only [Act.put, List.setIfInBounds_toArray, List.set_cons_zero, List.set_cons_succ, i64_w, i32_w]
                          rfl
                        refine take_ (i := 18) (N := (some 133)) (v := ?_) (a' := ?_) #[true, true, true, true, true, true, true, true, true, true, true, true, true, true, true, true, true, true, true, false, false, false, false, false] rfl rfl (take_ofW HT_.out HW_.out (by kernel_rfl)) (fun _ _ _ h => h) (Or.inl ⟨by rfl, ?_⟩) hHeld ?_ ?_
                        rotate_left
                        · rintro w' ⟨s0, s1, s2, s3, s4, s5⟩
                          go_simp
                          with_reducible rfl
                        rotate_left
                        · simp only [Act.put, List.setIfInBounds_toArray, List.set_cons_zero, List.set_cons_succ, i64_w, i32_w]
                          rfl
                        refine pure_ (i := 19) (N := (some 134)) (v := ?_) (a' := ?_) #[true, true, true, true, true, true, true, true, true, true, true, true, true, true, true, true, true, true, true, true, false, false, false, false] rfl rfl (any_of HT_.out (by kernel_rfl)) (fun _ _ _ h => h) (Or.inl ⟨by rfl, ?_⟩) ?_ ?_
                        rotate_left
                        · intro w'
                          go_simp
                          with_reducible rfl
                        rotate_left
                        · simp only [Act.put, List.setIfInBounds_toArray, List.set_cons_zero, List.set_cons_succ, i64_w, i32_w]
                          rfl
                        refine take_ (i := 20) (N := (some 135)) (v := ?_) (a' := ?_) #[true, true, true, true, true, true, true, true, true, true, true, true, true, true, true, true, true, true, true, true, true, false, false, false] rfl rfl (take_ofW HT_.out HW_.out (by kernel_rfl)) (fun _ _ _ h => h) (Or.inl ⟨by rfl, ?_⟩) hHeld ?_ ?_
                        rotate_left
                        · rintro w' ⟨s0, s1, s2, s3, s4, s5⟩
                          go_simp
                          with_reducible rfl
                        rotate_left
                        · simp only [Act.put, List.setIfInBounds_toArray, List.set_cons_zero, List.set_cons_succ, i64_w, i32_w]
                          rfl
                        refine last_ (i := 21) (N := (some 136)) #[true, true, true, true, true, true, true, true, true, true, true, true, true, true, true, true, true, true, true, true, true, true, false, false] rfl rfl (one_of HT_.out (by kernel_rfl)) (by decide) (fun Kc hK => ?_)
                        have HS10 := HS10
                        refine value_ (w1 := ?_) (v := ?_) (by rfl) rfl ?_ ?_
                        rotate_left 2
                        · go_simp
                          constructor
                          · rfl
                          · rfl
                        refine hK.out _ _ ?_; clear hK Kc
                        refine norm_ (a' := ?_) ?_ ?_
                        rotate_left
                        · show Act.put _ (some 136) _ = _
                          simp only [Act.put, List.setIfInBounds_toArray, List.set_cons_zero, List.set_cons_succ, i64_w, i32_w]
                          rfl
                        refine last_ (i := 22) (N := (some 137)) #[true, true, true, true, true, true, true, true, true, true, true, true, true, true, true, true, true, true, true, true, true, true, true, false] rfl rfl (one_of HT_.out (by kernel_rfl)) (by decide) (fun Kc hK => ?_)
                        refine Kd.R_append_step (Kd.int .i64) (w0 := w) w.heap.size (by rfl) (.tmp 115) (.tmp 136) 22 3 (.int .i64 0) 8 rfl Try.underlying22 info3 rfl (by decide) (by omega) v8 (tl (W2 ++ [f])) (c9 : Int) [.int .i64 (c9 : Int)] (fun _ => True) (fun _ => False) rfl rfl rfl (fun _ hk => hk.elim) (fun _ _ => trivial) (Kd.R_mono (HS10.out.get 4 rfl) (fun _ _ => trivial)) HB10.out HB10.out.size HLL.out ?_
                        intro v18 w19 ho hb hg hat
                        have HS19 : Aside0 (Sep w.heap.size [ints w.heap.size (.slice (some ⟨gl, 0, none⟩) (members n C b).length cl) (tl (members n C b)), ints w.heap.size (.slice Ap pr.length cp) (tl pr), ints w.heap.size (.slice (some adm) dl cm) (tl st.made), rows (Kd.slice 3 (Kd.int .i64)) 22 w.heap.size ownF (.slice (some ⟨gF, 0, none⟩) (n * K) cF) (frm nx n K n 0), ints w.heap.size v18 (tl (W2 ++ [f] ++ [c9])), partM w.heap.size own3 g n st.N st.C N1 C1, blk w.heap.size #[.int .i64 kd, .int .i64 (K : Int), .int .i64 (O : Int), .int .i64 (n : Int), .slice (some ad4) nx.length c4, .slice (some ad5) out.length c5] 53] w19) := ⟨by rw [tl_snoc]; exact HS10.out.app 4 rfl rfl ho hg hat HB10.out.size⟩
                        have HB19 := Aside0.mk hb
                        clear ho hb hg hat
                        refine hK.out _ _ ?_; clear hK Kc
                        refine norm_ (a' := ?_) ?_ ?_
                        rotate_left
                        · show Act.put _ (some 137) _ = _
                          simp only [Act.put, List.setIfInBounds_toArray, List.set_cons_zero, List.set_cons_succ, i64_w, i32_w]
                          rfl
                        refine pure_ (i := 23) (N := (some 9)) (v := ?_) (a' := ?_) #[true, true, true, true, true, true, true, true, true, true, true, true, true, true, true, true, true, true, true, true, true, true, true, true] rfl rfl (any_of HT_.out (by kernel_rfl)) (fun _ _ _ h => h) (Or.inl ⟨by rfl, ?_⟩) ?_ ?_
                        rotate_left
                        · intro w'
                          go_simp
                          with_reducible rfl
                        rotate_left
                        · simp only [Act.put, List.setIfInBounds_toArray, List.set_cons_zero, List.set_cons_succ, i64_w, i32_w]
                          rfl
                        refine done_ (done_of HT_.out (by kernel_rfl)) ?_
                        go_wp2
                        go_roundw
                        case rel => exact ⟨j + 1, _, _, by go_num, rfl, ⟨by have := HJL.out; omega⟩, HST, HS19, HB19⟩
                        case measure => have := HJL.out; simp [intOf]; omega
                      · have hj' : ¬ ((j : Int) < (dl : Int)) := by omega
                        have hje : j = dl := by have := HJI.out; omega
                        have HMD : Aside0 (Mw n N1 C1 st W1 dl W2) := ⟨by rw [← hje]; exact HMW.out⟩
                        clear hj
                        go_wp2
                        go_roundw
                        case rel => exact ⟨x + 1, st.N, W2, st.C, own3, _, by go_num, rfl, ⟨by have := HXL.out; omega⟩, ⟨by
                          have h1 := HMD.out.len
                          have h2 := HI1.out
                          have h3 := HDL.out
                          have h4 := HSLE.out
                          exact ⟨by omega, by omega, HMD.out.lt⟩⟩, ⟨((HS.out.upd 5 rfl (r' := part w.heap.size own3 g n st.N st.C) (partM_part (HS.out.get 5 rfl)) (fun _ _ _ => rfl) (fun k hk => ⟨.inl hk, (HS.out.bound 5 rfl hk).2⟩) HB.out.size (Nat.le_refl _)).upd 2 rfl (r' := none_) trivial (fun _ _ _ => rfl) (fun _ hk => hk.elim) HB.out.size (Nat.le_refl _)).upd 1 rfl (r' := none_) trivial (fun _ _ _ => rfl) (fun _ hk => hk.elim) HB.out.size (Nat.le_refl _)⟩, HB, ⟨HSO.out, HWK.out W2 HMD.out⟩⟩
                        case measure => have := HXL.out; simp [intOf]; omega
              · have hx' : ¬ ((x : Int) < (K : Int)) := by omega
                have hxe : x = K := by have := HXI.out; omega
                have HWI : Aside0 (Wi n K (goOf nx K) W1 (i + 1) C1 N1) := ⟨by
                  have h := HSD1.out.2
                  rw [hxe] at h
                  exact h.leave HGO.out⟩
                clear hx hxe
                go_wp2
                go_roundw
                case rel => exact ⟨i + 1, N1, W1, C1, own1, _, by go_num, rfl, ⟨HI1.out⟩, ⟨HS.out.upd 0 rfl (r' := none_) trivial (fun _ _ _ => rfl) (fun _ hk => hk.elim) HB.out.size (Nat.le_refl _)⟩, HB, ⟨HSD1.out.1, HWI.out⟩⟩
                case measure => simp [intOf]; omega
end Go.Proofs.Ytdalpaobkmoomaa.X
end

section
namespace Go.Proofs.Ytdalpaobkmoomaa.X
open Go.RowKit Go.Proofs.YtdalpaobkmoomaaW.PrintWords Go.Proofs.YtdalpaobkmoomaaW.PrintLast Go.Proofs.YtdalpaobkmoomaaW.PrintMore
open Go.Proofs.Ytdalpaobkmoomaa Go.Proofs.Ytdalpaobkmoomaa.Sp
open Classical
/-- The states' classes, numbered by the first of each. -/
noncomputable def hopL (kd K N : Int) (nx out : List Int) : List Int := tl (canon (alikeB nx out N.toNat K.toNat (if kd = 1 then 1 else K.toNat)) N.toNat).1
noncomputable def block_Hopcroft.f (a0_0 a0_1 a0_2 a0_3 : Int) (l0_4 l0_5 : List Int) : Option (List Int × Int) :=
  match machine_Check.f 300000 a0_0 a0_1 a0_2 a0_3 l0_4 l0_5 with
  | none => none
  | some (at1, e) => if e ≠ 0 then some ([], e) else if at1 = 0 ∧ (mcheck a0_0 a0_1 a0_2 a0_3 l0_4 l0_5).2 = 0 ∧ a0_3 ≤ 60 then some (hopL a0_0 a0_1 a0_3 l0_4 l0_5, 0) else none
/-- What a right machine is. -/
theorem right_of {kd K O N : Int} {nx out : List Int} (h : (mcheck kd K O N nx out).2 = 0) (hN : N ≤ 60) : ∃ k o n : Nat, K = (k : Int) ∧ O = (o : Int) ∧ N = (n : Int) ∧ (kd = 1 ∨ kd = 2) ∧ nx.length = n * k ∧ out.length = n * (if kd = 1 then 1 else k) ∧ (∀ v ∈ nx, 0 ≤ v ∧ v < (n : Int)) ∧ (∀ v ∈ out, 0 ≤ v ∧ v < (o : Int)) ∧ 0 < n ∧ n ≤ 60 ∧ 0 < k ∧ k ≤ 64 ∧ o ≤ 64 := by
  obtain ⟨h1, h2, h3⟩ := mcheck_ok h
  obtain ⟨b1, b2, b3, b4, _, b5, b6⟩ := head_bounds h1
  obtain ⟨k, rfl⟩ : ∃ k : Nat, K = (k : Int) := ⟨K.toNat, by omega⟩
  obtain ⟨o, rfl⟩ : ∃ k : Nat, O = (k : Int) := ⟨O.toNat, by omega⟩
  obtain ⟨n, rfl⟩ : ∃ k : Nat, N = (k : Int) := ⟨N.toNat, by omega⟩
  refine ⟨k, o, n, rfl, rfl, rfl, b1, ?_, ?_, h2, h3, by omega, by omega, by omega, by omega, by omega⟩
  · rw [← Int.natCast_mul] at b5
    exact Int.ofNat_inj.1 b5
  · by_cases e : kd = 1
    · rw [if_pos e] at b6
      rw [if_pos e, Nat.mul_one]
      omega
    · rw [if_neg e, ← Int.natCast_mul] at b6
      rw [if_neg e]
      exact Int.ofNat_inj.1 b6
def RowErr (w : World) (e0 : Int) : Ending → World → Prop := fun e w' => ∃ v0_ : Value, e = .returned (.tuple #[v0_, .int .i64 e0]) ∧ Kd.R (Kd.int .i64) 3 w' w.heap.size (fun _ => True) v0_ [] ∧ Below w.heap.size w w'
theorem C_some {w : World} {A : Option Addr} {n : Nat} {xs : List Int} (h : Kd.C (Kd.int .i64) w A n xs) (hp : 0 < n) : ∃ ad, A = some ad := by
  obtain ⟨ad, e, _⟩ := h.2.2 hp
  exact ⟨ad, e⟩
set_option maxHeartbeats 8000000 in
set_option maxRecDepth 100000 in
theorem block_Hopcroft.calls (a0_0 : Int) (a0_1 : Int) (a0_2 : Int) (a0_3 : Int) (A0_4 : Option Addr) (c0_4 : Nat) (l0_4 : List Int) (A0_5 : Option Addr) (c0_5 : Nat) (l0_5 : List Int) (r1 : List Int) (r2 : Int) (w : World)
    (hr0_4 : Kd.C (Kd.int .i64) w A0_4 l0_4.length l0_4) (hc0_4 : l0_4.length ≤ c0_4) (hr0_5 : Kd.C (Kd.int .i64) w A0_5 l0_5.length l0_5) (hc0_5 : l0_5.length ≤ c0_5) (h : block_Hopcroft.f a0_0 a0_1 a0_2 a0_3 l0_4 l0_5 = some (r1, r2)) :
    Calls Try.prog 26 #[.agg #[.int .i64 a0_0, .int .i64 a0_1, .int .i64 a0_2, .int .i64 a0_3, .slice A0_4 l0_4.length c0_4, .slice A0_5 l0_5.length c0_5]] w fun e w' => ∃ v0_ : Value, e = .returned (.tuple #[v0_, .int .i64 r2]) ∧ Kd.R (Kd.int .i64) 3 w' w.heap.size (fun _ => True) v0_ r1 ∧ Below w.heap.size w w' := by
  unfold block_Hopcroft.f at h
  cases hd : machine_Check.f 300000 a0_0 a0_1 a0_2 a0_3 l0_4 l0_5 with
  | none => rw [hd] at h; exact absurd h (by simp)
  | some e0 =>
    obtain ⟨at1, e0⟩ := e0
    rw [hd] at h
    simp only [] at h
    by_cases q1 : e0 ≠ 0
    · rw [if_pos q1] at h
      simp only [Option.some.injEq, Prod.mk.injEq] at h
      obtain ⟨rfl, rfl⟩ := h
      have hdf := fun (W : World) (hb : Below w.heap.size w W) => machine_Check.calls 300000 a0_0 a0_1 a0_2 a0_3 A0_4 c0_4 l0_4 A0_5 c0_5 l0_5 at1 e0 W (Kd.C_below hr0_4 hb) hc0_4 (Kd.C_below hr0_5 hb) hc0_5 hd
      have HS1 := Aside0.mk ((Sep.nil w.heap.size w).alloc #[.int .i64 a0_0, .int .i64 a0_1, .int .i64 a0_2, .int .i64 a0_3, .slice A0_4 l0_4.length c0_4, .slice A0_5 l0_5.length c0_5] 53 (Nat.le_refl _))
      obtain ⟨hx0, hx1, hx2, hx3, hx4, hx5⟩ := six (HS1.out.get 0 rfl)
      have hu53 := Try.underlying53
      have q1b : (e0 != 0) = true := by simpa using q1
      clear q1 hr0_4 hr0_5 hd
      show Calls Try.prog 26 _ w (RowErr w e0)
      go_enter Try.func26, Try.ntmps26
      go_wp2
      go_step3
      go_wp2_with (first
        | (go_at_call 33; with_reducible refine (hdf _ (below_alloc (Below.refl _ _) _)).mono ?_
           rintro e w1 ⟨rfl, hb1⟩
           have HB1 := Aside0.mk (below_step (below_alloc (Below.refl w.heap.size w) (.cells #[.int .i64 a0_0, .int .i64 a0_1, .int .i64 a0_2, .int .i64 a0_3, .slice A0_4 l0_4.length c0_4, .slice A0_5 l0_5.length c0_5] 53)) hb1)
           clear hb1))
      try rw [Exit.noGoto_ret]
      go_ret2
      exact ⟨_, rfl, Kd.R_nil _ _ _ _ _, HB1.out⟩
    · rw [if_neg q1] at h
      by_cases q2 : at1 = 0 ∧ (mcheck a0_0 a0_1 a0_2 a0_3 l0_4 l0_5).2 = 0 ∧ a0_3 ≤ 60
      · rw [if_pos q2] at h
        simp only [Option.some.injEq, Prod.mk.injEq] at h
        obtain ⟨rfl, rfl⟩ := h
        obtain ⟨k, o, n, rfl, rfl, rfl, hkd, hnl, hol, hv, hvo, hn0, hn, hK0, hK, hO⟩ := right_of q2.2.1 q2.2.2
        have he0 : e0 = 0 := Classical.byContradiction q1
        rw [he0, q2.1] at hd
        have hp : 0 < n * k := Nat.mul_pos hn0 hK0
        obtain ⟨ad4, rfl⟩ := C_some hr0_4 (by omega)
        have hp2 : 0 < n * (if a0_0 = 1 then 1 else k) := Nat.mul_pos hn0 (by split <;> omega)
        obtain ⟨ad5, rfl⟩ := C_some hr0_5 (by omega)
        exact Hop_walk a0_0 k o n (if a0_0 = 1 then 1 else k) c0_4 c0_5 ad4 ad5 l0_4 l0_5 w hr0_4 hc0_4 hr0_5 hc0_5 hd hnl hol (by split <;> omega) hv hvo hn0 hn hK0 hK hO
      · rw [if_neg q2] at h
        exact absurd h (by simp)
end Go.Proofs.Ytdalpaobkmoomaa.X
end
