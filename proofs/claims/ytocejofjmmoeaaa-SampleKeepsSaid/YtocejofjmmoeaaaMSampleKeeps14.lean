/- Texts of the statement SampleKeeps, one behind the other: Go functions as Lean functions, the machine's calls, the plain law. -/
import Derived.Test.YtocejofjmmoeaaaMSampleKeeps4
import Derived.Test.YtocejofjmmoeaaaMSampleKeeps6
import Derived.Test.YtocejofjmmoeaaaMSampleKeeps13
set_option linter.unusedVariables false
set_option linter.unusedSimpArgs false
section
namespace Go.Proofs.Ytocejofjmmoeaaa.X
open Go.RowKit Go.Proofs.YtocejofjmmoeaaaW.PrintWords Go.Proofs.YtocejofjmmoeaaaW.PrintLast Go.Proofs.YtocejofjmmoeaaaW.PrintMore
open Go.Proofs.Ytocejofjmmoeaaa Go.Proofs.Ytocejofjmmoeaaa.Sp
def outB (M x : Int) : Bool := decide (x < -1) || decide (x > M)
theorem out1_calls (M x : Int) (C : Nat) (w : World) (hc : w.cell? ⟨C, 0, none⟩ = some (.int .i64 M)) : Calls Try.prog 64 #[.int .i64 x, .pointer (some ⟨C, 0, none⟩)] w fun e w' => e = .returned (.bool (outB M x)) ∧ Drawn0 w w' := by
  unfold outB
  by_cases h0 : x < -1
  · rw [decide_eq_true h0, Bool.true_or]
    go_enter Try.func64, Try.ntmps64
    go_wp2
    go_ret
    exact ⟨rfl, Drawn0.refl _⟩
  · rw [decide_eq_false h0, Bool.false_or]
    by_cases h1 : x > M
    · rw [decide_eq_true h1]
      go_enter Try.func64, Try.ntmps64
      go_wp2
      go_ret
      exact ⟨rfl, Drawn0.refl _⟩
    · rw [decide_eq_false h1]
      go_enter Try.func64, Try.ntmps64
      go_wp2
      go_ret
      exact ⟨rfl, Drawn0.refl _⟩
theorem out1_pred (M : Int) (C : Nat) (w : World) (hC : C < w.heap.size) (hc : w.cell? ⟨C, 0, none⟩ = some (.int .i64 M)) : PredAt 64 #[.pointer (some ⟨C, 0, none⟩)] (outB M) w := fun x W hb =>
  out1_calls M x C W ((hb.cell (p := ⟨C, 0, none⟩) hC).trans hc)
theorem enters64 : ∀ args W, (callFunc 64 args).run Try.prog W = .ok (.enter 64 args) W := fun args W => enters_ Try.func64 (by kernel_rfl) rfl args W
theorem Contains_calls (M : Int) (C : Nat) (A : Option Addr) (c : Nat) (l : List Int) (w : World) (hr : Kd.C (Kd.int .i64) w A l.length l) (hC : C < w.heap.size) (hc : w.cell? ⟨C, 0, none⟩ = some (.int .i64 M)) :
    Calls Try.prog 63 #[.slice A l.length c, .func (.func 64) #[] #[.pointer (some ⟨C, 0, none⟩)]] w fun e w' => e = .returned (.bool (l.any (outB M))) ∧ Below w.heap.size w w' := by
  have hix := IndexFunc_calls 64 #[.pointer (some ⟨C, 0, none⟩)] (outB M) A c l w hr enters64 (out1_pred M C w hC hc)
  have hb : decide (idxBy (outB M) l ≥ 0) = l.any (outB M) := by
    unfold idxBy
    cases h : l.findIdx? (outB M) with
    | none =>
      rw [List.findIdx?_eq_none_iff] at h
      rw [List.any_eq_false.2 (fun x hx => by rw [h x hx]; simp)]
      rfl
    | some i =>
      rw [List.findIdx?_eq_some_iff_getElem] at h
      obtain ⟨hi, h1, _⟩ := h
      rw [List.any_eq_true.2 ⟨l[i], List.getElem_mem hi, h1⟩]
      exact decide_eq_true (show (i : Int) ≥ 0 by omega)
  rw [← hb]
  generalize idxBy (outB M) l = z at hix
  clear hb hr hc
  go_enter Try.func63, Try.ntmps63
  go_wp2_with (go_at_call 85; refine hix.mono ?_; rintro e w' ⟨rfl, hd⟩; have HB := Aside0.mk hd.below; clear hd)
  go_ret
  exact ⟨rfl, HB.out⟩
set_option maxHeartbeats 16000000 in
set_option maxRecDepth 100000 in
theorem Between_calls (M : Int) (A : Option Addr) (c : Nat) (l : List Int) (w : World) (hr : Kd.C (Kd.int .i64) w A l.length l) :
    Calls Try.prog 62 #[.slice A l.length c, .int .i64 M] w fun e w' => e = .returned (.bool (!(l.any (outB M)))) ∧ Below w.heap.size w w' := by
  have hC := Contains_calls M w.heap.size A c l (w.alloc (.cells #[.int .i64 M] 3)) (Kd.C_below hr (below_alloc (Below.refl _ _) _)) (by simp) ((blk_cell (blk_new w (.cells #[.int .i64 M] 3)) 0).trans rfl)
  generalize l.any (outB M) = b at hC ⊢
  have HC := Aside0.mk hC
  clear hC hr
  go_enter Try.func62, Try.ntmps62
  go_wp2_with (go_at_call 63; refine HC.out.mono ?_; rintro e w' ⟨rfl, hb⟩; have HB := Aside0.mk (below_step (below_alloc (Below.refl w.heap.size w) (.cells #[.int .i64 M] 3)) hb); clear hb)
  go_ret
  exact ⟨rfl, HB.out⟩
/-- What is wrong with a partial acceptor. -/
def rightF (K N : Int) (nx out : List Int) : Int := if K < 1 ∨ K > 64 then 1 else if N < 1 ∨ N > 65536 then 3 else if (nx.length : Int) ≠ N * K ∨ (out.length : Int) ≠ N then 31 else if nx.any (outB (N - 1)) = true then 32 else if out.any (outB 1) = true then 33 else 0
def RightPost (x : Int) (w : World) : Ending → World → Prop := fun e w' => e = .returned (.int .i64 x) ∧ Below w.heap.size w w'
set_option maxHeartbeats 16000000 in
set_option maxRecDepth 100000 in
theorem Right_k1 (K N : Int) (A2 : Option Addr) (c2 : Nat) (nx : List Int) (A3 : Option Addr) (c3 : Nat) (out : List Int) (w : World) (h : K < 1) : Calls Try.prog 44 #[.agg #[.int .i64 K, .int .i64 N, .slice A2 nx.length c2, .slice A3 out.length c3]] w (RightPost 1 w) := by
  have hu34 := Try.underlying34
  go_enter Try.func44, Try.ntmps44
  go_wp2
  go_ret
  exact ⟨rfl, below_alloc (Below.refl _ _) _⟩
set_option maxHeartbeats 16000000 in
set_option maxRecDepth 100000 in
theorem Right_k2 (K N : Int) (A2 : Option Addr) (c2 : Nat) (nx : List Int) (A3 : Option Addr) (c3 : Nat) (out : List Int) (w : World) (h0 : ¬ K < 1) (h : K > 64) : Calls Try.prog 44 #[.agg #[.int .i64 K, .int .i64 N, .slice A2 nx.length c2, .slice A3 out.length c3]] w (RightPost 1 w) := by
  have hu34 := Try.underlying34
  go_enter Try.func44, Try.ntmps44
  go_wp2
  go_ret
  exact ⟨rfl, below_alloc (Below.refl _ _) _⟩
set_option maxHeartbeats 16000000 in
set_option maxRecDepth 100000 in
theorem Right_n1 (K N : Int) (A2 : Option Addr) (c2 : Nat) (nx : List Int) (A3 : Option Addr) (c3 : Nat) (out : List Int) (w : World) (h0 : ¬ K < 1) (h1 : ¬ K > 64) (h : N < 1) : Calls Try.prog 44 #[.agg #[.int .i64 K, .int .i64 N, .slice A2 nx.length c2, .slice A3 out.length c3]] w (RightPost 3 w) := by
  have hu34 := Try.underlying34
  go_enter Try.func44, Try.ntmps44
  go_wp2
  go_ret
  exact ⟨rfl, below_alloc (Below.refl _ _) _⟩
set_option maxHeartbeats 16000000 in
set_option maxRecDepth 100000 in
theorem Right_n2 (K N : Int) (A2 : Option Addr) (c2 : Nat) (nx : List Int) (A3 : Option Addr) (c3 : Nat) (out : List Int) (w : World) (h0 : ¬ K < 1) (h1 : ¬ K > 64) (h2 : ¬ N < 1) (h : N > 65536) : Calls Try.prog 44 #[.agg #[.int .i64 K, .int .i64 N, .slice A2 nx.length c2, .slice A3 out.length c3]] w (RightPost 3 w) := by
  have hu34 := Try.underlying34
  go_enter Try.func44, Try.ntmps44
  go_wp2
  go_ret
  exact ⟨rfl, below_alloc (Below.refl _ _) _⟩
set_option maxHeartbeats 16000000 in
set_option maxRecDepth 100000 in
theorem Right_s1 (K N : Int) (A2 : Option Addr) (c2 : Nat) (nx : List Int) (A3 : Option Addr) (c3 : Nat) (out : List Int) (w : World) (h0 : ¬ K < 1) (h1 : ¬ K > 64) (h2 : ¬ N < 1) (h3 : ¬ N > 65536) (hm : wrap64 (N * K) = N * K) (h : (nx.length : Int) ≠ N * K) : Calls Try.prog 44 #[.agg #[.int .i64 K, .int .i64 N, .slice A2 nx.length c2, .slice A3 out.length c3]] w (RightPost 31 w) := by
  have hu34 := Try.underlying34
  have hb : ((nx.length : Int) != N * K) = true := by simpa using h
  clear h
  go_enter Try.func44, Try.ntmps44
  go_wp2
  go_ret
  exact ⟨rfl, below_alloc (Below.refl _ _) _⟩
set_option maxHeartbeats 16000000 in
set_option maxRecDepth 100000 in
theorem Right_s2 (K N : Int) (A2 : Option Addr) (c2 : Nat) (nx : List Int) (A3 : Option Addr) (c3 : Nat) (out : List Int) (w : World) (h0 : ¬ K < 1) (h1 : ¬ K > 64) (h2 : ¬ N < 1) (h3 : ¬ N > 65536) (hm : wrap64 (N * K) = N * K) (h4 : (nx.length : Int) = N * K) (h : (out.length : Int) ≠ N) : Calls Try.prog 44 #[.agg #[.int .i64 K, .int .i64 N, .slice A2 nx.length c2, .slice A3 out.length c3]] w (RightPost 31 w) := by
  have hu34 := Try.underlying34
  have hb4 : ((nx.length : Int) != N * K) = false := by rw [h4]; simp
  have hb : ((out.length : Int) != N) = true := by simpa using h
  clear h h4
  go_enter Try.func44, Try.ntmps44
  go_wp2
  go_ret
  exact ⟨rfl, below_alloc (Below.refl _ _) _⟩
set_option maxHeartbeats 16000000 in
set_option maxRecDepth 100000 in
theorem Right_t1 (K N : Int) (A2 : Option Addr) (c2 : Nat) (nx : List Int) (A3 : Option Addr) (c3 : Nat) (out : List Int) (w : World) (h0 : ¬ K < 1) (h1 : ¬ K > 64) (h2 : ¬ N < 1) (h3 : ¬ N > 65536) (hm : wrap64 (N * K) = N * K) (h4 : (nx.length : Int) = N * K) (h5 : (out.length : Int) = N) (hr2 : Kd.C (Kd.int .i64) w A2 nx.length nx) (hr3 : Kd.C (Kd.int .i64) w A3 out.length out) (h : nx.any (outB (N - 1)) = true) : Calls Try.prog 44 #[.agg #[.int .i64 K, .int .i64 N, .slice A2 nx.length c2, .slice A3 out.length c3]] w (RightPost 32 w) := by
  have hu34 := Try.underlying34
  have hb4 : ((nx.length : Int) != N * K) = false := by rw [h4]; simp
  have hb5 : ((out.length : Int) != N) = false := by rw [h5]; simp
  have hw : wrap64 (N - 1) = N - 1 := by unfold wrap64; omega
  have HR2 := Aside0.mk hr2
  have HR3 := Aside0.mk hr3
  clear h4 h5 hr2 hr3
  have HX := Aside0.mk h
  clear h
  go_enter Try.func44, Try.ntmps44
  go_wp2_with (first
  | (go_at_call 62; refine (Between_calls (N - 1) A2 c2 nx _ (Kd.C_below HR2.out (below_alloc (Below.refl _ _) _))).mono ?_
     rw [HX.out]
     rintro e w1 ⟨rfl, hb⟩
     have HB1 := Aside0.mk (below_step (below_alloc (Below.refl w.heap.size w) (.cells #[.int .i64 K, .int .i64 N, .slice A2 nx.length c2, .slice A3 out.length c3] 34)) hb)
     have hx3 : w1.cell? ⟨w.heap.size, 3, none⟩ = some (.slice A3 out.length c3) := (hb.cell (p := ⟨w.heap.size, 3, none⟩) (by simp)).trans ((blk_cell (blk_new w (.cells #[.int .i64 K, .int .i64 N, .slice A2 nx.length c2, .slice A3 out.length c3] 34)) 3).trans rfl)
     clear hb))
  go_ret
  exact ⟨rfl, HB1.out⟩
set_option maxHeartbeats 16000000 in
set_option maxRecDepth 100000 in
theorem Right_t2 (K N : Int) (A2 : Option Addr) (c2 : Nat) (nx : List Int) (A3 : Option Addr) (c3 : Nat) (out : List Int) (w : World) (h0 : ¬ K < 1) (h1 : ¬ K > 64) (h2 : ¬ N < 1) (h3 : ¬ N > 65536) (hm : wrap64 (N * K) = N * K) (h4 : (nx.length : Int) = N * K) (h5 : (out.length : Int) = N) (hr2 : Kd.C (Kd.int .i64) w A2 nx.length nx) (hr3 : Kd.C (Kd.int .i64) w A3 out.length out) (h6 : nx.any (outB (N - 1)) = false) (h : out.any (outB 1) = true) : Calls Try.prog 44 #[.agg #[.int .i64 K, .int .i64 N, .slice A2 nx.length c2, .slice A3 out.length c3]] w (RightPost 33 w) := by
  have hu34 := Try.underlying34
  have H6 := Aside0.mk h6
  clear h6
  have hb4 : ((nx.length : Int) != N * K) = false := by rw [h4]; simp
  have hb5 : ((out.length : Int) != N) = false := by rw [h5]; simp
  have hw : wrap64 (N - 1) = N - 1 := by unfold wrap64; omega
  have HR2 := Aside0.mk hr2
  have HR3 := Aside0.mk hr3
  clear h4 h5 hr2 hr3
  have HX := Aside0.mk h
  clear h
  go_enter Try.func44, Try.ntmps44
  go_wp2_with (first
  | (go_at_call 62; refine (Between_calls 1 A3 c3 out w1 (Kd.C_below HR3.out HB1.out)).mono ?_
     rw [HX.out]
     rintro e w2 ⟨rfl, hb⟩
     have HB2 := Aside0.mk (below_step HB1.out hb)
     clear hb)
  | (go_at_call 62; refine (Between_calls (N - 1) A2 c2 nx _ (Kd.C_below HR2.out (below_alloc (Below.refl _ _) _))).mono ?_
     rw [H6.out]
     rintro e w1 ⟨rfl, hb⟩
     have HB1 := Aside0.mk (below_step (below_alloc (Below.refl w.heap.size w) (.cells #[.int .i64 K, .int .i64 N, .slice A2 nx.length c2, .slice A3 out.length c3] 34)) hb)
     have hx3 : w1.cell? ⟨w.heap.size, 3, none⟩ = some (.slice A3 out.length c3) := (hb.cell (p := ⟨w.heap.size, 3, none⟩) (by simp)).trans ((blk_cell (blk_new w (.cells #[.int .i64 K, .int .i64 N, .slice A2 nx.length c2, .slice A3 out.length c3] 34)) 3).trans rfl)
     clear hb))
  go_ret
  exact ⟨rfl, HB2.out⟩
set_option maxHeartbeats 16000000 in
set_option maxRecDepth 100000 in
theorem Right_ok (K N : Int) (A2 : Option Addr) (c2 : Nat) (nx : List Int) (A3 : Option Addr) (c3 : Nat) (out : List Int) (w : World) (h0 : ¬ K < 1) (h1 : ¬ K > 64) (h2 : ¬ N < 1) (h3 : ¬ N > 65536) (hm : wrap64 (N * K) = N * K) (h4 : (nx.length : Int) = N * K) (h5 : (out.length : Int) = N) (hr2 : Kd.C (Kd.int .i64) w A2 nx.length nx) (hr3 : Kd.C (Kd.int .i64) w A3 out.length out) (h6 : nx.any (outB (N - 1)) = false) (h : out.any (outB 1) = false) : Calls Try.prog 44 #[.agg #[.int .i64 K, .int .i64 N, .slice A2 nx.length c2, .slice A3 out.length c3]] w (RightPost 0 w) := by
  have hu34 := Try.underlying34
  have H6 := Aside0.mk h6
  clear h6
  have hb4 : ((nx.length : Int) != N * K) = false := by rw [h4]; simp
  have hb5 : ((out.length : Int) != N) = false := by rw [h5]; simp
  have hw : wrap64 (N - 1) = N - 1 := by unfold wrap64; omega
  have HR2 := Aside0.mk hr2
  have HR3 := Aside0.mk hr3
  clear h4 h5 hr2 hr3
  have HX := Aside0.mk h
  clear h
  go_enter Try.func44, Try.ntmps44
  go_wp2_with (first
  | (go_at_call 62; refine (Between_calls 1 A3 c3 out w1 (Kd.C_below HR3.out HB1.out)).mono ?_
     rw [HX.out]
     rintro e w2 ⟨rfl, hb⟩
     have HB2 := Aside0.mk (below_step HB1.out hb)
     clear hb)
  | (go_at_call 62; refine (Between_calls (N - 1) A2 c2 nx _ (Kd.C_below HR2.out (below_alloc (Below.refl _ _) _))).mono ?_
     rw [H6.out]
     rintro e w1 ⟨rfl, hb⟩
     have HB1 := Aside0.mk (below_step (below_alloc (Below.refl w.heap.size w) (.cells #[.int .i64 K, .int .i64 N, .slice A2 nx.length c2, .slice A3 out.length c3] 34)) hb)
     have hx3 : w1.cell? ⟨w.heap.size, 3, none⟩ = some (.slice A3 out.length c3) := (hb.cell (p := ⟨w.heap.size, 3, none⟩) (by simp)).trans ((blk_cell (blk_new w (.cells #[.int .i64 K, .int .i64 N, .slice A2 nx.length c2, .slice A3 out.length c3] 34)) 3).trans rfl)
     clear hb))
  go_ret
  exact ⟨rfl, HB2.out⟩
theorem Right_walk (K N : Int) (A2 : Option Addr) (c2 : Nat) (nx : List Int) (A3 : Option Addr) (c3 : Nat) (out : List Int) (w : World) (hr2 : Kd.C (Kd.int .i64) w A2 nx.length nx) (hr3 : Kd.C (Kd.int .i64) w A3 out.length out) : Calls Try.prog 44 #[.agg #[.int .i64 K, .int .i64 N, .slice A2 nx.length c2, .slice A3 out.length c3]] w (RightPost (rightF K N nx out) w) := by
  unfold rightF
  by_cases h1 : K < 1 ∨ K > 64
  · rw [if_pos h1]
    by_cases h2 : K < 1
    · exact Right_k1 K N A2 c2 nx A3 c3 out w h2
    · exact Right_k2 K N A2 c2 nx A3 c3 out w h2 (by omega)
  · rw [if_neg h1]
    by_cases h2 : N < 1 ∨ N > 65536
    · rw [if_pos h2]
      by_cases h3 : N < 1
      · exact Right_n1 K N A2 c2 nx A3 c3 out w (by omega) (by omega) h3
      · exact Right_n2 K N A2 c2 nx A3 c3 out w (by omega) (by omega) h3 (by omega)
    · rw [if_neg h2]
      have hm : wrap64 (N * K) = N * K := by
        obtain ⟨n, rfl⟩ : ∃ n : Nat, N = (n : Int) := ⟨N.toNat, by omega⟩
        obtain ⟨k, rfl⟩ : ∃ k : Nat, K = (k : Int) := ⟨K.toNat, by omega⟩
        have h3 : n * k ≤ 65536 * 64 := Nat.mul_le_mul (by omega) (by omega)
        rw [← Int.natCast_mul]
        unfold wrap64
        omega
      by_cases h3 : (nx.length : Int) ≠ N * K ∨ (out.length : Int) ≠ N
      · rw [if_pos h3]
        by_cases h4 : (nx.length : Int) ≠ N * K
        · exact Right_s1 K N A2 c2 nx A3 c3 out w (by omega) (by omega) (by omega) (by omega) hm h4
        · exact Right_s2 K N A2 c2 nx A3 c3 out w (by omega) (by omega) (by omega) (by omega) hm (Classical.not_not.1 h4) (h3.resolve_left h4)
      · rw [if_neg h3]
        have h4 : (nx.length : Int) = N * K := Classical.not_not.1 (fun h => h3 (.inl h))
        have h5 : (out.length : Int) = N := Classical.not_not.1 (fun h => h3 (.inr h))
        cases h6 : nx.any (outB (N - 1)) with
        | true => rw [if_pos rfl]; exact Right_t1 K N A2 c2 nx A3 c3 out w (by omega) (by omega) (by omega) (by omega) hm h4 h5 hr2 hr3 h6
        | false =>
          rw [if_neg (by decide)]
          cases h7 : out.any (outB 1) with
          | true => rw [if_pos rfl]; exact Right_t2 K N A2 c2 nx A3 c3 out w (by omega) (by omega) (by omega) (by omega) hm h4 h5 hr2 hr3 h6 h7
          | false => rw [if_neg (by decide)]; exact Right_ok K N A2 c2 nx A3 c3 out w (by omega) (by omega) (by omega) (by omega) hm h4 h5 hr2 hr3 h6 h7
end Go.Proofs.Ytocejofjmmoeaaa.X
end

section
namespace Go.Proofs.Ytocejofjmmoeaaa.X
open Go.RowKit Go.Proofs.YtocejofjmmoeaaaW.PrintWords Go.Proofs.YtocejofjmmoeaaaW.PrintLast Go.Proofs.YtocejofjmmoeaaaW.PrintMore
open Go.Proofs.Ytocejofjmmoeaaa Go.Proofs.Ytocejofjmmoeaaa.Sp
def rt.T2 : Bool × List (List Nat × List Nat) := (true, [([], []), ([0], [0]), ([1], [1]), ([2], [2]), ([], []), ([], []), ([5], [5]), ([6], [6]), ([7], [7]), ([], []), ([9], [9]), ([10], [10]), ([11], [11]), ([], []), ([12, 13], [12, 13]), ([14], [14]), ([8, 15], [8, 15]), ([16], [16]), ([3, 4, 0, 1, 2, 3, 4, 5, 6, 7, 8, 9, 10, 11, 12, 13, 14, 15, 16, 17], [3, 4]), ([18, 17, 0, 1, 2, 3, 4, 5, 6, 7, 8, 9, 10, 11, 12, 13, 14, 15, 16, 17], [17, 18])])
def rt.B2 : List Nat := [0, 1, 3, 7, 0, 0, 32, 96, 224, 0, 512, 1536, 3584, 0, 15872, 32256, 65504, 131040, 262143, 524287]
theorem rt.tab2 : rtab .any (opsOf Try.f65 2) = rt.T2 := by kernel_rfl
theorem rt.bits2 : waitsOk rt.T2.2 rt.B2 = true := by kernel_rfl
theorem row_cell {w : World} {base g n c : Nat} {ok : Nat → Prop} {f : Nat → Nat} (h : Kd.R (Kd.int .i64) 3 w base ok (.slice (some ⟨g, 0, none⟩) n c) (lst n f)) {j : Nat} (hj : j < n) : w.cell? ⟨g, j, none⟩ = some (.int .i64 (f j : Int)) := by
  obtain ⟨ad, e, hc⟩ := Kd.at_int (Kd.R_reads' h).2.2 (j : Int) (by omega) (by rw [lst_len]; omega)
  injection e with e
  subst e
  rw [Int.toNat_natCast, Addr.add_mid, Nat.zero_add, rd_lst f hj] at hc
  exact hc
theorem row_frozen {w : World} {base g n c : Nat} {ok : Nat → Prop} {xs : List Int} (h : Kd.R (Kd.int .i64) 3 w base ok (.slice (some ⟨g, 0, none⟩) n c) xs) (j : Nat) : w.frozen? ⟨g, j, none⟩ = false := by
  rcases (Kd.own_of_R h).2 with ⟨h1, _⟩ | ⟨g', cap', cur, h1, hb, hc, _⟩
  · cases h1
  · injection h1 with h2 h3 h4
    injection h2 with h2
    injection h2 with h2 _ _
    subst h2
    exact blk_frozen hc j
theorem set_at {rs : List Res} {i : Nat} {r : Res} (h : rs[i]? = some r) (r' : Res) : (rs.set i r')[i]? = some r' := by
  rw [List.getElem?_set_self (List.getElem?_eq_some_iff.1 h).1]
theorem set_off {rs : List Res} {i j : Nat} {r : Res} (h : rs[i]? = some r) (r' : Res) (hij : i ≠ j) : (rs.set j r')[i]? = some r := by
  rw [List.getElem?_set_ne (fun e => hij e.symm)]
  exact h
/-- The one that stands for a class: on by what each knows, down. -/
def rootW (W : Nat → Nat) (s : Nat) : Nat := if h : W s < s then rootW W (W s) else s
termination_by s
decreasing_by exact h
theorem rootW_le (W : Nat → Nat) : ∀ s, rootW W s ≤ s := by
  intro s
  induction s using Nat.strongRecOn with
  | ind s ih =>
    rw [rootW]
    split
    · rename_i h
      have := ih (W s) h
      omega
    · exact Nat.le_refl _
theorem rootW_on {W : Nat → Nat} {s : Nat} (h : W s < s) : rootW W s = rootW W (W s) := by rw [rootW, dif_pos h]
theorem rootW_at {W : Nat → Nat} {s : Nat} (h : ¬ W s < s) : rootW W s = s := by rw [rootW, dif_neg h]
/-- Half the way: no class changes. -/
theorem rootW_half {W : Nat → Nat} {s : Nat} (h1 : ∀ t, t ≤ s → W t ≤ t) (h : W s < s) : ∀ t, rootW (upd W s (W (W s))) t = rootW W t := by
  intro t
  induction t using Nat.strongRecOn with
  | ind t ih =>
    by_cases hts : t = s
    · subst hts
      have h2 := h1 (W t) (by omega)
      rw [rootW_on (W := upd W t (W (W t))) (by rw [upd_at]; omega), upd_at, ih _ (by omega), rootW_on h]
      by_cases h3 : W (W t) < W t
      · rw [rootW_on h3]
      · have h4 : W (W t) = W t := by omega
        rw [h4]
    · have e : upd W s (W (W s)) t = W t := upd_ne _ _ hts
      by_cases h3 : W t < t
      · rw [rootW_on (W := upd W s (W (W s))) (by rw [e]; exact h3), e, ih _ h3, rootW_on h3]
      · rw [rootW_at (W := upd W s (W (W s))) (by rw [e]; exact h3), rootW_at h3]
def Down (n : Nat) (W : Nat → Nat) : Prop := ∀ s, s < n → W s ≤ s
def Alike (W W' : Nat → Nat) : Prop := ∀ t, rootW W' t = rootW W t
def RootPost (base : Nat) (rs : List Res) (j gw n cw : Nat) (W : Nat → Nat) (s : Nat) (w : World) : Ending → World → Prop := fun e w' => e = .returned (.int .i64 (rootW W s : Int)) ∧ ∃ W' : Nat → Nat, Down n W' ∧ Alike W W' ∧ Sep base (rs.set j (ints base (.slice (some ⟨gw, 0, none⟩) n cw) (lst n W'))) w' ∧ Below base w w'
theorem RootPost.intro {base : Nat} {rs : List Res} {j gw n cw : Nat} {W : Nat → Nat} {s x : Nat} {w w' : World} (e : rootW W s = x) (h : ∃ W' : Nat → Nat, Down n W' ∧ Alike W W' ∧ Sep base (rs.set j (ints base (.slice (some ⟨gw, 0, none⟩) n cw) (lst n W'))) w' ∧ Below base w w') : RootPost base rs j gw n cw W s w (.returned (.int .i64 (x : Int))) w' := by
  subst e
  exact ⟨rfl, h⟩
attribute [local go_sem] max2_int min2_int max_two min_two max_three min_three max_four min_four
set_option maxHeartbeats 16000000 in
set_option maxRecDepth 100000 in
theorem Root_walk (base : Nat) (rs : List Res) (w : World) (gf gw n cw : Nat) (vK vN vX vO vn vo : Value) (W : Nat → Nat) (ib j s : Nat) (h : Sep base rs w) (hb : rs[ib]? = some (blk gf #[vK, vN, vX, vO, .slice (some ⟨gw, 0, none⟩) n cw, vn, vo] 86)) (hj : rs[j]? = some (ints base (.slice (some ⟨gw, 0, none⟩) n cw) (lst n W))) (hbj : ib ≠ j) (hbase : base ≤ w.heap.size) (hs : s < n) (hd : Down n W) :
    Calls Try.prog 65 #[.pointer (some ⟨gf, 0, none⟩), .int .i64 (s : Int)] w (RootPost base rs j gw n cw W s w) := by
  have hu86 := Try.underlying86
  have hu34 := Try.underlying34
  have hu32 := Try.underlying32
  have HSS := Aside0.mk hs
  have HDN := Aside0.mk hd
  have HS0 : Aside0 (Sep base (rs.set j (ints base (.slice (some ⟨gw, 0, none⟩) n cw) (lst n W))) w) := ⟨by rw [set_same hj]; exact h⟩
  have HB0 : Aside0 (Below base w w) := ⟨Below.mk rfl rfl rfl (Nat.le_refl _) (fun _ _ => rfl)⟩
  have HBS := Aside0.mk hbase
  clear h hs hd hbase
  go_enter Try.func65, Try.ntmps65
  go_wp2
  go_loopw [1] (fun v1 wr => ∃ (s1 : Nat) (W1 : Nat → Nat), v1 = .int .i64 (s1 : Int) ∧ Aside0 (s1 < n ∧ rootW W s1 = rootW W s) ∧ Aside0 (Down n W1 ∧ Alike W W1) ∧ Aside0 (Sep base (rs.set j (ints base (.slice (some ⟨gw, 0, none⟩) n cw) (lst n W1))) wr) ∧ Aside0 (Below base w wr)) (fun v1 _ => (intOf v1).toNat)
  case atStart => exact ⟨s, W, rfl, ⟨HSS.out, rfl⟩, ⟨HDN.out, fun t => rfl⟩, HS0, HB0⟩
  case round =>
    clear HS0 HB0
    obtain ⟨s1, W1, rfl, HI, HW1, HSr, HBr⟩ := hrel
    have HS1 : Aside0 (s1 < n) := ⟨HI.out.1⟩
    have hdn := HW1.out.1 s1 HI.out.1
    have HS2 : Aside0 (W1 s1 < n) := ⟨by have := HI.out.1; omega⟩
    have hx1 : (s1 : Int) < (n : Int) := by have := HI.out.1; omega
    have hx2 : (W1 s1 : Int) < (n : Int) := by omega
    have hc4 : wr.cell? ⟨gf, 4, none⟩ = some (.slice (some ⟨gw, 0, none⟩) n cw) := (blk_cell (HSr.out.get ib (set_off hb _ hbj)) 4).trans rfl
    have hcw : wr.cell? ⟨gw, s1, none⟩ = some (.int .i64 (W1 s1 : Int)) := row_cell (HSr.out.get j (set_at hj _)) HS1.out
    by_cases he : W1 s1 = s1
    · have heb : ((W1 s1 : Int) != (s1 : Int)) = false := by rw [he]; simp
      have HEQ := Aside0.mk he
      clear he hdn
      go_wp2
      go_ret
      have e : rootW W s = s1 := by
        rw [← HI.out.2, ← HW1.out.2 s1]
        exact rootW_at (by rw [HEQ.out]; exact Nat.lt_irrefl _)
      exact RootPost.intro e ⟨W1, HW1.out.1, HW1.out.2, HSr.out, HBr.out⟩
    · have heb : ((W1 s1 : Int) != (s1 : Int)) = true := by simp; omega
      have HLT : Aside0 (W1 s1 < s1) := ⟨by omega⟩
      clear he hdn
      go_wp2
      refine start_ (n := 20) (S := fun w' => w'.cell? ⟨gf, 4, none⟩ = some (.slice (some ⟨gw, 0, none⟩) n cw) ∧ w'.cell? ⟨gw, s1, none⟩ = some (.int .i64 (W1 s1 : Int)) ∧ w'.cell? ⟨gw, W1 s1, none⟩ = some (.int .i64 (W1 (W1 s1) : Int))) (ds := [19]) #[false, false, false, false, false, false, false, false, false, false, false, false, false, false, false, false, false, false, false, false] (by kernel_rfl) rfl rfl ⟨(blk_cell ((HSr.out.low (below_drew1 (Below.refl _ _))).get ib (set_off hb _ hbj)) 4).trans rfl, row_cell ((HSr.out.low (below_drew1 (Below.refl _ _))).get j (set_at hj _)) HS1.out, row_cell ((HSr.out.low (below_drew1 (Below.refl _ _))).get j (set_at hj _)) HS2.out⟩ (fun hHeld => ?_)
      refine with_tabW rt.tab2 rt.bits2 (fun HT_ HW_ => ?_)
      have HD := Aside0.mk (HSr.out.low (below_drew1 (Below.refl _ _)))
      have HB5 := Aside0.mk (below_drew1 HBr.out)
      clear HSr HBr
      generalize wr.drew = wd at HD HB5 hHeld ⊢
      refine pure_ (i := 0) (N := (some 14)) (v := ?_) (a' := ?_) #[true, false, false, false, false, false, false, false, false, false, false, false, false, false, false, false, false, false, false, false] rfl rfl (any_of HT_.out (by kernel_rfl)) (fun _ _ _ h => h) (Or.inl ⟨by rfl, ?_⟩) ?_ ?_
      rotate_left
      · intro w'
        go_simp
        with_reducible rfl
      rotate_left
      · simp only [Act.put, List.setIfInBounds_toArray, List.set_cons_zero, List.set_cons_succ, i64_w, i32_w]
        rfl
      refine pure_ (i := 1) (N := (some 15)) (v := ?_) (a' := ?_) #[true, true, false, false, false, false, false, false, false, false, false, false, false, false, false, false, false, false, false, false] rfl rfl (any_of HT_.out (by kernel_rfl)) (fun _ _ _ h => h) (Or.inl ⟨by rfl, ?_⟩) ?_ ?_
      rotate_left
      · intro w'
        go_simp
        with_reducible rfl
      rotate_left
      · simp only [Act.put, List.setIfInBounds_toArray, List.set_cons_zero, List.set_cons_succ, i64_w, i32_w]
        rfl
      refine pure_ (i := 2) (N := (some 16)) (v := ?_) (a' := ?_) #[true, true, true, false, false, false, false, false, false, false, false, false, false, false, false, false, false, false, false, false] rfl rfl (any_of HT_.out (by kernel_rfl)) (fun _ _ _ h => h) (Or.inl ⟨by rfl, ?_⟩) ?_ ?_
      rotate_left
      · intro w'
        go_simp
        with_reducible rfl
      rotate_left
      · simp only [Act.put, List.setIfInBounds_toArray, List.set_cons_zero, List.set_cons_succ, i64_w, i32_w]
        rfl
      refine pure_ (i := 4) (N := (some 18)) (v := ?_) (a' := ?_) #[true, true, true, false, true, false, false, false, false, false, false, false, false, false, false, false, false, false, false, false] rfl rfl (any_of HT_.out (by kernel_rfl)) (fun _ _ _ h => h) (Or.inl ⟨by rfl, ?_⟩) ?_ ?_
      rotate_left
      · intro w'
        go_simp
        with_reducible rfl
      rotate_left
      · simp only [Act.put, List.setIfInBounds_toArray, List.set_cons_zero, List.set_cons_succ, i64_w, i32_w]
        rfl
      refine pure_ (i := 5) (N := (some 19)) (v := ?_) (a' := ?_) #[true, true, true, false, true, true, false, false, false, false, false, false, false, false, false, false, false, false, false, false] rfl rfl (any_of HT_.out (by kernel_rfl)) (fun _ _ _ h => h) (Or.inl ⟨by rfl, ?_⟩) ?_ ?_
      rotate_left
      · intro w'
        go_simp
        with_reducible rfl
      rotate_left
      · simp only [Act.put, List.setIfInBounds_toArray, List.set_cons_zero, List.set_cons_succ, i64_w, i32_w]
        rfl
      refine pure_ (i := 6) (N := (some 20)) (v := ?_) (a' := ?_) #[true, true, true, false, true, true, true, false, false, false, false, false, false, false, false, false, false, false, false, false] rfl rfl (any_of HT_.out (by kernel_rfl)) (fun _ _ _ h => h) (Or.inl ⟨by rfl, ?_⟩) ?_ ?_
      rotate_left
      · intro w'
        go_simp
        with_reducible rfl
      rotate_left
      · simp only [Act.put, List.setIfInBounds_toArray, List.set_cons_zero, List.set_cons_succ, i64_w, i32_w]
        rfl
      refine pure_ (i := 7) (N := (some 21)) (v := ?_) (a' := ?_) #[true, true, true, false, true, true, true, true, false, false, false, false, false, false, false, false, false, false, false, false] rfl rfl (any_of HT_.out (by kernel_rfl)) (fun _ _ _ h => h) (Or.inl ⟨by rfl, ?_⟩) ?_ ?_
      rotate_left
      · intro w'
        go_simp
        with_reducible rfl
      rotate_left
      · simp only [Act.put, List.setIfInBounds_toArray, List.set_cons_zero, List.set_cons_succ, i64_w, i32_w]
        rfl
      refine pure_ (i := 9) (N := (some 23)) (v := ?_) (a' := ?_) #[true, true, true, false, true, true, true, true, false, true, false, false, false, false, false, false, false, false, false, false] rfl rfl (any_of HT_.out (by kernel_rfl)) (fun _ _ _ h => h) (Or.inl ⟨by rfl, ?_⟩) ?_ ?_
      rotate_left
      · intro w'
        go_simp
        with_reducible rfl
      rotate_left
      · simp only [Act.put, List.setIfInBounds_toArray, List.set_cons_zero, List.set_cons_succ, i64_w, i32_w]
        rfl
      refine pure_ (i := 10) (N := (some 24)) (v := ?_) (a' := ?_) #[true, true, true, false, true, true, true, true, false, true, true, false, false, false, false, false, false, false, false, false] rfl rfl (any_of HT_.out (by kernel_rfl)) (fun _ _ _ h => h) (Or.inl ⟨by rfl, ?_⟩) ?_ ?_
      rotate_left
      · intro w'
        go_simp
        with_reducible rfl
      rotate_left
      · simp only [Act.put, List.setIfInBounds_toArray, List.set_cons_zero, List.set_cons_succ, i64_w, i32_w]
        rfl
      refine pure_ (i := 11) (N := (some 25)) (v := ?_) (a' := ?_) #[true, true, true, false, true, true, true, true, false, true, true, true, false, false, false, false, false, false, false, false] rfl rfl (any_of HT_.out (by kernel_rfl)) (fun _ _ _ h => h) (Or.inl ⟨by rfl, ?_⟩) ?_ ?_
      rotate_left
      · intro w'
        go_simp
        with_reducible rfl
      rotate_left
      · simp only [Act.put, List.setIfInBounds_toArray, List.set_cons_zero, List.set_cons_succ, i64_w, i32_w]
        rfl
      refine pure_ (i := 13) (N := (some 27)) (v := ?_) (a' := ?_) #[true, true, true, false, true, true, true, true, false, true, true, true, false, true, false, false, false, false, false, false] rfl rfl (any_of HT_.out (by kernel_rfl)) (fun _ _ _ h => h) (Or.inl ⟨by rfl, ?_⟩) ?_ ?_
      rotate_left
      · intro w'
        go_simp
        with_reducible rfl
      rotate_left
      · simp only [Act.put, List.setIfInBounds_toArray, List.set_cons_zero, List.set_cons_succ, i64_w, i32_w]
        rfl
      refine take_ (i := 3) (N := (some 17)) (v := ?_) (a' := ?_) #[true, true, true, true, true, true, true, true, false, true, true, true, false, true, false, false, false, false, false, false] rfl rfl (take_ofW HT_.out HW_.out (by kernel_rfl)) (fun _ _ _ h => h) (Or.inl ⟨by rfl, ?_⟩) hHeld ?_ ?_
      rotate_left
      · rintro w' ⟨s0, s1, s2⟩
        go_simp
        with_reducible rfl
      rotate_left
      · simp only [Act.put, List.setIfInBounds_toArray, List.set_cons_zero, List.set_cons_succ, i64_w, i32_w]
        rfl
      refine take_ (i := 8) (N := (some 22)) (v := ?_) (a' := ?_) #[true, true, true, true, true, true, true, true, true, true, true, true, false, true, false, false, false, false, false, false] rfl rfl (take_ofW HT_.out HW_.out (by kernel_rfl)) (fun _ _ _ h => h) (Or.inl ⟨by rfl, ?_⟩) hHeld ?_ ?_
      rotate_left
      · rintro w' ⟨s0, s1, s2⟩
        go_simp
        with_reducible rfl
      rotate_left
      · simp only [Act.put, List.setIfInBounds_toArray, List.set_cons_zero, List.set_cons_succ, i64_w, i32_w]
        rfl
      refine take_ (i := 12) (N := (some 26)) (v := ?_) (a' := ?_) #[true, true, true, true, true, true, true, true, true, true, true, true, true, true, false, false, false, false, false, false] rfl rfl (take_ofW HT_.out HW_.out (by kernel_rfl)) (fun _ _ _ h => h) (Or.inl ⟨by rfl, ?_⟩) hHeld ?_ ?_
      rotate_left
      · rintro w' ⟨s0, s1, s2⟩
        go_simp
        with_reducible rfl
      rotate_left
      · simp only [Act.put, List.setIfInBounds_toArray, List.set_cons_zero, List.set_cons_succ, i64_w, i32_w]
        rfl
      refine pure_ (i := 14) (N := (some 28)) (v := ?_) (a' := ?_) #[true, true, true, true, true, true, true, true, true, true, true, true, true, true, true, false, false, false, false, false] rfl rfl (any_of HT_.out (by kernel_rfl)) (fun _ _ _ h => h) (Or.inl ⟨by rfl, ?_⟩) ?_ ?_
      rotate_left
      · intro w'
        go_simp
        with_reducible rfl
      rotate_left
      · simp only [Act.put, List.setIfInBounds_toArray, List.set_cons_zero, List.set_cons_succ, i64_w, i32_w]
        rfl
      refine take_ (i := 15) (N := (some 29)) (v := ?_) (a' := ?_) #[true, true, true, true, true, true, true, true, true, true, true, true, true, true, true, true, false, false, false, false] rfl rfl (take_ofW HT_.out HW_.out (by kernel_rfl)) (fun _ _ _ h => h) (Or.inl ⟨by rfl, ?_⟩) hHeld ?_ ?_
      rotate_left
      · rintro w' ⟨s0, s1, s2⟩
        go_simp
        with_reducible rfl
      rotate_left
      · simp only [Act.put, List.setIfInBounds_toArray, List.set_cons_zero, List.set_cons_succ, i64_w, i32_w]
        rfl
      refine pure_ (i := 16) (N := (some 30)) (v := ?_) (a' := ?_) #[true, true, true, true, true, true, true, true, true, true, true, true, true, true, true, true, true, false, false, false] rfl rfl (any_of HT_.out (by kernel_rfl)) (fun _ _ _ h => h) (Or.inl ⟨by rfl, ?_⟩) ?_ ?_
      rotate_left
      · intro w'
        go_simp
        with_reducible rfl
      rotate_left
      · simp only [Act.put, List.setIfInBounds_toArray, List.set_cons_zero, List.set_cons_succ, i64_w, i32_w]
        rfl
      refine take_ (i := 17) (N := (some 31)) (v := ?_) (a' := ?_) #[true, true, true, true, true, true, true, true, true, true, true, true, true, true, true, true, true, true, false, false] rfl rfl (take_ofW HT_.out HW_.out (by kernel_rfl)) (fun _ _ _ h => h) (Or.inl ⟨by rfl, ?_⟩) hHeld ?_ ?_
      rotate_left
      · rintro w' ⟨s0, s1, s2⟩
        go_simp
        with_reducible rfl
      rotate_left
      · simp only [Act.put, List.setIfInBounds_toArray, List.set_cons_zero, List.set_cons_succ, i64_w, i32_w]
        rfl
      refine pure_ (i := 18) (N := (some 32)) (v := ?_) (a' := ?_) #[true, true, true, true, true, true, true, true, true, true, true, true, true, true, true, true, true, true, true, false] rfl rfl (any_of HT_.out (by kernel_rfl)) (fun _ _ _ h => h) (Or.inl ⟨by rfl, ?_⟩) ?_ ?_
      rotate_left
      · intro w'
        go_simp
        with_reducible rfl
      rotate_left
      · simp only [Act.put, List.setIfInBounds_toArray, List.set_cons_zero, List.set_cons_succ, i64_w, i32_w]
        rfl
      refine last_ (i := 19) (N := none) #[true, true, true, true, true, true, true, true, true, true, true, true, true, true, true, true, true, true, true, true] rfl rfl (one_of HT_.out (by kernel_rfl)) (by decide) (fun Kc hK => ?_)
      have hfz : wd.frozen? ⟨gw, s1, none⟩ = false := row_frozen (HD.out.get j (set_at hj _)) s1
      have hcl : wd.cell? ⟨gw, s1, none⟩ = some (.int .i64 (W1 s1 : Int)) := row_cell (HD.out.get j (set_at hj _)) HS1.out
      refine skip_ (w1 := ?_) (by rfl) rfl ?_ ?_
      rotate_left
      · go_simp
        rfl
      have HE : Aside0 (Sep base (rs.set j (ints base (.slice (some ⟨gw, 0, none⟩) n cw) (lst n (upd W1 s1 (W1 (W1 s1)))))) (World.setCell wd ⟨gw, s1, none⟩ (.int .i64 (W1 (W1 s1) : Int)))) := ⟨by
        have h1 := HD.out.put j (set_at hj _) (s1 : Int) (W1 (W1 s1) : Int) (Nat.le_trans HBS.out HB5.out.size)
        rw [Int.toNat_natCast, lst_set W1 HS1.out (W1 (W1 s1)), List.set_set] at h1
        exact h1⟩
      have HBE := Aside0.mk (HB5.out.setCell (HD.out.bound j (set_at hj _) (show some gw = some gw from rfl)).1 (p := ⟨gw, s1, none⟩) (.int .i64 (W1 (W1 s1) : Int)))
      generalize World.setCell wd ⟨gw, s1, none⟩ (.int .i64 (W1 (W1 s1) : Int)) = we at HE HBE ⊢
      clear hfz hcl HD HB5 hHeld
      refine hK.out _ _ ?_; clear hK Kc
      refine done_ (done_of HT_.out (by kernel_rfl)) ?_
      have hc4' : we.cell? ⟨gf, 4, none⟩ = some (.slice (some ⟨gw, 0, none⟩) n cw) := (blk_cell (HE.out.get ib (set_off hb _ hbj)) 4).trans rfl
      have hcw' : we.cell? ⟨gw, s1, none⟩ = some (.int .i64 (W1 (W1 s1) : Int)) := by
        rw [row_cell (HE.out.get j (set_at hj _)) HS1.out, upd_at]
      clear heb hc4 hcw
      go_wp2
      have hw2 := HW1.out.1 (W1 s1) HS2.out
      go_roundw
      case rel =>
        refine ⟨W1 (W1 s1), upd W1 s1 (W1 (W1 s1)), rfl, ⟨Nat.lt_of_le_of_lt hw2 HS2.out, ?_⟩, ⟨fun t ht => ?_, fun t => ?_⟩, HE, HBE⟩
        · rw [← HI.out.2, ← HW1.out.2 (W1 (W1 s1)), ← HW1.out.2 s1, rootW_on HLT.out]
          by_cases h3 : W1 (W1 s1) < W1 s1
          · rw [rootW_on h3]
          · rw [show W1 (W1 s1) = W1 s1 by omega]
        · by_cases hts : t = s1
          · rw [hts, upd_at]; have := HLT.out; omega
          · rw [upd_ne _ _ hts]; exact HW1.out.1 t ht
        · rw [rootW_half (fun z hz => HW1.out.1 z (by have := HI.out.1; omega)) HLT.out]
          exact HW1.out.2 t
      case measure =>
        show ((W1 (W1 s1) : Nat) : Int).toNat < ((s1 : Nat) : Int).toNat
        have := HLT.out
        omega
end Go.Proofs.Ytocejofjmmoeaaa.X
end

section
namespace Go.Proofs.Ytocejofjmmoeaaa.X
open Go.RowKit Go.Proofs.YtocejofjmmoeaaaW.PrintWords Go.Proofs.YtocejofjmmoeaaaW.PrintLast Go.Proofs.YtocejofjmmoeaaaW.PrintMore
open Go.Proofs.Ytocejofjmmoeaaa Go.Proofs.Ytocejofjmmoeaaa.Sp
def sample_right.f (a0_0 a0_1 : Int) (l0_2 l0_3 : List Int) : Option Int := some (rightF a0_0 a0_1 l0_2 l0_3)
theorem sample_right.calls (a0_0 a0_1 : Int) (A0_2 : Option Addr) (c0_2 : Nat) (l0_2 : List Int) (A0_3 : Option Addr) (c0_3 : Nat) (l0_3 : List Int) (r : Int) (w : World) (hr0_2 : Kd.C (Kd.int .i64) w A0_2 l0_2.length l0_2) (_hc0_2 : l0_2.length ≤ c0_2) (hr0_3 : Kd.C (Kd.int .i64) w A0_3 l0_3.length l0_3) (_hc0_3 : l0_3.length ≤ c0_3) (h : sample_right.f a0_0 a0_1 l0_2 l0_3 = some r) :
    Calls Try.prog 44 #[.agg #[.int .i64 a0_0, .int .i64 a0_1, .slice A0_2 l0_2.length c0_2, .slice A0_3 l0_3.length c0_3]] w fun e w' => e = .returned (.int .i64 r) ∧ Below w.heap.size w w' := by
  injection h with h
  subst h
  exact Right_walk a0_0 a0_1 A0_2 c0_2 l0_2 A0_3 c0_3 l0_3 w hr0_2 hr0_3
end Go.Proofs.Ytocejofjmmoeaaa.X
end

section
namespace Go.Proofs.Ytocejofjmmoeaaa.X
open Go.RowKit Go.Proofs.YtocejofjmmoeaaaW.PrintWords Go.Proofs.YtocejofjmmoeaaaW.PrintLast Go.Proofs.YtocejofjmmoeaaaW.PrintMore
attribute [local go_sem] max2_int min2_int max_two min_two max_three min_three max_four min_four   -- for this text's walks alone
set_option linter.unusedVariables false
set_option linter.unusedSimpArgs false
def sample_Says.l0 : Nat → Int → List Int → Int → Int → Int → Int → List Int → List Int → Option (Int × Int)
  | 0, _, _, _, _, _, _, _, _ => none
  | k + 1, x9, x27, x28, x29, x557000, x557001, x557002, x557003 => if x29 < x28 then (if 0 ≤ x29 then (if x29 < (x27.length : Int) then (if 0 ≤ (wrap64 ((wrap64 (x9 * x557000)) + (rd x27 x29))) then (if (wrap64 ((wrap64 (x9 * x557000)) + (rd x27 x29))) < (x557002.length : Int) then (if (rd x557002 (wrap64 ((wrap64 (x9 * x557000)) + (rd x27 x29)))) < 0 then (some ((-1), 0)) else (sample_Says.l0 k (rd x557002 (wrap64 ((wrap64 (x9 * x557000)) + (rd x27 x29)))) x27 x28 (wrap64 (x29 + 1)) x557000 x557001 x557002 x557003)) else (none)) else (none)) else (none)) else (none)) else (if 0 ≤ x9 then (if x9 < (x557003.length : Int) then (some (rd x557003 x9, 0)) else (none)) else (none))
def sample_Says.f (k : Nat) (a0_0 : Int) (a0_1 : Int) (l0_2 : List Int) (l0_3 : List Int) (l1 : List Int) : Option (Int × Int) := (sample_right.f a0_0 a0_1 l0_2 l0_3).bind fun t557 => (if t557 = 0 then ((word_Check.f k l1 a0_0).bind fun bt558 => (if bt558.2 = 0 then (sample_Says.l0 k 0 l1 (l1.length : Int) 0 a0_0 a0_1 l0_2 l0_3) else (some (0, bt558.2)))) else (some (0, t557)))
set_option maxHeartbeats 8000000 in
set_option maxRecDepth 100000 in
theorem sample_Says.calls (k : Nat) (a0_0 : Int) (a0_1 : Int) (A0_2 : Option Addr) (c0_2 : Nat) (l0_2 : List Int) (A0_3 : Option Addr) (c0_3 : Nat) (l0_3 : List Int) (A1 : Option Addr) (c1 : Nat) (l1 : List Int) (r1 : Int) (r2 : Int) (w : World) (hr0_2 : Kd.C (Kd.int .i64) w A0_2 l0_2.length l0_2) (hc0_2 : l0_2.length ≤ c0_2) (hr0_3 : Kd.C (Kd.int .i64) w A0_3 l0_3.length l0_3) (hc0_3 : l0_3.length ≤ c0_3) (hr1 : Kd.C (Kd.int .i64) w A1 l1.length l1) (hc1 : l1.length ≤ c1) (h : sample_Says.f k a0_0 a0_1 l0_2 l0_3 l1 = some (r1, r2)) :
    Calls Try.prog 28 #[.agg #[.int .i64 a0_0, .int .i64 a0_1, .slice A0_2 l0_2.length c0_2, .slice A0_3 l0_3.length c0_3], .slice A1 l1.length c1] w fun e w' => e = .returned (.tuple #[.int .i64 r1, .int .i64 r2]) ∧ Below w.heap.size w w' := by
  have hu34 := Try.underlying34
  have HR0_2 := Aside0.mk hr0_2
  have HC0_2 := Aside0.mk hc0_2
  clear hr0_2 hc0_2
  have HR0_3 := Aside0.mk hr0_3
  have HC0_3 := Aside0.mk hc0_3
  clear hr0_3 hc0_3
  have HR1 := Aside0.mk hr1
  have HC1 := Aside0.mk hc1
  clear hr1 hc1
  have HB := Aside0.mk (Below.refl w.heap.size w)
  have H : ((sample_right.f a0_0 a0_1 l0_2 l0_3).bind fun t557 => (if t557 = 0 then ((word_Check.f k l1 a0_0).bind fun bt558 => (if bt558.2 = 0 then (sample_Says.l0 k 0 l1 (l1.length : Int) 0 a0_0 a0_1 l0_2 l0_3) else (some (0, bt558.2)))) else (some (0, t557)))) = some (r1, r2) := h
  clear h
  replace H := Option.bind_eq_some_iff.mp H
  obtain ⟨t557, A30, H⟩ := H
  replace H : (if t557 = 0 then ((word_Check.f k l1 a0_0).bind fun bt558 => (if bt558.2 = 0 then (sample_Says.l0 k 0 l1 (l1.length : Int) 0 a0_0 a0_1 l0_2 l0_3) else (some (0, bt558.2)))) else (some (0, t557))) = some (r1, r2) := H
  have A3 := Aside0.mk A30
  clear A30
  by_cases c4 : t557 = 0
  · rw [if_pos c4] at H
    have c4b0 : (t557 == 0) = true := beq_iff_eq.mpr c4
    have c4b1 : (t557 != 0) = false := bne_eq_false_iff_eq.mpr c4
    clear c4
    replace H := Option.bind_eq_some_iff.mp H
    obtain ⟨⟨t558, t559⟩, A50, H⟩ := H
    replace H : (if t559 = 0 then (sample_Says.l0 k 0 l1 (l1.length : Int) 0 a0_0 a0_1 l0_2 l0_3) else (some (0, t559))) = some (r1, r2) := H
    have A5 := Aside0.mk A50
    clear A50
    by_cases c6 : t559 = 0
    · rw [if_pos c6] at H
      have c6b0 : (t559 == 0) = true := beq_iff_eq.mpr c6
      have c6b1 : (t559 != 0) = false := bne_eq_false_iff_eq.mpr c6
      clear c6
      have H' := Aside0.mk H
      clear H
      go_enter Try.func28, Try.ntmps28
      go_wp2_with (first | ((with_reducible refine gate_dst (N := 2) rfl ?_); refine box_event ?hg (N := 2) ?hd (cs := #[.int .i64 a0_0, .int .i64 a0_1, .slice A0_2 l0_2.length c0_2, .slice A0_3 l0_3.length c0_3]) (t := 34) ?hr ?_; (case hd => rfl); (case hg => rfl); (case hr => first | (go_simp; done) | (go_simp; rfl)); intro gb556 hg w7 hbox hb; have n0_ := Aside0.mk (below_step (by repeat (first | (with_reducible first | exact HB.out | apply below_alloc | apply pw_below_drewN | apply below_drew1) | exact HB.out)) hb); have n1_ := Aside0.mk (hbox); have n2_ := Aside0.mk ((by rw [hg]; exact (below_size (by repeat (first | (with_reducible first | exact HB.out | apply below_alloc | apply pw_below_drewN | apply below_drew1) | exact HB.out))) : w.heap.size ≤ gb556)); have n3_ := Aside0.mk ((by rw [hg]; exact (below_size (by repeat (first | (with_reducible first | exact HB.out | apply below_alloc | apply pw_below_drewN | apply below_drew1) | exact HB.out))) : w.heap.size ≤ gb556)); clear HB; have HB := n0_; have BK556 := n1_; have GW556 := n2_; have GE556 := n3_; clear n0_ n1_ n2_ n3_; clear hb hbox hg; have hcz8_0 : w7.cell? ⟨gb556, 0, none⟩ = some (.int .i64 a0_0) := (blk_cell BK556.out 0).trans rfl; have hcz8_1 : w7.cell? ⟨gb556, 1, none⟩ = some (.int .i64 a0_1) := (blk_cell BK556.out 1).trans rfl; have hcz8_2 : w7.cell? ⟨gb556, 2, none⟩ = some (.slice A0_2 l0_2.length c0_2) := (blk_cell BK556.out 2).trans rfl; have hcz8_3 : w7.cell? ⟨gb556, 3, none⟩ = some (.slice A0_3 l0_3.length c0_3) := (blk_cell BK556.out 3).trans rfl; have hfz8_0 := blk_frozen BK556.out 0; have hfz8_1 := blk_frozen BK556.out 1; have hfz8_2 := blk_frozen BK556.out 2; have hfz8_3 := blk_frozen BK556.out 3) | ((with_reducible refine gate_callee (f := 44) rfl ?_); refine goesL_ (some 13) rfl rfl Try.func44 (by kernel_rfl) rfl #[.agg #[.int .i64 a0_0, .int .i64 a0_1, .slice A0_2 l0_2.length c0_2, .slice A0_3 l0_3.length c0_3]] rfl (by (try simp only [List.map_toArray, List.map_cons, List.map_nil]); first | done | rfl | (simp only [List.length_drop, List.length_take]; rfl)) ?_; (with_reducible refine (sample_right.calls a0_0 a0_1 _ _ l0_2 _ _ l0_3 t557 _ ?side1 ?side2 ?side3 ?side4 A3.out).mono ?_); (case side1 => repeat (first | exact (Kd.C_below HR0_2.out HB.out) | (with_reducible refine Kd.C_alloc ?_ _) | (with_reducible refine Kd.C_drewN ?_ _) | (with_reducible refine Kd.C_drew ?_))); (case side2 => exact HC0_2.out); (case side3 => repeat (first | exact (Kd.C_below HR0_3.out HB.out) | (with_reducible refine Kd.C_alloc ?_ _) | (with_reducible refine Kd.C_drewN ?_ _) | (with_reducible refine Kd.C_drew ?_))); (case side4 => exact HC0_3.out); rintro e w9 ⟨rfl, hb⟩; refine ⟨_, rfl, ?_⟩; have n0_ := Aside0.mk (blk_below (g := gb556) (o := .cells #[.int .i64 a0_0, .int .i64 a0_1, .slice A0_2 l0_2.length c0_2, .slice A0_3 l0_3.length c0_3] 34 (0, 0)) (by (with_reducible repeat (first | refine blk_drewN ?_ _ | refine blk_drew ?_ | refine blk_alloc ?_ _)); exact BK556.out) hb); have n1_ := Aside0.mk (below_step (by repeat (first | (with_reducible first | exact HB.out | apply below_alloc | apply pw_below_drewN | apply below_drew1 | refine below_set ?_ GE556.out) | exact HB.out)) hb); clear BK556; clear HB; have BK556 := n0_; have HB := n1_; clear n0_ n1_; (try clear hb); (try clear hb2); (try clear hk); (try clear hi); have hcz10_0 : w9.cell? ⟨gb556, 0, none⟩ = some (.int .i64 a0_0) := (blk_cell BK556.out 0).trans rfl; have hcz10_1 : w9.cell? ⟨gb556, 1, none⟩ = some (.int .i64 a0_1) := (blk_cell BK556.out 1).trans rfl; have hcz10_2 : w9.cell? ⟨gb556, 2, none⟩ = some (.slice A0_2 l0_2.length c0_2) := (blk_cell BK556.out 2).trans rfl; have hcz10_3 : w9.cell? ⟨gb556, 3, none⟩ = some (.slice A0_3 l0_3.length c0_3) := (blk_cell BK556.out 3).trans rfl; have hfz10_0 := blk_frozen BK556.out 0; have hfz10_1 := blk_frozen BK556.out 1; have hfz10_2 := blk_frozen BK556.out 2; have hfz10_3 := blk_frozen BK556.out 3) | ((with_reducible refine gate_callee (f := 35) rfl ?_); refine goesL_ (some 21) rfl rfl Try.func35 (by kernel_rfl) rfl #[.slice A1 l1.length c1, .int .i64 a0_0] rfl (by (try simp only [List.map_toArray, List.map_cons, List.map_nil]); first | done | rfl | (simp only [List.length_drop, List.length_take]; rfl)) ?_; (with_reducible refine (word_Check.calls k _ _ l1 a0_0 t558 t559 _ ?side1 ?side2 A5.out).mono ?_); (case side1 => repeat (first | exact (Kd.C_below HR1.out HB.out) | (with_reducible refine Kd.C_alloc ?_ _) | (with_reducible refine Kd.C_drewN ?_ _) | (with_reducible refine Kd.C_drew ?_))); (case side2 => exact HC1.out); rintro e w' ⟨rfl, ⟨nd, rfl⟩⟩; refine ⟨_, rfl, ?_⟩))
      go_loopg [9, 29] k (fun kq v9 v29 w' => ∃ (x9_1 : Int) (x29_1 : Int), v9 = .int .i64 x9_1 ∧ v29 = .int .i64 x29_1 ∧ Aside0 (sample_Says.l0 kq x9_1 l1 (l1.length : Int) x29_1 a0_0 a0_1 l0_2 l0_3 = some (r1, r2)) ∧ Aside0 (kq ≤ k) ∧ Aside0 (w'.heap[gb556]? = some (.cells #[.int .i64 a0_0, .int .i64 a0_1, (.slice A0_2 l0_2.length c0_2), (.slice A0_3 l0_3.length c0_3)] 34 (0, 0))) ∧ Aside0 (Below w.heap.size w w'))
      case atStart => exact ⟨(0), (0), (by first | rfl | (simp; done) | (simp [*]; done)), (by first | rfl | (simp; done) | (simp [*]; done)), H', ⟨Nat.le_refl _⟩, ⟨by (with_reducible repeat (first | refine blk_drewN ?_ _ | refine blk_drew ?_ | refine blk_alloc ?_ _)); exact BK556.out⟩, ⟨by repeat (first | (with_reducible first | exact HB.out | apply below_alloc | apply pw_below_drewN | apply below_drew1 | refine below_set ?_ GE556.out) | exact HB.out)⟩⟩
      case round =>
        clear H'
        try clear c1
        try clear c2
        try clear p2
        try clear c3
        try clear c4
        try clear c4b0
        try clear c4b1
        try clear c6
        try clear c6b0
        try clear c6b1
        try clear hcz10_0
        try clear hcz10_1
        try clear hcz10_2
        try clear hcz10_3
        try clear hcz8_0
        try clear hcz8_1
        try clear hcz8_2
        try clear hcz8_3
        try clear hfz10_0
        try clear hfz10_1
        try clear hfz10_2
        try clear hfz10_3
        try clear hfz8_0
        try clear hfz8_1
        try clear hfz8_2
        try clear hfz8_3
        obtain ⟨x9_1, x29_1, rfl, rfl, HA, HK1, BK556, HB⟩ := hrel
        cases gk with
        | zero => exact absurd HA.out (by simp [sample_Says.l0])
        | succ k1 =>
          have H := HA.out
          clear HA
          simp only [sample_Says.l0] at H
          by_cases c11 : x29_1 < (l1.length : Int)
          · rw [if_pos c11] at H
            have c11b0 : decide (x29_1 < (l1.length : Int)) = true := decide_eq_true c11
            clear c11
            by_cases c12 : 0 ≤ x29_1
            · rw [if_pos c12] at H
              have c12b0 : decide (0 ≤ x29_1) = true := decide_eq_true c12
              clear c12
              by_cases c13 : x29_1 < (l1.length : Int)
              · rw [if_pos c13] at H
                have c13b0 : decide (x29_1 < (l1.length : Int)) = true := decide_eq_true c13
                clear c13
                obtain ⟨ji14, hji14⟩ : ∃ j_ : Int, (wrap64 ((wrap64 (x9_1 * a0_0)) + (rd l1 x29_1))) = j_ := ⟨_, rfl⟩
                replace H : (if 0 ≤ (ji14) then (if (ji14) < (l0_2.length : Int) then (if (rd l0_2 (ji14)) < 0 then (some ((-1), 0)) else (sample_Says.l0 k1 (rd l0_2 (ji14)) l1 (l1.length : Int) (wrap64 (x29_1 + 1)) a0_0 a0_1 l0_2 l0_3)) else (none)) else (none)) = some (r1, r2) := by first | (rw [hji14] at H; exact H) | (simp only [hji14] at H ⊢; exact H)
                have hji14w : (IntKind.i64.wrap ((wrap64 (x9_1 * a0_0)) + (rd l1 x29_1))) = ji14 := (i64_w _).trans hji14
                by_cases c15 : 0 ≤ (ji14)
                · rw [if_pos c15] at H
                  have c15b0 : decide (0 ≤ (ji14)) = true := decide_eq_true c15
                  clear c15
                  by_cases c16 : (ji14) < (l0_2.length : Int)
                  · rw [if_pos c16] at H
                    have c16b0 : decide ((ji14) < (l0_2.length : Int)) = true := decide_eq_true c16
                    clear c16
                    by_cases c17 : (rd l0_2 (ji14)) < 0
                    · rw [if_pos c17] at H
                      have c17b0 : decide ((rd l0_2 (ji14)) < 0) = true := decide_eq_true c17
                      clear c17
                      simp only [Option.some.injEq, Prod.mk.injEq] at H
                      obtain ⟨rfl, rfl⟩ := H
                      have p560 : 0 ≤ (x29_1 : Int) := of_decide_eq_true (by first | (with_reducible assumption) | assumption)
                      have q560 : x29_1 < (l1.length : Int) := of_decide_eq_true (by first | (with_reducible assumption) | assumption)
                      obtain ⟨ad560, e560, hx560_0⟩ := Kd.at_int HR1.out x29_1 p560 q560
                      cases e560
                      replace hx560_0 := (HB.out.cell (World.block_lt_of_cell? w _ hx560_0)).trans hx560_0
                      replace p560 := eq_true p560
                      replace q560 := eq_true q560
                      have hcz18_0 : wr.cell? ⟨gb556, 0, none⟩ = some (.int .i64 a0_0) := (blk_cell BK556.out 0).trans rfl
                      have hcz18_1 : wr.cell? ⟨gb556, 1, none⟩ = some (.int .i64 a0_1) := (blk_cell BK556.out 1).trans rfl
                      have hcz18_2 : wr.cell? ⟨gb556, 2, none⟩ = some (.slice A0_2 l0_2.length c0_2) := (blk_cell BK556.out 2).trans rfl
                      have hcz18_3 : wr.cell? ⟨gb556, 3, none⟩ = some (.slice A0_3 l0_3.length c0_3) := (blk_cell BK556.out 3).trans rfl
                      have hfz18_0 := blk_frozen BK556.out 0
                      have hfz18_1 := blk_frozen BK556.out 1
                      have hfz18_2 := blk_frozen BK556.out 2
                      have hfz18_3 := blk_frozen BK556.out 3
                      have p561 : 0 ≤ ((ji14) : Int) := of_decide_eq_true (by first | (with_reducible assumption) | assumption)
                      have q561 : (ji14) < (l0_2.length : Int) := of_decide_eq_true (by first | (with_reducible assumption) | assumption)
                      obtain ⟨ad561, e561, hx561_0⟩ := Kd.at_int HR0_2.out (ji14) p561 q561
                      cases e561
                      replace hx561_0 := (HB.out.cell (World.block_lt_of_cell? w _ hx561_0)).trans hx561_0
                      replace p561 := eq_true p561
                      replace q561 := eq_true q561
                      go_wp2
                      go_ret2
                      exact ⟨by first | rfl | (simp [errW_none, errW_some] <;> rfl) | (simp only [← hji14]; first | rfl | (simp [errW_none, errW_some] <;> rfl)) | (simp [*, errW_none, errW_some] <;> rfl), by repeat (first | (with_reducible first | exact HB.out | apply below_alloc | apply pw_below_drewN | apply below_drew1 | refine below_set ?_ GE556.out) | exact HB.out)⟩
                    · rw [if_neg c17] at H
                      have c17b0 : decide ((rd l0_2 (ji14)) < 0) = false := decide_eq_false c17
                      clear c17
                      have H' := Aside0.mk H
                      clear H
                      have p560 : 0 ≤ (x29_1 : Int) := of_decide_eq_true (by first | (with_reducible assumption) | assumption)
                      have q560 : x29_1 < (l1.length : Int) := of_decide_eq_true (by first | (with_reducible assumption) | assumption)
                      obtain ⟨ad560, e560, hx560_0⟩ := Kd.at_int HR1.out x29_1 p560 q560
                      cases e560
                      replace hx560_0 := (HB.out.cell (World.block_lt_of_cell? w _ hx560_0)).trans hx560_0
                      replace p560 := eq_true p560
                      replace q560 := eq_true q560
                      have hcz19_0 : wr.cell? ⟨gb556, 0, none⟩ = some (.int .i64 a0_0) := (blk_cell BK556.out 0).trans rfl
                      have hcz19_1 : wr.cell? ⟨gb556, 1, none⟩ = some (.int .i64 a0_1) := (blk_cell BK556.out 1).trans rfl
                      have hcz19_2 : wr.cell? ⟨gb556, 2, none⟩ = some (.slice A0_2 l0_2.length c0_2) := (blk_cell BK556.out 2).trans rfl
                      have hcz19_3 : wr.cell? ⟨gb556, 3, none⟩ = some (.slice A0_3 l0_3.length c0_3) := (blk_cell BK556.out 3).trans rfl
                      have hfz19_0 := blk_frozen BK556.out 0
                      have hfz19_1 := blk_frozen BK556.out 1
                      have hfz19_2 := blk_frozen BK556.out 2
                      have hfz19_3 := blk_frozen BK556.out 3
                      have p561 : 0 ≤ ((ji14) : Int) := of_decide_eq_true (by first | (with_reducible assumption) | assumption)
                      have q561 : (ji14) < (l0_2.length : Int) := of_decide_eq_true (by first | (with_reducible assumption) | assumption)
                      obtain ⟨ad561, e561, hx561_0⟩ := Kd.at_int HR0_2.out (ji14) p561 q561
                      cases e561
                      replace hx561_0 := (HB.out.cell (World.block_lt_of_cell? w _ hx561_0)).trans hx561_0
                      replace p561 := eq_true p561
                      replace q561 := eq_true q561
                      go_wp2
                      go_roundg k1
                      case measure => have := HK1.out; omega
                      case rel => exact ⟨(rd l0_2 (ji14)), (wrap64 (x29_1 + 1)), (by first | rfl | (simp; done) | (simp only [← hji14] <;> (first | rfl | simp)) | (simp [*]; done)), (by first | rfl | (simp; done) | (simp [*]; done)), H', ⟨by have := HK1.out; omega⟩, ⟨by (with_reducible repeat (first | refine blk_drewN ?_ _ | refine blk_drew ?_ | refine blk_alloc ?_ _)); exact BK556.out⟩, ⟨by repeat (first | (with_reducible first | exact HB.out | apply below_alloc | apply pw_below_drewN | apply below_drew1 | refine below_set ?_ GE556.out) | exact HB.out)⟩⟩
                  · rw [if_neg c16] at H
                    exact absurd H (by simp)
                · rw [if_neg c15] at H
                  exact absurd H (by simp)
              · rw [if_neg c13] at H
                exact absurd H (by simp)
            · rw [if_neg c12] at H
              exact absurd H (by simp)
          · rw [if_neg c11] at H
            have c11b0 : decide (x29_1 < (l1.length : Int)) = false := decide_eq_false c11
            clear c11
            by_cases c20 : 0 ≤ x9_1
            · rw [if_pos c20] at H
              have c20b0 : decide (0 ≤ x9_1) = true := decide_eq_true c20
              clear c20
              by_cases c21 : x9_1 < (l0_3.length : Int)
              · rw [if_pos c21] at H
                have c21b0 : decide (x9_1 < (l0_3.length : Int)) = true := decide_eq_true c21
                clear c21
                simp only [Option.some.injEq, Prod.mk.injEq] at H
                obtain ⟨rfl, rfl⟩ := H
                have hcz22_0 : wr.cell? ⟨gb556, 0, none⟩ = some (.int .i64 a0_0) := (blk_cell BK556.out 0).trans rfl
                have hcz22_1 : wr.cell? ⟨gb556, 1, none⟩ = some (.int .i64 a0_1) := (blk_cell BK556.out 1).trans rfl
                have hcz22_2 : wr.cell? ⟨gb556, 2, none⟩ = some (.slice A0_2 l0_2.length c0_2) := (blk_cell BK556.out 2).trans rfl
                have hcz22_3 : wr.cell? ⟨gb556, 3, none⟩ = some (.slice A0_3 l0_3.length c0_3) := (blk_cell BK556.out 3).trans rfl
                have hfz22_0 := blk_frozen BK556.out 0
                have hfz22_1 := blk_frozen BK556.out 1
                have hfz22_2 := blk_frozen BK556.out 2
                have hfz22_3 := blk_frozen BK556.out 3
                have p562 : 0 ≤ (x9_1 : Int) := of_decide_eq_true (by first | (with_reducible assumption) | assumption)
                have q562 : x9_1 < (l0_3.length : Int) := of_decide_eq_true (by first | (with_reducible assumption) | assumption)
                obtain ⟨ad562, e562, hx562_0⟩ := Kd.at_int HR0_3.out x9_1 p562 q562
                cases e562
                replace hx562_0 := (HB.out.cell (World.block_lt_of_cell? w _ hx562_0)).trans hx562_0
                replace p562 := eq_true p562
                replace q562 := eq_true q562
                go_wp2
                go_ret2
                exact ⟨by first | rfl | (simp [errW_none, errW_some] <;> rfl) | (simp [*, errW_none, errW_some] <;> rfl), by repeat (first | (with_reducible first | exact HB.out | apply below_alloc | apply pw_below_drewN | apply below_drew1 | refine below_set ?_ GE556.out) | exact HB.out)⟩
              · rw [if_neg c21] at H
                exact absurd H (by simp)
            · rw [if_neg c20] at H
              exact absurd H (by simp)
    · rw [if_neg c6] at H
      have c6b0 : (t559 == 0) = false := beq_eq_false_iff_ne.mpr c6
      have c6b1 : (t559 != 0) = true := bne_iff_ne.mpr c6
      simp only [Option.some.injEq, Prod.mk.injEq] at H
      obtain ⟨rfl, rfl⟩ := H
      go_enter Try.func28, Try.ntmps28
      go_wp2_with (first | ((with_reducible refine gate_dst (N := 2) rfl ?_); refine box_event ?hg (N := 2) ?hd (cs := #[.int .i64 a0_0, .int .i64 a0_1, .slice A0_2 l0_2.length c0_2, .slice A0_3 l0_3.length c0_3]) (t := 34) ?hr ?_; (case hd => rfl); (case hg => rfl); (case hr => first | (go_simp; done) | (go_simp; rfl)); intro gb556 hg w23 hbox hb; have n0_ := Aside0.mk (below_step (by repeat (first | (with_reducible first | exact HB.out | apply below_alloc | apply pw_below_drewN | apply below_drew1) | exact HB.out)) hb); have n1_ := Aside0.mk (hbox); have n2_ := Aside0.mk ((by rw [hg]; exact (below_size (by repeat (first | (with_reducible first | exact HB.out | apply below_alloc | apply pw_below_drewN | apply below_drew1) | exact HB.out))) : w.heap.size ≤ gb556)); have n3_ := Aside0.mk ((by rw [hg]; exact (below_size (by repeat (first | (with_reducible first | exact HB.out | apply below_alloc | apply pw_below_drewN | apply below_drew1) | exact HB.out))) : w.heap.size ≤ gb556)); clear HB; have HB := n0_; have BK556 := n1_; have GW556 := n2_; have GE556 := n3_; clear n0_ n1_ n2_ n3_; clear hb hbox hg; have hcz24_0 : w23.cell? ⟨gb556, 0, none⟩ = some (.int .i64 a0_0) := (blk_cell BK556.out 0).trans rfl; have hcz24_1 : w23.cell? ⟨gb556, 1, none⟩ = some (.int .i64 a0_1) := (blk_cell BK556.out 1).trans rfl; have hcz24_2 : w23.cell? ⟨gb556, 2, none⟩ = some (.slice A0_2 l0_2.length c0_2) := (blk_cell BK556.out 2).trans rfl; have hcz24_3 : w23.cell? ⟨gb556, 3, none⟩ = some (.slice A0_3 l0_3.length c0_3) := (blk_cell BK556.out 3).trans rfl; have hfz24_0 := blk_frozen BK556.out 0; have hfz24_1 := blk_frozen BK556.out 1; have hfz24_2 := blk_frozen BK556.out 2; have hfz24_3 := blk_frozen BK556.out 3) | ((with_reducible refine gate_callee (f := 44) rfl ?_); refine goesL_ (some 13) rfl rfl Try.func44 (by kernel_rfl) rfl #[.agg #[.int .i64 a0_0, .int .i64 a0_1, .slice A0_2 l0_2.length c0_2, .slice A0_3 l0_3.length c0_3]] rfl (by (try simp only [List.map_toArray, List.map_cons, List.map_nil]); first | done | rfl | (simp only [List.length_drop, List.length_take]; rfl)) ?_; (with_reducible refine (sample_right.calls a0_0 a0_1 _ _ l0_2 _ _ l0_3 t557 _ ?side1 ?side2 ?side3 ?side4 A3.out).mono ?_); (case side1 => repeat (first | exact (Kd.C_below HR0_2.out HB.out) | (with_reducible refine Kd.C_alloc ?_ _) | (with_reducible refine Kd.C_drewN ?_ _) | (with_reducible refine Kd.C_drew ?_))); (case side2 => exact HC0_2.out); (case side3 => repeat (first | exact (Kd.C_below HR0_3.out HB.out) | (with_reducible refine Kd.C_alloc ?_ _) | (with_reducible refine Kd.C_drewN ?_ _) | (with_reducible refine Kd.C_drew ?_))); (case side4 => exact HC0_3.out); rintro e w25 ⟨rfl, hb⟩; refine ⟨_, rfl, ?_⟩; have n0_ := Aside0.mk (blk_below (g := gb556) (o := .cells #[.int .i64 a0_0, .int .i64 a0_1, .slice A0_2 l0_2.length c0_2, .slice A0_3 l0_3.length c0_3] 34 (0, 0)) (by (with_reducible repeat (first | refine blk_drewN ?_ _ | refine blk_drew ?_ | refine blk_alloc ?_ _)); exact BK556.out) hb); have n1_ := Aside0.mk (below_step (by repeat (first | (with_reducible first | exact HB.out | apply below_alloc | apply pw_below_drewN | apply below_drew1 | refine below_set ?_ GE556.out) | exact HB.out)) hb); clear BK556; clear HB; have BK556 := n0_; have HB := n1_; clear n0_ n1_; (try clear hb); (try clear hb2); (try clear hk); (try clear hi); have hcz26_0 : w25.cell? ⟨gb556, 0, none⟩ = some (.int .i64 a0_0) := (blk_cell BK556.out 0).trans rfl; have hcz26_1 : w25.cell? ⟨gb556, 1, none⟩ = some (.int .i64 a0_1) := (blk_cell BK556.out 1).trans rfl; have hcz26_2 : w25.cell? ⟨gb556, 2, none⟩ = some (.slice A0_2 l0_2.length c0_2) := (blk_cell BK556.out 2).trans rfl; have hcz26_3 : w25.cell? ⟨gb556, 3, none⟩ = some (.slice A0_3 l0_3.length c0_3) := (blk_cell BK556.out 3).trans rfl; have hfz26_0 := blk_frozen BK556.out 0; have hfz26_1 := blk_frozen BK556.out 1; have hfz26_2 := blk_frozen BK556.out 2; have hfz26_3 := blk_frozen BK556.out 3) | ((with_reducible refine gate_callee (f := 35) rfl ?_); refine goesL_ (some 21) rfl rfl Try.func35 (by kernel_rfl) rfl #[.slice A1 l1.length c1, .int .i64 a0_0] rfl (by (try simp only [List.map_toArray, List.map_cons, List.map_nil]); first | done | rfl | (simp only [List.length_drop, List.length_take]; rfl)) ?_; (with_reducible refine (word_Check.calls k _ _ l1 a0_0 t558 t559 _ ?side1 ?side2 A5.out).mono ?_); (case side1 => repeat (first | exact (Kd.C_below HR1.out HB.out) | (with_reducible refine Kd.C_alloc ?_ _) | (with_reducible refine Kd.C_drewN ?_ _) | (with_reducible refine Kd.C_drew ?_))); (case side2 => exact HC1.out); rintro e w' ⟨rfl, ⟨nd, rfl⟩⟩; refine ⟨_, rfl, ?_⟩))
      go_ret2
      exact ⟨by first | rfl | (simp [errW_none, errW_some] <;> rfl) | (simp [*, errW_none, errW_some] <;> rfl), by repeat (first | (with_reducible first | exact HB.out | apply below_alloc | apply pw_below_drewN | apply below_drew1 | refine below_set ?_ GE556.out) | exact HB.out)⟩
  · rw [if_neg c4] at H
    have c4b0 : (t557 == 0) = false := beq_eq_false_iff_ne.mpr c4
    have c4b1 : (t557 != 0) = true := bne_iff_ne.mpr c4
    simp only [Option.some.injEq, Prod.mk.injEq] at H
    obtain ⟨rfl, rfl⟩ := H
    go_enter Try.func28, Try.ntmps28
    go_wp2_with (first | ((with_reducible refine gate_dst (N := 2) rfl ?_); refine box_event ?hg (N := 2) ?hd (cs := #[.int .i64 a0_0, .int .i64 a0_1, .slice A0_2 l0_2.length c0_2, .slice A0_3 l0_3.length c0_3]) (t := 34) ?hr ?_; (case hd => rfl); (case hg => rfl); (case hr => first | (go_simp; done) | (go_simp; rfl)); intro gb556 hg w27 hbox hb; have n0_ := Aside0.mk (below_step (by repeat (first | (with_reducible first | exact HB.out | apply below_alloc | apply pw_below_drewN | apply below_drew1) | exact HB.out)) hb); have n1_ := Aside0.mk (hbox); have n2_ := Aside0.mk ((by rw [hg]; exact (below_size (by repeat (first | (with_reducible first | exact HB.out | apply below_alloc | apply pw_below_drewN | apply below_drew1) | exact HB.out))) : w.heap.size ≤ gb556)); have n3_ := Aside0.mk ((by rw [hg]; exact (below_size (by repeat (first | (with_reducible first | exact HB.out | apply below_alloc | apply pw_below_drewN | apply below_drew1) | exact HB.out))) : w.heap.size ≤ gb556)); clear HB; have HB := n0_; have BK556 := n1_; have GW556 := n2_; have GE556 := n3_; clear n0_ n1_ n2_ n3_; clear hb hbox hg; have hcz28_0 : w27.cell? ⟨gb556, 0, none⟩ = some (.int .i64 a0_0) := (blk_cell BK556.out 0).trans rfl; have hcz28_1 : w27.cell? ⟨gb556, 1, none⟩ = some (.int .i64 a0_1) := (blk_cell BK556.out 1).trans rfl; have hcz28_2 : w27.cell? ⟨gb556, 2, none⟩ = some (.slice A0_2 l0_2.length c0_2) := (blk_cell BK556.out 2).trans rfl; have hcz28_3 : w27.cell? ⟨gb556, 3, none⟩ = some (.slice A0_3 l0_3.length c0_3) := (blk_cell BK556.out 3).trans rfl; have hfz28_0 := blk_frozen BK556.out 0; have hfz28_1 := blk_frozen BK556.out 1; have hfz28_2 := blk_frozen BK556.out 2; have hfz28_3 := blk_frozen BK556.out 3) | ((with_reducible refine gate_callee (f := 44) rfl ?_); refine goesL_ (some 13) rfl rfl Try.func44 (by kernel_rfl) rfl #[.agg #[.int .i64 a0_0, .int .i64 a0_1, .slice A0_2 l0_2.length c0_2, .slice A0_3 l0_3.length c0_3]] rfl (by (try simp only [List.map_toArray, List.map_cons, List.map_nil]); first | done | rfl | (simp only [List.length_drop, List.length_take]; rfl)) ?_; (with_reducible refine (sample_right.calls a0_0 a0_1 _ _ l0_2 _ _ l0_3 t557 _ ?side1 ?side2 ?side3 ?side4 A3.out).mono ?_); (case side1 => repeat (first | exact (Kd.C_below HR0_2.out HB.out) | (with_reducible refine Kd.C_alloc ?_ _) | (with_reducible refine Kd.C_drewN ?_ _) | (with_reducible refine Kd.C_drew ?_))); (case side2 => exact HC0_2.out); (case side3 => repeat (first | exact (Kd.C_below HR0_3.out HB.out) | (with_reducible refine Kd.C_alloc ?_ _) | (with_reducible refine Kd.C_drewN ?_ _) | (with_reducible refine Kd.C_drew ?_))); (case side4 => exact HC0_3.out); rintro e w29 ⟨rfl, hb⟩; refine ⟨_, rfl, ?_⟩; have n0_ := Aside0.mk (blk_below (g := gb556) (o := .cells #[.int .i64 a0_0, .int .i64 a0_1, .slice A0_2 l0_2.length c0_2, .slice A0_3 l0_3.length c0_3] 34 (0, 0)) (by (with_reducible repeat (first | refine blk_drewN ?_ _ | refine blk_drew ?_ | refine blk_alloc ?_ _)); exact BK556.out) hb); have n1_ := Aside0.mk (below_step (by repeat (first | (with_reducible first | exact HB.out | apply below_alloc | apply pw_below_drewN | apply below_drew1 | refine below_set ?_ GE556.out) | exact HB.out)) hb); clear BK556; clear HB; have BK556 := n0_; have HB := n1_; clear n0_ n1_; (try clear hb); (try clear hb2); (try clear hk); (try clear hi)))
    go_ret2
    exact ⟨by first | rfl | (simp [errW_none, errW_some] <;> rfl) | (simp [*, errW_none, errW_some] <;> rfl), by repeat (first | (with_reducible first | exact HB.out | apply below_alloc | apply pw_below_drewN | apply below_drew1 | refine below_set ?_ GE556.out) | exact HB.out)⟩
end Go.Proofs.Ytocejofjmmoeaaa.X
end
