/- Texts of the statement SampleChecks, one behind the other: Go functions as Lean functions, the machine's calls, the plain law. -/
import Derived.Test.YtocejofjmmoeaaaMSampleChecks4
import Derived.Test.YtocejofjmmoeaaaMSampleChecks6
import Derived.Test.YtocejofjmmoeaaaMSampleChecks14
set_option linter.unusedVariables false
set_option linter.unusedSimpArgs false
section
namespace Go.Proofs.Ytocejofjmmoeaaa.X
open Go.RowKit Go.Proofs.YtocejofjmmoeaaaW.PrintWords Go.Proofs.YtocejofjmmoeaaaW.PrintLast Go.Proofs.YtocejofjmmoeaaaW.PrintMore
open Go.Proofs.Ytocejofjmmoeaaa Go.Proofs.Ytocejofjmmoeaaa.Sp
def outB (M x : Int) : Bool := decide (x < -1) || decide (x > M)
theorem out1_calls (M x : Int) (C : Nat) (w : World) (hc : w.cell? ⟨C, 0, none⟩ = some (.int .i64 M)) : Calls Try.prog 64 #[.int .i64 x, .pointer (some ⟨C, 0, none⟩)] w fun e w' => e = .returned (.bool (outB M x)) ∧ Drawn0 w w' := by
  unfold outB
  by_cases h0 : x < -1
  · rw [decide_eq_true h0, Bool.true_or]
    go_enter Try.func64, Try.ntmps64
    go_wp2
    go_ret
    exact ⟨rfl, Drawn0.refl _⟩
  · rw [decide_eq_false h0, Bool.false_or]
    by_cases h1 : x > M
    · rw [decide_eq_true h1]
      go_enter Try.func64, Try.ntmps64
      go_wp2
      go_ret
      exact ⟨rfl, Drawn0.refl _⟩
    · rw [decide_eq_false h1]
      go_enter Try.func64, Try.ntmps64
      go_wp2
      go_ret
      exact ⟨rfl, Drawn0.refl _⟩
theorem out1_pred (M : Int) (C : Nat) (w : World) (hC : C < w.heap.size) (hc : w.cell? ⟨C, 0, none⟩ = some (.int .i64 M)) : PredAt 64 #[.pointer (some ⟨C, 0, none⟩)] (outB M) w := fun x W hb =>
  out1_calls M x C W ((hb.cell (p := ⟨C, 0, none⟩) hC).trans hc)
theorem enters64 : ∀ args W, (callFunc 64 args).run Try.prog W = .ok (.enter 64 args) W := fun args W => enters_ Try.func64 (by kernel_rfl) rfl args W
theorem Contains_calls (M : Int) (C : Nat) (A : Option Addr) (c : Nat) (l : List Int) (w : World) (hr : Kd.C (Kd.int .i64) w A l.length l) (hC : C < w.heap.size) (hc : w.cell? ⟨C, 0, none⟩ = some (.int .i64 M)) :
    Calls Try.prog 63 #[.slice A l.length c, .func (.func 64) #[] #[.pointer (some ⟨C, 0, none⟩)]] w fun e w' => e = .returned (.bool (l.any (outB M))) ∧ Below w.heap.size w w' := by
  have hix := IndexFunc_calls 64 #[.pointer (some ⟨C, 0, none⟩)] (outB M) A c l w hr enters64 (out1_pred M C w hC hc)
  have hb : decide (idxBy (outB M) l ≥ 0) = l.any (outB M) := by
    unfold idxBy
    cases h : l.findIdx? (outB M) with
    | none =>
      rw [List.findIdx?_eq_none_iff] at h
      rw [List.any_eq_false.2 (fun x hx => by rw [h x hx]; simp)]
      rfl
    | some i =>
      rw [List.findIdx?_eq_some_iff_getElem] at h
      obtain ⟨hi, h1, _⟩ := h
      rw [List.any_eq_true.2 ⟨l[i], List.getElem_mem hi, h1⟩]
      exact decide_eq_true (show (i : Int) ≥ 0 by omega)
  rw [← hb]
  generalize idxBy (outB M) l = z at hix
  clear hb hr hc
  go_enter Try.func63, Try.ntmps63
  go_wp2_with (go_at_call 85; refine hix.mono ?_; rintro e w' ⟨rfl, hd⟩; have HB := Aside0.mk hd.below; clear hd)
  go_ret
  exact ⟨rfl, HB.out⟩
set_option maxHeartbeats 16000000 in
set_option maxRecDepth 100000 in
theorem Between_calls (M : Int) (A : Option Addr) (c : Nat) (l : List Int) (w : World) (hr : Kd.C (Kd.int .i64) w A l.length l) :
    Calls Try.prog 62 #[.slice A l.length c, .int .i64 M] w fun e w' => e = .returned (.bool (!(l.any (outB M)))) ∧ Below w.heap.size w w' := by
  have hC := Contains_calls M w.heap.size A c l (w.alloc (.cells #[.int .i64 M] 3)) (Kd.C_below hr (below_alloc (Below.refl _ _) _)) (by simp) ((blk_cell (blk_new w (.cells #[.int .i64 M] 3)) 0).trans rfl)
  generalize l.any (outB M) = b at hC ⊢
  have HC := Aside0.mk hC
  clear hC hr
  go_enter Try.func62, Try.ntmps62
  go_wp2_with (go_at_call 63; refine HC.out.mono ?_; rintro e w' ⟨rfl, hb⟩; have HB := Aside0.mk (below_step (below_alloc (Below.refl w.heap.size w) (.cells #[.int .i64 M] 3)) hb); clear hb)
  go_ret
  exact ⟨rfl, HB.out⟩
/-- What is wrong with a partial acceptor. -/
def rightF (K N : Int) (nx out : List Int) : Int := if K < 1 ∨ K > 64 then 1 else if N < 1 ∨ N > 65536 then 3 else if (nx.length : Int) ≠ N * K ∨ (out.length : Int) ≠ N then 31 else if nx.any (outB (N - 1)) = true then 32 else if out.any (outB 1) = true then 33 else 0
def RightPost (x : Int) (w : World) : Ending → World → Prop := fun e w' => e = .returned (.int .i64 x) ∧ Below w.heap.size w w'
set_option maxHeartbeats 16000000 in
set_option maxRecDepth 100000 in
theorem Right_k1 (K N : Int) (A2 : Option Addr) (c2 : Nat) (nx : List Int) (A3 : Option Addr) (c3 : Nat) (out : List Int) (w : World) (h : K < 1) : Calls Try.prog 44 #[.agg #[.int .i64 K, .int .i64 N, .slice A2 nx.length c2, .slice A3 out.length c3]] w (RightPost 1 w) := by
  have hu34 := Try.underlying34
  go_enter Try.func44, Try.ntmps44
  go_wp2
  go_ret
  exact ⟨rfl, below_alloc (Below.refl _ _) _⟩
set_option maxHeartbeats 16000000 in
set_option maxRecDepth 100000 in
theorem Right_k2 (K N : Int) (A2 : Option Addr) (c2 : Nat) (nx : List Int) (A3 : Option Addr) (c3 : Nat) (out : List Int) (w : World) (h0 : ¬ K < 1) (h : K > 64) : Calls Try.prog 44 #[.agg #[.int .i64 K, .int .i64 N, .slice A2 nx.length c2, .slice A3 out.length c3]] w (RightPost 1 w) := by
  have hu34 := Try.underlying34
  go_enter Try.func44, Try.ntmps44
  go_wp2
  go_ret
  exact ⟨rfl, below_alloc (Below.refl _ _) _⟩
set_option maxHeartbeats 16000000 in
set_option maxRecDepth 100000 in
theorem Right_n1 (K N : Int) (A2 : Option Addr) (c2 : Nat) (nx : List Int) (A3 : Option Addr) (c3 : Nat) (out : List Int) (w : World) (h0 : ¬ K < 1) (h1 : ¬ K > 64) (h : N < 1) : Calls Try.prog 44 #[.agg #[.int .i64 K, .int .i64 N, .slice A2 nx.length c2, .slice A3 out.length c3]] w (RightPost 3 w) := by
  have hu34 := Try.underlying34
  go_enter Try.func44, Try.ntmps44
  go_wp2
  go_ret
  exact ⟨rfl, below_alloc (Below.refl _ _) _⟩
set_option maxHeartbeats 16000000 in
set_option maxRecDepth 100000 in
theorem Right_n2 (K N : Int) (A2 : Option Addr) (c2 : Nat) (nx : List Int) (A3 : Option Addr) (c3 : Nat) (out : List Int) (w : World) (h0 : ¬ K < 1) (h1 : ¬ K > 64) (h2 : ¬ N < 1) (h : N > 65536) : Calls Try.prog 44 #[.agg #[.int .i64 K, .int .i64 N, .slice A2 nx.length c2, .slice A3 out.length c3]] w (RightPost 3 w) := by
  have hu34 := Try.underlying34
  go_enter Try.func44, Try.ntmps44
  go_wp2
  go_ret
  exact ⟨rfl, below_alloc (Below.refl _ _) _⟩
set_option maxHeartbeats 16000000 in
set_option maxRecDepth 100000 in
theorem Right_s1 (K N : Int) (A2 : Option Addr) (c2 : Nat) (nx : List Int) (A3 : Option Addr) (c3 : Nat) (out : List Int) (w : World) (h0 : ¬ K < 1) (h1 : ¬ K > 64) (h2 : ¬ N < 1) (h3 : ¬ N > 65536) (hm : wrap64 (N * K) = N * K) (h : (nx.length : Int) ≠ N * K) : Calls Try.prog 44 #[.agg #[.int .i64 K, .int .i64 N, .slice A2 nx.length c2, .slice A3 out.length c3]] w (RightPost 31 w) := by
  have hu34 := Try.underlying34
  have hb : ((nx.length : Int) != N * K) = true := by simpa using h
  clear h
  go_enter Try.func44, Try.ntmps44
  go_wp2
  go_ret
  exact ⟨rfl, below_alloc (Below.refl _ _) _⟩
set_option maxHeartbeats 16000000 in
set_option maxRecDepth 100000 in
theorem Right_s2 (K N : Int) (A2 : Option Addr) (c2 : Nat) (nx : List Int) (A3 : Option Addr) (c3 : Nat) (out : List Int) (w : World) (h0 : ¬ K < 1) (h1 : ¬ K > 64) (h2 : ¬ N < 1) (h3 : ¬ N > 65536) (hm : wrap64 (N * K) = N * K) (h4 : (nx.length : Int) = N * K) (h : (out.length : Int) ≠ N) : Calls Try.prog 44 #[.agg #[.int .i64 K, .int .i64 N, .slice A2 nx.length c2, .slice A3 out.length c3]] w (RightPost 31 w) := by
  have hu34 := Try.underlying34
  have hb4 : ((nx.length : Int) != N * K) = false := by rw [h4]; simp
  have hb : ((out.length : Int) != N) = true := by simpa using h
  clear h h4
  go_enter Try.func44, Try.ntmps44
  go_wp2
  go_ret
  exact ⟨rfl, below_alloc (Below.refl _ _) _⟩
set_option maxHeartbeats 16000000 in
set_option maxRecDepth 100000 in
theorem Right_t1 (K N : Int) (A2 : Option Addr) (c2 : Nat) (nx : List Int) (A3 : Option Addr) (c3 : Nat) (out : List Int) (w : World) (h0 : ¬ K < 1) (h1 : ¬ K > 64) (h2 : ¬ N < 1) (h3 : ¬ N > 65536) (hm : wrap64 (N * K) = N * K) (h4 : (nx.length : Int) = N * K) (h5 : (out.length : Int) = N) (hr2 : Kd.C (Kd.int .i64) w A2 nx.length nx) (hr3 : Kd.C (Kd.int .i64) w A3 out.length out) (h : nx.any (outB (N - 1)) = true) : Calls Try.prog 44 #[.agg #[.int .i64 K, .int .i64 N, .slice A2 nx.length c2, .slice A3 out.length c3]] w (RightPost 32 w) := by
  have hu34 := Try.underlying34
  have hb4 : ((nx.length : Int) != N * K) = false := by rw [h4]; simp
  have hb5 : ((out.length : Int) != N) = false := by rw [h5]; simp
  have hw : wrap64 (N - 1) = N - 1 := by unfold wrap64; omega
  have HR2 := Aside0.mk hr2
  have HR3 := Aside0.mk hr3
  clear h4 h5 hr2 hr3
  have HX := Aside0.mk h
  clear h
  go_enter Try.func44, Try.ntmps44
  go_wp2_with (first
  | (go_at_call 62; refine (Between_calls (N - 1) A2 c2 nx _ (Kd.C_below HR2.out (below_alloc (Below.refl _ _) _))).mono ?_
     rw [HX.out]
     rintro e w1 ⟨rfl, hb⟩
     have HB1 := Aside0.mk (below_step (below_alloc (Below.refl w.heap.size w) (.cells #[.int .i64 K, .int .i64 N, .slice A2 nx.length c2, .slice A3 out.length c3] 34)) hb)
     have hx3 : w1.cell? ⟨w.heap.size, 3, none⟩ = some (.slice A3 out.length c3) := (hb.cell (p := ⟨w.heap.size, 3, none⟩) (by simp)).trans ((blk_cell (blk_new w (.cells #[.int .i64 K, .int .i64 N, .slice A2 nx.length c2, .slice A3 out.length c3] 34)) 3).trans rfl)
     clear hb))
  go_ret
  exact ⟨rfl, HB1.out⟩
set_option maxHeartbeats 16000000 in
set_option maxRecDepth 100000 in
theorem Right_t2 (K N : Int) (A2 : Option Addr) (c2 : Nat) (nx : List Int) (A3 : Option Addr) (c3 : Nat) (out : List Int) (w : World) (h0 : ¬ K < 1) (h1 : ¬ K > 64) (h2 : ¬ N < 1) (h3 : ¬ N > 65536) (hm : wrap64 (N * K) = N * K) (h4 : (nx.length : Int) = N * K) (h5 : (out.length : Int) = N) (hr2 : Kd.C (Kd.int .i64) w A2 nx.length nx) (hr3 : Kd.C (Kd.int .i64) w A3 out.length out) (h6 : nx.any (outB (N - 1)) = false) (h : out.any (outB 1) = true) : Calls Try.prog 44 #[.agg #[.int .i64 K, .int .i64 N, .slice A2 nx.length c2, .slice A3 out.length c3]] w (RightPost 33 w) := by
  have hu34 := Try.underlying34
  have H6 := Aside0.mk h6
  clear h6
  have hb4 : ((nx.length : Int) != N * K) = false := by rw [h4]; simp
  have hb5 : ((out.length : Int) != N) = false := by rw [h5]; simp
  have hw : wrap64 (N - 1) = N - 1 := by unfold wrap64; omega
  have HR2 := Aside0.mk hr2
  have HR3 := Aside0.mk hr3
  clear h4 h5 hr2 hr3
  have HX := Aside0.mk h
  clear h
  go_enter Try.func44, Try.ntmps44
  go_wp2_with (first
  | (go_at_call 62; refine (Between_calls 1 A3 c3 out w1 (Kd.C_below HR3.out HB1.out)).mono ?_
     rw [HX.out]
     rintro e w2 ⟨rfl, hb⟩
     have HB2 := Aside0.mk (below_step HB1.out hb)
     clear hb)
  | (go_at_call 62; refine (Between_calls (N - 1) A2 c2 nx _ (Kd.C_below HR2.out (below_alloc (Below.refl _ _) _))).mono ?_
     rw [H6.out]
     rintro e w1 ⟨rfl, hb⟩
     have HB1 := Aside0.mk (below_step (below_alloc (Below.refl w.heap.size w) (.cells #[.int .i64 K, .int .i64 N, .slice A2 nx.length c2, .slice A3 out.length c3] 34)) hb)
     have hx3 : w1.cell? ⟨w.heap.size, 3, none⟩ = some (.slice A3 out.length c3) := (hb.cell (p := ⟨w.heap.size, 3, none⟩) (by simp)).trans ((blk_cell (blk_new w (.cells #[.int .i64 K, .int .i64 N, .slice A2 nx.length c2, .slice A3 out.length c3] 34)) 3).trans rfl)
     clear hb))
  go_ret
  exact ⟨rfl, HB2.out⟩
set_option maxHeartbeats 16000000 in
set_option maxRecDepth 100000 in
theorem Right_ok (K N : Int) (A2 : Option Addr) (c2 : Nat) (nx : List Int) (A3 : Option Addr) (c3 : Nat) (out : List Int) (w : World) (h0 : ¬ K < 1) (h1 : ¬ K > 64) (h2 : ¬ N < 1) (h3 : ¬ N > 65536) (hm : wrap64 (N * K) = N * K) (h4 : (nx.length : Int) = N * K) (h5 : (out.length : Int) = N) (hr2 : Kd.C (Kd.int .i64) w A2 nx.length nx) (hr3 : Kd.C (Kd.int .i64) w A3 out.length out) (h6 : nx.any (outB (N - 1)) = false) (h : out.any (outB 1) = false) : Calls Try.prog 44 #[.agg #[.int .i64 K, .int .i64 N, .slice A2 nx.length c2, .slice A3 out.length c3]] w (RightPost 0 w) := by
  have hu34 := Try.underlying34
  have H6 := Aside0.mk h6
  clear h6
  have hb4 : ((nx.length : Int) != N * K) = false := by rw [h4]; simp
  have hb5 : ((out.length : Int) != N) = false := by rw [h5]; simp
  have hw : wrap64 (N - 1) = N - 1 := by unfold wrap64; omega
  have HR2 := Aside0.mk hr2
  have HR3 := Aside0.mk hr3
  clear h4 h5 hr2 hr3
  have HX := Aside0.mk h
  clear h
  go_enter Try.func44, Try.ntmps44
  go_wp2_with (first
  | (go_at_call 62; refine (Between_calls 1 A3 c3 out w1 (Kd.C_below HR3.out HB1.out)).mono ?_
     rw [HX.out]
     rintro e w2 ⟨rfl, hb⟩
     have HB2 := Aside0.mk (below_step HB1.out hb)
     clear hb)
  | (go_at_call 62; refine (Between_calls (N - 1) A2 c2 nx _ (Kd.C_below HR2.out (below_alloc (Below.refl _ _) _))).mono ?_
     rw [H6.out]
     rintro e w1 ⟨rfl, hb⟩
     have HB1 := Aside0.mk (below_step (below_alloc (Below.refl w.heap.size w) (.cells #[.int .i64 K, .int .i64 N, .slice A2 nx.length c2, .slice A3 out.length c3] 34)) hb)
     have hx3 : w1.cell? ⟨w.heap.size, 3, none⟩ = some (.slice A3 out.length c3) := (hb.cell (p := ⟨w.heap.size, 3, none⟩) (by simp)).trans ((blk_cell (blk_new w (.cells #[.int .i64 K, .int .i64 N, .slice A2 nx.length c2, .slice A3 out.length c3] 34)) 3).trans rfl)
     clear hb))
  go_ret
  exact ⟨rfl, HB2.out⟩
theorem Right_walk (K N : Int) (A2 : Option Addr) (c2 : Nat) (nx : List Int) (A3 : Option Addr) (c3 : Nat) (out : List Int) (w : World) (hr2 : Kd.C (Kd.int .i64) w A2 nx.length nx) (hr3 : Kd.C (Kd.int .i64) w A3 out.length out) : Calls Try.prog 44 #[.agg #[.int .i64 K, .int .i64 N, .slice A2 nx.length c2, .slice A3 out.length c3]] w (RightPost (rightF K N nx out) w) := by
  unfold rightF
  by_cases h1 : K < 1 ∨ K > 64
  · rw [if_pos h1]
    by_cases h2 : K < 1
    · exact Right_k1 K N A2 c2 nx A3 c3 out w h2
    · exact Right_k2 K N A2 c2 nx A3 c3 out w h2 (by omega)
  · rw [if_neg h1]
    by_cases h2 : N < 1 ∨ N > 65536
    · rw [if_pos h2]
      by_cases h3 : N < 1
      · exact Right_n1 K N A2 c2 nx A3 c3 out w (by omega) (by omega) h3
      · exact Right_n2 K N A2 c2 nx A3 c3 out w (by omega) (by omega) h3 (by omega)
    · rw [if_neg h2]
      have hm : wrap64 (N * K) = N * K := by
        obtain ⟨n, rfl⟩ : ∃ n : Nat, N = (n : Int) := ⟨N.toNat, by omega⟩
        obtain ⟨k, rfl⟩ : ∃ k : Nat, K = (k : Int) := ⟨K.toNat, by omega⟩
        have h3 : n * k ≤ 65536 * 64 := Nat.mul_le_mul (by omega) (by omega)
        rw [← Int.natCast_mul]
        unfold wrap64
        omega
      by_cases h3 : (nx.length : Int) ≠ N * K ∨ (out.length : Int) ≠ N
      · rw [if_pos h3]
        by_cases h4 : (nx.length : Int) ≠ N * K
        · exact Right_s1 K N A2 c2 nx A3 c3 out w (by omega) (by omega) (by omega) (by omega) hm h4
        · exact Right_s2 K N A2 c2 nx A3 c3 out w (by omega) (by omega) (by omega) (by omega) hm (Classical.not_not.1 h4) (h3.resolve_left h4)
      · rw [if_neg h3]
        have h4 : (nx.length : Int) = N * K := Classical.not_not.1 (fun h => h3 (.inl h))
        have h5 : (out.length : Int) = N := Classical.not_not.1 (fun h => h3 (.inr h))
        cases h6 : nx.any (outB (N - 1)) with
        | true => rw [if_pos rfl]; exact Right_t1 K N A2 c2 nx A3 c3 out w (by omega) (by omega) (by omega) (by omega) hm h4 h5 hr2 hr3 h6
        | false =>
          rw [if_neg (by decide)]
          cases h7 : out.any (outB 1) with
          | true => rw [if_pos rfl]; exact Right_t2 K N A2 c2 nx A3 c3 out w (by omega) (by omega) (by omega) (by omega) hm h4 h5 hr2 hr3 h6 h7
          | false => rw [if_neg (by decide)]; exact Right_ok K N A2 c2 nx A3 c3 out w (by omega) (by omega) (by omega) (by omega) hm h4 h5 hr2 hr3 h6 h7
end Go.Proofs.Ytocejofjmmoeaaa.X
end

section
namespace Go.Proofs.Ytocejofjmmoeaaa.X
open Go.RowKit Go.Proofs.YtocejofjmmoeaaaW.PrintWords Go.Proofs.YtocejofjmmoeaaaW.PrintLast Go.Proofs.YtocejofjmmoeaaaW.PrintMore
open Go.Proofs.Ytocejofjmmoeaaa Go.Proofs.Ytocejofjmmoeaaa.Sp
theorem wcheck_l0 (K : Nat) (l : List Int) (hl : l.length ≤ 4096) : ∀ (d k i : Nat), i + d = l.length → d < k → ∃ p : Int, tutorref01_Check.l0 k l (K : Int) (i : Int) = some (p, if ∃ x ∈ l.drop i, x < 0 ∨ x ≥ (K : Int) then 10 else 0) := by
  intro d
  induction d with
  | zero =>
    intro k i h hk
    obtain ⟨k, rfl⟩ : ∃ m, k = m + 1 := ⟨k - 1, by omega⟩
    simp only [tutorref01_Check.l0]
    rw [if_neg (by omega), List.drop_of_length_le (by omega), if_neg (by rintro ⟨x, hx, _⟩; cases hx)]
    exact ⟨0, rfl⟩
  | succ d ih =>
    intro k i h hk
    obtain ⟨k, rfl⟩ : ∃ m, k = m + 1 := ⟨k - 1, by omega⟩
    simp only [tutorref01_Check.l0]
    have hd : l.drop i = l[i]'(by omega) :: l.drop (i + 1) := List.drop_eq_getElem_cons (by omega)
    rw [if_pos (by omega), if_pos (by omega), rd_nat (by omega), hd]
    by_cases h1 : l[i]'(by omega) < 0
    · rw [if_pos h1, if_pos ⟨_, List.mem_cons_self, .inl h1⟩]
      exact ⟨_, rfl⟩
    · rw [if_neg h1]
      by_cases h2 : l[i]'(by omega) ≥ (K : Int)
      · rw [if_pos h2, if_pos ⟨_, List.mem_cons_self, .inr h2⟩]
        exact ⟨_, rfl⟩
      · rw [if_neg h2, w64s (by omega)]
        obtain ⟨p, hp⟩ := ih k (i + 1) (by omega) (by omega)
        rw [hp]
        refine ⟨p, ?_⟩
        by_cases h3 : ∃ x ∈ l.drop (i + 1), x < 0 ∨ x ≥ (K : Int)
        · rw [if_pos h3]
          obtain ⟨x, hx, hb⟩ := h3
          rw [if_pos ⟨x, List.mem_cons_of_mem _ hx, hb⟩]
        · rw [if_neg h3, if_neg]
          rintro ⟨x, hx, hb⟩
          rcases List.mem_cons.1 hx with rfl | hx
          · omega
          · exact h3 ⟨x, hx, hb⟩
theorem wcheck_f (K : Nat) (l : List Int) (h1 : 1 ≤ K) (h2 : K ≤ 64) (k : Nat) (hk : l.length + 2 ≤ k) : ∃ p : Int, tutorref01_Check.f k l (K : Int) = some (p, wordErr K l) := by
  unfold tutorref01_Check.f wordErr
  obtain ⟨k, rfl⟩ : ∃ m, k = m + 1 := ⟨k - 1, by omega⟩
  rw [if_neg (by omega), decide_eq_false (by omega)]
  simp only [tutorref01_Check.j0]
  rw [if_neg (by decide)]
  by_cases h : l.length > 4096
  · rw [if_pos (by omega), if_pos h]
    exact ⟨0, rfl⟩
  · rw [if_neg (by omega), if_neg h]
    exact wcheck_l0 K l (by omega) l.length k 0 (by omega) (by omega)
theorem rc_mono0 {K : Int} {l : List S57} {i : Int} {r : Int × Int} {k k2 : Nat} (h : tutorref19_Check.l0 k K l i = some r) (hk : k ≤ k2) : tutorref19_Check.l0 k2 K l i = some r := by
  induction k2 with
  | zero => rwa [show k = 0 by omega] at h
  | succ m ih =>
    by_cases e : k = m + 1
    · rwa [e] at h
    · exact (tutorref19_Check.mono_l m).2.1 K l i r (ih (by omega))
theorem rc_mono1 {K : Int} {l : List S57} {i j : Int} {r : Int × Int} {k k2 : Nat} (h : tutorref19_Check.l1 k K l i j = some r) (hk : k ≤ k2) : tutorref19_Check.l1 k2 K l i j = some r := by
  induction k2 with
  | zero => rwa [show k = 0 by omega] at h
  | succ m ih =>
    by_cases e : k = m + 1
    · rwa [e] at h
    · exact (tutorref19_Check.mono_l m).2.2.2 K l i j r (ih (by omega))
def clashFrom (l : List S57) (i j e : Nat) : Bool := (List.range' j e).any fun q => decide ((rd_T57 l (q : Int)).f0 = (rd_T57 l (i : Int)).f0) && decide ((rd_T57 l (q : Int)).f1 ≠ (rd_T57 l (i : Int)).f1)
theorem rc_l1 {K : Nat} {l : List S57} (hl : l.length ≤ 65536) {i : Nat} (hi : i < l.length) {R : Int × Int} {k1 : Nat} (h0 : tutorref19_Check.l0 k1 (K : Int) l ((i + 1 : Nat) : Int) = some R) (hw : ∀ j, j < i → wordErr K (rd_T57 l (j : Int)).f0 = 0) : ∀ e j, j + e = i → ∃ k, tutorref19_Check.l1 k (K : Int) l (i : Int) (j : Int) = some (if clashFrom l i j e = true then ((i : Int), 111) else R)
  | 0, j, hj => ⟨k1 + 1, by
      rw [tutorref19_Check.l1, if_neg (by omega), w64s (by omega), h0]
      rfl⟩
  | e + 1, j, hj => by
    obtain ⟨k2, h2⟩ := rc_l1 hl hi h0 hw e (j + 1) (by omega)
    have hlen : (rd_T57 l (j : Int)).f0.length ≤ 4096 := (wordErr_ok (hw j (by omega))).1
    refine ⟨(k2 + 5000) + 1, ?_⟩
    have h3 := rc_mono1 h2 (show k2 ≤ k2 + 5000 by omega)
    have hc : clashFrom l i j (e + 1) = ((decide ((rd_T57 l (j : Int)).f0 = (rd_T57 l (i : Int)).f0) && decide ((rd_T57 l (j : Int)).f1 ≠ (rd_T57 l (i : Int)).f1)) || clashFrom l i (j + 1) e) := by
      unfold clashFrom
      rw [List.range'_succ, List.any_cons]
    rw [tutorref19_Check.l1, if_pos (by omega), if_pos (by omega), if_pos (by omega), if_pos (by omega), if_pos (by omega), w64s (by omega), hc, h3]
    by_cases h4 : (rd_T57 l (j : Int)).f1 = (rd_T57 l (i : Int)).f1
    · rw [if_pos h4, decide_eq_false (show ¬ (rd_T57 l (j : Int)).f1 ≠ (rd_T57 l (i : Int)).f1 from fun h => h h4), Bool.and_false, Bool.false_or]
    · rw [if_neg h4, same_f (by omega) (by omega), decide_eq_true (show (rd_T57 l (j : Int)).f1 ≠ (rd_T57 l (i : Int)).f1 from h4), Bool.and_true]
      simp only [Option.bind_some]
      cases decide ((rd_T57 l (j : Int)).f0 = (rd_T57 l (i : Int)).f0) with
      | true => rw [if_pos rfl, Bool.true_or, if_pos rfl]
      | false => rw [if_neg (by decide), Bool.false_or]
theorem rc_l1c {K : Nat} {l : List S57} (hl : l.length ≤ 65536) {i : Nat} (hi : i < l.length) (hw : ∀ j, j < i → wordErr K (rd_T57 l (j : Int)).f0 = 0) : ∀ e j, j + e = i → clashFrom l i j e = true → ∃ k, tutorref19_Check.l1 k (K : Int) l (i : Int) (j : Int) = some ((i : Int), 111)
  | 0, j, hj, hc => by unfold clashFrom at hc; simp at hc
  | e + 1, j, hj, hc => by
    have hlen : (rd_T57 l (j : Int)).f0.length ≤ 4096 := (wordErr_ok (hw j (by omega))).1
    have hc2 : clashFrom l i j (e + 1) = ((decide ((rd_T57 l (j : Int)).f0 = (rd_T57 l (i : Int)).f0) && decide ((rd_T57 l (j : Int)).f1 ≠ (rd_T57 l (i : Int)).f1)) || clashFrom l i (j + 1) e) := by
      unfold clashFrom
      rw [List.range'_succ, List.any_cons]
    rw [hc2] at hc
    by_cases h4 : (rd_T57 l (j : Int)).f1 = (rd_T57 l (i : Int)).f1
    · rw [decide_eq_false (show ¬ (rd_T57 l (j : Int)).f1 ≠ (rd_T57 l (i : Int)).f1 from fun h => h h4), Bool.and_false, Bool.false_or] at hc
      obtain ⟨k2, h2⟩ := rc_l1c hl hi hw e (j + 1) (by omega) hc
      refine ⟨k2 + 1, ?_⟩
      rw [tutorref19_Check.l1, if_pos (by omega), if_pos (by omega), if_pos (by omega), if_pos (by omega), if_pos (by omega), w64s (by omega), if_pos h4]
      exact h2
    · by_cases h5 : (rd_T57 l (j : Int)).f0 = (rd_T57 l (i : Int)).f0
      · refine ⟨5000 + 1, ?_⟩
        rw [tutorref19_Check.l1, if_pos (by omega), if_pos (by omega), if_pos (by omega), if_pos (by omega), if_pos (by omega), if_neg h4, same_f (by omega) (by omega), decide_eq_true h5]
        rfl
      · rw [decide_eq_false h5, Bool.false_and, Bool.false_or] at hc
        obtain ⟨k2, h2⟩ := rc_l1c hl hi hw e (j + 1) (by omega) hc
        refine ⟨(k2 + 5000) + 1, ?_⟩
        rw [tutorref19_Check.l1, if_pos (by omega), if_pos (by omega), if_pos (by omega), if_pos (by omega), if_pos (by omega), w64s (by omega), if_neg h4, same_f (by omega) (by omega), decide_eq_false h5]
        simp only [Option.bind_some]
        rw [if_neg (by decide)]
        exact rc_mono1 h2 (by omega)
theorem rc_l0 {K : Nat} (hK : 1 ≤ K ∧ K ≤ 64) {l : List S57} (hl : l.length ≤ 65536) : ∀ d i, i + d = l.length → (∀ j, j < i → faultAt K l j = 0) → ∃ k, tutorref19_Check.l0 k (K : Int) l (i : Int) = some (scanF K l d i)
  | 0, i, hi, _ => ⟨1, by
      rw [tutorref19_Check.l0, if_neg (by omega)]
      rfl⟩
  | d + 1, i, hi, h0 => by
    have hw : ∀ j, j < i → wordErr K (rd_T57 l (j : Int)).f0 = 0 := fun j hj => by
      have h1 := h0 j hj
      unfold faultAt at h1
      refine Classical.byContradiction fun hn => ?_
      rw [if_pos hn] at h1
      exact hn h1
    rw [scanF]
    by_cases hwe : wordErr K (rd_T57 l (i : Int)).f0 = 0
    · by_cases hs : (rd_T57 l (i : Int)).f1 ≠ 0 ∧ (rd_T57 l (i : Int)).f1 ≠ 1
      · have hf : faultAt K l i = 33 := by unfold faultAt; rw [if_neg (fun h => h hwe), if_pos hs]
        rw [hf, if_pos (by decide)]
        obtain ⟨p, hp⟩ := wcheck_f K (rd_T57 l (i : Int)).f0 hK.1 hK.2 ((rd_T57 l (i : Int)).f0.length + 3) (by omega)
        refine ⟨(rd_T57 l (i : Int)).f0.length + 3 + 1, ?_⟩
        rw [tutorref19_Check.l0, if_pos (by omega), if_pos (by omega), hp]
        simp only [Option.bind_some]
        rw [if_pos hwe]
        by_cases h1 : (rd_T57 l (i : Int)).f1 < 0
        · rw [if_pos h1, tutorref19_Check.j2, if_pos rfl]
        · rw [if_neg h1, decide_eq_true (by omega), tutorref19_Check.j2, if_pos rfl]
      · have hf : faultAt K l i = if clashFrom l i 0 i = true then 111 else 0 := by
          unfold faultAt clashFrom
          rw [if_neg (fun h => h hwe), if_neg hs, List.range_eq_range']
        by_cases hcl : clashFrom l i 0 i = true
        · rw [hf, if_pos hcl, if_pos (by decide)]
          obtain ⟨k2, h2⟩ := rc_l1c hl (K := K) (show i < l.length by omega) hw i 0 (by omega) hcl
          obtain ⟨p, hp⟩ := wcheck_f K (rd_T57 l (i : Int)).f0 hK.1 hK.2 (k2 + (rd_T57 l (i : Int)).f0.length + 3) (by omega)
          refine ⟨k2 + (rd_T57 l (i : Int)).f0.length + 3 + 1, ?_⟩
          rw [tutorref19_Check.l0, if_pos (by omega), if_pos (by omega), hp]
          simp only [Option.bind_some]
          rw [if_pos hwe, if_neg (by omega), decide_eq_false (by omega), show k2 + (rd_T57 l (i : Int)).f0.length + 3 = (k2 + (rd_T57 l (i : Int)).f0.length + 2) + 1 from rfl, tutorref19_Check.j2, if_neg (by decide)]
          exact rc_mono1 h2 (by omega)
        · rw [hf, if_neg hcl, if_neg (fun h => h rfl)]
          obtain ⟨k1, h1⟩ := rc_l0 hK hl d (i + 1) (by omega) (fun j hj => by
            by_cases hji : j = i
            · rw [hji, hf, if_neg hcl]
            · exact h0 j (by omega))
          obtain ⟨k2, h2⟩ := rc_l1 hl (show i < l.length by omega) h1 hw i 0 (by omega)
          rw [if_neg hcl] at h2
          obtain ⟨p, hp⟩ := wcheck_f K (rd_T57 l (i : Int)).f0 hK.1 hK.2 (k2 + (rd_T57 l (i : Int)).f0.length + 3) (by omega)
          refine ⟨k2 + (rd_T57 l (i : Int)).f0.length + 3 + 1, ?_⟩
          rw [tutorref19_Check.l0, if_pos (by omega), if_pos (by omega), hp]
          simp only [Option.bind_some]
          rw [if_pos hwe, if_neg (by omega), decide_eq_false (by omega), show k2 + (rd_T57 l (i : Int)).f0.length + 3 = (k2 + (rd_T57 l (i : Int)).f0.length + 2) + 1 from rfl, tutorref19_Check.j2, if_neg (by decide)]
          exact rc_mono1 h2 (by omega)
    · have hf : faultAt K l i = wordErr K (rd_T57 l (i : Int)).f0 := by unfold faultAt; rw [if_pos hwe]
      rw [hf, if_pos hwe]
      obtain ⟨p, hp⟩ := wcheck_f K (rd_T57 l (i : Int)).f0 hK.1 hK.2 ((rd_T57 l (i : Int)).f0.length + 2) (by omega)
      refine ⟨(rd_T57 l (i : Int)).f0.length + 2 + 1, ?_⟩
      rw [tutorref19_Check.l0, if_pos (by omega), if_pos (by omega), hp]
      simp only [Option.bind_some]
      rw [if_neg hwe]
theorem rcheck_is (k : Int) (l : List S57) : ∃ q, tutorref19_Check.f q k l = some (checkF k l) := by
  unfold tutorref19_Check.f checkF
  by_cases h1 : k < 1
  · exact ⟨1, by rw [if_pos h1, if_pos (.inl h1), tutorref19_Check.j0, if_pos rfl]⟩
  · by_cases h2 : k > 64
    · exact ⟨1, by rw [if_neg h1, if_pos (.inr h2), tutorref19_Check.j0, if_pos (decide_eq_true h2)]⟩
    · by_cases h3 : l.length > 65536
      · exact ⟨1, by rw [if_neg h1, if_neg (by omega), tutorref19_Check.j0, if_neg (by simpa using h2), if_pos (by omega), if_pos h3]⟩
      · obtain ⟨K, rfl⟩ : ∃ K : Nat, k = (K : Int) := ⟨k.toNat, by omega⟩
        obtain ⟨q, hq⟩ := rc_l0 (K := K) (by omega) (show l.length ≤ 65536 by omega) l.length 0 (by omega) (fun j hj => absurd hj (Nat.not_lt_zero _))
        exact ⟨q + 1, by rw [if_neg h1, if_neg (by omega), tutorref19_Check.j0, if_neg (by simpa using h2), if_neg (by omega), if_neg h3, Int.toNat_natCast]; exact hq⟩
end Go.Proofs.Ytocejofjmmoeaaa.X
end

section
namespace Go.Proofs.Ytocejofjmmoeaaa.X
open Go.RowKit Go.Proofs.YtocejofjmmoeaaaW.PrintWords Go.Proofs.YtocejofjmmoeaaaW.PrintLast Go.Proofs.YtocejofjmmoeaaaW.PrintMore
open Go.Proofs.Ytocejofjmmoeaaa Go.Proofs.Ytocejofjmmoeaaa.Sp
def rt.T2 : Bool × List (List Nat × List Nat) := (true, [([], []), ([0], [0]), ([1], [1]), ([2], [2]), ([], []), ([], []), ([5], [5]), ([6], [6]), ([7], [7]), ([], []), ([9], [9]), ([10], [10]), ([11], [11]), ([], []), ([12, 13], [12, 13]), ([14], [14]), ([8, 15], [8, 15]), ([16], [16]), ([3, 4, 0, 1, 2, 3, 4, 5, 6, 7, 8, 9, 10, 11, 12, 13, 14, 15, 16, 17], [3, 4]), ([18, 17, 0, 1, 2, 3, 4, 5, 6, 7, 8, 9, 10, 11, 12, 13, 14, 15, 16, 17], [17, 18])])
def rt.B2 : List Nat := [0, 1, 3, 7, 0, 0, 32, 96, 224, 0, 512, 1536, 3584, 0, 15872, 32256, 65504, 131040, 262143, 524287]
theorem rt.tab2 : rtab .any (opsOf Try.f65 2) = rt.T2 := by kernel_rfl
theorem rt.bits2 : waitsOk rt.T2.2 rt.B2 = true := by kernel_rfl
theorem row_cell {w : World} {base g n c : Nat} {ok : Nat → Prop} {f : Nat → Nat} (h : Kd.R (Kd.int .i64) 3 w base ok (.slice (some ⟨g, 0, none⟩) n c) (lst n f)) {j : Nat} (hj : j < n) : w.cell? ⟨g, j, none⟩ = some (.int .i64 (f j : Int)) := by
  obtain ⟨ad, e, hc⟩ := Kd.at_int (Kd.R_reads' h).2.2 (j : Int) (by omega) (by rw [lst_len]; omega)
  injection e with e
  subst e
  rw [Int.toNat_natCast, Addr.add_mid, Nat.zero_add, rd_lst f hj] at hc
  exact hc
theorem row_frozen {w : World} {base g n c : Nat} {ok : Nat → Prop} {xs : List Int} (h : Kd.R (Kd.int .i64) 3 w base ok (.slice (some ⟨g, 0, none⟩) n c) xs) (j : Nat) : w.frozen? ⟨g, j, none⟩ = false := by
  rcases (Kd.own_of_R h).2 with ⟨h1, _⟩ | ⟨g', cap', cur, h1, hb, hc, _⟩
  · cases h1
  · injection h1 with h2 h3 h4
    injection h2 with h2
    injection h2 with h2 _ _
    subst h2
    exact blk_frozen hc j
theorem set_at {rs : List Res} {i : Nat} {r : Res} (h : rs[i]? = some r) (r' : Res) : (rs.set i r')[i]? = some r' := by
  rw [List.getElem?_set_self (List.getElem?_eq_some_iff.1 h).1]
theorem set_off {rs : List Res} {i j : Nat} {r : Res} (h : rs[i]? = some r) (r' : Res) (hij : i ≠ j) : (rs.set j r')[i]? = some r := by
  rw [List.getElem?_set_ne (fun e => hij e.symm)]
  exact h
/-- The one that stands for a class: on by what each knows, down. -/
def rootW (W : Nat → Nat) (s : Nat) : Nat := if h : W s < s then rootW W (W s) else s
termination_by s
decreasing_by exact h
theorem rootW_le (W : Nat → Nat) : ∀ s, rootW W s ≤ s := by
  intro s
  induction s using Nat.strongRecOn with
  | ind s ih =>
    rw [rootW]
    split
    · rename_i h
      have := ih (W s) h
      omega
    · exact Nat.le_refl _
theorem rootW_on {W : Nat → Nat} {s : Nat} (h : W s < s) : rootW W s = rootW W (W s) := by rw [rootW, dif_pos h]
theorem rootW_at {W : Nat → Nat} {s : Nat} (h : ¬ W s < s) : rootW W s = s := by rw [rootW, dif_neg h]
/-- Half the way: no class changes. -/
theorem rootW_half {W : Nat → Nat} {s : Nat} (h1 : ∀ t, t ≤ s → W t ≤ t) (h : W s < s) : ∀ t, rootW (upd W s (W (W s))) t = rootW W t := by
  intro t
  induction t using Nat.strongRecOn with
  | ind t ih =>
    by_cases hts : t = s
    · subst hts
      have h2 := h1 (W t) (by omega)
      rw [rootW_on (W := upd W t (W (W t))) (by rw [upd_at]; omega), upd_at, ih _ (by omega), rootW_on h]
      by_cases h3 : W (W t) < W t
      · rw [rootW_on h3]
      · have h4 : W (W t) = W t := by omega
        rw [h4]
    · have e : upd W s (W (W s)) t = W t := upd_ne _ _ hts
      by_cases h3 : W t < t
      · rw [rootW_on (W := upd W s (W (W s))) (by rw [e]; exact h3), e, ih _ h3, rootW_on h3]
      · rw [rootW_at (W := upd W s (W (W s))) (by rw [e]; exact h3), rootW_at h3]
def Down (n : Nat) (W : Nat → Nat) : Prop := ∀ s, s < n → W s ≤ s
def Alike (W W' : Nat → Nat) : Prop := ∀ t, rootW W' t = rootW W t
def RootPost (base : Nat) (rs : List Res) (j gw n cw : Nat) (W : Nat → Nat) (s : Nat) (w : World) : Ending → World → Prop := fun e w' => e = .returned (.int .i64 (rootW W s : Int)) ∧ ∃ W' : Nat → Nat, Down n W' ∧ Alike W W' ∧ Sep base (rs.set j (ints base (.slice (some ⟨gw, 0, none⟩) n cw) (lst n W'))) w' ∧ Below base w w'
theorem RootPost.intro {base : Nat} {rs : List Res} {j gw n cw : Nat} {W : Nat → Nat} {s x : Nat} {w w' : World} (e : rootW W s = x) (h : ∃ W' : Nat → Nat, Down n W' ∧ Alike W W' ∧ Sep base (rs.set j (ints base (.slice (some ⟨gw, 0, none⟩) n cw) (lst n W'))) w' ∧ Below base w w') : RootPost base rs j gw n cw W s w (.returned (.int .i64 (x : Int))) w' := by
  subst e
  exact ⟨rfl, h⟩
attribute [local go_sem] max2_int min2_int max_two min_two max_three min_three max_four min_four
set_option maxHeartbeats 16000000 in
set_option maxRecDepth 100000 in
theorem Root_walk (base : Nat) (rs : List Res) (w : World) (gf gw n cw : Nat) (vK vN vX vO vn vo : Value) (W : Nat → Nat) (ib j s : Nat) (h : Sep base rs w) (hb : rs[ib]? = some (blk gf #[vK, vN, vX, vO, .slice (some ⟨gw, 0, none⟩) n cw, vn, vo] 86)) (hj : rs[j]? = some (ints base (.slice (some ⟨gw, 0, none⟩) n cw) (lst n W))) (hbj : ib ≠ j) (hbase : base ≤ w.heap.size) (hs : s < n) (hd : Down n W) :
    Calls Try.prog 65 #[.pointer (some ⟨gf, 0, none⟩), .int .i64 (s : Int)] w (RootPost base rs j gw n cw W s w) := by
  have hu86 := Try.underlying86
  have hu34 := Try.underlying34
  have hu32 := Try.underlying32
  have HSS := Aside0.mk hs
  have HDN := Aside0.mk hd
  have HS0 : Aside0 (Sep base (rs.set j (ints base (.slice (some ⟨gw, 0, none⟩) n cw) (lst n W))) w) := ⟨by rw [set_same hj]; exact h⟩
  have HB0 : Aside0 (Below base w w) := ⟨Below.mk rfl rfl rfl (Nat.le_refl _) (fun _ _ => rfl)⟩
  have HBS := Aside0.mk hbase
  clear h hs hd hbase
  go_enter Try.func65, Try.ntmps65
  go_wp2
  go_loopw [1] (fun v1 wr => ∃ (s1 : Nat) (W1 : Nat → Nat), v1 = .int .i64 (s1 : Int) ∧ Aside0 (s1 < n ∧ rootW W s1 = rootW W s) ∧ Aside0 (Down n W1 ∧ Alike W W1) ∧ Aside0 (Sep base (rs.set j (ints base (.slice (some ⟨gw, 0, none⟩) n cw) (lst n W1))) wr) ∧ Aside0 (Below base w wr)) (fun v1 _ => (intOf v1).toNat)
  case atStart => exact ⟨s, W, rfl, ⟨HSS.out, rfl⟩, ⟨HDN.out, fun t => rfl⟩, HS0, HB0⟩
  case round =>
    clear HS0 HB0
    obtain ⟨s1, W1, rfl, HI, HW1, HSr, HBr⟩ := hrel
    have HS1 : Aside0 (s1 < n) := ⟨HI.out.1⟩
    have hdn := HW1.out.1 s1 HI.out.1
    have HS2 : Aside0 (W1 s1 < n) := ⟨by have := HI.out.1; omega⟩
    have hx1 : (s1 : Int) < (n : Int) := by have := HI.out.1; omega
    have hx2 : (W1 s1 : Int) < (n : Int) := by omega
    have hc4 : wr.cell? ⟨gf, 4, none⟩ = some (.slice (some ⟨gw, 0, none⟩) n cw) := (blk_cell (HSr.out.get ib (set_off hb _ hbj)) 4).trans rfl
    have hcw : wr.cell? ⟨gw, s1, none⟩ = some (.int .i64 (W1 s1 : Int)) := row_cell (HSr.out.get j (set_at hj _)) HS1.out
    by_cases he : W1 s1 = s1
    · have heb : ((W1 s1 : Int) != (s1 : Int)) = false := by rw [he]; simp
      have HEQ := Aside0.mk he
      clear he hdn
      go_wp2
      go_ret
      have e : rootW W s = s1 := by
        rw [← HI.out.2, ← HW1.out.2 s1]
        exact rootW_at (by rw [HEQ.out]; exact Nat.lt_irrefl _)
      exact RootPost.intro e ⟨W1, HW1.out.1, HW1.out.2, HSr.out, HBr.out⟩
    · have heb : ((W1 s1 : Int) != (s1 : Int)) = true := by simp; omega
      have HLT : Aside0 (W1 s1 < s1) := ⟨by omega⟩
      clear he hdn
      go_wp2
      refine start_ (n := 20) (S := fun w' => w'.cell? ⟨gf, 4, none⟩ = some (.slice (some ⟨gw, 0, none⟩) n cw) ∧ w'.cell? ⟨gw, s1, none⟩ = some (.int .i64 (W1 s1 : Int)) ∧ w'.cell? ⟨gw, W1 s1, none⟩ = some (.int .i64 (W1 (W1 s1) : Int))) (ds := [19]) #[false, false, false, false, false, false, false, false, false, false, false, false, false, false, false, false, false, false, false, false] (by kernel_rfl) rfl rfl ⟨(blk_cell ((HSr.out.low (below_drew1 (Below.refl _ _))).get ib (set_off hb _ hbj)) 4).trans rfl, row_cell ((HSr.out.low (below_drew1 (Below.refl _ _))).get j (set_at hj _)) HS1.out, row_cell ((HSr.out.low (below_drew1 (Below.refl _ _))).get j (set_at hj _)) HS2.out⟩ (fun hHeld => ?_)
      refine with_tabW rt.tab2 rt.bits2 (fun HT_ HW_ => ?_)
      have HD := Aside0.mk (HSr.out.low (below_drew1 (Below.refl _ _)))
      have HB5 := Aside0.mk (below_drew1 HBr.out)
      clear HSr HBr
      generalize wr.drew = wd at HD HB5 hHeld ⊢
      refine pure_ (i := 0) (N := (some 14)) (v := ?_) (a' := ?_) #[true, false, false, false, false, false, false, false, false, false, false, false, false, false, false, false, false, false, false, false] rfl rfl (any_of HT_.out (by kernel_rfl)) (fun _ _ _ h => h) (Or.inl ⟨by rfl, ?_⟩) ?_ ?_
      rotate_left
      · intro w'
        go_simp
        with_reducible rfl
      rotate_left
      · simp only [Act.put, List.setIfInBounds_toArray, List.set_cons_zero, List.set_cons_succ, i64_w, i32_w]
        rfl
      refine pure_ (i := 1) (N := (some 15)) (v := ?_) (a' := ?_) #[true, true, false, false, false, false, false, false, false, false, false, false, false, false, false, false, false, false, false, false] rfl rfl (any_of HT_.out (by kernel_rfl)) (fun _ _ _ h => h) (Or.inl ⟨by rfl, ?_⟩) ?_ ?_
      rotate_left
      · intro w'
        go_simp
        with_reducible rfl
      rotate_left
      · simp only [Act.put, List.setIfInBounds_toArray, List.set_cons_zero, List.set_cons_succ, i64_w, i32_w]
        rfl
      refine pure_ (i := 2) (N := (some 16)) (v := ?_) (a' := ?_) #[true, true, true, false, false, false, false, false, false, false, false, false, false, false, false, false, false, false, false, false] rfl rfl (any_of HT_.out (by kernel_rfl)) (fun _ _ _ h => h) (Or.inl ⟨by rfl, ?_⟩) ?_ ?_
      rotate_left
      · intro w'
        go_simp
        with_reducible rfl
      rotate_left
      · simp only [Act.put, List.setIfInBounds_toArray, List.set_cons_zero, List.set_cons_succ, i64_w, i32_w]
        rfl
      refine pure_ (i := 4) (N := (some 18)) (v := ?_) (a' := ?_) #[true, true, true, false, true, false, false, false, false, false, false, false, false, false, false, false, false, false, false, false] rfl rfl (any_of HT_.out (by kernel_rfl)) (fun _ _ _ h => h) (Or.inl ⟨by rfl, ?_⟩) ?_ ?_
      rotate_left
      · intro w'
        go_simp
        with_reducible rfl
      rotate_left
      · simp only [Act.put, List.setIfInBounds_toArray, List.set_cons_zero, List.set_cons_succ, i64_w, i32_w]
        rfl
      refine pure_ (i := 5) (N := (some 19)) (v := ?_) (a' := ?_) #[true, true, true, false, true, true, false, false, false, false, false, false, false, false, false, false, false, false, false, false] rfl rfl (any_of HT_.out (by kernel_rfl)) (fun _ _ _ h => h) (Or.inl ⟨by rfl, ?_⟩) ?_ ?_
      rotate_left
      · intro w'
        go_simp
        with_reducible rfl
      rotate_left
      · simp only [Act.put, List.setIfInBounds_toArray, List.set_cons_zero, List.set_cons_succ, i64_w, i32_w]
        rfl
      refine pure_ (i := 6) (N := (some 20)) (v := ?_) (a' := ?_) #[true, true, true, false, true, true, true, false, false, false, false, false, false, false, false, false, false, false, false, false] rfl rfl (any_of HT_.out (by kernel_rfl)) (fun _ _ _ h => h) (Or.inl ⟨by rfl, ?_⟩) ?_ ?_
      rotate_left
      · intro w'
        go_simp
        with_reducible rfl
      rotate_left
      · simp only [Act.put, List.setIfInBounds_toArray, List.set_cons_zero, List.set_cons_succ, i64_w, i32_w]
        rfl
      refine pure_ (i := 7) (N := (some 21)) (v := ?_) (a' := ?_) #[true, true, true, false, true, true, true, true, false, false, false, false, false, false, false, false, false, false, false, false] rfl rfl (any_of HT_.out (by kernel_rfl)) (fun _ _ _ h => h) (Or.inl ⟨by rfl, ?_⟩) ?_ ?_
      rotate_left
      · intro w'
        go_simp
        with_reducible rfl
      rotate_left
      · simp only [Act.put, List.setIfInBounds_toArray, List.set_cons_zero, List.set_cons_succ, i64_w, i32_w]
        rfl
      refine pure_ (i := 9) (N := (some 23)) (v := ?_) (a' := ?_) #[true, true, true, false, true, true, true, true, false, true, false, false, false, false, false, false, false, false, false, false] rfl rfl (any_of HT_.out (by kernel_rfl)) (fun _ _ _ h => h) (Or.inl ⟨by rfl, ?_⟩) ?_ ?_
      rotate_left
      · intro w'
        go_simp
        with_reducible rfl
      rotate_left
      · simp only [Act.put, List.setIfInBounds_toArray, List.set_cons_zero, List.set_cons_succ, i64_w, i32_w]
        rfl
      refine pure_ (i := 10) (N := (some 24)) (v := ?_) (a' := ?_) #[true, true, true, false, true, true, true, true, false, true, true, false, false, false, false, false, false, false, false, false] rfl rfl (any_of HT_.out (by kernel_rfl)) (fun _ _ _ h => h) (Or.inl ⟨by rfl, ?_⟩) ?_ ?_
      rotate_left
      · intro w'
        go_simp
        with_reducible rfl
      rotate_left
      · simp only [Act.put, List.setIfInBounds_toArray, List.set_cons_zero, List.set_cons_succ, i64_w, i32_w]
        rfl
      refine pure_ (i := 11) (N := (some 25)) (v := ?_) (a' := ?_) #[true, true, true, false, true, true, true, true, false, true, true, true, false, false, false, false, false, false, false, false] rfl rfl (any_of HT_.out (by kernel_rfl)) (fun _ _ _ h => h) (Or.inl ⟨by rfl, ?_⟩) ?_ ?_
      rotate_left
      · intro w'
        go_simp
        with_reducible rfl
      rotate_left
      · simp only [Act.put, List.setIfInBounds_toArray, List.set_cons_zero, List.set_cons_succ, i64_w, i32_w]
        rfl
      refine pure_ (i := 13) (N := (some 27)) (v := ?_) (a' := ?_) #[true, true, true, false, true, true, true, true, false, true, true, true, false, true, false, false, false, false, false, false] rfl rfl (any_of HT_.out (by kernel_rfl)) (fun _ _ _ h => h) (Or.inl ⟨by rfl, ?_⟩) ?_ ?_
      rotate_left
      · intro w'
        go_simp
        with_reducible rfl
      rotate_left
      · simp only [Act.put, List.setIfInBounds_toArray, List.set_cons_zero, List.set_cons_succ, i64_w, i32_w]
        rfl
      refine take_ (i := 3) (N := (some 17)) (v := ?_) (a' := ?_) #[true, true, true, true, true, true, true, true, false, true, true, true, false, true, false, false, false, false, false, false] rfl rfl (take_ofW HT_.out HW_.out (by kernel_rfl)) (fun _ _ _ h => h) (Or.inl ⟨by rfl, ?_⟩) hHeld ?_ ?_
      rotate_left
      · rintro w' ⟨s0, s1, s2⟩
        go_simp
        with_reducible rfl
      rotate_left
      · simp only [Act.put, List.setIfInBounds_toArray, List.set_cons_zero, List.set_cons_succ, i64_w, i32_w]
        rfl
      refine take_ (i := 8) (N := (some 22)) (v := ?_) (a' := ?_) #[true, true, true, true, true, true, true, true, true, true, true, true, false, true, false, false, false, false, false, false] rfl rfl (take_ofW HT_.out HW_.out (by kernel_rfl)) (fun _ _ _ h => h) (Or.inl ⟨by rfl, ?_⟩) hHeld ?_ ?_
      rotate_left
      · rintro w' ⟨s0, s1, s2⟩
        go_simp
        with_reducible rfl
      rotate_left
      · simp only [Act.put, List.setIfInBounds_toArray, List.set_cons_zero, List.set_cons_succ, i64_w, i32_w]
        rfl
      refine take_ (i := 12) (N := (some 26)) (v := ?_) (a' := ?_) #[true, true, true, true, true, true, true, true, true, true, true, true, true, true, false, false, false, false, false, false] rfl rfl (take_ofW HT_.out HW_.out (by kernel_rfl)) (fun _ _ _ h => h) (Or.inl ⟨by rfl, ?_⟩) hHeld ?_ ?_
      rotate_left
      · rintro w' ⟨s0, s1, s2⟩
        go_simp
        with_reducible rfl
      rotate_left
      · simp only [Act.put, List.setIfInBounds_toArray, List.set_cons_zero, List.set_cons_succ, i64_w, i32_w]
        rfl
      refine pure_ (i := 14) (N := (some 28)) (v := ?_) (a' := ?_) #[true, true, true, true, true, true, true, true, true, true, true, true, true, true, true, false, false, false, false, false] rfl rfl (any_of HT_.out (by kernel_rfl)) (fun _ _ _ h => h) (Or.inl ⟨by rfl, ?_⟩) ?_ ?_
      rotate_left
      · intro w'
        go_simp
        with_reducible rfl
      rotate_left
      · simp only [Act.put, List.setIfInBounds_toArray, List.set_cons_zero, List.set_cons_succ, i64_w, i32_w]
        rfl
      refine take_ (i := 15) (N := (some 29)) (v := ?_) (a' := ?_) #[true, true, true, true, true, true, true, true, true, true, true, true, true, true, true, true, false, false, false, false] rfl rfl (take_ofW HT_.out HW_.out (by kernel_rfl)) (fun _ _ _ h => h) (Or.inl ⟨by rfl, ?_⟩) hHeld ?_ ?_
      rotate_left
      · rintro w' ⟨s0, s1, s2⟩
        go_simp
        with_reducible rfl
      rotate_left
      · simp only [Act.put, List.setIfInBounds_toArray, List.set_cons_zero, List.set_cons_succ, i64_w, i32_w]
        rfl
      refine pure_ (i := 16) (N := (some 30)) (v := ?_) (a' := ?_) #[true, true, true, true, true, true, true, true, true, true, true, true, true, true, true, true, true, false, false, false] rfl rfl (any_of HT_.out (by kernel_rfl)) (fun _ _ _ h => h) (Or.inl ⟨by rfl, ?_⟩) ?_ ?_
      rotate_left
      · intro w'
        go_simp
        with_reducible rfl
      rotate_left
      · simp only [Act.put, List.setIfInBounds_toArray, List.set_cons_zero, List.set_cons_succ, i64_w, i32_w]
        rfl
      refine take_ (i := 17) (N := (some 31)) (v := ?_) (a' := ?_) #[true, true, true, true, true, true, true, true, true, true, true, true, true, true, true, true, true, true, false, false] rfl rfl (take_ofW HT_.out HW_.out (by kernel_rfl)) (fun _ _ _ h => h) (Or.inl ⟨by rfl, ?_⟩) hHeld ?_ ?_
      rotate_left
      · rintro w' ⟨s0, s1, s2⟩
        go_simp
        with_reducible rfl
      rotate_left
      · simp only [Act.put, List.setIfInBounds_toArray, List.set_cons_zero, List.set_cons_succ, i64_w, i32_w]
        rfl
      refine pure_ (i := 18) (N := (some 32)) (v := ?_) (a' := ?_) #[true, true, true, true, true, true, true, true, true, true, true, true, true, true, true, true, true, true, true, false] rfl rfl (any_of HT_.out (by kernel_rfl)) (fun _ _ _ h => h) (Or.inl ⟨by rfl, ?_⟩) ?_ ?_
      rotate_left
      · intro w'
        go_simp
        with_reducible rfl
      rotate_left
      · simp only [Act.put, List.setIfInBounds_toArray, List.set_cons_zero, List.set_cons_succ, i64_w, i32_w]
        rfl
      refine last_ (i := 19) (N := none) #[true, true, true, true, true, true, true, true, true, true, true, true, true, true, true, true, true, true, true, true] rfl rfl (one_of HT_.out (by kernel_rfl)) (by decide) (fun Kc hK => ?_)
      have hfz : wd.frozen? ⟨gw, s1, none⟩ = false := row_frozen (HD.out.get j (set_at hj _)) s1
      have hcl : wd.cell? ⟨gw, s1, none⟩ = some (.int .i64 (W1 s1 : Int)) := row_cell (HD.out.get j (set_at hj _)) HS1.out
      refine skip_ (w1 := ?_) (by rfl) rfl ?_ ?_
      rotate_left
      · go_simp
        rfl
      have HE : Aside0 (Sep base (rs.set j (ints base (.slice (some ⟨gw, 0, none⟩) n cw) (lst n (upd W1 s1 (W1 (W1 s1)))))) (World.setCell wd ⟨gw, s1, none⟩ (.int .i64 (W1 (W1 s1) : Int)))) := ⟨by
        have h1 := HD.out.put j (set_at hj _) (s1 : Int) (W1 (W1 s1) : Int) (Nat.le_trans HBS.out HB5.out.size)
        rw [Int.toNat_natCast, lst_set W1 HS1.out (W1 (W1 s1)), List.set_set] at h1
        exact h1⟩
      have HBE := Aside0.mk (HB5.out.setCell (HD.out.bound j (set_at hj _) (show some gw = some gw from rfl)).1 (p := ⟨gw, s1, none⟩) (.int .i64 (W1 (W1 s1) : Int)))
      generalize World.setCell wd ⟨gw, s1, none⟩ (.int .i64 (W1 (W1 s1) : Int)) = we at HE HBE ⊢
      clear hfz hcl HD HB5 hHeld
      refine hK.out _ _ ?_; clear hK Kc
      refine done_ (done_of HT_.out (by kernel_rfl)) ?_
      have hc4' : we.cell? ⟨gf, 4, none⟩ = some (.slice (some ⟨gw, 0, none⟩) n cw) := (blk_cell (HE.out.get ib (set_off hb _ hbj)) 4).trans rfl
      have hcw' : we.cell? ⟨gw, s1, none⟩ = some (.int .i64 (W1 (W1 s1) : Int)) := by
        rw [row_cell (HE.out.get j (set_at hj _)) HS1.out, upd_at]
      clear heb hc4 hcw
      go_wp2
      have hw2 := HW1.out.1 (W1 s1) HS2.out
      go_roundw
      case rel =>
        refine ⟨W1 (W1 s1), upd W1 s1 (W1 (W1 s1)), rfl, ⟨Nat.lt_of_le_of_lt hw2 HS2.out, ?_⟩, ⟨fun t ht => ?_, fun t => ?_⟩, HE, HBE⟩
        · rw [← HI.out.2, ← HW1.out.2 (W1 (W1 s1)), ← HW1.out.2 s1, rootW_on HLT.out]
          by_cases h3 : W1 (W1 s1) < W1 s1
          · rw [rootW_on h3]
          · rw [show W1 (W1 s1) = W1 s1 by omega]
        · by_cases hts : t = s1
          · rw [hts, upd_at]; have := HLT.out; omega
          · rw [upd_ne _ _ hts]; exact HW1.out.1 t ht
        · rw [rootW_half (fun z hz => HW1.out.1 z (by have := HI.out.1; omega)) HLT.out]
          exact HW1.out.2 t
      case measure =>
        show ((W1 (W1 s1) : Nat) : Int).toNat < ((s1 : Nat) : Int).toNat
        have := HLT.out
        omega
end Go.Proofs.Ytocejofjmmoeaaa.X
end

section
namespace Go.Proofs.Ytocejofjmmoeaaa.X
open Go.RowKit Go.Proofs.YtocejofjmmoeaaaW.PrintWords Go.Proofs.YtocejofjmmoeaaaW.PrintLast Go.Proofs.YtocejofjmmoeaaaW.PrintMore
open Go.Proofs.Ytocejofjmmoeaaa Go.Proofs.Ytocejofjmmoeaaa.Sp
def sample_Check.f (a0 : Int) (l1 : List S57) : Option (Int × Int) := some (checkF a0 l1)
theorem sample_Check.calls (a0 : Int) (A1 : Option Addr) (c1 : Nat) (l1 : List S57) (r1 r2 : Int) (w : World) (hr1 : Kd.C k57 w A1 l1.length l1) (hc1 : l1.length ≤ c1) (h : sample_Check.f a0 l1 = some (r1, r2)) :
    Calls Try.prog 14 #[.int .i64 a0, .slice A1 l1.length c1] w fun e w' => e = .returned (.tuple #[.int .i64 r1, .int .i64 r2]) ∧ Below w.heap.size w w' := by
  injection h with h
  refine (Check_walk a0 A1 c1 l1 w hr1 hc1).mono ?_
  rintro e w' ⟨rfl, hb⟩
  rw [h]
  exact ⟨rfl, hb⟩
end Go.Proofs.Ytocejofjmmoeaaa.X
end
