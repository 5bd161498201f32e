/- Texts of the statement SampleKeeps, one behind the other: Go functions as Lean functions, the machine's calls, the plain law; at its end: for every input the law returns true. -/
import Derived.Test.YtocejofjmmoeaaaMSampleKeeps12
import Derived.Test.YtocejofjmmoeaaaMSampleKeeps20
import Derived.ChangeOld
import Derived.ShutString
import Derived.Test.YtocejofjmmoeaaaRows
set_option linter.unusedVariables false
set_option linter.unusedSimpArgs false
section
namespace Go.Proofs.Ytocejofjmmoeaaa.sampleKeeps
open Go.ChangeShapes Go.WideShapes Go.ChangeAt Go.RowKit
open Go.ChangeMaps (open_string shut_string)
theorem own : ownKnob Try.prog.godebug = none := by kernel_rfl
theorem laidOut : laidOutB Try.prog = true := by kernel_rfl
set_option maxHeartbeats 2000000 in
set_option maxRecDepth 100000 in
theorem lifted (os : Os) (started : os.Started) (H : Type) (enc : TypeId × Value → H) :
    ReturnsInHanded {} Try.checked os 9 .any (Rows.sampleKeepsSpec.pre6 enc Try.prog Try.f9 Rows.sampleKeepsRow.domain false) (Rows.sampleKeepsSpec.post enc Try.prog Try.f9 false true false false) := by
  refine returnsInHanded_of_change_sized (C := Try.checked) own started (by kernel_rfl) Try.func9
    (ChangeSpec.witness6 (enc := enc) (C := Try.checked) false ⟨#[], #[.agg #[.int .i64 0, .int .i64 0, .slice none 0 0, .slice none 0 0], .int .i64 0, .int .i64 0, .slice none 0 0], []⟩ 8 (by kernel_rfl) (by kernel_rfl) (by kernel_rfl) (by kernel_rfl)) ?_
  intro W base args ds gs before hval0 hW hcnd hsz0 _
  have hval : ∀ (j : Nat) t v, Try.f9.params[j]? = some t → args[j]? = some v → Value.okWide Try.prog W .any base t v := hval0
  have hW' := hW
  obtain ⟨p, q, hA0, hV, rfl, hfz, hnd⟩ := hW
  have hA : DataW.TrodAll enc Try.prog W 0 (fun _ => true) true Try.f9.params.toList args.toList ds p := hA0
  rw [Try.params9] at hA hval
  obtain ⟨v0, vs0, d0, ds0, p0, q0, hargs, rfl, rfl, h0, r0⟩ := trodAll_cons hA
  obtain ⟨v1, vs1, d1, ds1, p1, q1, rfl, rfl, rfl, h1, r1⟩ := trodAll_cons r0
  obtain ⟨v2, vs2, d2, ds2, p2, q2, rfl, rfl, rfl, h2, r2⟩ := trodAll_cons r1
  obtain ⟨v3, vs3, d3, ds3, p3, q3, rfl, rfl, rfl, h3, r3⟩ := trodAll_cons r2
  obtain ⟨rfl, rfl, rfl⟩ := trodAll_nil r3
  obtain rfl : args = #[v0, v1, v2, v3] := by cases args; simp_all
  obtain ⟨rfl, rfl⟩ := trodVars_none hV
  have k0 := h0
  have lt0 : ∀ x ∈ p0, x.block < W.heap.size := by obtain ⟨m, hm⟩ := k0; exact DataW.trod_lt m _ _ _ hm
  obtain ⟨vs0_, rfl, hl0, fu0, hf0⟩ := Go.Proofs.Ytocejofjmmoeaaa.H.open_fields Try.underlying34 (by kernel_rfl) (by kernel_rfl) (hval 0 34 v0 rfl rfl) h0
  obtain ⟨u0_0, u0_1, u0_2, u0_3, rfl⟩ := Go.Proofs.Ytocejofjmmoeaaa.H.len4 hl0
  obtain ⟨y0_0, q0_0⟩ := hf0 0 _ u0_0 rfl rfl
  obtain ⟨a0_0, rfl, w0_0⟩ := Go.Proofs.Ytocejofjmmoeaaa.H.int_cell q0_0
  obtain ⟨y0_1, q0_1⟩ := hf0 1 _ u0_1 rfl rfl
  obtain ⟨a0_1, rfl, w0_1⟩ := Go.Proofs.Ytocejofjmmoeaaa.H.int_cell q0_1
  obtain ⟨y0_2, q0_2⟩ := hf0 2 _ u0_2 rfl rfl
  obtain ⟨A0_2, c0_2, l0_2, rfl, hc0_2, hr0_2, w0_2⟩ := Go.Proofs.Ytocejofjmmoeaaa.H.ints_C q0_2
  obtain ⟨y0_3, q0_3⟩ := hf0 3 _ u0_3 rfl rfl
  obtain ⟨A0_3, c0_3, l0_3, rfl, hc0_3, hr0_3, w0_3⟩ := Go.Proofs.Ytocejofjmmoeaaa.H.ints_C q0_3
  have k1 := h1
  have lt1 : ∀ x ∈ p1, x.block < W.heap.size := by obtain ⟨m, hm⟩ := k1; exact DataW.trod_lt m _ _ _ hm
  obtain ⟨a1, rfl, _, _, w1⟩ := open_int Try.underlying3 (hval 1 3 v1 rfl rfl) h1
  have k2 := h2
  have lt2 : ∀ x ∈ p2, x.block < W.heap.size := by obtain ⟨m, hm⟩ := k2; exact DataW.trod_lt m _ _ _ hm
  obtain ⟨a2, rfl, _, _, w2⟩ := open_int Try.underlying3 (hval 2 3 v2 rfl rfl) h2
  have k3 := h3
  have lt3 : ∀ x ∈ p3, x.block < W.heap.size := by obtain ⟨m, hm⟩ := k3; exact DataW.trod_lt m _ _ _ hm
  obtain ⟨b3, len3, cap3, rfl⟩ := okWide_slice Try.underlying32 (hval 3 32 v3 rfl rfl)
  obtain ⟨fu3, hf3⟩ := h3
  obtain ⟨A3, c3, l3, he3, hc3, hr3, w3⟩ := Go.Proofs.Ytocejofjmmoeaaa.H.ints_C (v := .slice b3 len3 cap3) hf3
  simp only [Value.slice.injEq] at he3
  obtain ⟨rfl, rfl, rfl⟩ := he3
  clear hA0 hval0 hsz0
  refine (X.tutorlaw19_SampleKeeps.calls ((X.keeps_rounds a0_0 a0_1 l0_2 l0_3 a1 a2 l3).choose) a0_0 a0_1 A0_2 c0_2 l0_2 A0_3 c0_3 l0_3 a1 a2 b3 cap3 l3 true W hr0_2 hc0_2 hr0_3 hc0_3 hr3 hc3 ((X.keeps_rounds a0_0 a0_1 l0_2 l0_3 a1 a2 l3).choose_spec)).mono fun e W' ⟨he, bel⟩ => ?_
  subst he
  exact ⟨_, rfl, _, _, _, [], _, [], hW', trodAll_mk1 (shut_bool Try.underlying4 _), (trodAll_cons_mk (Below.trod laidOut (by kernel_rfl) (of_decide_eq_true (by kernel_rfl)) k0 bel lt0) (trodAll_cons_mk (Below.trod laidOut (by kernel_rfl) (of_decide_eq_true (by kernel_rfl)) k1 bel lt1) (trodAll_cons_mk (Below.trod laidOut (by kernel_rfl) (of_decide_eq_true (by kernel_rfl)) k2 bel lt2) (trodAll_cons_mk (Below.trod laidOut (by kernel_rfl) (of_decide_eq_true (by kernel_rfl)) k3 bel lt3) trodAll_mk0)))), rfl, bel.frame _, fun h => by cases h⟩
theorem over : Rows.sampleKeepsRow.holds Try.pinned (OpenSpec.ofChange Rows.sampleKeepsSpec) :=
  OpenClaim.holds_of_wide 9 Try.f9 rfl rfl rfl rfl rfl rfl rfl ⟨rfl, rfl, rfl, rfl, rfl⟩ rfl rfl rfl rfl rfl (by kernel_rfl) Try.func9 (by kernel_rfl)
    (of_decide_eq_true (by kernel_rfl)) (by unfold Func.isWrapper; first | (rw [if_pos (by decide +kernel)]; kernel_rfl) | (rw [if_neg (by decide +kernel)]; exact ⟨rfl, rfl⟩))
    (fun os started H enc _ => lifted os started H enc)
theorem proved : Rows.SampleKeepsSaid := over
end Go.Proofs.Ytocejofjmmoeaaa.sampleKeeps
namespace Go.Proofs.Ytocejofjmmoeaaa
/-- The row, under a short name, for the claim. -/
theorem sampleKeeps_holds : Rows.SampleKeepsSaid := sampleKeeps.proved
end Go.Proofs.Ytocejofjmmoeaaa
end
#print axioms Go.Proofs.Ytocejofjmmoeaaa.sampleKeeps_holds
