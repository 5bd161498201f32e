/- Texts of the statement SampleSays, one behind the other: Go functions as Lean functions, the machine's calls, the plain law; at its end: for every input the law returns true. -/
import Derived.Test.YtocejofjmmoeaaaMSampleSays14
import Derived.Test.YtocejofjmmoeaaaMSampleSays20
import Derived.ChangeOld
import Derived.ShutString
import Derived.Test.YtocejofjmmoeaaaRows
set_option linter.unusedVariables false
set_option linter.unusedSimpArgs false
section
namespace Go.Proofs.Ytocejofjmmoeaaa.sampleSays
open Go.ChangeShapes Go.WideShapes Go.ChangeAt Go.RowKit
open Go.ChangeMaps (open_string shut_string)
theorem own : ownKnob Try.prog.godebug = none := by kernel_rfl
theorem laidOut : laidOutB Try.prog = true := by kernel_rfl
set_option maxHeartbeats 2000000 in
set_option maxRecDepth 100000 in
theorem lifted (os : Os) (started : os.Started) (H : Type) (enc : TypeId × Value → H) :
    ReturnsInHanded {} Try.checked os 8 .any (Rows.sampleSaysSpec.pre6 enc Try.prog Try.f8 Rows.sampleSaysRow.domain false) (Rows.sampleSaysSpec.post enc Try.prog Try.f8 false true false false) := by
  refine returnsInHanded_of_change_sized (C := Try.checked) own started (by kernel_rfl) Try.func8
    (ChangeSpec.witness6 (enc := enc) (C := Try.checked) false ⟨#[], #[.agg #[.int .i64 0, .int .i64 0, .slice none 0 0, .slice none 0 0], .slice none 0 0], []⟩ 8 (by kernel_rfl) (by kernel_rfl) (by kernel_rfl) (by kernel_rfl)) ?_
  intro W base args ds gs before hval0 hW hcnd hsz0 _
  have hval : ∀ (j : Nat) t v, Try.f8.params[j]? = some t → args[j]? = some v → Value.okWide Try.prog W .any base t v := hval0
  have hW' := hW
  obtain ⟨p, q, hA0, hV, rfl, hfz, hnd⟩ := hW
  have hA : DataW.TrodAll enc Try.prog W 0 (fun _ => true) true Try.f8.params.toList args.toList ds p := hA0
  rw [Try.params8] at hA hval
  obtain ⟨v0, vs0, d0, ds0, p0, q0, hargs, rfl, rfl, h0, r0⟩ := trodAll_cons hA
  obtain ⟨v1, vs1, d1, ds1, p1, q1, rfl, rfl, rfl, h1, r1⟩ := trodAll_cons r0
  obtain ⟨rfl, rfl, rfl⟩ := trodAll_nil r1
  obtain rfl : args = #[v0, v1] := by cases args; simp_all
  obtain ⟨rfl, rfl⟩ := trodVars_none hV
  have k0 := h0
  have lt0 : ∀ x ∈ p0, x.block < W.heap.size := by obtain ⟨m, hm⟩ := k0; exact DataW.trod_lt m _ _ _ hm
  obtain ⟨vs0_, rfl, hl0, fu0, hf0⟩ := Go.Proofs.Ytocejofjmmoeaaa.H.open_fields Try.underlying34 (by kernel_rfl) (by kernel_rfl) (hval 0 34 v0 rfl rfl) h0
  obtain ⟨u0_0, u0_1, u0_2, u0_3, rfl⟩ := Go.Proofs.Ytocejofjmmoeaaa.H.len4 hl0
  obtain ⟨y0_0, q0_0⟩ := hf0 0 _ u0_0 rfl rfl
  obtain ⟨aT, rfl, w0_0⟩ := Go.Proofs.Ytocejofjmmoeaaa.H.int_cell q0_0
  obtain ⟨y0_1, q0_1⟩ := hf0 1 _ u0_1 rfl rfl
  obtain ⟨aU, rfl, w0_1⟩ := Go.Proofs.Ytocejofjmmoeaaa.H.int_cell q0_1
  obtain ⟨y0_2, q0_2⟩ := hf0 2 _ u0_2 rfl rfl
  obtain ⟨bv, bq, aa, rfl, kU, jv, w0_2⟩ := Go.Proofs.Ytocejofjmmoeaaa.H.ints_C q0_2
  obtain ⟨y0_3, q0_3⟩ := hf0 3 _ u0_3 rfl rfl
  obtain ⟨bu, bn, ak, rfl, kT, jr, w0_3⟩ := Go.Proofs.Ytocejofjmmoeaaa.H.ints_C q0_3
  have k1 := h1
  have lt1 : ∀ x ∈ p1, x.block < W.heap.size := by obtain ⟨m, hm⟩ := k1; exact DataW.trod_lt m _ _ _ hm
  obtain ⟨b1, len1, cap1, rfl⟩ := okWide_slice Try.underlying32 (hval 1 32 v1 rfl rfl)
  obtain ⟨fu1, hf1⟩ := h1
  obtain ⟨A1, c1, l1, he1, hc1, hr1, w1⟩ := Go.Proofs.Ytocejofjmmoeaaa.H.ints_C (v := .slice b1 len1 cap1) hf1
  simp only [Value.slice.injEq] at he1
  obtain ⟨rfl, rfl, rfl⟩ := he1
  clear hA0 hval0 hsz0
  refine (X.bJ.calls ((X.sayslaw_rounds aT aU aa ak l1).choose) aT aU bv bq aa bu bn ak b1 cap1 l1 true W jv kU jr kT hr1 hc1 ((X.sayslaw_rounds aT aU aa ak l1).choose_spec)).mono fun e W' ⟨he, bel⟩ => ?_
  subst he
  exact ⟨_, rfl, _, _, _, [], _, [], hW', trodAll_mk1 (shut_bool Try.underlying4 _), (trodAll_cons_mk (Below.trod laidOut (by kernel_rfl) (of_decide_eq_true (by kernel_rfl)) k0 bel lt0) (trodAll_cons_mk (Below.trod laidOut (by kernel_rfl) (of_decide_eq_true (by kernel_rfl)) k1 bel lt1) trodAll_mk0)), rfl, bel.frame _, fun h => by cases h⟩
theorem over : Rows.sampleSaysRow.holds Try.pinned (OpenSpec.ofChange Rows.sampleSaysSpec) :=
  OpenClaim.holds_of_wide 8 Try.f8 rfl rfl rfl rfl rfl rfl rfl ⟨rfl, rfl, rfl, rfl, rfl⟩ rfl rfl rfl rfl rfl (by kernel_rfl) Try.func8 (by kernel_rfl)
    (of_decide_eq_true (by kernel_rfl)) (by unfold Func.isWrapper; first | (rw [if_pos (by decide +kernel)]; kernel_rfl) | (rw [if_neg (by decide +kernel)]; exact ⟨rfl, rfl⟩))
    (fun os started H enc _ => lifted os started H enc)
theorem proved : Rows.SampleSaysSaid := over
end Go.Proofs.Ytocejofjmmoeaaa.sampleSays
namespace Go.Proofs.Ytocejofjmmoeaaa
/-- The row, under a short name, for the claim. -/
theorem sampleSays_holds : Rows.SampleSaysSaid := sampleSays.proved
end Go.Proofs.Ytocejofjmmoeaaa
end
#print axioms Go.Proofs.Ytocejofjmmoeaaa.sampleSays_holds
