/- Texts of the statement NfaCounts, one behind the other: Go functions as Lean functions, the machine's calls, the plain law; at its end: for every input the law returns true. -/
import Derived.Test.YtkaefgmgcghhiaaMNfaCounts15
import Derived.Test.YtkaefgmgcghhiaaMNfaCounts18
import Derived.ChangeOld
import Derived.ShutString
import Derived.Test.YtkaefgmgcghhiaaRows
set_option linter.unusedVariables false
set_option linter.unusedSimpArgs false
section
namespace Go.Proofs.Ytkaefgmgcghhiaa.nfaCounts
open Go.ChangeShapes Go.WideShapes Go.ChangeAt Go.RowKit
open Go.ChangeMaps (open_string shut_string)
theorem own : ownKnob Try.prog.godebug = none := by kernel_rfl
theorem laidOut : laidOutB Try.prog = true := by kernel_rfl
set_option maxHeartbeats 2000000 in
set_option maxRecDepth 100000 in
theorem lifted (os : Os) (started : os.Started) (H : Type) (enc : TypeId × Value → H) :
    ReturnsInHanded {} Try.checked os 11 .any (Rows.nfaCountsSpec.pre6 enc Try.prog Try.f11 Rows.nfaCountsRow.domain false) (Rows.nfaCountsSpec.post enc Try.prog Try.f11 false true false false) := by
  refine returnsInHanded_of_change_sized (C := Try.checked) own started (by kernel_rfl) Try.func11
    (ChangeSpec.witness6 (enc := enc) (C := Try.checked) false ⟨#[], #[.agg #[.int .i64 0, .int .i64 0, .int .i64 0, .int .i64 0, .slice none 0 0, .slice none 0 0], .int .i64 0], []⟩ 8 (by kernel_rfl) (by kernel_rfl) (by kernel_rfl) (by kernel_rfl)) ?_
  intro W base args ds gs before hval0 hW hcnd hsz0 _
  have hval : ∀ (j : Nat) t v, Try.f11.params[j]? = some t → args[j]? = some v → Value.okWide Try.prog W .any base t v := hval0
  have hW' := hW
  obtain ⟨p, q, hA0, hV, rfl, hfz, hnd⟩ := hW
  have hA : DataW.TrodAll enc Try.prog W 0 (fun _ => true) true Try.f11.params.toList args.toList ds p := hA0
  rw [Try.params11] at hA hval
  obtain ⟨v0, vs0, d0, ds0, p0, q0, hargs, rfl, rfl, h0, r0⟩ := trodAll_cons hA
  obtain ⟨v1, vs1, d1, ds1, p1, q1, rfl, rfl, rfl, h1, r1⟩ := trodAll_cons r0
  obtain ⟨rfl, rfl, rfl⟩ := trodAll_nil r1
  obtain rfl : args = #[v0, v1] := by cases args; simp_all
  obtain ⟨rfl, rfl⟩ := trodVars_none hV
  have k0 := h0
  have lt0 : ∀ x ∈ p0, x.block < W.heap.size := by obtain ⟨m, hm⟩ := k0; exact DataW.trod_lt m _ _ _ hm
  obtain ⟨vs0_, rfl, hl0, fu0, hf0⟩ := Go.Proofs.Ytkaefgmgcghhiaa.H.open_fields Try.underlying43 (by kernel_rfl) (by kernel_rfl) (hval 0 43 v0 rfl rfl) h0
  obtain ⟨u0_0, u0_1, u0_2, u0_3, u0_4, u0_5, rfl⟩ := Go.Proofs.Ytkaefgmgcghhiaa.H.len6 hl0
  obtain ⟨y0_0, q0_0⟩ := hf0 0 _ u0_0 rfl rfl
  obtain ⟨aX, rfl, w0_0⟩ := Go.Proofs.Ytkaefgmgcghhiaa.H.int_cell q0_0
  obtain ⟨y0_1, q0_1⟩ := hf0 1 _ u0_1 rfl rfl
  obtain ⟨aY, rfl, w0_1⟩ := Go.Proofs.Ytkaefgmgcghhiaa.H.int_cell q0_1
  obtain ⟨y0_2, q0_2⟩ := hf0 2 _ u0_2 rfl rfl
  obtain ⟨ae, rfl, w0_2⟩ := Go.Proofs.Ytkaefgmgcghhiaa.H.int_cell q0_2
  obtain ⟨y0_3, q0_3⟩ := hf0 3 _ u0_3 rfl rfl
  obtain ⟨aT, rfl, w0_3⟩ := Go.Proofs.Ytkaefgmgcghhiaa.H.int_cell q0_3
  obtain ⟨y0_4, q0_4⟩ := hf0 4 _ u0_4 rfl rfl
  obtain ⟨bH, bC, aM, rfl, eu, eQ, w0_4⟩ := Go.Proofs.Ytkaefgmgcghhiaa.H.ints_C q0_4
  obtain ⟨y0_5, q0_5⟩ := hf0 5 _ u0_5 rfl rfl
  obtain ⟨bE, bD, aU, rfl, fG, fD, w0_5⟩ := Go.Proofs.Ytkaefgmgcghhiaa.H.ints_C q0_5
  have k1 := h1
  have lt1 : ∀ x ∈ p1, x.block < W.heap.size := by obtain ⟨m, hm⟩ := k1; exact DataW.trod_lt m _ _ _ hm
  obtain ⟨a1, rfl, _, _, w1⟩ := open_int Try.underlying3 (hval 1 3 v1 rfl rfl) h1
  clear hA0 hval0 hsz0
  refine (X.tutorlaw17_NfaCounts.calls aX aY ae aT bH bC aM bE bD aU a1 true W eQ eu fD fG (⟨rfl, X.wfs w0_4, X.wfs w0_5⟩)).mono fun e W' ⟨he, bel⟩ => ?_
  subst he
  exact ⟨_, rfl, _, _, _, [], _, [], hW', trodAll_mk1 (shut_bool Try.underlying4 _), (trodAll_cons_mk (Below.trod laidOut (by kernel_rfl) (of_decide_eq_true (by kernel_rfl)) k0 bel lt0) (trodAll_cons_mk (Below.trod laidOut (by kernel_rfl) (of_decide_eq_true (by kernel_rfl)) k1 bel lt1) trodAll_mk0)), rfl, bel.frame _, fun h => by cases h⟩
theorem over : Rows.nfaCountsRow.holds Try.pinned (OpenSpec.ofChange Rows.nfaCountsSpec) :=
  OpenClaim.holds_of_wide 11 Try.f11 rfl rfl rfl rfl rfl rfl rfl ⟨rfl, rfl, rfl, rfl, rfl⟩ rfl rfl rfl rfl rfl (by kernel_rfl) Try.func11 (by kernel_rfl)
    (of_decide_eq_true (by kernel_rfl)) (by unfold Func.isWrapper; first | (rw [if_pos (by decide +kernel)]; kernel_rfl) | (rw [if_neg (by decide +kernel)]; exact ⟨rfl, rfl⟩))
    (fun os started H enc _ => lifted os started H enc)
theorem proved : Rows.NfaCountsSaid := over
end Go.Proofs.Ytkaefgmgcghhiaa.nfaCounts
namespace Go.Proofs.Ytkaefgmgcghhiaa
/-- The row, under a short name, for the claim. -/
theorem nfaCounts_holds : Rows.NfaCountsSaid := nfaCounts.proved
end Go.Proofs.Ytkaefgmgcghhiaa
end
#print axioms Go.Proofs.Ytkaefgmgcghhiaa.nfaCounts_holds
