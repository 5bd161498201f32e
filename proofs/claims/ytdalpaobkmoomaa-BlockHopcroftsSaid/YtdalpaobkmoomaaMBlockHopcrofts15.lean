/- Texts of the statement BlockHopcrofts, one behind the other: Go functions as Lean functions, the machine's calls, the plain law; at its end: for every input the law returns true. -/
import Derived.Test.YtdalpaobkmoomaaMBlockHopcrofts12
import Derived.Test.YtdalpaobkmoomaaMBlockHopcrofts14
import Derived.ChangeOld
import Derived.ShutString
import Derived.Test.YtdalpaobkmoomaaRows
set_option linter.unusedVariables false
set_option linter.unusedSimpArgs false
section
namespace Go.Proofs.Ytdalpaobkmoomaa.blockHopcrofts
open Go.ChangeShapes Go.WideShapes Go.ChangeAt Go.RowKit
open Go.ChangeMaps (open_string shut_string)
theorem own : ownKnob Try.prog.godebug = none := by kernel_rfl
theorem laidOut : laidOutB Try.prog = true := by kernel_rfl
set_option maxHeartbeats 2000000 in
set_option maxRecDepth 100000 in
theorem lifted (os : Os) (started : os.Started) (H : Type) (enc : TypeId × Value → H) :
    ReturnsInHanded {} Try.checked os 7 .any (Rows.blockHopcroftsSpec.pre6 enc Try.prog Try.f7 Rows.blockHopcroftsRow.domain false) (Rows.blockHopcroftsSpec.post enc Try.prog Try.f7 false true false false) := by
  refine returnsInHanded_of_change_sized (C := Try.checked) own started (by kernel_rfl) Try.func7
    (ChangeSpec.witness6 (enc := enc) (C := Try.checked) false ⟨#[], #[.agg #[.int .i64 0, .int .i64 0, .int .i64 0, .int .i64 0, .slice none 0 0, .slice none 0 0]], []⟩ 8 (by kernel_rfl) (by kernel_rfl) (by kernel_rfl) (by kernel_rfl)) ?_
  intro W base args ds gs before hval0 hW hcnd hsz0 _
  have hval : ∀ (j : Nat) t v, Try.f7.params[j]? = some t → args[j]? = some v → Value.okWide Try.prog W .any base t v := hval0
  have hW' := hW
  obtain ⟨p, q, hA0, hV, rfl, hfz, hnd⟩ := hW
  have hA : DataW.TrodAll enc Try.prog W 0 (fun _ => true) true Try.f7.params.toList args.toList ds p := hA0
  rw [Try.params7] at hA hval
  obtain ⟨v0, vs0, d0, ds0, p0, q0, hargs, rfl, rfl, h0, r0⟩ := trodAll_cons hA
  obtain ⟨rfl, rfl, rfl⟩ := trodAll_nil r0
  obtain rfl : args = #[v0] := by cases args; simp_all
  obtain ⟨rfl, rfl⟩ := trodVars_none hV
  have k0 := h0
  have lt0 : ∀ x ∈ p0, x.block < W.heap.size := by obtain ⟨m, hm⟩ := k0; exact DataW.trod_lt m _ _ _ hm
  obtain ⟨vs0_, rfl, hl0, fu0, hf0⟩ := Go.Proofs.Ytdalpaobkmoomaa.H.open_fields Try.underlying53 (by kernel_rfl) (by kernel_rfl) (hval 0 53 v0 rfl rfl) h0
  obtain ⟨u0_0, u0_1, u0_2, u0_3, u0_4, u0_5, rfl⟩ := Go.Proofs.Ytdalpaobkmoomaa.H.len6 hl0
  obtain ⟨y0_0, q0_0⟩ := hf0 0 _ u0_0 rfl rfl
  obtain ⟨a0_0, rfl, w0_0⟩ := Go.Proofs.Ytdalpaobkmoomaa.H.int_cell q0_0
  obtain ⟨y0_1, q0_1⟩ := hf0 1 _ u0_1 rfl rfl
  obtain ⟨a0_1, rfl, w0_1⟩ := Go.Proofs.Ytdalpaobkmoomaa.H.int_cell q0_1
  obtain ⟨y0_2, q0_2⟩ := hf0 2 _ u0_2 rfl rfl
  obtain ⟨a0_2, rfl, w0_2⟩ := Go.Proofs.Ytdalpaobkmoomaa.H.int_cell q0_2
  obtain ⟨y0_3, q0_3⟩ := hf0 3 _ u0_3 rfl rfl
  obtain ⟨a0_3, rfl, w0_3⟩ := Go.Proofs.Ytdalpaobkmoomaa.H.int_cell q0_3
  obtain ⟨y0_4, q0_4⟩ := hf0 4 _ u0_4 rfl rfl
  obtain ⟨A0_4, c0_4, l0_4, rfl, hc0_4, hr0_4, w0_4⟩ := Go.Proofs.Ytdalpaobkmoomaa.H.ints_C q0_4
  obtain ⟨y0_5, q0_5⟩ := hf0 5 _ u0_5 rfl rfl
  obtain ⟨A0_5, c0_5, l0_5, rfl, hc0_5, hr0_5, w0_5⟩ := Go.Proofs.Ytdalpaobkmoomaa.H.ints_C q0_5
  clear hA0 hval0 hsz0
  refine (X.tutorlaw06_BlockHopcrofts.calls (500000) a0_0 a0_1 a0_2 a0_3 A0_4 c0_4 l0_4 A0_5 c0_5 l0_5 true W hr0_4 hc0_4 hr0_5 hc0_5 (X.BlockHopcrofts_pure a0_0 a0_1 a0_2 a0_3 l0_4 l0_5 (X.wfs w0_4) (X.wfs w0_5) (Nat.le_refl _))).mono fun e W' ⟨he, bel⟩ => ?_
  subst he
  exact ⟨_, rfl, _, _, _, [], _, [], hW', trodAll_mk1 (shut_bool Try.underlying4 _), (trodAll_cons_mk (Below.trod laidOut (by kernel_rfl) (of_decide_eq_true (by kernel_rfl)) k0 bel lt0) trodAll_mk0), rfl, bel.frame _, fun h => by cases h⟩
theorem over : Rows.blockHopcroftsRow.holds Try.pinned (OpenSpec.ofChange Rows.blockHopcroftsSpec) :=
  OpenClaim.holds_of_wide 7 Try.f7 rfl rfl rfl rfl rfl rfl rfl ⟨rfl, rfl, rfl, rfl, rfl⟩ rfl rfl rfl rfl rfl (by kernel_rfl) Try.func7 (by kernel_rfl)
    (of_decide_eq_true (by kernel_rfl)) (by unfold Func.isWrapper; first | (rw [if_pos (by decide +kernel)]; kernel_rfl) | (rw [if_neg (by decide +kernel)]; exact ⟨rfl, rfl⟩))
    (fun os started H enc _ => lifted os started H enc)
theorem proved : Rows.BlockHopcroftsSaid := over
end Go.Proofs.Ytdalpaobkmoomaa.blockHopcrofts
namespace Go.Proofs.Ytdalpaobkmoomaa
/-- The row, under a short name, for the claim. -/
theorem blockHopcrofts_holds : Rows.BlockHopcroftsSaid := blockHopcrofts.proved
end Go.Proofs.Ytdalpaobkmoomaa
end
#print axioms Go.Proofs.Ytdalpaobkmoomaa.blockHopcrofts_holds
