/- Texts of the statement CacheTrue, one behind the other: Go functions as Lean functions, the machine's calls, the plain law; at its end: for every input the law returns true. -/
import Derived.Test.YtdijkhamebkfjaaMCacheTrue9
import Derived.Test.YtdijkhamebkfjaaMCacheTrue10
import Derived.ChangeOld
import Derived.ShutString
import Derived.Test.YtdijkhamebkfjaaRows
set_option linter.unusedVariables false
set_option linter.unusedSimpArgs false
section
namespace Go.Proofs.Ytdijkhamebkfjaa.cacheTrue
open Go.ChangeShapes Go.WideShapes Go.ChangeAt Go.RowKit
open Go.ChangeMaps (open_string shut_string)
theorem own : ownKnob Try.prog.godebug = none := by kernel_rfl
theorem laidOut : laidOutB Try.prog = true := by kernel_rfl
set_option maxHeartbeats 2000000 in
set_option maxRecDepth 100000 in
theorem lifted (os : Os) (started : os.Started) (H : Type) (enc : TypeId × Value → H) :
    ReturnsInHanded {} Try.checked os 3 .any (Rows.cacheTrueSpec.pre6 enc Try.prog Try.f3 Rows.cacheTrueRow.domain false) (Rows.cacheTrueSpec.post enc Try.prog Try.f3 false true false false) := by
  refine returnsInHanded_of_change_sized (C := Try.checked) own started (by kernel_rfl) Try.func3
    (ChangeSpec.witness6 (enc := enc) (C := Try.checked) false ⟨#[], #[.agg #[.int .i64 0, .int .i64 0, .int .i64 0, .int .i64 0, .slice none 0 0, .slice none 0 0], .slice none 0 0, .slice none 0 0], []⟩ 8 (by kernel_rfl) (by kernel_rfl) (by kernel_rfl) (by kernel_rfl)) ?_
  intro W base args ds gs before hval0 hW hcnd hsz0 _
  have hval : ∀ (j : Nat) t v, Try.f3.params[j]? = some t → args[j]? = some v → Value.okWide Try.prog W .any base t v := hval0
  have hW' := hW
  obtain ⟨p, q, hA0, hV, rfl, hfz, hnd⟩ := hW
  have hA : DataW.TrodAll enc Try.prog W 0 (fun _ => true) true Try.f3.params.toList args.toList ds p := hA0
  rw [Try.params3] at hA hval
  obtain ⟨v0, vs0, d0, ds0, p0, q0, hargs, rfl, rfl, h0, r0⟩ := trodAll_cons hA
  obtain ⟨v1, vs1, d1, ds1, p1, q1, rfl, rfl, rfl, h1, r1⟩ := trodAll_cons r0
  obtain ⟨v2, vs2, d2, ds2, p2, q2, rfl, rfl, rfl, h2, r2⟩ := trodAll_cons r1
  obtain ⟨rfl, rfl, rfl⟩ := trodAll_nil r2
  obtain rfl : args = #[v0, v1, v2] := by cases args; simp_all
  obtain ⟨rfl, rfl⟩ := trodVars_none hV
  have k0 := h0
  have lt0 : ∀ x ∈ p0, x.block < W.heap.size := by obtain ⟨m, hm⟩ := k0; exact DataW.trod_lt m _ _ _ hm
  obtain ⟨vs0_, rfl, hl0, fu0, hf0⟩ := Go.Proofs.Ytdijkhamebkfjaa.H.open_fields Try.underlying24 (by kernel_rfl) (by kernel_rfl) (hval 0 24 v0 rfl rfl) h0
  obtain ⟨u0_0, u0_1, u0_2, u0_3, u0_4, u0_5, rfl⟩ := Go.Proofs.Ytdijkhamebkfjaa.H.len6 hl0
  obtain ⟨y0_0, q0_0⟩ := hf0 0 _ u0_0 rfl rfl
  obtain ⟨a0_0, rfl, w0_0⟩ := Go.Proofs.Ytdijkhamebkfjaa.H.int_cell q0_0
  obtain ⟨y0_1, q0_1⟩ := hf0 1 _ u0_1 rfl rfl
  obtain ⟨a0_1, rfl, w0_1⟩ := Go.Proofs.Ytdijkhamebkfjaa.H.int_cell q0_1
  obtain ⟨y0_2, q0_2⟩ := hf0 2 _ u0_2 rfl rfl
  obtain ⟨a0_2, rfl, w0_2⟩ := Go.Proofs.Ytdijkhamebkfjaa.H.int_cell q0_2
  obtain ⟨y0_3, q0_3⟩ := hf0 3 _ u0_3 rfl rfl
  obtain ⟨a0_3, rfl, w0_3⟩ := Go.Proofs.Ytdijkhamebkfjaa.H.int_cell q0_3
  obtain ⟨y0_4, q0_4⟩ := hf0 4 _ u0_4 rfl rfl
  obtain ⟨A0_4, c0_4, l0_4, rfl, hc0_4, hr0_4, w0_4⟩ := Go.Proofs.Ytdijkhamebkfjaa.H.ints_C q0_4
  obtain ⟨y0_5, q0_5⟩ := hf0 5 _ u0_5 rfl rfl
  obtain ⟨A0_5, c0_5, l0_5, rfl, hc0_5, hr0_5, w0_5⟩ := Go.Proofs.Ytdijkhamebkfjaa.H.ints_C q0_5
  have k1 := h1
  have lt1 : ∀ x ∈ p1, x.block < W.heap.size := by obtain ⟨m, hm⟩ := k1; exact DataW.trod_lt m _ _ _ hm
  obtain ⟨b1, len1, cap1, rfl⟩ := okWide_slice Try.underlying25 (hval 1 25 v1 rfl rfl)
  obtain ⟨fu1, hf1⟩ := h1
  obtain ⟨A1, c1, l1, he1, hc1, hr1, w1⟩ := Go.Proofs.Ytdijkhamebkfjaa.H.lists_C (v := .slice b1 len1 cap1) hf1
  simp only [Value.slice.injEq] at he1
  obtain ⟨rfl, rfl, rfl⟩ := he1
  have k2 := h2
  have lt2 : ∀ x ∈ p2, x.block < W.heap.size := by obtain ⟨m, hm⟩ := k2; exact DataW.trod_lt m _ _ _ hm
  obtain ⟨b2, len2, cap2, rfl⟩ := okWide_slice Try.underlying22 (hval 2 22 v2 rfl rfl)
  obtain ⟨fu2, hf2⟩ := h2
  obtain ⟨A2, c2, l2, he2, hc2, hr2, w2⟩ := Go.Proofs.Ytdijkhamebkfjaa.H.ints_C (v := .slice b2 len2 cap2) hf2
  simp only [Value.slice.injEq] at he2
  obtain ⟨rfl, rfl, rfl⟩ := he2
  clear hA0 hval0 hsz0
  refine (X.tutorlaw11_CacheTrue.calls a0_0 a0_1 a0_2 a0_3 A0_4 c0_4 l0_4 A0_5 c0_5 l0_5 b1 cap1 l1 b2 cap2 l2 true W hr0_4 hc0_4 hr0_5 hc0_5 hr1 hc1 hr2 hc2 (rfl)).mono fun e W' ⟨he, bel⟩ => ?_
  subst he
  exact ⟨_, rfl, _, _, _, [], _, [], hW', trodAll_mk1 (shut_bool Try.underlying4 _), (trodAll_cons_mk (Below.trod laidOut (by kernel_rfl) (of_decide_eq_true (by kernel_rfl)) k0 bel lt0) (trodAll_cons_mk (Below.trod laidOut (by kernel_rfl) (of_decide_eq_true (by kernel_rfl)) k1 bel lt1) (trodAll_cons_mk (Below.trod laidOut (by kernel_rfl) (of_decide_eq_true (by kernel_rfl)) k2 bel lt2) trodAll_mk0))), rfl, bel.frame _, fun h => by cases h⟩
theorem over : Rows.cacheTrueRow.holds Try.pinned (OpenSpec.ofChange Rows.cacheTrueSpec) :=
  OpenClaim.holds_of_wide 3 Try.f3 rfl rfl rfl rfl rfl rfl rfl ⟨rfl, rfl, rfl, rfl, rfl⟩ rfl rfl rfl rfl rfl (by kernel_rfl) Try.func3 (by kernel_rfl)
    (of_decide_eq_true (by kernel_rfl)) (by unfold Func.isWrapper; first | (rw [if_pos (by decide +kernel)]; kernel_rfl) | (rw [if_neg (by decide +kernel)]; exact ⟨rfl, rfl⟩))
    (fun os started H enc _ => lifted os started H enc)
theorem proved : Rows.CacheTrueSaid := over
end Go.Proofs.Ytdijkhamebkfjaa.cacheTrue
namespace Go.Proofs.Ytdijkhamebkfjaa
/-- The row, under a short name, for the claim. -/
theorem cacheTrue_holds : Rows.CacheTrueSaid := cacheTrue.proved
end Go.Proofs.Ytdijkhamebkfjaa
end
#print axioms Go.Proofs.Ytdijkhamebkfjaa.cacheTrue_holds
