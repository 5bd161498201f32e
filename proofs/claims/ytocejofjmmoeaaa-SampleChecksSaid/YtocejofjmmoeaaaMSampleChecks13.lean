/- Texts of the statement SampleChecks, one behind the other: Go functions as Lean functions, the machine's calls, the plain law. -/
import Derived.Test.YtocejofjmmoeaaaMSampleChecks4
import Derived.ChangeArms
import Derived.ChangeSlices
import Derived.Deep.Fields
import Derived.Deep.Slices
import Derived.Deep.Strs
import Derived.Lib.SmallJoins
import Derived.OpenShut
import Derived.ProofKit
import Derived.SizedLaws
set_option linter.unusedVariables false
set_option linter.unusedSimpArgs false
section
namespace Go.Proofs.Ytocejofjmmoeaaa.H
open Go.ChangeShapes Go.WideShapes Go.ChangeAt Go.RowKit Go.Joins
open Go.Proofs.Ytocejofjmmoeaaa.X
open Go.Proofs.YtocejofjmmoeaaaW.PrintWords
section
variable {H : Type} {enc : TypeId × Value → H} {W : World} {base : Nat} {sp : Nat → Bool} {held : Bool} {n : Nat} {v : Value} {y : DataW H × List MemPlace}
theorem int_cell (h : DataW.trod enc Try.prog W base sp held n 3 [v] = some y) : ∃ a, v = .int .i64 a ∧ (Lit.int .i64 a).wf = true := by
  obtain ⟨a, h1, _, h3⟩ := DataW.trod_int Try.underlying3 h
  simp only [List.cons.injEq, and_true] at h1
  exact ⟨a, h1, h3⟩
theorem maxLen_le : maxLen ≤ 9223372036854775807 := by decide
theorem ints_C (h : DataW.trod enc Try.prog W base sp held n 32 [v] = some y) : ∃ A c xs, v = .slice A xs.length c ∧ xs.length ≤ c ∧ Kd.C (Kd.int .i64) W A xs.length xs ∧ ∀ x ∈ xs, (Lit.int .i64 x).wf = true := by
  rcases open_ints Try.underlying32 Try.underlying3 (by kernel_rfl) h with ⟨hcs, _⟩ | ⟨a, len, cap, zs, hcs, _, hl, hm, hz, _, hcell, hwz⟩
  · simp only [List.cons.injEq, and_true] at hcs
    exact ⟨none, 0, [], hcs, by simp, Kd.C_nil _ _, by simp⟩
  · simp only [List.cons.injEq, and_true] at hcs
    have hzl : len ≤ zs.length := by rw [hz]; split <;> omega
    have hlen : (zs.take len).length = len := by rw [List.length_take]; omega
    refine ⟨some a, cap, zs.take len, by rw [hlen]; exact hcs, by omega, Kd.C_of_reads (d := (0 : Int)) (h1 := fun _ => rfl) ⟨rfl, by have := maxLen_le; omega, fun _ => ⟨a, rfl, fun j hj => ?_⟩⟩, fun x hx => hwz x (List.mem_of_mem_take hx)⟩
    rw [hcell j (by omega)]
    congr 2
    rw [List.getD_eq_getElem?_getD, List.getD_eq_getElem?_getD, List.getElem?_take, if_pos (by omega)]
theorem add_add (a : Addr) (i j : Nat) : (a.add i).add j = a.add (i + j) := by
  unfold Addr.add
  obtain ⟨b, o, s⟩ := a
  by_cases hi : i = 0 <;> by_cases hj : j = 0 <;> simp [hi, hj, Nat.add_assoc]
end
end Go.Proofs.Ytocejofjmmoeaaa.H
end

section
namespace Go.Proofs.Ytocejofjmmoeaaa.H
open Go.ChangeShapes Go.WideShapes Go.ChangeAt Go.RowKit Go.Joins
open Go.Proofs.Ytocejofjmmoeaaa.X
open Go.Proofs.YtocejofjmmoeaaaW.PrintWords
variable {H : Type} {enc : TypeId × Value → H} {W : World} {base : Nat} {sp : Nat → Bool} {held : Bool} {n : Nat} {v : Value} {y : DataW H × List MemPlace}
theorem cells_two {x : Addr} {cs : List Value} (h : W.cells? base x 2 = some cs) : ∃ c0 c1, cs = [c0, c1] ∧ W.cell? (x.add 0) = some c0 ∧ W.cell? (x.add 1) = some c1 := by
  unfold World.cells? at h
  split at h
  · have hr : List.range 2 = [0, 1] := rfl
    rw [hr] at h
    simp only [List.mapM_cons, List.mapM_nil, Option.pure_def, Option.bind_eq_bind, Option.bind_eq_some_iff, Option.some.injEq] at h
    obtain ⟨c0, h0, l1, ⟨c1, h1, l2, rfl, rfl⟩, rfl⟩ := h
    exact ⟨c0, c1, rfl, h0, h1⟩
  · cases h
theorem exs_C (h : DataW.trod enc Try.prog W base sp held n 22 [v] = some y) : ∃ A c xs, v = .slice A xs.length c ∧ xs.length ≤ c ∧ Kd.C k57 W A xs.length xs ∧ ∀ x ∈ xs, ((∀ z ∈ x.f0, (Lit.int .i64 z).wf = true) ∧ (Lit.int .i64 x.f1).wf = true) := by
  rcases Go.Deep.open_slice Try.underlying22 h with ⟨hcs, _⟩ | ⟨a, len, cap, m, q, D, Pl, hcs, _, hl, hm, hmm, _, hel⟩
  · simp only [List.cons.injEq, and_true] at hcs
    exact ⟨none, 0, [], hcs, by simp, Kd.C_nil _ _, by simp⟩
  · simp only [List.cons.injEq, and_true] at hcs
    have hml : len ≤ m := by rw [hmm]; split <;> omega
    have hcell57 : Try.prog.cellsOf 57 = 2 := by kernel_rfl
    have hc3 : Try.prog.cellsOf 3 = 1 := by kernel_rfl
    have hc32 : Try.prog.cellsOf 32 = 1 := by kernel_rfl
    have hone : ∀ i, i < m → ∃ x : S57, (∃ cs, k57.K W x cs ∧ ∀ j u, cs[j]? = some u → W.cell? (a.add (i * 2 + j)) = some u) ∧ ((∀ z ∈ x.f0, (Lit.int .i64 z).wf = true) ∧ (Lit.int .i64 x.f1).wf = true) := by
      intro i hi
      obtain ⟨cs, h1, h2⟩ := hel i hi
      rw [hcell57] at h1
      obtain ⟨c0, c1, rfl, g0, g1⟩ := cells_two h1
      obtain ⟨y0, y1, q', _, _, t0, t1⟩ := Go.ChangeShapes.trod_struct2 Try.underlying57 h2
      simp only [hc3, hc32, List.drop_zero, List.drop_succ_cons, List.take_succ_cons, List.take_zero] at t0 t1
      obtain ⟨B1, d1, x1, rfl, le1, C1, g4⟩ := ints_C t0
      obtain ⟨x0, rfl, g3⟩ := int_cell t1
      refine ⟨⟨x1, x0⟩, ⟨_, k57_mk W ⟨x1, x0⟩ le1 C1, fun j u hj => ?_⟩, g4, g3⟩
      rw [← add_add]
      match j, hj with
      | 0, hj => simp only [List.getElem?_cons_zero, Option.some.injEq] at hj; rw [← hj]; exact g0
      | 1, hj => simp only [List.getElem?_cons_succ, List.getElem?_cons_zero, Option.some.injEq] at hj; rw [← hj]; exact g1
      | j + 2, hj => simp at hj
    have hall : ∃ xs : List S57, xs.length = len ∧ ∀ i x, xs[i]? = some x → (∃ cs, k57.K W x cs ∧ ∀ j u, cs[j]? = some u → W.cell? (a.add (i * 2 + j)) = some u) ∧ ((∀ z ∈ x.f0, (Lit.int .i64 z).wf = true) ∧ (Lit.int .i64 x.f1).wf = true) := by
      refine ⟨(List.range len).map fun i => if hi : i < m then (hone i hi).choose else ⟨[], 0⟩, by simp, fun i x hx => ?_⟩
      have hi : i < len := by
        have := (List.getElem?_eq_some_iff.1 hx).1
        simpa using this
      have hi2 : i < m := by omega
      rw [List.getElem?_map, List.getElem?_range hi] at hx
      simp only [Option.map_some, Option.some.injEq, dif_pos hi2] at hx
      subst hx
      exact (hone i hi2).choose_spec
    obtain ⟨xs, hxl, hxs⟩ := hall
    refine ⟨some a, cap, xs, by rw [hxl]; exact hcs, by omega, ⟨rfl, by have := maxLen_le; omega, fun _ => ⟨a, rfl, fun j p hj => ?_⟩⟩, fun x hx => ?_⟩
    · obtain ⟨⟨cs, g1, g2⟩, _⟩ := hxs j p hj
      exact ⟨cs, k57.K_len g1, g1, g2⟩
    · obtain ⟨j, hj⟩ := List.getElem?_of_mem hx
      exact (hxs j x hj).2
end Go.Proofs.Ytocejofjmmoeaaa.H
end
