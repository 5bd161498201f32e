/- Texts of the statement CacheTrue, one behind the other: Go functions as Lean functions, the machine's calls, the plain law. -/
import Derived.Test.YtdijkhamebkfjaaMCacheTrue3
import Derived.ChangeArms
import Derived.ChangeSlices
import Derived.Deep.Fields
import Derived.Deep.Slices
import Derived.Deep.Strs
import Derived.Lib.SmallJoins
import Derived.OpenShut
import Derived.ProofKit
import Derived.SizedLaws
set_option linter.unusedVariables false
set_option linter.unusedSimpArgs false
section
namespace Go.Proofs.Ytdijkhamebkfjaa.H
open Go.ChangeShapes Go.WideShapes Go.ChangeAt Go.RowKit Go.Joins
open Go.Proofs.Ytdijkhamebkfjaa.X
open Go.Proofs.YtdijkhamebkfjaaW.PrintWords
section
variable {H : Type} {enc : TypeId × Value → H} {W : World} {base : Nat} {sp : Nat → Bool} {held : Bool} {n : Nat} {v : Value} {y : DataW H × List MemPlace}
theorem int_cell (h : DataW.trod enc Try.prog W base sp held n 3 [v] = some y) : ∃ a, v = .int .i64 a ∧ (Lit.int .i64 a).wf = true := by
  obtain ⟨a, h1, _, h3⟩ := DataW.trod_int Try.underlying3 h
  simp only [List.cons.injEq, and_true] at h1
  exact ⟨a, h1, h3⟩
theorem maxLen_le : maxLen ≤ 9223372036854775807 := by decide
theorem ints_C (h : DataW.trod enc Try.prog W base sp held n 22 [v] = some y) : ∃ A c xs, v = .slice A xs.length c ∧ xs.length ≤ c ∧ Kd.C (Kd.int .i64) W A xs.length xs ∧ ∀ x ∈ xs, (Lit.int .i64 x).wf = true := by
  rcases open_ints Try.underlying22 Try.underlying3 (by kernel_rfl) h with ⟨hcs, _⟩ | ⟨a, len, cap, zs, hcs, _, hl, hm, hz, _, hcell, hwz⟩
  · simp only [List.cons.injEq, and_true] at hcs
    exact ⟨none, 0, [], hcs, by simp, Kd.C_nil _ _, by simp⟩
  · simp only [List.cons.injEq, and_true] at hcs
    have hzl : len ≤ zs.length := by rw [hz]; split <;> omega
    have hlen : (zs.take len).length = len := by rw [List.length_take]; omega
    refine ⟨some a, cap, zs.take len, by rw [hlen]; exact hcs, by omega, Kd.C_of_reads (d := (0 : Int)) (h1 := fun _ => rfl) ⟨rfl, by have := maxLen_le; omega, fun _ => ⟨a, rfl, fun j hj => ?_⟩⟩, fun x hx => hwz x (List.mem_of_mem_take hx)⟩
    rw [hcell j (by omega)]
    congr 2
    rw [List.getD_eq_getElem?_getD, List.getD_eq_getElem?_getD, List.getElem?_take, if_pos (by omega)]
theorem len2 {vs : List Value} (h : vs.length = 2) : ∃ u0 u1, vs = [u0, u1] := by
  match vs, h with | [u0, u1], _ => exact ⟨u0, u1, rfl⟩
theorem len6 {vs : List Value} (h : vs.length = 6) : ∃ u0 u1 u2 u3 u4 u5, vs = [u0, u1, u2, u3, u4, u5] := by
  match vs, h with | [u0, u1, u2, u3, u4, u5], _ => exact ⟨u0, u1, u2, u3, u4, u5, rfl⟩
set_option maxRecDepth 100000 in
theorem open_fields {r : Reach} {b0 : Nat} {t : TypeId} {fs : Array Field} {d : DataW H} {p : List MemPlace} (hs : Try.prog.underlying t = some (.struct fs)) (hone : Go.Deep.oneCellFields Try.prog fs = true) (hC : Try.prog.cellsOf t = fs.size) (hv : Value.okWide Try.prog W r b0 t v) (h : DataW.Trod enc Try.prog W base sp held t v d p) :
    ∃ vs : List Value, v = .agg vs.toArray ∧ vs.length = fs.size ∧ ∃ n, ∀ (j : Nat) (f : Field) (u : Value), fs[j]? = some f → vs[j]? = some u → ∃ y, DataW.trod enc Try.prog W base sp held n f.type [u] = some y := by
  obtain ⟨cs, rfl, hsz⟩ := okWide_struct hs hv
  obtain ⟨fuel, hf⟩ := h
  obtain ⟨xs, n, _, _, hcl, hxl, hg⟩ := DataW.trod_struct hs hf
  refine ⟨cs.toList, by simp, by simpa using hsz.trans hC, n, fun j f u hj hu => ?_⟩
  obtain ⟨o, k⟩ := Go.Deep.hone_of hone j f hj
  have h1 := hg j f hj
  have hjl : j < fs.size := (Array.getElem?_eq_some_iff.1 hj).1
  have hlt : j < cs.toList.length := (List.getElem?_eq_some_iff.1 hu).1
  have hu' : cs.toList[j] = u := (List.getElem?_eq_some_iff.1 hu).2
  have hd : ((Value.agg cs).cells.toList.drop f.offset).take (Try.prog.cellsOf f.type) = [u] := by
    rw [o, k]
    show (cs.toList.drop j).take 1 = [u]
    rw [List.drop_eq_getElem_cons hlt, List.take_succ_cons, List.take_zero, hu']
  rw [hd] at h1
  rw [h1]
  exact ⟨_, List.getElem?_eq_getElem (show j < xs.length by rw [hxl]; exact hjl)⟩
end
end Go.Proofs.Ytdijkhamebkfjaa.H
end

section
namespace Go.Proofs.Ytdijkhamebkfjaa.H
open Go.ChangeShapes Go.WideShapes Go.ChangeAt Go.RowKit Go.Joins
open Go.Proofs.Ytdijkhamebkfjaa.X
open Go.Proofs.YtdijkhamebkfjaaW.PrintWords
variable {H : Type} {enc : TypeId × Value → H} {W : World} {base : Nat} {sp : Nat → Bool} {held : Bool} {n : Nat} {v : Value} {y : DataW H × List MemPlace}
theorem lists_C (h : DataW.trod enc Try.prog W base sp held n 25 [v] = some y) : ∃ A c xs, v = .slice A xs.length c ∧ xs.length ≤ c ∧ Kd.C (Kd.slice 3 (Kd.int .i64)) W A xs.length xs ∧ ∀ x ∈ xs, ∀ z ∈ x, (Lit.int .i64 z).wf = true := by
  rcases Go.Deep.open_slice1 Try.underlying25 (by kernel_rfl) h with ⟨hcs, _⟩ | ⟨a, len, cap, m, q, V, D, Pl, hcs, _, hl, hm, hmm, _, hel⟩
  · simp only [List.cons.injEq, and_true] at hcs
    exact ⟨none, 0, [], hcs, by simp, Kd.C_nil _ _, by simp⟩
  · simp only [List.cons.injEq, and_true] at hcs
    have hml : len ≤ m := by rw [hmm]; split <;> omega
    have hone : ∀ i, i < m → ∃ x : List Int, (∃ A c, W.cell? (a.add i) = some (.slice A x.length c) ∧ x.length ≤ c ∧ Kd.C (Kd.int .i64) W A x.length x) ∧ ∀ z ∈ x, (Lit.int .i64 z).wf = true := by
      intro i hi
      obtain ⟨h1, h2⟩ := hel i hi
      obtain ⟨A, c, x, e, hle, hC, hw⟩ := ints_C h2
      rw [e] at h1
      exact ⟨x, ⟨A, c, h1, hle, hC⟩, hw⟩
    have hall : ∃ xs : List (List Int), xs.length = len ∧ ∀ i x, xs[i]? = some x → (∃ A c, W.cell? (a.add i) = some (.slice A x.length c) ∧ x.length ≤ c ∧ Kd.C (Kd.int .i64) W A x.length x) ∧ ∀ z ∈ x, (Lit.int .i64 z).wf = true := by
      refine ⟨(List.range len).map fun i => if hi : i < m then (hone i hi).choose else [], by simp, fun i x hx => ?_⟩
      have hi : i < len := by
        have := (List.getElem?_eq_some_iff.1 hx).1
        simpa using this
      have hi2 : i < m := by omega
      rw [List.getElem?_map, List.getElem?_range hi] at hx
      simp only [Option.map_some, Option.some.injEq, dif_pos hi2] at hx
      subst hx
      exact (hone i hi2).choose_spec
    obtain ⟨xs, hxl, hxs⟩ := hall
    refine ⟨some a, cap, xs, by rw [hxl]; exact hcs, by omega, ⟨rfl, by have := maxLen_le; omega, fun _ => ⟨a, rfl, fun j p hj => ?_⟩⟩, fun x hx => ?_⟩
    · obtain ⟨⟨A, c, h1, h2, h3⟩, _⟩ := hxs j p hj
      refine ⟨[.slice A p.length c], rfl, ⟨A, c, rfl, h2, h3⟩, fun i u hu => ?_⟩
      cases i with
      | zero =>
        simp only [List.getElem?_cons_zero, Option.some.injEq] at hu
        subst hu
        show W.cell? (a.add (j * 1 + 0)) = _
        rw [Nat.mul_one, Nat.add_zero]
        exact h1
      | succ i => simp at hu
    · obtain ⟨j, hj⟩ := List.getElem?_of_mem hx
      exact (hxs j x hj).2
end Go.Proofs.Ytdijkhamebkfjaa.H
end
