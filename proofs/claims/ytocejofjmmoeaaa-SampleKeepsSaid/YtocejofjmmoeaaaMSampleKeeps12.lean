/- Texts of the statement SampleKeeps, one behind the other: Go functions as Lean functions, the machine's calls, the plain law. -/
import Derived.Test.YtocejofjmmoeaaaMSampleKeeps4
import Derived.ChangeArms
import Derived.ChangeSlices
import Derived.Deep.Fields
import Derived.Deep.Slices
import Derived.Deep.Strs
import Derived.Lib.SmallJoins
import Derived.OpenShut
import Derived.ProofKit
import Derived.SizedLaws
set_option linter.unusedVariables false
set_option linter.unusedSimpArgs false
section
namespace Go.Proofs.Ytocejofjmmoeaaa.H
open Go.ChangeShapes Go.WideShapes Go.ChangeAt Go.RowKit Go.Joins
open Go.Proofs.Ytocejofjmmoeaaa.X
open Go.Proofs.YtocejofjmmoeaaaW.PrintWords
section
variable {H : Type} {enc : TypeId × Value → H} {W : World} {base : Nat} {sp : Nat → Bool} {held : Bool} {n : Nat} {v : Value} {y : DataW H × List MemPlace}
theorem int_cell (h : DataW.trod enc Try.prog W base sp held n 3 [v] = some y) : ∃ a, v = .int .i64 a ∧ (Lit.int .i64 a).wf = true := by
  obtain ⟨a, h1, _, h3⟩ := DataW.trod_int Try.underlying3 h
  simp only [List.cons.injEq, and_true] at h1
  exact ⟨a, h1, h3⟩
theorem maxLen_le : maxLen ≤ 9223372036854775807 := by decide
theorem ints_C (h : DataW.trod enc Try.prog W base sp held n 32 [v] = some y) : ∃ A c xs, v = .slice A xs.length c ∧ xs.length ≤ c ∧ Kd.C (Kd.int .i64) W A xs.length xs ∧ ∀ x ∈ xs, (Lit.int .i64 x).wf = true := by
  rcases open_ints Try.underlying32 Try.underlying3 (by kernel_rfl) h with ⟨hcs, _⟩ | ⟨a, len, cap, zs, hcs, _, hl, hm, hz, _, hcell, hwz⟩
  · simp only [List.cons.injEq, and_true] at hcs
    exact ⟨none, 0, [], hcs, by simp, Kd.C_nil _ _, by simp⟩
  · simp only [List.cons.injEq, and_true] at hcs
    have hzl : len ≤ zs.length := by rw [hz]; split <;> omega
    have hlen : (zs.take len).length = len := by rw [List.length_take]; omega
    refine ⟨some a, cap, zs.take len, by rw [hlen]; exact hcs, by omega, Kd.C_of_reads (d := (0 : Int)) (h1 := fun _ => rfl) ⟨rfl, by have := maxLen_le; omega, fun _ => ⟨a, rfl, fun j hj => ?_⟩⟩, fun x hx => hwz x (List.mem_of_mem_take hx)⟩
    rw [hcell j (by omega)]
    congr 2
    rw [List.getD_eq_getElem?_getD, List.getD_eq_getElem?_getD, List.getElem?_take, if_pos (by omega)]
theorem len3 {vs : List Value} (h : vs.length = 3) : ∃ u0 u1 u2, vs = [u0, u1, u2] := by
  match vs, h with | [u0, u1, u2], _ => exact ⟨u0, u1, u2, rfl⟩
theorem len4 {vs : List Value} (h : vs.length = 4) : ∃ u0 u1 u2 u3, vs = [u0, u1, u2, u3] := by
  match vs, h with | [u0, u1, u2, u3], _ => exact ⟨u0, u1, u2, u3, rfl⟩
set_option maxRecDepth 100000 in
theorem open_fields {r : Reach} {b0 : Nat} {t : TypeId} {fs : Array Field} {d : DataW H} {p : List MemPlace} (hs : Try.prog.underlying t = some (.struct fs)) (hone : Go.Deep.oneCellFields Try.prog fs = true) (hC : Try.prog.cellsOf t = fs.size) (hv : Value.okWide Try.prog W r b0 t v) (h : DataW.Trod enc Try.prog W base sp held t v d p) :
    ∃ vs : List Value, v = .agg vs.toArray ∧ vs.length = fs.size ∧ ∃ n, ∀ (j : Nat) (f : Field) (u : Value), fs[j]? = some f → vs[j]? = some u → ∃ y, DataW.trod enc Try.prog W base sp held n f.type [u] = some y := by
  obtain ⟨cs, rfl, hsz⟩ := okWide_struct hs hv
  obtain ⟨fuel, hf⟩ := h
  obtain ⟨xs, n, _, _, hcl, hxl, hg⟩ := DataW.trod_struct hs hf
  refine ⟨cs.toList, by simp, by simpa using hsz.trans hC, n, fun j f u hj hu => ?_⟩
  obtain ⟨o, k⟩ := Go.Deep.hone_of hone j f hj
  have h1 := hg j f hj
  have hjl : j < fs.size := (Array.getElem?_eq_some_iff.1 hj).1
  have hlt : j < cs.toList.length := (List.getElem?_eq_some_iff.1 hu).1
  have hu' : cs.toList[j] = u := (List.getElem?_eq_some_iff.1 hu).2
  have hd : ((Value.agg cs).cells.toList.drop f.offset).take (Try.prog.cellsOf f.type) = [u] := by
    rw [o, k]
    show (cs.toList.drop j).take 1 = [u]
    rw [List.drop_eq_getElem_cons hlt, List.take_succ_cons, List.take_zero, hu']
  rw [hd] at h1
  rw [h1]
  exact ⟨_, List.getElem?_eq_getElem (show j < xs.length by rw [hxl]; exact hjl)⟩
end
end Go.Proofs.Ytocejofjmmoeaaa.H
end
