/- Plain facts on the functions that layer 2's statements reach. -/
import Derived.Test.YtfoakihlbeoebaaDoorXf5
namespace Go.Proofs.YtfoakihlbeoebaaDoor.X
open Go.RowKit Go.Proofs.YtfoakihlbeoebaaDoorW.PrintWords Go.Proofs.YtfoakihlbeoebaaDoorW.PrintLast
theorem live_at : tutorlaw02_live.f 10 = some true := by decide +kernel
theorem live_ev (k : Nat) (hk : 10 ≤ k) : tutorlaw02_live.f k = some true := at_rounds (g := fun k => tutorlaw02_live.f k) (fun k => tutorlaw02_live.mono k) hk live_at
theorem defaults_small : (List.range 65).all (fun n => n == 0 || tutorlaw02_GlyphDefaults.f 200 (n : Int) == some true) = true := by decide +kernel
theorem GlyphDefaults_pure (a0 : Int) : tutorlaw02_GlyphDefaults.f 200 a0 = some true := by
  by_cases h : 1 ≤ a0 ∧ a0 ≤ 64
  · have h1 := List.all_eq_true.1 defaults_small a0.toNat (by simp; omega)
    have h2 : ((a0.toNat : Nat) : Int) = a0 := by omega
    rw [h2] at h1
    have h3 : (a0.toNat == 0) = false := by simp; omega
    rw [h3, Bool.false_or] at h1
    exact eq_of_beq h1
  · have hd : ∀ k, glyph_Default.f (k + 1) a0 = some [] := by
      intro k
      unfold glyph_Default.f
      by_cases h1 : a0 < 1
      · rw [if_pos h1]; rfl
      · rw [if_neg h1, decide_eq_true (by omega)]; rfl
    have hr : ∀ k, tutorref02_Default.f (k + 1) a0 = some [] := by
      intro k
      unfold tutorref02_Default.f
      by_cases h1 : a0 < 1
      · rw [if_pos h1]; rfl
      · rw [if_neg h1, decide_eq_true (by omega)]; rfl
    have hs : ∀ k, tutorref02_Same.f (k + 1) [] [] = some true := fun k => rfl
    unfold tutorlaw02_GlyphDefaults.f
    rw [hd, hr]
    simp only [Option.bind_some]
    rw [hs]
    simp only [Option.bind_some, if_true]
    unfold tutorlaw02_GlyphDefaults.l0
    rw [if_neg (by simp), hd, hr]
    simp only [Option.bind_some]
    rw [hs, live_ev _ (by omega)]
    rfl
end Go.Proofs.YtfoakihlbeoebaaDoor.X
