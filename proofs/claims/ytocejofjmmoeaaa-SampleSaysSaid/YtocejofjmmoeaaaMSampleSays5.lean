/- Texts of the statement SampleSays, one behind the other: Go functions as Lean functions, the machine's calls, the plain law. -/
import Derived.Test.YtocejofjmmoeaaaMSampleSays4
set_option linter.unusedVariables false
set_option linter.unusedSimpArgs false
section
namespace Go.Proofs.Ytocejofjmmoeaaa.X
open Go.RowKit Go.Proofs.YtocejofjmmoeaaaW.PrintWords Go.Proofs.YtocejofjmmoeaaaW.PrintLast Go.Proofs.YtocejofjmmoeaaaW.PrintMore
attribute [local go_sem] eZ eu fV fU eP eO fF fE   -- for this text's walks alone
set_option linter.unusedVariables false
set_option linter.unusedSimpArgs false
def bZ.l0 : Nat → List Int → Int → Int → Int → Int → List Int → List Int → Option (Int × Int)
  | 0, _, _, _, _, _, _, _ => none
  | k + 1, x1, x7, x8, x564000, x564001, x564002, x564003 => if x8 < (x1.length : Int) then (if x7 ≥ 0 then (if 0 ≤ x8 then (if 0 ≤ (wrap64 ((wrap64 (x7 * x564000)) + (rd x1 x8))) then (if (wrap64 ((wrap64 (x7 * x564000)) + (rd x1 x8))) < (x564002.length : Int) then (bZ.l0 k x1 (rd x564002 (wrap64 ((wrap64 (x7 * x564000)) + (rd x1 x8)))) (wrap64 (x8 + 1)) x564000 x564001 x564002 x564003) else (none)) else (none)) else (none)) else (if x7 < 0 then (some ((-1), 0)) else (if 0 ≤ x7 then (if x7 < (x564003.length : Int) then (some (rd x564003 x7, 0)) else (none)) else (none)))) else (if x7 < 0 then (some ((-1), 0)) else (if 0 ≤ x7 then (if x7 < (x564003.length : Int) then (some (rd x564003 x7, 0)) else (none)) else (none)))
def bZ.f (k : Nat) (aT : Int) (aU : Int) (aa : List Int) (ak : List Int) (l1 : List Int) : Option (Int × Int) := (aV.f k aT aU aa ak).bind fun t564 => (if t564 = 0 then ((aZ.f k l1 aT).bind fun bt565 => (if bt565.2 = 0 then (bZ.l0 k l1 0 0 aT aU aa ak) else (some (0, bt565.2)))) else (some (0, t564)))
set_option maxHeartbeats 8000000 in
set_option maxRecDepth 100000 in
theorem bZ.calls (k : Nat) (aT : Int) (aU : Int) (bv : Option Addr) (bq : Nat) (aa : List Int) (bu : Option Addr) (bn : Nat) (ak : List Int) (A1 : Option Addr) (c1 : Nat) (l1 : List Int) (r1 : Int) (r2 : Int) (w : World) (jv : Kd.C (Kd.int .i64) w bv aa.length aa) (kU : aa.length ≤ bq) (jr : Kd.C (Kd.int .i64) w bu ak.length ak) (kT : ak.length ≤ bn) (hr1 : Kd.C (Kd.int .i64) w A1 l1.length l1) (hc1 : l1.length ≤ c1) (h : bZ.f k aT aU aa ak l1 = some (r1, r2)) :
    Calls Try.prog 29 #[.agg #[.int .i64 aT, .int .i64 aU, .slice bv aa.length bq, .slice bu ak.length bn], .slice A1 l1.length c1] w fun e w' => e = .returned (.tuple #[.int .i64 r1, .int .i64 r2]) ∧ Below w.heap.size w w' := by
  have hu34 := Try.underlying34
  have gX := aA.mk jv
  have jV := aA.mk kU
  clear jv kU
  have gu := aA.mk jr
  have jU := aA.mk kT
  clear jr kT
  have HR1 := aA.mk hr1
  have HC1 := aA.mk hc1
  clear hr1 hc1
  have HB := aA.mk (Below.refl w.heap.size w)
  have H : ((aV.f k aT aU aa ak).bind fun t564 => (if t564 = 0 then ((aZ.f k l1 aT).bind fun bt565 => (if bt565.2 = 0 then (bZ.l0 k l1 0 0 aT aU aa ak) else (some (0, bt565.2)))) else (some (0, t564)))) = some (r1, r2) := h
  clear h
  replace H := Option.bind_eq_some_iff.mp H
  obtain ⟨t564, A30, H⟩ := H
  replace H : (if t564 = 0 then ((aZ.f k l1 aT).bind fun bt565 => (if bt565.2 = 0 then (bZ.l0 k l1 0 0 aT aU aa ak) else (some (0, bt565.2)))) else (some (0, t564))) = some (r1, r2) := H
  have A3 := aA.mk A30
  clear A30
  by_cases c4 : t564 = 0
  · rw [if_pos c4] at H
    have gz : (t564 == 0) = true := beq_iff_eq.mpr c4
    have c4b1 : (t564 != 0) = false := bne_eq_false_iff_eq.mpr c4
    clear c4
    replace H := Option.bind_eq_some_iff.mp H
    obtain ⟨⟨t565, t566⟩, A50, H⟩ := H
    replace H : (if t566 = 0 then (bZ.l0 k l1 0 0 aT aU aa ak) else (some (0, t566))) = some (r1, r2) := H
    have A5 := aA.mk A50
    clear A50
    by_cases c6 : t566 = 0
    · rw [if_pos c6] at H
      have c6b0 : (t566 == 0) = true := beq_iff_eq.mpr c6
      have c6b1 : (t566 != 0) = false := bne_eq_false_iff_eq.mpr c6
      clear c6
      have H' := aA.mk H
      clear H
      go_enter Try.func29, Try.ntmps29
      go_wp2_with (first | ((with_reducible refine bT (N := 2) rfl ?_); refine dD ?hg (N := 2) ?hd (cs := #[.int .i64 aT, .int .i64 aU, .slice bv aa.length bq, .slice bu ak.length bn]) (t := 34) ?hr ?_; (case hd => rfl); (case hg => rfl); (case hr => first | (go_simp; done) | (go_simp; rfl)); intro bi hg w7 hbox hb; have n0_ := aA.mk (aW (by repeat (first | (with_reducible first | exact HB.out | apply aH | apply aG | apply aI) | exact HB.out)) hb); have n1_ := aA.mk (hbox); have n2_ := aA.mk ((by rw [hg]; exact (aY (by repeat (first | (with_reducible first | exact HB.out | apply aH | apply aG | apply aI) | exact HB.out))) : w.heap.size ≤ bi)); have n3_ := aA.mk ((by rw [hg]; exact (aY (by repeat (first | (with_reducible first | exact HB.out | apply aH | apply aG | apply aI) | exact HB.out))) : w.heap.size ≤ bi)); clear HB; have HB := n0_; have ay := n1_; have GW563 := n2_; have jm := n3_; clear n0_ n1_ n2_ n3_; clear hb hbox hg; have hcz8_0 : w7.cell? ⟨bi, 0, none⟩ = some (.int .i64 aT) := (aD ay.out 0).trans rfl; have hcz8_1 : w7.cell? ⟨bi, 1, none⟩ = some (.int .i64 aU) := (aD ay.out 1).trans rfl; have hcz8_2 : w7.cell? ⟨bi, 2, none⟩ = some (.slice bv aa.length bq) := (aD ay.out 2).trans rfl; have hcz8_3 : w7.cell? ⟨bi, 3, none⟩ = some (.slice bu ak.length bn) := (aD ay.out 3).trans rfl; have hfz8_0 := aC ay.out 0; have hfz8_1 := aC ay.out 1; have hfz8_2 := aC ay.out 2; have hfz8_3 := aC ay.out 3) | (go_at_call 48; (with_reducible refine (aV.calls k aT aU _ _ aa _ _ ak t564 _ ?dB ?dA ?di ?dh A3.out).mono ?_); (case dB => repeat (first | exact (Kd.aX gX.out HB.out) | (with_reducible refine Kd.bE ?_ _) | (with_reducible refine Kd.bD ?_ _) | (with_reducible refine Kd.bS ?_))); (case dA => exact jV.out); (case di => repeat (first | exact (Kd.aX gu.out HB.out) | (with_reducible refine Kd.bE ?_ _) | (with_reducible refine Kd.bD ?_ _) | (with_reducible refine Kd.bS ?_))); (case dh => exact jU.out); rintro e w9 ⟨rfl, hb⟩; have n0_ := aA.mk (bH (g := bi) (o := .cells #[.int .i64 aT, .int .i64 aU, .slice bv aa.length bq, .slice bu ak.length bn] 34 (0, 0)) (by (with_reducible repeat (first | refine aM ?_ _ | refine aQ ?_ | refine aJ ?_ _)); exact ay.out) hb); have n1_ := aA.mk (aW (by repeat (first | (with_reducible first | exact HB.out | apply aH | apply aG | apply aI | refine aN ?_ jm.out) | exact HB.out)) hb); clear ay; clear HB; have ay := n0_; have HB := n1_; clear n0_ n1_; (try clear hb); (try clear hb2); (try clear hk); (try clear hi); have jl : w9.cell? ⟨bi, 0, none⟩ = some (.int .i64 aT) := (aD ay.out 0).trans rfl; have jk : w9.cell? ⟨bi, 1, none⟩ = some (.int .i64 aU) := (aD ay.out 1).trans rfl; have ji : w9.cell? ⟨bi, 2, none⟩ = some (.slice bv aa.length bq) := (aD ay.out 2).trans rfl; have jh : w9.cell? ⟨bi, 3, none⟩ = some (.slice bu ak.length bn) := (aD ay.out 3).trans rfl; have jg := aC ay.out 0; have jf := aC ay.out 1; have je := aC ay.out 2; have jd := aC ay.out 3) | (go_at_call 37; (with_reducible refine (aZ.calls k _ _ l1 aT t565 t566 _ ?dB ?dA A5.out).mono ?_); (case dB => repeat (first | exact (Kd.aX HR1.out HB.out) | (with_reducible refine Kd.bE ?_ _) | (with_reducible refine Kd.bD ?_ _) | (with_reducible refine Kd.bS ?_))); (case dA => exact HC1.out); rintro e w' ⟨rfl, ⟨nd, rfl⟩⟩; (try first | exact ⟨rfl, _, World.drewN_drewN _ _ _⟩ | exact ⟨rfl, _, Eq.trans (World.drewN_drewN _ _ _) (congrArg (World.drewN _) (Nat.add_assoc _ _ _))⟩)))
      repeat (go_quiet (first | ((with_reducible refine bT (N := 2) rfl ?_); refine dD ?hg (N := 2) ?hd (cs := #[.int .i64 aT, .int .i64 aU, .slice bv aa.length bq, .slice bu ak.length bn]) (t := 34) ?hr ?_; (case hd => rfl); (case hg => rfl); (case hr => first | (go_simp; done) | (go_simp; rfl)); intro bi hg w7 hbox hb; have n0_ := aA.mk (aW (by repeat (first | (with_reducible first | exact HB.out | apply aH | apply aG | apply aI) | exact HB.out)) hb); have n1_ := aA.mk (hbox); have n2_ := aA.mk ((by rw [hg]; exact (aY (by repeat (first | (with_reducible first | exact HB.out | apply aH | apply aG | apply aI) | exact HB.out))) : w.heap.size ≤ bi)); have n3_ := aA.mk ((by rw [hg]; exact (aY (by repeat (first | (with_reducible first | exact HB.out | apply aH | apply aG | apply aI) | exact HB.out))) : w.heap.size ≤ bi)); clear HB; have HB := n0_; have ay := n1_; have GW563 := n2_; have jm := n3_; clear n0_ n1_ n2_ n3_; clear hb hbox hg; have hcz8_0 : w7.cell? ⟨bi, 0, none⟩ = some (.int .i64 aT) := (aD ay.out 0).trans rfl; have hcz8_1 : w7.cell? ⟨bi, 1, none⟩ = some (.int .i64 aU) := (aD ay.out 1).trans rfl; have hcz8_2 : w7.cell? ⟨bi, 2, none⟩ = some (.slice bv aa.length bq) := (aD ay.out 2).trans rfl; have hcz8_3 : w7.cell? ⟨bi, 3, none⟩ = some (.slice bu ak.length bn) := (aD ay.out 3).trans rfl; have hfz8_0 := aC ay.out 0; have hfz8_1 := aC ay.out 1; have hfz8_2 := aC ay.out 2; have hfz8_3 := aC ay.out 3) | (go_at_call 48; (with_reducible refine (aV.calls k aT aU _ _ aa _ _ ak t564 _ ?dB ?dA ?di ?dh A3.out).mono ?_); (case dB => repeat (first | exact (Kd.aX gX.out HB.out) | (with_reducible refine Kd.bE ?_ _) | (with_reducible refine Kd.bD ?_ _) | (with_reducible refine Kd.bS ?_))); (case dA => exact jV.out); (case di => repeat (first | exact (Kd.aX gu.out HB.out) | (with_reducible refine Kd.bE ?_ _) | (with_reducible refine Kd.bD ?_ _) | (with_reducible refine Kd.bS ?_))); (case dh => exact jU.out); rintro e w9 ⟨rfl, hb⟩; have n0_ := aA.mk (bH (g := bi) (o := .cells #[.int .i64 aT, .int .i64 aU, .slice bv aa.length bq, .slice bu ak.length bn] 34 (0, 0)) (by (with_reducible repeat (first | refine aM ?_ _ | refine aQ ?_ | refine aJ ?_ _)); exact ay.out) hb); have n1_ := aA.mk (aW (by repeat (first | (with_reducible first | exact HB.out | apply aH | apply aG | apply aI | refine aN ?_ jm.out) | exact HB.out)) hb); clear ay; clear HB; have ay := n0_; have HB := n1_; clear n0_ n1_; (try clear hb); (try clear hb2); (try clear hk); (try clear hi); have jl : w9.cell? ⟨bi, 0, none⟩ = some (.int .i64 aT) := (aD ay.out 0).trans rfl; have jk : w9.cell? ⟨bi, 1, none⟩ = some (.int .i64 aU) := (aD ay.out 1).trans rfl; have ji : w9.cell? ⟨bi, 2, none⟩ = some (.slice bv aa.length bq) := (aD ay.out 2).trans rfl; have jh : w9.cell? ⟨bi, 3, none⟩ = some (.slice bu ak.length bn) := (aD ay.out 3).trans rfl; have jg := aC ay.out 0; have jf := aC ay.out 1; have je := aC ay.out 2; have jd := aC ay.out 3) | (go_at_call 37; (with_reducible refine (aZ.calls k _ _ l1 aT t565 t566 _ ?dB ?dA A5.out).mono ?_); (case dB => repeat (first | exact (Kd.aX HR1.out HB.out) | (with_reducible refine Kd.bE ?_ _) | (with_reducible refine Kd.bD ?_ _) | (with_reducible refine Kd.bS ?_))); (case dA => exact HC1.out); rintro e w' ⟨rfl, ⟨nd, rfl⟩⟩; (try first | exact ⟨rfl, _, World.drewN_drewN _ _ _⟩ | exact ⟨rfl, _, Eq.trans (World.drewN_drewN _ _ _) (congrArg (World.drewN _) (Nat.add_assoc _ _ _))⟩))); try go_wp2_with (first | ((with_reducible refine bT (N := 2) rfl ?_); refine dD ?hg (N := 2) ?hd (cs := #[.int .i64 aT, .int .i64 aU, .slice bv aa.length bq, .slice bu ak.length bn]) (t := 34) ?hr ?_; (case hd => rfl); (case hg => rfl); (case hr => first | (go_simp; done) | (go_simp; rfl)); intro bi hg w7 hbox hb; have n0_ := aA.mk (aW (by repeat (first | (with_reducible first | exact HB.out | apply aH | apply aG | apply aI) | exact HB.out)) hb); have n1_ := aA.mk (hbox); have n2_ := aA.mk ((by rw [hg]; exact (aY (by repeat (first | (with_reducible first | exact HB.out | apply aH | apply aG | apply aI) | exact HB.out))) : w.heap.size ≤ bi)); have n3_ := aA.mk ((by rw [hg]; exact (aY (by repeat (first | (with_reducible first | exact HB.out | apply aH | apply aG | apply aI) | exact HB.out))) : w.heap.size ≤ bi)); clear HB; have HB := n0_; have ay := n1_; have GW563 := n2_; have jm := n3_; clear n0_ n1_ n2_ n3_; clear hb hbox hg; have hcz8_0 : w7.cell? ⟨bi, 0, none⟩ = some (.int .i64 aT) := (aD ay.out 0).trans rfl; have hcz8_1 : w7.cell? ⟨bi, 1, none⟩ = some (.int .i64 aU) := (aD ay.out 1).trans rfl; have hcz8_2 : w7.cell? ⟨bi, 2, none⟩ = some (.slice bv aa.length bq) := (aD ay.out 2).trans rfl; have hcz8_3 : w7.cell? ⟨bi, 3, none⟩ = some (.slice bu ak.length bn) := (aD ay.out 3).trans rfl; have hfz8_0 := aC ay.out 0; have hfz8_1 := aC ay.out 1; have hfz8_2 := aC ay.out 2; have hfz8_3 := aC ay.out 3) | (go_at_call 48; (with_reducible refine (aV.calls k aT aU _ _ aa _ _ ak t564 _ ?dB ?dA ?di ?dh A3.out).mono ?_); (case dB => repeat (first | exact (Kd.aX gX.out HB.out) | (with_reducible refine Kd.bE ?_ _) | (with_reducible refine Kd.bD ?_ _) | (with_reducible refine Kd.bS ?_))); (case dA => exact jV.out); (case di => repeat (first | exact (Kd.aX gu.out HB.out) | (with_reducible refine Kd.bE ?_ _) | (with_reducible refine Kd.bD ?_ _) | (with_reducible refine Kd.bS ?_))); (case dh => exact jU.out); rintro e w9 ⟨rfl, hb⟩; have n0_ := aA.mk (bH (g := bi) (o := .cells #[.int .i64 aT, .int .i64 aU, .slice bv aa.length bq, .slice bu ak.length bn] 34 (0, 0)) (by (with_reducible repeat (first | refine aM ?_ _ | refine aQ ?_ | refine aJ ?_ _)); exact ay.out) hb); have n1_ := aA.mk (aW (by repeat (first | (with_reducible first | exact HB.out | apply aH | apply aG | apply aI | refine aN ?_ jm.out) | exact HB.out)) hb); clear ay; clear HB; have ay := n0_; have HB := n1_; clear n0_ n1_; (try clear hb); (try clear hb2); (try clear hk); (try clear hi); have jl : w9.cell? ⟨bi, 0, none⟩ = some (.int .i64 aT) := (aD ay.out 0).trans rfl; have jk : w9.cell? ⟨bi, 1, none⟩ = some (.int .i64 aU) := (aD ay.out 1).trans rfl; have ji : w9.cell? ⟨bi, 2, none⟩ = some (.slice bv aa.length bq) := (aD ay.out 2).trans rfl; have jh : w9.cell? ⟨bi, 3, none⟩ = some (.slice bu ak.length bn) := (aD ay.out 3).trans rfl; have jg := aC ay.out 0; have jf := aC ay.out 1; have je := aC ay.out 2; have jd := aC ay.out 3) | (go_at_call 37; (with_reducible refine (aZ.calls k _ _ l1 aT t565 t566 _ ?dB ?dA A5.out).mono ?_); (case dB => repeat (first | exact (Kd.aX HR1.out HB.out) | (with_reducible refine Kd.bE ?_ _) | (with_reducible refine Kd.bD ?_ _) | (with_reducible refine Kd.bS ?_))); (case dA => exact HC1.out); rintro e w' ⟨rfl, ⟨nd, rfl⟩⟩; (try first | exact ⟨rfl, _, World.drewN_drewN _ _ _⟩ | exact ⟨rfl, _, Eq.trans (World.drewN_drewN _ _ _) (congrArg (World.drewN _) (Nat.add_assoc _ _ _))⟩))))
      go_loopg [7, 8] k (fun kq v7 v8 w' => ∃ (fu : Int) (fq : Int), v7 = .int .i64 fu ∧ v8 = .int .i64 fq ∧ aA (bZ.l0 kq l1 fu fq aT aU aa ak = some (r1, r2)) ∧ aA (kq ≤ k) ∧ aA (w'.heap[bi]? = some (.cells #[.int .i64 aT, .int .i64 aU, (.slice bv aa.length bq), (.slice bu ak.length bn)] 34 (0, 0))) ∧ aA (Below w.heap.size w w'))
      case atStart => exact ⟨(0), (0), (by first | rfl | (simp; done) | (simp [*]; done)), (by first | rfl | (simp; done) | (simp [*]; done)), H', ⟨Nat.le_refl _⟩, ⟨by (with_reducible repeat (first | refine aM ?_ _ | refine aQ ?_ | refine aJ ?_ _)); exact ay.out⟩, ⟨by repeat (first | (with_reducible first | exact HB.out | apply aH | apply aG | apply aI | refine aN ?_ jm.out) | exact HB.out)⟩⟩
      case round =>
        clear H'
        try clear c1
        try clear c2
        try clear p2
        try clear c4
        try clear gz
        try clear c4b1
        try clear c6
        try clear c6b0
        try clear c6b1
        try clear jl
        try clear jk
        try clear ji
        try clear jh
        try clear hcz8_0
        try clear hcz8_1
        try clear hcz8_2
        try clear hcz8_3
        try clear jg
        try clear jf
        try clear je
        try clear jd
        try clear hfz8_0
        try clear hfz8_1
        try clear hfz8_2
        try clear hfz8_3
        obtain ⟨fu, fq, rfl, rfl, HA, HK1, ay, HB⟩ := hrel
        cases gk with
        | zero => exact absurd HA.out (by simp [bZ.l0])
        | succ k1 =>
          have H := HA.out
          clear HA
          simp only [bZ.l0] at H
          by_cases c11 : fq < (l1.length : Int)
          · rw [if_pos c11] at H
            have c11b0 : decide (fq < (l1.length : Int)) = true := decide_eq_true c11
            clear c11
            by_cases c12 : fu ≥ 0
            · rw [if_pos c12] at H
              have c12b0 : decide (0 ≤ fu) = true := decide_eq_true c12
              clear c12
              by_cases c13 : 0 ≤ fq
              · rw [if_pos c13] at H
                have c13b0 : decide (0 ≤ fq) = true := decide_eq_true c13
                clear c13
                obtain ⟨kS, hji14⟩ : ∃ j_ : Int, (wrap64 ((wrap64 (fu * aT)) + (rd l1 fq))) = j_ := ⟨_, rfl⟩
                replace H : (if 0 ≤ (kS) then (if (kS) < (aa.length : Int) then (bZ.l0 k1 l1 (rd aa (kS)) (wrap64 (fq + 1)) aT aU aa ak) else (none)) else (none)) = some (r1, r2) := by first | (rw [hji14] at H; exact H) | (simp only [hji14] at H ⊢; exact H)
                have hji14w : (IntKind.i64.wrap ((wrap64 (fu * aT)) + (rd l1 fq))) = kS := (aj _).trans hji14
                by_cases c15 : 0 ≤ (kS)
                · rw [if_pos c15] at H
                  have c15b0 : decide (0 ≤ (kS)) = true := decide_eq_true c15
                  clear c15
                  by_cases c16 : (kS) < (aa.length : Int)
                  · rw [if_pos c16] at H
                    have c16b0 : decide ((kS) < (aa.length : Int)) = true := decide_eq_true c16
                    clear c16
                    have H' := aA.mk H
                    clear H
                    have hcz17_0 : wr.cell? ⟨bi, 0, none⟩ = some (.int .i64 aT) := (aD ay.out 0).trans rfl
                    have hcz17_1 : wr.cell? ⟨bi, 1, none⟩ = some (.int .i64 aU) := (aD ay.out 1).trans rfl
                    have hcz17_2 : wr.cell? ⟨bi, 2, none⟩ = some (.slice bv aa.length bq) := (aD ay.out 2).trans rfl
                    have hcz17_3 : wr.cell? ⟨bi, 3, none⟩ = some (.slice bu ak.length bn) := (aD ay.out 3).trans rfl
                    have hfz17_0 := aC ay.out 0
                    have hfz17_1 := aC ay.out 1
                    have hfz17_2 := aC ay.out 2
                    have hfz17_3 := aC ay.out 3
                    have p567 : 0 ≤ (fq : Int) := of_decide_eq_true (by first | (with_reducible assumption) | assumption)
                    have q567 : fq < (l1.length : Int) := of_decide_eq_true (by first | (with_reducible assumption) | assumption)
                    obtain ⟨ad567, e567, hx567_0⟩ := Kd.dN HR1.out fq p567 q567
                    cases e567
                    replace hx567_0 := (HB.out.cell (World.block_lt_of_cell? w _ hx567_0)).trans hx567_0
                    replace p567 := eq_true p567
                    replace q567 := eq_true q567
                    have p568 : 0 ≤ ((kS) : Int) := of_decide_eq_true (by first | (with_reducible assumption) | assumption)
                    have q568 : (kS) < (aa.length : Int) := of_decide_eq_true (by first | (with_reducible assumption) | assumption)
                    obtain ⟨ad568, e568, hx568_0⟩ := Kd.dN gX.out (kS) p568 q568
                    cases e568
                    replace hx568_0 := (HB.out.cell (World.block_lt_of_cell? w _ hx568_0)).trans hx568_0
                    replace p568 := eq_true p568
                    replace q568 := eq_true q568
                    go_wp2
                    repeat (go_quiet (fail); try go_wp2)
                    go_roundg k1
                    case measure => have := HK1.out; omega
                    case rel => exact ⟨(rd aa (kS)), (wrap64 (fq + 1)), (by first | rfl | (simp; done) | (simp only [← hji14] <;> (first | rfl | simp)) | (simp [*]; done)), (by first | rfl | (simp; done) | (simp [*]; done)), H', ⟨by have := HK1.out; omega⟩, ⟨by (with_reducible repeat (first | refine aM ?_ _ | refine aQ ?_ | refine aJ ?_ _)); exact ay.out⟩, ⟨by repeat (first | (with_reducible first | exact HB.out | apply aH | apply aG | apply aI | refine aN ?_ jm.out) | exact HB.out)⟩⟩
                  · rw [if_neg c16] at H
                    exact absurd H (by simp)
                · rw [if_neg c15] at H
                  exact absurd H (by simp)
              · rw [if_neg c13] at H
                exact absurd H (by simp)
            · rw [if_neg c12] at H
              have c12b0 : decide (0 ≤ fu) = false := decide_eq_false c12
              clear c12
              by_cases c18 : fu < 0
              · rw [if_pos c18] at H
                have c18b0 : decide (fu < 0) = true := decide_eq_true c18
                clear c18
                simp only [Option.some.injEq, Prod.mk.injEq] at H
                obtain ⟨rfl, rfl⟩ := H
                go_wp2
                repeat (go_quiet (fail); try go_wp2)
                go_ret2
                exact ⟨by first | rfl | (simp [ag, af] <;> rfl) | (simp [*, ag, af] <;> rfl), by repeat (first | (with_reducible first | exact HB.out | apply aH | apply aG | apply aI | refine aN ?_ jm.out) | exact HB.out)⟩
              · rw [if_neg c18] at H
                have c18b0 : decide (fu < 0) = false := decide_eq_false c18
                clear c18
                by_cases c19 : 0 ≤ fu
                · rw [if_pos c19] at H
                  have c19b0 : decide (0 ≤ fu) = true := decide_eq_true c19
                  clear c19
                  by_cases c20 : fu < (ak.length : Int)
                  · rw [if_pos c20] at H
                    have c20b0 : decide (fu < (ak.length : Int)) = true := decide_eq_true c20
                    clear c20
                    simp only [Option.some.injEq, Prod.mk.injEq] at H
                    obtain ⟨rfl, rfl⟩ := H
                    have hcz21_0 : wr.cell? ⟨bi, 0, none⟩ = some (.int .i64 aT) := (aD ay.out 0).trans rfl
                    have hcz21_1 : wr.cell? ⟨bi, 1, none⟩ = some (.int .i64 aU) := (aD ay.out 1).trans rfl
                    have hcz21_2 : wr.cell? ⟨bi, 2, none⟩ = some (.slice bv aa.length bq) := (aD ay.out 2).trans rfl
                    have hcz21_3 : wr.cell? ⟨bi, 3, none⟩ = some (.slice bu ak.length bn) := (aD ay.out 3).trans rfl
                    have hfz21_0 := aC ay.out 0
                    have hfz21_1 := aC ay.out 1
                    have hfz21_2 := aC ay.out 2
                    have hfz21_3 := aC ay.out 3
                    have p569 : 0 ≤ (fu : Int) := of_decide_eq_true (by first | (with_reducible assumption) | assumption)
                    have q569 : fu < (ak.length : Int) := of_decide_eq_true (by first | (with_reducible assumption) | assumption)
                    obtain ⟨ad569, e569, hx569_0⟩ := Kd.dN gu.out fu p569 q569
                    cases e569
                    replace hx569_0 := (HB.out.cell (World.block_lt_of_cell? w _ hx569_0)).trans hx569_0
                    replace p569 := eq_true p569
                    replace q569 := eq_true q569
                    exact absurd (of_decide_eq_true c19b0) (of_decide_eq_false c12b0)
                  · rw [if_neg c20] at H
                    exact absurd H (by simp)
                · rw [if_neg c19] at H
                  exact absurd H (by simp)
          · rw [if_neg c11] at H
            have c11b0 : decide (fq < (l1.length : Int)) = false := decide_eq_false c11
            clear c11
            by_cases c22 : fu < 0
            · rw [if_pos c22] at H
              have c22b0 : decide (fu < 0) = true := decide_eq_true c22
              clear c22
              simp only [Option.some.injEq, Prod.mk.injEq] at H
              obtain ⟨rfl, rfl⟩ := H
              go_wp2
              repeat (go_quiet (fail); try go_wp2)
              go_ret2
              exact ⟨by first | rfl | (simp [ag, af] <;> rfl) | (simp [*, ag, af] <;> rfl), by repeat (first | (with_reducible first | exact HB.out | apply aH | apply aG | apply aI | refine aN ?_ jm.out) | exact HB.out)⟩
            · rw [if_neg c22] at H
              have c22b0 : decide (fu < 0) = false := decide_eq_false c22
              clear c22
              by_cases c23 : 0 ≤ fu
              · rw [if_pos c23] at H
                have c23b0 : decide (0 ≤ fu) = true := decide_eq_true c23
                clear c23
                by_cases c24 : fu < (ak.length : Int)
                · rw [if_pos c24] at H
                  have c24b0 : decide (fu < (ak.length : Int)) = true := decide_eq_true c24
                  clear c24
                  simp only [Option.some.injEq, Prod.mk.injEq] at H
                  obtain ⟨rfl, rfl⟩ := H
                  have hcz25_0 : wr.cell? ⟨bi, 0, none⟩ = some (.int .i64 aT) := (aD ay.out 0).trans rfl
                  have hcz25_1 : wr.cell? ⟨bi, 1, none⟩ = some (.int .i64 aU) := (aD ay.out 1).trans rfl
                  have hcz25_2 : wr.cell? ⟨bi, 2, none⟩ = some (.slice bv aa.length bq) := (aD ay.out 2).trans rfl
                  have hcz25_3 : wr.cell? ⟨bi, 3, none⟩ = some (.slice bu ak.length bn) := (aD ay.out 3).trans rfl
                  have hfz25_0 := aC ay.out 0
                  have hfz25_1 := aC ay.out 1
                  have hfz25_2 := aC ay.out 2
                  have hfz25_3 := aC ay.out 3
                  have p570 : 0 ≤ (fu : Int) := of_decide_eq_true (by first | (with_reducible assumption) | assumption)
                  have q570 : fu < (ak.length : Int) := of_decide_eq_true (by first | (with_reducible assumption) | assumption)
                  obtain ⟨ad570, e570, hx570_0⟩ := Kd.dN gu.out fu p570 q570
                  cases e570
                  replace hx570_0 := (HB.out.cell (World.block_lt_of_cell? w _ hx570_0)).trans hx570_0
                  replace p570 := eq_true p570
                  replace q570 := eq_true q570
                  go_wp2
                  repeat (go_quiet (fail); try go_wp2)
                  go_ret2
                  exact ⟨by first | rfl | (simp [ag, af] <;> rfl) | (simp [*, ag, af] <;> rfl), by repeat (first | (with_reducible first | exact HB.out | apply aH | apply aG | apply aI | refine aN ?_ jm.out) | exact HB.out)⟩
                · rw [if_neg c24] at H
                  exact absurd H (by simp)
              · rw [if_neg c23] at H
                exact absurd H (by simp)
    · rw [if_neg c6] at H
      have c6b0 : (t566 == 0) = false := beq_eq_false_iff_ne.mpr c6
      have c6b1 : (t566 != 0) = true := bne_iff_ne.mpr c6
      simp only [Option.some.injEq, Prod.mk.injEq] at H
      obtain ⟨rfl, rfl⟩ := H
      go_enter Try.func29, Try.ntmps29
      go_wp2_with (first | ((with_reducible refine bT (N := 2) rfl ?_); refine dD ?hg (N := 2) ?hd (cs := #[.int .i64 aT, .int .i64 aU, .slice bv aa.length bq, .slice bu ak.length bn]) (t := 34) ?hr ?_; (case hd => rfl); (case hg => rfl); (case hr => first | (go_simp; done) | (go_simp; rfl)); intro bi hg w26 hbox hb; have n0_ := aA.mk (aW (by repeat (first | (with_reducible first | exact HB.out | apply aH | apply aG | apply aI) | exact HB.out)) hb); have n1_ := aA.mk (hbox); have n2_ := aA.mk ((by rw [hg]; exact (aY (by repeat (first | (with_reducible first | exact HB.out | apply aH | apply aG | apply aI) | exact HB.out))) : w.heap.size ≤ bi)); have n3_ := aA.mk ((by rw [hg]; exact (aY (by repeat (first | (with_reducible first | exact HB.out | apply aH | apply aG | apply aI) | exact HB.out))) : w.heap.size ≤ bi)); clear HB; have HB := n0_; have ay := n1_; have GW563 := n2_; have jm := n3_; clear n0_ n1_ n2_ n3_; clear hb hbox hg; have hcz27_0 : w26.cell? ⟨bi, 0, none⟩ = some (.int .i64 aT) := (aD ay.out 0).trans rfl; have hcz27_1 : w26.cell? ⟨bi, 1, none⟩ = some (.int .i64 aU) := (aD ay.out 1).trans rfl; have hcz27_2 : w26.cell? ⟨bi, 2, none⟩ = some (.slice bv aa.length bq) := (aD ay.out 2).trans rfl; have hcz27_3 : w26.cell? ⟨bi, 3, none⟩ = some (.slice bu ak.length bn) := (aD ay.out 3).trans rfl; have hfz27_0 := aC ay.out 0; have hfz27_1 := aC ay.out 1; have hfz27_2 := aC ay.out 2; have hfz27_3 := aC ay.out 3) | (go_at_call 48; (with_reducible refine (aV.calls k aT aU _ _ aa _ _ ak t564 _ ?dB ?dA ?di ?dh A3.out).mono ?_); (case dB => repeat (first | exact (Kd.aX gX.out HB.out) | (with_reducible refine Kd.bE ?_ _) | (with_reducible refine Kd.bD ?_ _) | (with_reducible refine Kd.bS ?_))); (case dA => exact jV.out); (case di => repeat (first | exact (Kd.aX gu.out HB.out) | (with_reducible refine Kd.bE ?_ _) | (with_reducible refine Kd.bD ?_ _) | (with_reducible refine Kd.bS ?_))); (case dh => exact jU.out); rintro e w28 ⟨rfl, hb⟩; have n0_ := aA.mk (bH (g := bi) (o := .cells #[.int .i64 aT, .int .i64 aU, .slice bv aa.length bq, .slice bu ak.length bn] 34 (0, 0)) (by (with_reducible repeat (first | refine aM ?_ _ | refine aQ ?_ | refine aJ ?_ _)); exact ay.out) hb); have n1_ := aA.mk (aW (by repeat (first | (with_reducible first | exact HB.out | apply aH | apply aG | apply aI | refine aN ?_ jm.out) | exact HB.out)) hb); clear ay; clear HB; have ay := n0_; have HB := n1_; clear n0_ n1_; (try clear hb); (try clear hb2); (try clear hk); (try clear hi); have hcz29_0 : w28.cell? ⟨bi, 0, none⟩ = some (.int .i64 aT) := (aD ay.out 0).trans rfl; have hcz29_1 : w28.cell? ⟨bi, 1, none⟩ = some (.int .i64 aU) := (aD ay.out 1).trans rfl; have hcz29_2 : w28.cell? ⟨bi, 2, none⟩ = some (.slice bv aa.length bq) := (aD ay.out 2).trans rfl; have hcz29_3 : w28.cell? ⟨bi, 3, none⟩ = some (.slice bu ak.length bn) := (aD ay.out 3).trans rfl; have hfz29_0 := aC ay.out 0; have hfz29_1 := aC ay.out 1; have hfz29_2 := aC ay.out 2; have hfz29_3 := aC ay.out 3) | (go_at_call 37; (with_reducible refine (aZ.calls k _ _ l1 aT t565 t566 _ ?dB ?dA A5.out).mono ?_); (case dB => repeat (first | exact (Kd.aX HR1.out HB.out) | (with_reducible refine Kd.bE ?_ _) | (with_reducible refine Kd.bD ?_ _) | (with_reducible refine Kd.bS ?_))); (case dA => exact HC1.out); rintro e w' ⟨rfl, ⟨nd, rfl⟩⟩; (try first | exact ⟨rfl, _, World.drewN_drewN _ _ _⟩ | exact ⟨rfl, _, Eq.trans (World.drewN_drewN _ _ _) (congrArg (World.drewN _) (Nat.add_assoc _ _ _))⟩)))
      repeat (go_quiet (first | ((with_reducible refine bT (N := 2) rfl ?_); refine dD ?hg (N := 2) ?hd (cs := #[.int .i64 aT, .int .i64 aU, .slice bv aa.length bq, .slice bu ak.length bn]) (t := 34) ?hr ?_; (case hd => rfl); (case hg => rfl); (case hr => first | (go_simp; done) | (go_simp; rfl)); intro bi hg w26 hbox hb; have n0_ := aA.mk (aW (by repeat (first | (with_reducible first | exact HB.out | apply aH | apply aG | apply aI) | exact HB.out)) hb); have n1_ := aA.mk (hbox); have n2_ := aA.mk ((by rw [hg]; exact (aY (by repeat (first | (with_reducible first | exact HB.out | apply aH | apply aG | apply aI) | exact HB.out))) : w.heap.size ≤ bi)); have n3_ := aA.mk ((by rw [hg]; exact (aY (by repeat (first | (with_reducible first | exact HB.out | apply aH | apply aG | apply aI) | exact HB.out))) : w.heap.size ≤ bi)); clear HB; have HB := n0_; have ay := n1_; have GW563 := n2_; have jm := n3_; clear n0_ n1_ n2_ n3_; clear hb hbox hg; have hcz27_0 : w26.cell? ⟨bi, 0, none⟩ = some (.int .i64 aT) := (aD ay.out 0).trans rfl; have hcz27_1 : w26.cell? ⟨bi, 1, none⟩ = some (.int .i64 aU) := (aD ay.out 1).trans rfl; have hcz27_2 : w26.cell? ⟨bi, 2, none⟩ = some (.slice bv aa.length bq) := (aD ay.out 2).trans rfl; have hcz27_3 : w26.cell? ⟨bi, 3, none⟩ = some (.slice bu ak.length bn) := (aD ay.out 3).trans rfl; have hfz27_0 := aC ay.out 0; have hfz27_1 := aC ay.out 1; have hfz27_2 := aC ay.out 2; have hfz27_3 := aC ay.out 3) | (go_at_call 48; (with_reducible refine (aV.calls k aT aU _ _ aa _ _ ak t564 _ ?dB ?dA ?di ?dh A3.out).mono ?_); (case dB => repeat (first | exact (Kd.aX gX.out HB.out) | (with_reducible refine Kd.bE ?_ _) | (with_reducible refine Kd.bD ?_ _) | (with_reducible refine Kd.bS ?_))); (case dA => exact jV.out); (case di => repeat (first | exact (Kd.aX gu.out HB.out) | (with_reducible refine Kd.bE ?_ _) | (with_reducible refine Kd.bD ?_ _) | (with_reducible refine Kd.bS ?_))); (case dh => exact jU.out); rintro e w28 ⟨rfl, hb⟩; have n0_ := aA.mk (bH (g := bi) (o := .cells #[.int .i64 aT, .int .i64 aU, .slice bv aa.length bq, .slice bu ak.length bn] 34 (0, 0)) (by (with_reducible repeat (first | refine aM ?_ _ | refine aQ ?_ | refine aJ ?_ _)); exact ay.out) hb); have n1_ := aA.mk (aW (by repeat (first | (with_reducible first | exact HB.out | apply aH | apply aG | apply aI | refine aN ?_ jm.out) | exact HB.out)) hb); clear ay; clear HB; have ay := n0_; have HB := n1_; clear n0_ n1_; (try clear hb); (try clear hb2); (try clear hk); (try clear hi); have hcz29_0 : w28.cell? ⟨bi, 0, none⟩ = some (.int .i64 aT) := (aD ay.out 0).trans rfl; have hcz29_1 : w28.cell? ⟨bi, 1, none⟩ = some (.int .i64 aU) := (aD ay.out 1).trans rfl; have hcz29_2 : w28.cell? ⟨bi, 2, none⟩ = some (.slice bv aa.length bq) := (aD ay.out 2).trans rfl; have hcz29_3 : w28.cell? ⟨bi, 3, none⟩ = some (.slice bu ak.length bn) := (aD ay.out 3).trans rfl; have hfz29_0 := aC ay.out 0; have hfz29_1 := aC ay.out 1; have hfz29_2 := aC ay.out 2; have hfz29_3 := aC ay.out 3) | (go_at_call 37; (with_reducible refine (aZ.calls k _ _ l1 aT t565 t566 _ ?dB ?dA A5.out).mono ?_); (case dB => repeat (first | exact (Kd.aX HR1.out HB.out) | (with_reducible refine Kd.bE ?_ _) | (with_reducible refine Kd.bD ?_ _) | (with_reducible refine Kd.bS ?_))); (case dA => exact HC1.out); rintro e w' ⟨rfl, ⟨nd, rfl⟩⟩; (try first | exact ⟨rfl, _, World.drewN_drewN _ _ _⟩ | exact ⟨rfl, _, Eq.trans (World.drewN_drewN _ _ _) (congrArg (World.drewN _) (Nat.add_assoc _ _ _))⟩))); try go_wp2_with (first | ((with_reducible refine bT (N := 2) rfl ?_); refine dD ?hg (N := 2) ?hd (cs := #[.int .i64 aT, .int .i64 aU, .slice bv aa.length bq, .slice bu ak.length bn]) (t := 34) ?hr ?_; (case hd => rfl); (case hg => rfl); (case hr => first | (go_simp; done) | (go_simp; rfl)); intro bi hg w26 hbox hb; have n0_ := aA.mk (aW (by repeat (first | (with_reducible first | exact HB.out | apply aH | apply aG | apply aI) | exact HB.out)) hb); have n1_ := aA.mk (hbox); have n2_ := aA.mk ((by rw [hg]; exact (aY (by repeat (first | (with_reducible first | exact HB.out | apply aH | apply aG | apply aI) | exact HB.out))) : w.heap.size ≤ bi)); have n3_ := aA.mk ((by rw [hg]; exact (aY (by repeat (first | (with_reducible first | exact HB.out | apply aH | apply aG | apply aI) | exact HB.out))) : w.heap.size ≤ bi)); clear HB; have HB := n0_; have ay := n1_; have GW563 := n2_; have jm := n3_; clear n0_ n1_ n2_ n3_; clear hb hbox hg; have hcz27_0 : w26.cell? ⟨bi, 0, none⟩ = some (.int .i64 aT) := (aD ay.out 0).trans rfl; have hcz27_1 : w26.cell? ⟨bi, 1, none⟩ = some (.int .i64 aU) := (aD ay.out 1).trans rfl; have hcz27_2 : w26.cell? ⟨bi, 2, none⟩ = some (.slice bv aa.length bq) := (aD ay.out 2).trans rfl; have hcz27_3 : w26.cell? ⟨bi, 3, none⟩ = some (.slice bu ak.length bn) := (aD ay.out 3).trans rfl; have hfz27_0 := aC ay.out 0; have hfz27_1 := aC ay.out 1; have hfz27_2 := aC ay.out 2; have hfz27_3 := aC ay.out 3) | (go_at_call 48; (with_reducible refine (aV.calls k aT aU _ _ aa _ _ ak t564 _ ?dB ?dA ?di ?dh A3.out).mono ?_); (case dB => repeat (first | exact (Kd.aX gX.out HB.out) | (with_reducible refine Kd.bE ?_ _) | (with_reducible refine Kd.bD ?_ _) | (with_reducible refine Kd.bS ?_))); (case dA => exact jV.out); (case di => repeat (first | exact (Kd.aX gu.out HB.out) | (with_reducible refine Kd.bE ?_ _) | (with_reducible refine Kd.bD ?_ _) | (with_reducible refine Kd.bS ?_))); (case dh => exact jU.out); rintro e w28 ⟨rfl, hb⟩; have n0_ := aA.mk (bH (g := bi) (o := .cells #[.int .i64 aT, .int .i64 aU, .slice bv aa.length bq, .slice bu ak.length bn] 34 (0, 0)) (by (with_reducible repeat (first | refine aM ?_ _ | refine aQ ?_ | refine aJ ?_ _)); exact ay.out) hb); have n1_ := aA.mk (aW (by repeat (first | (with_reducible first | exact HB.out | apply aH | apply aG | apply aI | refine aN ?_ jm.out) | exact HB.out)) hb); clear ay; clear HB; have ay := n0_; have HB := n1_; clear n0_ n1_; (try clear hb); (try clear hb2); (try clear hk); (try clear hi); have hcz29_0 : w28.cell? ⟨bi, 0, none⟩ = some (.int .i64 aT) := (aD ay.out 0).trans rfl; have hcz29_1 : w28.cell? ⟨bi, 1, none⟩ = some (.int .i64 aU) := (aD ay.out 1).trans rfl; have hcz29_2 : w28.cell? ⟨bi, 2, none⟩ = some (.slice bv aa.length bq) := (aD ay.out 2).trans rfl; have hcz29_3 : w28.cell? ⟨bi, 3, none⟩ = some (.slice bu ak.length bn) := (aD ay.out 3).trans rfl; have hfz29_0 := aC ay.out 0; have hfz29_1 := aC ay.out 1; have hfz29_2 := aC ay.out 2; have hfz29_3 := aC ay.out 3) | (go_at_call 37; (with_reducible refine (aZ.calls k _ _ l1 aT t565 t566 _ ?dB ?dA A5.out).mono ?_); (case dB => repeat (first | exact (Kd.aX HR1.out HB.out) | (with_reducible refine Kd.bE ?_ _) | (with_reducible refine Kd.bD ?_ _) | (with_reducible refine Kd.bS ?_))); (case dA => exact HC1.out); rintro e w' ⟨rfl, ⟨nd, rfl⟩⟩; (try first | exact ⟨rfl, _, World.drewN_drewN _ _ _⟩ | exact ⟨rfl, _, Eq.trans (World.drewN_drewN _ _ _) (congrArg (World.drewN _) (Nat.add_assoc _ _ _))⟩))))
      go_ret2
      exact ⟨by first | rfl | (simp [ag, af] <;> rfl) | (simp [*, ag, af] <;> rfl), by repeat (first | (with_reducible first | exact HB.out | apply aH | apply aG | apply aI | refine aN ?_ jm.out) | exact HB.out)⟩
  · rw [if_neg c4] at H
    have gz : (t564 == 0) = false := beq_eq_false_iff_ne.mpr c4
    have c4b1 : (t564 != 0) = true := bne_iff_ne.mpr c4
    simp only [Option.some.injEq, Prod.mk.injEq] at H
    obtain ⟨rfl, rfl⟩ := H
    go_enter Try.func29, Try.ntmps29
    go_wp2_with (first | ((with_reducible refine bT (N := 2) rfl ?_); refine dD ?hg (N := 2) ?hd (cs := #[.int .i64 aT, .int .i64 aU, .slice bv aa.length bq, .slice bu ak.length bn]) (t := 34) ?hr ?_; (case hd => rfl); (case hg => rfl); (case hr => first | (go_simp; done) | (go_simp; rfl)); intro bi hg w30 hbox hb; have n0_ := aA.mk (aW (by repeat (first | (with_reducible first | exact HB.out | apply aH | apply aG | apply aI) | exact HB.out)) hb); have n1_ := aA.mk (hbox); have n2_ := aA.mk ((by rw [hg]; exact (aY (by repeat (first | (with_reducible first | exact HB.out | apply aH | apply aG | apply aI) | exact HB.out))) : w.heap.size ≤ bi)); have n3_ := aA.mk ((by rw [hg]; exact (aY (by repeat (first | (with_reducible first | exact HB.out | apply aH | apply aG | apply aI) | exact HB.out))) : w.heap.size ≤ bi)); clear HB; have HB := n0_; have ay := n1_; have GW563 := n2_; have jm := n3_; clear n0_ n1_ n2_ n3_; clear hb hbox hg; have hcz31_0 : w30.cell? ⟨bi, 0, none⟩ = some (.int .i64 aT) := (aD ay.out 0).trans rfl; have hcz31_1 : w30.cell? ⟨bi, 1, none⟩ = some (.int .i64 aU) := (aD ay.out 1).trans rfl; have hcz31_2 : w30.cell? ⟨bi, 2, none⟩ = some (.slice bv aa.length bq) := (aD ay.out 2).trans rfl; have hcz31_3 : w30.cell? ⟨bi, 3, none⟩ = some (.slice bu ak.length bn) := (aD ay.out 3).trans rfl; have hfz31_0 := aC ay.out 0; have hfz31_1 := aC ay.out 1; have hfz31_2 := aC ay.out 2; have hfz31_3 := aC ay.out 3) | (go_at_call 48; (with_reducible refine (aV.calls k aT aU _ _ aa _ _ ak t564 _ ?dB ?dA ?di ?dh A3.out).mono ?_); (case dB => repeat (first | exact (Kd.aX gX.out HB.out) | (with_reducible refine Kd.bE ?_ _) | (with_reducible refine Kd.bD ?_ _) | (with_reducible refine Kd.bS ?_))); (case dA => exact jV.out); (case di => repeat (first | exact (Kd.aX gu.out HB.out) | (with_reducible refine Kd.bE ?_ _) | (with_reducible refine Kd.bD ?_ _) | (with_reducible refine Kd.bS ?_))); (case dh => exact jU.out); rintro e w32 ⟨rfl, hb⟩; have n0_ := aA.mk (bH (g := bi) (o := .cells #[.int .i64 aT, .int .i64 aU, .slice bv aa.length bq, .slice bu ak.length bn] 34 (0, 0)) (by (with_reducible repeat (first | refine aM ?_ _ | refine aQ ?_ | refine aJ ?_ _)); exact ay.out) hb); have n1_ := aA.mk (aW (by repeat (first | (with_reducible first | exact HB.out | apply aH | apply aG | apply aI | refine aN ?_ jm.out) | exact HB.out)) hb); clear ay; clear HB; have ay := n0_; have HB := n1_; clear n0_ n1_; (try clear hb); (try clear hb2); (try clear hk); (try clear hi)))
    repeat (go_quiet (first | ((with_reducible refine bT (N := 2) rfl ?_); refine dD ?hg (N := 2) ?hd (cs := #[.int .i64 aT, .int .i64 aU, .slice bv aa.length bq, .slice bu ak.length bn]) (t := 34) ?hr ?_; (case hd => rfl); (case hg => rfl); (case hr => first | (go_simp; done) | (go_simp; rfl)); intro bi hg w30 hbox hb; have n0_ := aA.mk (aW (by repeat (first | (with_reducible first | exact HB.out | apply aH | apply aG | apply aI) | exact HB.out)) hb); have n1_ := aA.mk (hbox); have n2_ := aA.mk ((by rw [hg]; exact (aY (by repeat (first | (with_reducible first | exact HB.out | apply aH | apply aG | apply aI) | exact HB.out))) : w.heap.size ≤ bi)); have n3_ := aA.mk ((by rw [hg]; exact (aY (by repeat (first | (with_reducible first | exact HB.out | apply aH | apply aG | apply aI) | exact HB.out))) : w.heap.size ≤ bi)); clear HB; have HB := n0_; have ay := n1_; have GW563 := n2_; have jm := n3_; clear n0_ n1_ n2_ n3_; clear hb hbox hg; have hcz31_0 : w30.cell? ⟨bi, 0, none⟩ = some (.int .i64 aT) := (aD ay.out 0).trans rfl; have hcz31_1 : w30.cell? ⟨bi, 1, none⟩ = some (.int .i64 aU) := (aD ay.out 1).trans rfl; have hcz31_2 : w30.cell? ⟨bi, 2, none⟩ = some (.slice bv aa.length bq) := (aD ay.out 2).trans rfl; have hcz31_3 : w30.cell? ⟨bi, 3, none⟩ = some (.slice bu ak.length bn) := (aD ay.out 3).trans rfl; have hfz31_0 := aC ay.out 0; have hfz31_1 := aC ay.out 1; have hfz31_2 := aC ay.out 2; have hfz31_3 := aC ay.out 3) | (go_at_call 48; (with_reducible refine (aV.calls k aT aU _ _ aa _ _ ak t564 _ ?dB ?dA ?di ?dh A3.out).mono ?_); (case dB => repeat (first | exact (Kd.aX gX.out HB.out) | (with_reducible refine Kd.bE ?_ _) | (with_reducible refine Kd.bD ?_ _) | (with_reducible refine Kd.bS ?_))); (case dA => exact jV.out); (case di => repeat (first | exact (Kd.aX gu.out HB.out) | (with_reducible refine Kd.bE ?_ _) | (with_reducible refine Kd.bD ?_ _) | (with_reducible refine Kd.bS ?_))); (case dh => exact jU.out); rintro e w32 ⟨rfl, hb⟩; have n0_ := aA.mk (bH (g := bi) (o := .cells #[.int .i64 aT, .int .i64 aU, .slice bv aa.length bq, .slice bu ak.length bn] 34 (0, 0)) (by (with_reducible repeat (first | refine aM ?_ _ | refine aQ ?_ | refine aJ ?_ _)); exact ay.out) hb); have n1_ := aA.mk (aW (by repeat (first | (with_reducible first | exact HB.out | apply aH | apply aG | apply aI | refine aN ?_ jm.out) | exact HB.out)) hb); clear ay; clear HB; have ay := n0_; have HB := n1_; clear n0_ n1_; (try clear hb); (try clear hb2); (try clear hk); (try clear hi))); try go_wp2_with (first | ((with_reducible refine bT (N := 2) rfl ?_); refine dD ?hg (N := 2) ?hd (cs := #[.int .i64 aT, .int .i64 aU, .slice bv aa.length bq, .slice bu ak.length bn]) (t := 34) ?hr ?_; (case hd => rfl); (case hg => rfl); (case hr => first | (go_simp; done) | (go_simp; rfl)); intro bi hg w30 hbox hb; have n0_ := aA.mk (aW (by repeat (first | (with_reducible first | exact HB.out | apply aH | apply aG | apply aI) | exact HB.out)) hb); have n1_ := aA.mk (hbox); have n2_ := aA.mk ((by rw [hg]; exact (aY (by repeat (first | (with_reducible first | exact HB.out | apply aH | apply aG | apply aI) | exact HB.out))) : w.heap.size ≤ bi)); have n3_ := aA.mk ((by rw [hg]; exact (aY (by repeat (first | (with_reducible first | exact HB.out | apply aH | apply aG | apply aI) | exact HB.out))) : w.heap.size ≤ bi)); clear HB; have HB := n0_; have ay := n1_; have GW563 := n2_; have jm := n3_; clear n0_ n1_ n2_ n3_; clear hb hbox hg; have hcz31_0 : w30.cell? ⟨bi, 0, none⟩ = some (.int .i64 aT) := (aD ay.out 0).trans rfl; have hcz31_1 : w30.cell? ⟨bi, 1, none⟩ = some (.int .i64 aU) := (aD ay.out 1).trans rfl; have hcz31_2 : w30.cell? ⟨bi, 2, none⟩ = some (.slice bv aa.length bq) := (aD ay.out 2).trans rfl; have hcz31_3 : w30.cell? ⟨bi, 3, none⟩ = some (.slice bu ak.length bn) := (aD ay.out 3).trans rfl; have hfz31_0 := aC ay.out 0; have hfz31_1 := aC ay.out 1; have hfz31_2 := aC ay.out 2; have hfz31_3 := aC ay.out 3) | (go_at_call 48; (with_reducible refine (aV.calls k aT aU _ _ aa _ _ ak t564 _ ?dB ?dA ?di ?dh A3.out).mono ?_); (case dB => repeat (first | exact (Kd.aX gX.out HB.out) | (with_reducible refine Kd.bE ?_ _) | (with_reducible refine Kd.bD ?_ _) | (with_reducible refine Kd.bS ?_))); (case dA => exact jV.out); (case di => repeat (first | exact (Kd.aX gu.out HB.out) | (with_reducible refine Kd.bE ?_ _) | (with_reducible refine Kd.bD ?_ _) | (with_reducible refine Kd.bS ?_))); (case dh => exact jU.out); rintro e w32 ⟨rfl, hb⟩; have n0_ := aA.mk (bH (g := bi) (o := .cells #[.int .i64 aT, .int .i64 aU, .slice bv aa.length bq, .slice bu ak.length bn] 34 (0, 0)) (by (with_reducible repeat (first | refine aM ?_ _ | refine aQ ?_ | refine aJ ?_ _)); exact ay.out) hb); have n1_ := aA.mk (aW (by repeat (first | (with_reducible first | exact HB.out | apply aH | apply aG | apply aI | refine aN ?_ jm.out) | exact HB.out)) hb); clear ay; clear HB; have ay := n0_; have HB := n1_; clear n0_ n1_; (try clear hb); (try clear hb2); (try clear hk); (try clear hi))))
    go_ret2
    exact ⟨by first | rfl | (simp [ag, af] <;> rfl) | (simp [*, ag, af] <;> rfl), by repeat (first | (with_reducible first | exact HB.out | apply aH | apply aG | apply aI | refine aN ?_ jm.out) | exact HB.out)⟩
end Go.Proofs.Ytocejofjmmoeaaa.X
end

section
namespace Go.Proofs.Ytocejofjmmoeaaa.X
open Go.RowKit Go.Proofs.YtocejofjmmoeaaaW.PrintWords Go.Proofs.YtocejofjmmoeaaaW.PrintLast Go.Proofs.YtocejofjmmoeaaaW.PrintMore
attribute [local go_sem] eZ eu fV fU eP eO fF fE   -- for this text's walks alone
set_option linter.unusedVariables false
set_option linter.unusedSimpArgs false
def fw.f (aT : Int) (aU : Int) (aa : List Int) (ak : List Int) : Option (Bool) := if aU > 30 then (some true) else (if (aa.length : Int) > 3000 then (some true) else (some (decide ((ak.length : Int) > 3000))))
set_option maxHeartbeats 8000000 in
set_option maxRecDepth 100000 in
theorem fw.calls (aT : Int) (aU : Int) (bv : Option Addr) (bq : Nat) (aa : List Int) (bu : Option Addr) (bn : Nat) (ak : List Int) (r : Bool) (w : World) (jv : Kd.C (Kd.int .i64) w bv aa.length aa) (kU : aa.length ≤ bq) (jr : Kd.C (Kd.int .i64) w bu ak.length ak) (kT : ak.length ≤ bn) (h : fw.f aT aU aa ak = some r) :
    Calls Try.prog 21 #[.agg #[.int .i64 aT, .int .i64 aU, .slice bv aa.length bq, .slice bu ak.length bn]] w fun e w' => e = .returned (.bool r) ∧ Below w.heap.size w w' := by
  have hu34 := Try.underlying34
  have gX := aA.mk jv
  have jV := aA.mk kU
  clear jv kU
  have gu := aA.mk jr
  have jU := aA.mk kT
  clear jr kT
  have HB := aA.mk (Below.refl w.heap.size w)
  have H : (if aU > 30 then (some true) else (if (aa.length : Int) > 3000 then (some true) else (some (decide ((ak.length : Int) > 3000))))) = some r := h
  clear h
  by_cases c2 : aU > 30
  · rw [if_pos c2] at H
    have c2b0 : decide (30 < aU) = true := decide_eq_true c2
    clear c2
    obtain rfl := Option.some.inj H
    go_enter Try.func21, Try.ntmps21
    go_wp2_with (first | ((with_reducible refine bT (N := 1) rfl ?_); (try (refine lJ (by rfl) ?_; dsimp only)); refine dD ?hg (N := 1) ?hd (cs := #[.int .i64 aT, .int .i64 aU, .slice bv aa.length bq, .slice bu ak.length bn]) (t := 34) ?hr ?_; (case hd => rfl); (case hg => rfl); (case hr => first | (go_simp; done) | (go_simp; rfl)); intro lQ hg w3 hbox hb; have n0_ := aA.mk (aW (by repeat (first | (with_reducible first | exact HB.out | apply aH | apply aG | apply aI) | exact HB.out)) hb); have n1_ := aA.mk (hbox); have n2_ := aA.mk ((by rw [hg]; exact (aY (by repeat (first | (with_reducible first | exact HB.out | apply aH | apply aG | apply aI) | exact HB.out))) : w.heap.size ≤ lQ)); have n3_ := aA.mk ((by rw [hg]; exact (aY (by repeat (first | (with_reducible first | exact HB.out | apply aH | apply aG | apply aI) | exact HB.out))) : w.heap.size ≤ lQ)); clear HB; have HB := n0_; have jN := n1_; have GW329 := n2_; have GE329 := n3_; clear n0_ n1_ n2_ n3_; clear hb hbox hg; have hcz4_0 : w3.cell? ⟨lQ, 0, none⟩ = some (.int .i64 aT) := (aD jN.out 0).trans rfl; have hcz4_1 : w3.cell? ⟨lQ, 1, none⟩ = some (.int .i64 aU) := (aD jN.out 1).trans rfl; have hcz4_2 : w3.cell? ⟨lQ, 2, none⟩ = some (.slice bv aa.length bq) := (aD jN.out 2).trans rfl; have hcz4_3 : w3.cell? ⟨lQ, 3, none⟩ = some (.slice bu ak.length bn) := (aD jN.out 3).trans rfl; have hfz4_0 := aC jN.out 0; have hfz4_1 := aC jN.out 1; have hfz4_2 := aC jN.out 2; have hfz4_3 := aC jN.out 3))
    go_ret
    exact ⟨by first | rfl | (simp [ag, af] <;> rfl) | (simp [*, ag, af] <;> rfl), by repeat (first | (with_reducible first | exact HB.out | apply aH | apply aG | apply aI | refine aN ?_ GE329.out) | exact HB.out)⟩
  · rw [if_neg c2] at H
    have c2b0 : decide (30 < aU) = false := decide_eq_false c2
    clear c2
    by_cases c5 : (aa.length : Int) > 3000
    · rw [if_pos c5] at H
      have c5b0 : decide (3000 < (aa.length : Int)) = true := decide_eq_true c5
      have c5b1 : decide (3000 < aa.length) = true := decide_eq_true (by omega)
      clear c5
      obtain rfl := Option.some.inj H
      go_enter Try.func21, Try.ntmps21
      go_wp2_with (first | ((with_reducible refine bT (N := 1) rfl ?_); (try (refine lJ (by rfl) ?_; dsimp only)); refine dD ?hg (N := 1) ?hd (cs := #[.int .i64 aT, .int .i64 aU, .slice bv aa.length bq, .slice bu ak.length bn]) (t := 34) ?hr ?_; (case hd => rfl); (case hg => rfl); (case hr => first | (go_simp; done) | (go_simp; rfl)); intro lQ hg w6 hbox hb; have n0_ := aA.mk (aW (by repeat (first | (with_reducible first | exact HB.out | apply aH | apply aG | apply aI) | exact HB.out)) hb); have n1_ := aA.mk (hbox); have n2_ := aA.mk ((by rw [hg]; exact (aY (by repeat (first | (with_reducible first | exact HB.out | apply aH | apply aG | apply aI) | exact HB.out))) : w.heap.size ≤ lQ)); have n3_ := aA.mk ((by rw [hg]; exact (aY (by repeat (first | (with_reducible first | exact HB.out | apply aH | apply aG | apply aI) | exact HB.out))) : w.heap.size ≤ lQ)); clear HB; have HB := n0_; have jN := n1_; have GW329 := n2_; have GE329 := n3_; clear n0_ n1_ n2_ n3_; clear hb hbox hg; have hcz7_0 : w6.cell? ⟨lQ, 0, none⟩ = some (.int .i64 aT) := (aD jN.out 0).trans rfl; have hcz7_1 : w6.cell? ⟨lQ, 1, none⟩ = some (.int .i64 aU) := (aD jN.out 1).trans rfl; have hcz7_2 : w6.cell? ⟨lQ, 2, none⟩ = some (.slice bv aa.length bq) := (aD jN.out 2).trans rfl; have hcz7_3 : w6.cell? ⟨lQ, 3, none⟩ = some (.slice bu ak.length bn) := (aD jN.out 3).trans rfl; have hfz7_0 := aC jN.out 0; have hfz7_1 := aC jN.out 1; have hfz7_2 := aC jN.out 2; have hfz7_3 := aC jN.out 3))
      go_ret
      exact ⟨by first | rfl | (simp [ag, af] <;> rfl) | (simp [*, ag, af] <;> rfl), by repeat (first | (with_reducible first | exact HB.out | apply aH | apply aG | apply aI | refine aN ?_ GE329.out) | exact HB.out)⟩
    · rw [if_neg c5] at H
      have c5b0 : decide (3000 < (aa.length : Int)) = false := decide_eq_false c5
      have c5b1 : decide (3000 < aa.length) = false := decide_eq_false (by omega)
      clear c5
      obtain rfl := Option.some.inj H
      go_enter Try.func21, Try.ntmps21
      go_wp2_with (first | ((with_reducible refine bT (N := 1) rfl ?_); (try (refine lJ (by rfl) ?_; dsimp only)); refine dD ?hg (N := 1) ?hd (cs := #[.int .i64 aT, .int .i64 aU, .slice bv aa.length bq, .slice bu ak.length bn]) (t := 34) ?hr ?_; (case hd => rfl); (case hg => rfl); (case hr => first | (go_simp; done) | (go_simp; rfl)); intro lQ hg w8 hbox hb; have n0_ := aA.mk (aW (by repeat (first | (with_reducible first | exact HB.out | apply aH | apply aG | apply aI) | exact HB.out)) hb); have n1_ := aA.mk (hbox); have n2_ := aA.mk ((by rw [hg]; exact (aY (by repeat (first | (with_reducible first | exact HB.out | apply aH | apply aG | apply aI) | exact HB.out))) : w.heap.size ≤ lQ)); have n3_ := aA.mk ((by rw [hg]; exact (aY (by repeat (first | (with_reducible first | exact HB.out | apply aH | apply aG | apply aI) | exact HB.out))) : w.heap.size ≤ lQ)); clear HB; have HB := n0_; have jN := n1_; have GW329 := n2_; have GE329 := n3_; clear n0_ n1_ n2_ n3_; clear hb hbox hg; have jF : w8.cell? ⟨lQ, 0, none⟩ = some (.int .i64 aT) := (aD jN.out 0).trans rfl; have jE : w8.cell? ⟨lQ, 1, none⟩ = some (.int .i64 aU) := (aD jN.out 1).trans rfl; have jD : w8.cell? ⟨lQ, 2, none⟩ = some (.slice bv aa.length bq) := (aD jN.out 2).trans rfl; have jC : w8.cell? ⟨lQ, 3, none⟩ = some (.slice bu ak.length bn) := (aD jN.out 3).trans rfl; have jB := aC jN.out 0; have jA := aC jN.out 1; have iy := aC jN.out 2; have iw := aC jN.out 3))
      go_ret
      exact ⟨by first | rfl | (simp [ag, af] <;> rfl) | (simp [*, ag, af] <;> rfl), by repeat (first | (with_reducible first | exact HB.out | apply aH | apply aG | apply aI | refine aN ?_ GE329.out) | exact HB.out)⟩
end Go.Proofs.Ytocejofjmmoeaaa.X
end
