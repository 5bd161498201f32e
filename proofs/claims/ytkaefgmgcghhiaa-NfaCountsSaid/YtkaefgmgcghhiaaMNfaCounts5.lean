/- Texts of the statement NfaCounts, one behind the other: Go functions as Lean functions, the machine's calls, the plain law. -/
import Derived.Test.YtkaefgmgcghhiaaMNfaCounts4
set_option linter.unusedVariables false
set_option linter.unusedSimpArgs false
section
namespace Go.Proofs.Ytkaefgmgcghhiaa.X
open Go.RowKit Go.Proofs.YtkaefgmgcghhiaaW.PrintWords Go.Proofs.YtkaefgmgcghhiaaW.PrintLast Go.Proofs.YtkaefgmgcghhiaaW.PrintMore
attribute [local go_sem] eP eH fQ fP d9 dZ eO eG   -- for this text's walks alone
set_option linter.unusedVariables false
set_option linter.unusedSimpArgs false
def cB.l0 : Nat → List Int → List Int → Int → Option (Bool)
  | 0, _, _, _ => none
  | k + 1, x0, x1, x5 => if x5 < (x0.length : Int) then (if 0 ≤ x5 then (if x5 < (x1.length : Int) then (if (rd x0 x5) = (rd x1 x5) then (cB.l0 k x0 x1 (wrap64 (x5 + 1))) else (some false)) else (none)) else (none)) else (some true)
def cB.f (k : Nat) (l0 : List Int) (l1 : List Int) : Option (Bool) := if (l0.length : Int) = (l1.length : Int) then (cB.l0 k l0 l1 0) else (some false)
set_option maxHeartbeats 8000000 in
set_option maxRecDepth 100000 in
theorem cB.calls (k : Nat) (A0 : Option Addr) (c0 : Nat) (l0 : List Int) (A1 : Option Addr) (c1 : Nat) (l1 : List Int) (r : Bool) (w : World) (hr0 : Kd.C (Kd.int .i64) w A0 l0.length l0) (hc0 : l0.length ≤ c0) (hr1 : Kd.C (Kd.int .i64) w A1 l1.length l1) (hc1 : l1.length ≤ c1) (h : cB.f k l0 l1 = some r) :
    Calls Try.prog 44 #[.slice A0 l0.length c0, .slice A1 l1.length c1] w fun e w' => e = .returned (.bool r) ∧ bY w w' := by
  have HR0 := aC.mk hr0
  have HC0 := aC.mk hc0
  clear hr0 hc0
  have HR1 := aC.mk hr1
  have HC1 := aC.mk hc1
  clear hr1 hc1
  have H : (if (l0.length : Int) = (l1.length : Int) then (cB.l0 k l0 l1 0) else (some false)) = some r := h
  clear h
  by_cases c3 : (l0.length : Int) = (l1.length : Int)
  · rw [if_pos c3] at H
    have lL : ((l0.length : Int) == (l1.length : Int)) = true := beq_iff_eq.mpr c3
    have c3b1 : ((l0.length : Int) != (l1.length : Int)) = false := bne_eq_false_iff_eq.mpr c3
    have c3b2 : (l0.length == l1.length) = true := by first | simpa using c3 | (simp at c3 ⊢; omega)
    clear c3
    have H' := aC.mk H
    clear H
    go_enter Try.func44, Try.ntmps44
    go_wp2
    repeat (go_quiet (fail); try go_wp2)
    go_loopg [5] k (fun kq v5 w' => ∃ (fH : Int), v5 = .int .i64 fH ∧ aC (cB.l0 kq l0 l1 fH = some r) ∧ aC (kq ≤ k) ∧ bY w w')
    case atStart => exact ⟨(0), (by first | rfl | (simp; done) | (simp [*]; done)), H', ⟨Nat.le_refl _⟩, by repeat (first | exact bY.refl _ | apply bY.step)⟩
    case round =>
      clear H'
      try clear c1
      try clear p2
      try clear c3
      try clear lL
      try clear c3b1
      try clear c3b2
      obtain ⟨fH, rfl, HA, HK1, ⟨m1, rfl⟩⟩ := hrel
      cases gk with
      | zero => exact absurd HA.out (by simp [cB.l0])
      | succ k1 =>
        have H := HA.out
        clear HA
        simp only [cB.l0] at H
        by_cases c4 : fH < (l0.length : Int)
        · rw [if_pos c4] at H
          have iB : decide (fH < (l0.length : Int)) = true := decide_eq_true c4
          clear c4
          by_cases c5 : 0 ≤ fH
          · rw [if_pos c5] at H
            have c5b0 : decide (0 ≤ fH) = true := decide_eq_true c5
            clear c5
            by_cases c6 : fH < (l1.length : Int)
            · rw [if_pos c6] at H
              have c6b0 : decide (fH < (l1.length : Int)) = true := decide_eq_true c6
              clear c6
              by_cases c7 : (rd l0 fH) = (rd l1 fH)
              · rw [if_pos c7] at H
                have c7b0 : ((rd l0 fH) == (rd l1 fH)) = true := beq_iff_eq.mpr c7
                have c7b1 : ((rd l0 fH) != (rd l1 fH)) = false := bne_eq_false_iff_eq.mpr c7
                clear c7
                have H' := aC.mk H
                clear H
                have p127 : 0 ≤ (fH : Int) := of_decide_eq_true (by first | (with_reducible assumption) | assumption)
                have q127 : fH < (l0.length : Int) := of_decide_eq_true (by first | (with_reducible assumption) | assumption)
                obtain ⟨ad127, e127, hx127_0⟩ := Kd.cz HR0.out fH p127 q127
                cases e127
                replace p127 := eq_true p127
                replace q127 := eq_true q127
                have p128 : 0 ≤ (fH : Int) := of_decide_eq_true (by first | (with_reducible assumption) | assumption)
                have q128 : fH < (l1.length : Int) := of_decide_eq_true (by first | (with_reducible assumption) | assumption)
                obtain ⟨ad128, e128, hx128_0⟩ := Kd.cz HR1.out fH p128 q128
                cases e128
                replace p128 := eq_true p128
                replace q128 := eq_true q128
                go_wp2
                repeat (go_quiet (fail); try go_wp2)
                go_roundg k1
                case measure => have := HK1.out; omega
                case rel => exact ⟨(wrap64 (fH + 1)), (by first | rfl | (simp; done) | (simp [*]; done)), H', ⟨by have := HK1.out; omega⟩, by repeat (first | exact bY.refl _ | apply bY.step)⟩
              · rw [if_neg c7] at H
                have c7b0 : ((rd l0 fH) == (rd l1 fH)) = false := beq_eq_false_iff_ne.mpr c7
                have c7b1 : ((rd l0 fH) != (rd l1 fH)) = true := bne_iff_ne.mpr c7
                obtain rfl := Option.some.inj H
                have p127 : 0 ≤ (fH : Int) := of_decide_eq_true (by first | (with_reducible assumption) | assumption)
                have q127 : fH < (l0.length : Int) := of_decide_eq_true (by first | (with_reducible assumption) | assumption)
                obtain ⟨ad127, e127, hx127_0⟩ := Kd.cz HR0.out fH p127 q127
                cases e127
                replace p127 := eq_true p127
                replace q127 := eq_true q127
                have p128 : 0 ≤ (fH : Int) := of_decide_eq_true (by first | (with_reducible assumption) | assumption)
                have q128 : fH < (l1.length : Int) := of_decide_eq_true (by first | (with_reducible assumption) | assumption)
                obtain ⟨ad128, e128, hx128_0⟩ := Kd.cz HR1.out fH p128 q128
                cases e128
                replace p128 := eq_true p128
                replace q128 := eq_true q128
                go_wp2
                repeat (go_quiet (fail); try go_wp2)
                go_ret
                exact ⟨by first | rfl | (simp; done) | (simp [*]; done), by repeat (first | exact bY.refl _ | apply bY.step)⟩
            · rw [if_neg c6] at H
              exact absurd H (by simp)
          · rw [if_neg c5] at H
            exact absurd H (by simp)
        · rw [if_neg c4] at H
          have iB : decide (fH < (l0.length : Int)) = false := decide_eq_false c4
          clear c4
          obtain rfl := Option.some.inj H
          go_wp2
          repeat (go_quiet (fail); try go_wp2)
          go_ret
          exact ⟨by first | rfl | (simp; done) | (simp [*]; done), by repeat (first | exact bY.refl _ | apply bY.step)⟩
  · rw [if_neg c3] at H
    have lL : ((l0.length : Int) == (l1.length : Int)) = false := beq_eq_false_iff_ne.mpr c3
    have c3b1 : ((l0.length : Int) != (l1.length : Int)) = true := bne_iff_ne.mpr c3
    have c3b2 : (l0.length == l1.length) = false := by first | simpa using c3 | (simp at c3 ⊢; omega)
    obtain rfl := Option.some.inj H
    go_enter Try.func44, Try.ntmps44
    go_wp2
    repeat (go_quiet (fail); try go_wp2)
    go_ret
    exact ⟨by first | rfl | (simp; done) | (simp [*]; done), by repeat (first | exact bY.refl _ | apply bY.step)⟩
end Go.Proofs.Ytkaefgmgcghhiaa.X
end

section
namespace Go.Proofs.Ytkaefgmgcghhiaa.X
open Go.RowKit Go.Proofs.YtkaefgmgcghhiaaW.PrintWords Go.Proofs.YtkaefgmgcghhiaaW.PrintLast Go.Proofs.YtkaefgmgcghhiaaW.PrintMore
attribute [local go_sem] eP eH fQ fP d9 dZ eO eG   -- for this text's walks alone
set_option linter.unusedVariables false
set_option linter.unusedSimpArgs false
theorem eqA80 (d : Nat) (w : World) (x0 y0 : Int) (x1 y1 : Int) (x2 y2 : Int) :
    (Op.equalIn (d + 2) 80 (.agg #[.int .i64 x0, .int .i64 x1, .int .i64 x2]) (.agg #[.int .i64 y0, .int .i64 y1, .int .i64 y2])).run Try.prog w = .ok (x0 == y0 && (x1 == y1 && (x2 == y2))) w := by
  refine eqA_of Try.underlying80 (by kernel_rfl) ?_
  refine eqf_cons (by rfl) (by go_simp; rfl) (by go_simp; rfl) (by go_simp) ?_
  refine eqf_cons (by rfl) (by go_simp; rfl) (by go_simp; rfl) (by go_simp) ?_
  exact eqf_last (by rfl) (by go_simp; rfl) (by go_simp; rfl) (by go_simp)
end Go.Proofs.Ytkaefgmgcghhiaa.X
end

section
namespace Go.Proofs.Ytkaefgmgcghhiaa.X
open Go.RowKit Go.Proofs.YtkaefgmgcghhiaaW.PrintWords Go.Proofs.YtkaefgmgcghhiaaW.PrintLast Go.Proofs.YtkaefgmgcghhiaaW.PrintMore
attribute [local go_sem] eP eH fQ fP d9 dZ eO eG   -- for this text's walks alone
set_option linter.unusedVariables false
set_option linter.unusedSimpArgs false
def gy.f (a0 : Int) : Option (Bool) := if a0 ≥ 1 then (some (decide (a0 ≤ 64))) else (some false)
set_option maxHeartbeats 8000000 in
set_option maxRecDepth 100000 in
theorem gy.calls (a0 : Int) (r : Bool) (w : World) (h : gy.f a0 = some r) :
    Calls Try.prog 87 #[.int .i64 a0] w fun e w' => e = .returned (.bool r) ∧ bY w w' := by
  have H : (if a0 ≥ 1 then (some (decide (a0 ≤ 64))) else (some false)) = some r := h
  clear h
  by_cases c2 : a0 ≥ 1
  · rw [if_pos c2] at H
    have c2b0 : decide (1 ≤ a0) = true := decide_eq_true c2
    clear c2
    obtain rfl := Option.some.inj H
    go_enter Try.func87, Try.ntmps87
    go_wp2
    go_ret
    exact ⟨by first | rfl | (simp; done) | (simp [*]; done), by repeat (first | exact bY.refl _ | apply bY.step)⟩
  · rw [if_neg c2] at H
    have c2b0 : decide (1 ≤ a0) = false := decide_eq_false c2
    clear c2
    obtain rfl := Option.some.inj H
    go_enter Try.func87, Try.ntmps87
    go_wp2
    go_ret
    exact ⟨by first | rfl | (simp; done) | (simp [*]; done), by repeat (first | exact bY.refl _ | apply bY.step)⟩
end Go.Proofs.Ytkaefgmgcghhiaa.X
end

section
namespace Go.Proofs.Ytkaefgmgcghhiaa.X
open Go.RowKit Go.Proofs.YtkaefgmgcghhiaaW.PrintWords Go.Proofs.YtkaefgmgcghhiaaW.PrintLast Go.Proofs.YtkaefgmgcghhiaaW.PrintMore
attribute [local go_sem] eP eH fQ fP d9 dZ eO eG   -- for this text's walks alone
set_option linter.unusedVariables false
set_option linter.unusedSimpArgs false
def fE.l0 : Nat → List Int → Int → Int → Int → Option (Int × Int)
  | 0, _, _, _, _ => none
  | k + 1, x0, x1, x16, x17 => if x17 < x16 then (if 0 ≤ x17 then (if x17 < (x0.length : Int) then (if (rd x0 x17) < 0 then (some (x17, 10)) else (if (rd x0 x17) ≥ x1 then (some (x17, 10)) else (fE.l0 k x0 x1 x16 (wrap64 (x17 + 1))))) else (none)) else (none)) else (some (0, 0))
def fE.f (k : Nat) (l0 : List Int) (a1 : Int) : Option (Int × Int) := (gy.f a1).bind fun t101 => (if t101 = true then (if (l0.length : Int) > 4096 then (some (0, 2)) else (fE.l0 k l0 a1 (l0.length : Int) 0)) else (some (0, 1)))
set_option maxHeartbeats 8000000 in
set_option maxRecDepth 100000 in
theorem fE.calls (k : Nat) (A0 : Option Addr) (c0 : Nat) (l0 : List Int) (a1 : Int) (r1 : Int) (r2 : Int) (w : World) (hr0 : Kd.C (Kd.int .i64) w A0 l0.length l0) (hc0 : l0.length ≤ c0) (h : fE.f k l0 a1 = some (r1, r2)) :
    Calls Try.prog 56 #[.slice A0 l0.length c0, .int .i64 a1] w fun e w' => e = .returned (.tuple #[.int .i64 r1, .int .i64 r2]) ∧ bY w w' := by
  have HR0 := aC.mk hr0
  have HC0 := aC.mk hc0
  clear hr0 hc0
  have H : ((gy.f a1).bind fun t101 => (if t101 = true then (if (l0.length : Int) > 4096 then (some (0, 2)) else (fE.l0 k l0 a1 (l0.length : Int) 0)) else (some (0, 1)))) = some (r1, r2) := h
  clear h
  replace H := Option.bind_eq_some_iff.mp H
  obtain ⟨t101, A30, H⟩ := H
  replace H : (if t101 = true then (if (l0.length : Int) > 4096 then (some (0, 2)) else (fE.l0 k l0 a1 (l0.length : Int) 0)) else (some (0, 1))) = some (r1, r2) := H
  have A3 := aC.mk A30
  clear A30
  by_cases c4 : t101 = true
  · subst c4
    have H1 : (if (l0.length : Int) > 4096 then (some (0, 2)) else (fE.l0 k l0 a1 (l0.length : Int) 0)) = some (r1, r2) := by rw [if_pos rfl] at H; exact H
    clear H
    have H := H1
    clear H1
    by_cases c5 : (l0.length : Int) > 4096
    · rw [if_pos c5] at H
      have c5b0 : decide (4096 < (l0.length : Int)) = true := decide_eq_true c5
      have c5b1 : decide (4096 < l0.length) = true := decide_eq_true (by omega)
      clear c5
      simp only [Option.some.injEq, Prod.mk.injEq] at H
      obtain ⟨rfl, rfl⟩ := H
      go_enter Try.func56, Try.ntmps56
      go_wp2_with (first | ((with_reducible refine dG (f := 87) rfl ?_); refine gW (some 9) rfl rfl Try.func87 (by kernel_rfl) rfl #[.int .i64 a1] rfl (by (try simp only [List.map_toArray, List.map_cons, List.map_nil]); first | done | rfl | (simp only [List.length_drop, List.length_take]; rfl)) ?_; (with_reducible refine (gy.calls a1 true _ A3.out).mono ?_); rintro e w' ⟨rfl, ⟨nd, rfl⟩⟩; refine ⟨_, rfl, ?_⟩))
      go_ret2
      exact ⟨by first | rfl | (simp; done) | (simp [*]; done), by repeat (first | exact bY.refl _ | apply bY.step)⟩
    · rw [if_neg c5] at H
      have c5b0 : decide (4096 < (l0.length : Int)) = false := decide_eq_false c5
      have c5b1 : decide (4096 < l0.length) = false := decide_eq_false (by omega)
      clear c5
      have H' := aC.mk H
      clear H
      go_enter Try.func56, Try.ntmps56
      go_wp2_with (first | ((with_reducible refine dG (f := 87) rfl ?_); refine gW (some 9) rfl rfl Try.func87 (by kernel_rfl) rfl #[.int .i64 a1] rfl (by (try simp only [List.map_toArray, List.map_cons, List.map_nil]); first | done | rfl | (simp only [List.length_drop, List.length_take]; rfl)) ?_; (with_reducible refine (gy.calls a1 true _ A3.out).mono ?_); rintro e w' ⟨rfl, ⟨nd, rfl⟩⟩; refine ⟨_, rfl, ?_⟩))
      go_loopg [17] k (fun kq v17 w' => ∃ (gu : Int), v17 = .int .i64 gu ∧ aC (fE.l0 kq l0 a1 (l0.length : Int) gu = some (r1, r2)) ∧ aC (kq ≤ k) ∧ bY w w')
      case atStart => exact ⟨(0), (by first | rfl | (simp; done) | (simp [*]; done)), H', ⟨Nat.le_refl _⟩, by repeat (first | exact bY.refl _ | apply bY.step)⟩
      case round =>
        clear H'
        try clear p2
        try clear c4
        try clear c5
        try clear c5b0
        try clear c5b1
        obtain ⟨gu, rfl, HA, HK1, ⟨m1, rfl⟩⟩ := hrel
        cases gk with
        | zero => exact absurd HA.out (by simp [fE.l0])
        | succ k1 =>
          have H := HA.out
          clear HA
          simp only [fE.l0] at H
          by_cases c6 : gu < (l0.length : Int)
          · rw [if_pos c6] at H
            have c6b0 : decide (gu < (l0.length : Int)) = true := decide_eq_true c6
            clear c6
            by_cases c7 : 0 ≤ gu
            · rw [if_pos c7] at H
              have c7b0 : decide (0 ≤ gu) = true := decide_eq_true c7
              clear c7
              by_cases c8 : gu < (l0.length : Int)
              · rw [if_pos c8] at H
                have c8b0 : decide (gu < (l0.length : Int)) = true := decide_eq_true c8
                clear c8
                by_cases c9 : (rd l0 gu) < 0
                · rw [if_pos c9] at H
                  have c9b0 : decide ((rd l0 gu) < 0) = true := decide_eq_true c9
                  clear c9
                  simp only [Option.some.injEq, Prod.mk.injEq] at H
                  obtain ⟨rfl, rfl⟩ := H
                  have p102 : 0 ≤ (gu : Int) := of_decide_eq_true (by first | (with_reducible assumption) | assumption)
                  have q102 : gu < (l0.length : Int) := of_decide_eq_true (by first | (with_reducible assumption) | assumption)
                  obtain ⟨ad102, e102, hx102_0⟩ := Kd.cz HR0.out gu p102 q102
                  cases e102
                  replace p102 := eq_true p102
                  replace q102 := eq_true q102
                  go_wp2
                  go_ret2
                  exact ⟨by first | rfl | (simp; done) | (simp [*]; done), by repeat (first | exact bY.refl _ | apply bY.step)⟩
                · rw [if_neg c9] at H
                  have c9b0 : decide ((rd l0 gu) < 0) = false := decide_eq_false c9
                  clear c9
                  by_cases c10 : (rd l0 gu) ≥ a1
                  · rw [if_pos c10] at H
                    have c10b0 : decide (a1 ≤ (rd l0 gu)) = true := decide_eq_true c10
                    clear c10
                    simp only [Option.some.injEq, Prod.mk.injEq] at H
                    obtain ⟨rfl, rfl⟩ := H
                    have p102 : 0 ≤ (gu : Int) := of_decide_eq_true (by first | (with_reducible assumption) | assumption)
                    have q102 : gu < (l0.length : Int) := of_decide_eq_true (by first | (with_reducible assumption) | assumption)
                    obtain ⟨ad102, e102, hx102_0⟩ := Kd.cz HR0.out gu p102 q102
                    cases e102
                    replace p102 := eq_true p102
                    replace q102 := eq_true q102
                    have p103 : 0 ≤ (gu : Int) := of_decide_eq_true (by first | (with_reducible assumption) | assumption)
                    have q103 : gu < (l0.length : Int) := of_decide_eq_true (by first | (with_reducible assumption) | assumption)
                    obtain ⟨ad103, e103, hx103_0⟩ := Kd.cz HR0.out gu p103 q103
                    obtain rfl : ad102 = ad103 := (by injection e103)
                    replace p103 := eq_true p103
                    replace q103 := eq_true q103
                    go_wp2
                    go_ret2
                    exact ⟨by first | rfl | (simp; done) | (simp [*]; done), by repeat (first | exact bY.refl _ | apply bY.step)⟩
                  · rw [if_neg c10] at H
                    have c10b0 : decide (a1 ≤ (rd l0 gu)) = false := decide_eq_false c10
                    clear c10
                    have H' := aC.mk H
                    clear H
                    have p102 : 0 ≤ (gu : Int) := of_decide_eq_true (by first | (with_reducible assumption) | assumption)
                    have q102 : gu < (l0.length : Int) := of_decide_eq_true (by first | (with_reducible assumption) | assumption)
                    obtain ⟨ad102, e102, hx102_0⟩ := Kd.cz HR0.out gu p102 q102
                    cases e102
                    replace p102 := eq_true p102
                    replace q102 := eq_true q102
                    have p103 : 0 ≤ (gu : Int) := of_decide_eq_true (by first | (with_reducible assumption) | assumption)
                    have q103 : gu < (l0.length : Int) := of_decide_eq_true (by first | (with_reducible assumption) | assumption)
                    obtain ⟨ad103, e103, hx103_0⟩ := Kd.cz HR0.out gu p103 q103
                    obtain rfl : ad102 = ad103 := (by injection e103)
                    replace p103 := eq_true p103
                    replace q103 := eq_true q103
                    go_wp2
                    go_roundg k1
                    case measure => have := HK1.out; omega
                    case rel => exact ⟨(wrap64 (gu + 1)), (by first | rfl | (simp; done) | (simp [*]; done)), H', ⟨by have := HK1.out; omega⟩, by repeat (first | exact bY.refl _ | apply bY.step)⟩
              · rw [if_neg c8] at H
                exact absurd H (by simp)
            · rw [if_neg c7] at H
              exact absurd H (by simp)
          · rw [if_neg c6] at H
            have c6b0 : decide (gu < (l0.length : Int)) = false := decide_eq_false c6
            clear c6
            simp only [Option.some.injEq, Prod.mk.injEq] at H
            obtain ⟨rfl, rfl⟩ := H
            go_wp2
            go_ret2
            exact ⟨by first | rfl | (simp; done) | (simp [*]; done), by repeat (first | exact bY.refl _ | apply bY.step)⟩
  · replace c4 := Bool.eq_false_iff.mpr c4
    subst c4
    have H1 : (some (0, 1)) = some (r1, r2) := by rw [if_neg (show ¬ (false = true) by decide)] at H; exact H
    clear H
    have H := H1
    clear H1
    simp only [Option.some.injEq, Prod.mk.injEq] at H
    obtain ⟨rfl, rfl⟩ := H
    go_enter Try.func56, Try.ntmps56
    go_wp2_with (first | ((with_reducible refine dG (f := 87) rfl ?_); refine gW (some 9) rfl rfl Try.func87 (by kernel_rfl) rfl #[.int .i64 a1] rfl (by (try simp only [List.map_toArray, List.map_cons, List.map_nil]); first | done | rfl | (simp only [List.length_drop, List.length_take]; rfl)) ?_; (with_reducible refine (gy.calls a1 false _ A3.out).mono ?_); rintro e w' ⟨rfl, ⟨nd, rfl⟩⟩; refine ⟨_, rfl, ?_⟩))
    go_ret2
    exact ⟨by first | rfl | (simp; done) | (simp [*]; done), by repeat (first | exact bY.refl _ | apply bY.step)⟩
end Go.Proofs.Ytkaefgmgcghhiaa.X
end

section
namespace Go.Proofs.Ytkaefgmgcghhiaa.X
open Go.RowKit Go.Proofs.YtkaefgmgcghhiaaW.PrintWords Go.Proofs.YtkaefgmgcghhiaaW.PrintLast Go.Proofs.YtkaefgmgcghhiaaW.PrintMore
attribute [local go_sem] eP eH fQ fP d9 dZ eO eG   -- for this text's walks alone
set_option linter.unusedVariables false
set_option linter.unusedSimpArgs false
def iT.f (k : Nat) (aX : Int) (aY : Int) (ae : Int) (aT : Int) (aM : List Int) (aU : List Int) : Option (Int) := (dm.f k aX aY ae aT aM aU).bind fun bt125 => (if bt125.2 = 0 then (if aX = 1 then (some 0) else (some 30)) else (some bt125.2))
set_option maxHeartbeats 8000000 in
set_option maxRecDepth 100000 in
theorem iT.calls (k : Nat) (aX : Int) (aY : Int) (ae : Int) (aT : Int) (bH : Option Addr) (bC : Nat) (aM : List Int) (bE : Option Addr) (bD : Nat) (aU : List Int) (r : Int) (w : World) (eQ : Kd.C (Kd.int .i64) w bH aM.length aM) (eu : aM.length ≤ bC) (fD : Kd.C (Kd.int .i64) w bE aU.length aU) (fG : aU.length ≤ bD) (h : iT.f k aX aY ae aT aM aU = some r) :
    Calls Try.prog 68 #[.agg #[.int .i64 aX, .int .i64 aY, .int .i64 ae, .int .i64 aT, .slice bH aM.length bC, .slice bE aU.length bD]] w fun e w' => e = .returned (.int .i64 r) ∧ Below w.heap.size w w' := by
  have hu43 := Try.underlying43
  have dY := aC.mk eQ
  have eX := aC.mk eu
  clear eQ eu
  have dV := aC.mk fD
  have fA := aC.mk fG
  clear fD fG
  have HB := aC.mk (Below.refl w.heap.size w)
  have H : ((dm.f k aX aY ae aT aM aU).bind fun bt125 => (if bt125.2 = 0 then (if aX = 1 then (some 0) else (some 30)) else (some bt125.2))) = some r := h
  clear h
  replace H := Option.bind_eq_some_iff.mp H
  obtain ⟨⟨t125, t126⟩, A20, H⟩ := H
  replace H : (if t126 = 0 then (if aX = 1 then (some 0) else (some 30)) else (some t126)) = some r := H
  have A2 := aC.mk A20
  clear A20
  by_cases c3 : t126 = 0
  · rw [if_pos c3] at H
    have lL : (t126 == 0) = true := beq_iff_eq.mpr c3
    have c3b1 : (t126 != 0) = false := bne_eq_false_iff_eq.mpr c3
    clear c3
    by_cases c4 : aX = 1
    · rw [if_pos c4] at H
      have iB : (aX == 1) = true := beq_iff_eq.mpr c4
      have ja : (aX != 1) = false := bne_eq_false_iff_eq.mpr c4
      clear c4
      obtain rfl := Option.some.inj H
      go_enter Try.func68, Try.ntmps68
      go_wp2_with (first | ((with_reducible refine bK (N := 1) rfl ?_); refine dA ?hg (N := 1) ?hd (cs := #[.int .i64 aX, .int .i64 aY, .int .i64 ae, .int .i64 aT, .slice bH aM.length bC, .slice bE aU.length bD]) (t := 43) ?hr ?_; (case hd => rfl); (case hg => rfl); (case hr => first | (go_simp; done) | (go_simp; rfl)); intro fO hg w5 hbox hb; have n0_ := aC.mk (ah (by repeat (first | (with_reducible first | exact HB.out | apply aH | apply aG | apply aI) | exact HB.out)) hb); have n1_ := aC.mk (hbox); have n2_ := aC.mk ((by rw [hg]; exact (aZ (by repeat (first | (with_reducible first | exact HB.out | apply aH | apply aG | apply aI) | exact HB.out))) : w.heap.size ≤ fO)); have n3_ := aC.mk ((by rw [hg]; exact (aZ (by repeat (first | (with_reducible first | exact HB.out | apply aH | apply aG | apply aI) | exact HB.out))) : w.heap.size ≤ fO)); clear HB; have HB := n0_; have dO := n1_; have GW124 := n2_; have GE124 := n3_; clear n0_ n1_ n2_ n3_; clear hb hbox hg; have iO : w5.cell? ⟨fO, 0, none⟩ = some (.int .i64 aX) := (aD dO.out 0).trans rfl; have iN : w5.cell? ⟨fO, 1, none⟩ = some (.int .i64 aY) := (aD dO.out 1).trans rfl; have iM : w5.cell? ⟨fO, 2, none⟩ = some (.int .i64 ae) := (aD dO.out 2).trans rfl; have iL : w5.cell? ⟨fO, 3, none⟩ = some (.int .i64 aT) := (aD dO.out 3).trans rfl; have iK : w5.cell? ⟨fO, 4, none⟩ = some (.slice bH aM.length bC) := (aD dO.out 4).trans rfl; have iJ : w5.cell? ⟨fO, 5, none⟩ = some (.slice bE aU.length bD) := (aD dO.out 5).trans rfl; have iI := aA dO.out 0; have iH := aA dO.out 1; have iG := aA dO.out 2; have iF := aA dO.out 3; have iE := aA dO.out 4; have iD := aA dO.out 5) | ((with_reducible refine dG (f := 67) rfl ?_); refine gW (some 7) rfl rfl Try.func67 (by kernel_rfl) rfl #[.agg #[.int .i64 aX, .int .i64 aY, .int .i64 ae, .int .i64 aT, .slice bH aM.length bC, .slice bE aU.length bD]] rfl (by (try simp only [List.map_toArray, List.map_cons, List.map_nil]); first | done | rfl | (simp only [List.length_drop, List.length_take]; rfl)) ?_; (with_reducible refine (dm.calls k aX aY ae aT _ _ aM _ _ aU t125 t126 _ ?dD ?dC ?dJ ?dI A2.out).mono ?_); (case dD => repeat (first | exact (Kd.ak dY.out HB.out) | (with_reducible refine Kd.bS ?_ _) | (with_reducible refine Kd.bR ?_ _) | (with_reducible refine Kd.bW ?_))); (case dC => exact eX.out); (case dJ => repeat (first | exact (Kd.ak dV.out HB.out) | (with_reducible refine Kd.bS ?_ _) | (with_reducible refine Kd.bR ?_ _) | (with_reducible refine Kd.bW ?_))); (case dI => exact fA.out); rintro e w7 ⟨rfl, hb⟩; refine ⟨_, rfl, ?_⟩; have n0_ := aC.mk (av (g := fO) (o := .cells #[.int .i64 aX, .int .i64 aY, .int .i64 ae, .int .i64 aT, .slice bH aM.length bC, .slice bE aU.length bD] 43 (0, 0)) (by (with_reducible repeat (first | refine ag ?_ _ | refine af ?_ | refine aW ?_ _)); exact dO.out) hb); have n1_ := aC.mk (ah (by repeat (first | (with_reducible first | exact HB.out | apply aH | apply aG | apply aI | refine aJ ?_ GE124.out) | exact HB.out)) hb); clear dO; clear HB; have dO := n0_; have HB := n1_; clear n0_ n1_; (try clear hb); (try clear hb2); (try clear hk); (try clear hi); have hcz8_0 : w7.cell? ⟨fO, 0, none⟩ = some (.int .i64 aX) := (aD dO.out 0).trans rfl; have hcz8_1 : w7.cell? ⟨fO, 1, none⟩ = some (.int .i64 aY) := (aD dO.out 1).trans rfl; have hcz8_2 : w7.cell? ⟨fO, 2, none⟩ = some (.int .i64 ae) := (aD dO.out 2).trans rfl; have hcz8_3 : w7.cell? ⟨fO, 3, none⟩ = some (.int .i64 aT) := (aD dO.out 3).trans rfl; have hcz8_4 : w7.cell? ⟨fO, 4, none⟩ = some (.slice bH aM.length bC) := (aD dO.out 4).trans rfl; have hcz8_5 : w7.cell? ⟨fO, 5, none⟩ = some (.slice bE aU.length bD) := (aD dO.out 5).trans rfl; have hfz8_0 := aA dO.out 0; have hfz8_1 := aA dO.out 1; have hfz8_2 := aA dO.out 2; have hfz8_3 := aA dO.out 3; have hfz8_4 := aA dO.out 4; have hfz8_5 := aA dO.out 5))
      go_ret
      exact ⟨by first | rfl | (simp [az, ay] <;> rfl) | (simp [*, az, ay] <;> rfl), by repeat (first | (with_reducible first | exact HB.out | apply aH | apply aG | apply aI | refine aJ ?_ GE124.out) | exact HB.out)⟩
    · rw [if_neg c4] at H
      have iB : (aX == 1) = false := beq_eq_false_iff_ne.mpr c4
      have ja : (aX != 1) = true := bne_iff_ne.mpr c4
      obtain rfl := Option.some.inj H
      go_enter Try.func68, Try.ntmps68
      go_wp2_with (first | ((with_reducible refine bK (N := 1) rfl ?_); refine dA ?hg (N := 1) ?hd (cs := #[.int .i64 aX, .int .i64 aY, .int .i64 ae, .int .i64 aT, .slice bH aM.length bC, .slice bE aU.length bD]) (t := 43) ?hr ?_; (case hd => rfl); (case hg => rfl); (case hr => first | (go_simp; done) | (go_simp; rfl)); intro fO hg w9 hbox hb; have n0_ := aC.mk (ah (by repeat (first | (with_reducible first | exact HB.out | apply aH | apply aG | apply aI) | exact HB.out)) hb); have n1_ := aC.mk (hbox); have n2_ := aC.mk ((by rw [hg]; exact (aZ (by repeat (first | (with_reducible first | exact HB.out | apply aH | apply aG | apply aI) | exact HB.out))) : w.heap.size ≤ fO)); have n3_ := aC.mk ((by rw [hg]; exact (aZ (by repeat (first | (with_reducible first | exact HB.out | apply aH | apply aG | apply aI) | exact HB.out))) : w.heap.size ≤ fO)); clear HB; have HB := n0_; have dO := n1_; have GW124 := n2_; have GE124 := n3_; clear n0_ n1_ n2_ n3_; clear hb hbox hg; have hcz10_0 : w9.cell? ⟨fO, 0, none⟩ = some (.int .i64 aX) := (aD dO.out 0).trans rfl; have hcz10_1 : w9.cell? ⟨fO, 1, none⟩ = some (.int .i64 aY) := (aD dO.out 1).trans rfl; have hcz10_2 : w9.cell? ⟨fO, 2, none⟩ = some (.int .i64 ae) := (aD dO.out 2).trans rfl; have hcz10_3 : w9.cell? ⟨fO, 3, none⟩ = some (.int .i64 aT) := (aD dO.out 3).trans rfl; have hcz10_4 : w9.cell? ⟨fO, 4, none⟩ = some (.slice bH aM.length bC) := (aD dO.out 4).trans rfl; have hcz10_5 : w9.cell? ⟨fO, 5, none⟩ = some (.slice bE aU.length bD) := (aD dO.out 5).trans rfl; have hfz10_0 := aA dO.out 0; have hfz10_1 := aA dO.out 1; have hfz10_2 := aA dO.out 2; have hfz10_3 := aA dO.out 3; have hfz10_4 := aA dO.out 4; have hfz10_5 := aA dO.out 5) | ((with_reducible refine dG (f := 67) rfl ?_); refine gW (some 7) rfl rfl Try.func67 (by kernel_rfl) rfl #[.agg #[.int .i64 aX, .int .i64 aY, .int .i64 ae, .int .i64 aT, .slice bH aM.length bC, .slice bE aU.length bD]] rfl (by (try simp only [List.map_toArray, List.map_cons, List.map_nil]); first | done | rfl | (simp only [List.length_drop, List.length_take]; rfl)) ?_; (with_reducible refine (dm.calls k aX aY ae aT _ _ aM _ _ aU t125 t126 _ ?dD ?dC ?dJ ?dI A2.out).mono ?_); (case dD => repeat (first | exact (Kd.ak dY.out HB.out) | (with_reducible refine Kd.bS ?_ _) | (with_reducible refine Kd.bR ?_ _) | (with_reducible refine Kd.bW ?_))); (case dC => exact eX.out); (case dJ => repeat (first | exact (Kd.ak dV.out HB.out) | (with_reducible refine Kd.bS ?_ _) | (with_reducible refine Kd.bR ?_ _) | (with_reducible refine Kd.bW ?_))); (case dI => exact fA.out); rintro e w11 ⟨rfl, hb⟩; refine ⟨_, rfl, ?_⟩; have n0_ := aC.mk (av (g := fO) (o := .cells #[.int .i64 aX, .int .i64 aY, .int .i64 ae, .int .i64 aT, .slice bH aM.length bC, .slice bE aU.length bD] 43 (0, 0)) (by (with_reducible repeat (first | refine ag ?_ _ | refine af ?_ | refine aW ?_ _)); exact dO.out) hb); have n1_ := aC.mk (ah (by repeat (first | (with_reducible first | exact HB.out | apply aH | apply aG | apply aI | refine aJ ?_ GE124.out) | exact HB.out)) hb); clear dO; clear HB; have dO := n0_; have HB := n1_; clear n0_ n1_; (try clear hb); (try clear hb2); (try clear hk); (try clear hi); have hcz12_0 : w11.cell? ⟨fO, 0, none⟩ = some (.int .i64 aX) := (aD dO.out 0).trans rfl; have hcz12_1 : w11.cell? ⟨fO, 1, none⟩ = some (.int .i64 aY) := (aD dO.out 1).trans rfl; have hcz12_2 : w11.cell? ⟨fO, 2, none⟩ = some (.int .i64 ae) := (aD dO.out 2).trans rfl; have hcz12_3 : w11.cell? ⟨fO, 3, none⟩ = some (.int .i64 aT) := (aD dO.out 3).trans rfl; have hcz12_4 : w11.cell? ⟨fO, 4, none⟩ = some (.slice bH aM.length bC) := (aD dO.out 4).trans rfl; have hcz12_5 : w11.cell? ⟨fO, 5, none⟩ = some (.slice bE aU.length bD) := (aD dO.out 5).trans rfl; have hfz12_0 := aA dO.out 0; have hfz12_1 := aA dO.out 1; have hfz12_2 := aA dO.out 2; have hfz12_3 := aA dO.out 3; have hfz12_4 := aA dO.out 4; have hfz12_5 := aA dO.out 5))
      go_ret
      exact ⟨by first | rfl | (simp [az, ay] <;> rfl) | (simp [*, az, ay] <;> rfl), by repeat (first | (with_reducible first | exact HB.out | apply aH | apply aG | apply aI | refine aJ ?_ GE124.out) | exact HB.out)⟩
  · rw [if_neg c3] at H
    have lL : (t126 == 0) = false := beq_eq_false_iff_ne.mpr c3
    have c3b1 : (t126 != 0) = true := bne_iff_ne.mpr c3
    obtain rfl := Option.some.inj H
    go_enter Try.func68, Try.ntmps68
    go_wp2_with (first | ((with_reducible refine bK (N := 1) rfl ?_); refine dA ?hg (N := 1) ?hd (cs := #[.int .i64 aX, .int .i64 aY, .int .i64 ae, .int .i64 aT, .slice bH aM.length bC, .slice bE aU.length bD]) (t := 43) ?hr ?_; (case hd => rfl); (case hg => rfl); (case hr => first | (go_simp; done) | (go_simp; rfl)); intro fO hg w13 hbox hb; have n0_ := aC.mk (ah (by repeat (first | (with_reducible first | exact HB.out | apply aH | apply aG | apply aI) | exact HB.out)) hb); have n1_ := aC.mk (hbox); have n2_ := aC.mk ((by rw [hg]; exact (aZ (by repeat (first | (with_reducible first | exact HB.out | apply aH | apply aG | apply aI) | exact HB.out))) : w.heap.size ≤ fO)); have n3_ := aC.mk ((by rw [hg]; exact (aZ (by repeat (first | (with_reducible first | exact HB.out | apply aH | apply aG | apply aI) | exact HB.out))) : w.heap.size ≤ fO)); clear HB; have HB := n0_; have dO := n1_; have GW124 := n2_; have GE124 := n3_; clear n0_ n1_ n2_ n3_; clear hb hbox hg; have hcz14_0 : w13.cell? ⟨fO, 0, none⟩ = some (.int .i64 aX) := (aD dO.out 0).trans rfl; have hcz14_1 : w13.cell? ⟨fO, 1, none⟩ = some (.int .i64 aY) := (aD dO.out 1).trans rfl; have hcz14_2 : w13.cell? ⟨fO, 2, none⟩ = some (.int .i64 ae) := (aD dO.out 2).trans rfl; have hcz14_3 : w13.cell? ⟨fO, 3, none⟩ = some (.int .i64 aT) := (aD dO.out 3).trans rfl; have hcz14_4 : w13.cell? ⟨fO, 4, none⟩ = some (.slice bH aM.length bC) := (aD dO.out 4).trans rfl; have hcz14_5 : w13.cell? ⟨fO, 5, none⟩ = some (.slice bE aU.length bD) := (aD dO.out 5).trans rfl; have hfz14_0 := aA dO.out 0; have hfz14_1 := aA dO.out 1; have hfz14_2 := aA dO.out 2; have hfz14_3 := aA dO.out 3; have hfz14_4 := aA dO.out 4; have hfz14_5 := aA dO.out 5) | ((with_reducible refine dG (f := 67) rfl ?_); refine gW (some 7) rfl rfl Try.func67 (by kernel_rfl) rfl #[.agg #[.int .i64 aX, .int .i64 aY, .int .i64 ae, .int .i64 aT, .slice bH aM.length bC, .slice bE aU.length bD]] rfl (by (try simp only [List.map_toArray, List.map_cons, List.map_nil]); first | done | rfl | (simp only [List.length_drop, List.length_take]; rfl)) ?_; (with_reducible refine (dm.calls k aX aY ae aT _ _ aM _ _ aU t125 t126 _ ?dD ?dC ?dJ ?dI A2.out).mono ?_); (case dD => repeat (first | exact (Kd.ak dY.out HB.out) | (with_reducible refine Kd.bS ?_ _) | (with_reducible refine Kd.bR ?_ _) | (with_reducible refine Kd.bW ?_))); (case dC => exact eX.out); (case dJ => repeat (first | exact (Kd.ak dV.out HB.out) | (with_reducible refine Kd.bS ?_ _) | (with_reducible refine Kd.bR ?_ _) | (with_reducible refine Kd.bW ?_))); (case dI => exact fA.out); rintro e w15 ⟨rfl, hb⟩; refine ⟨_, rfl, ?_⟩; have n0_ := aC.mk (av (g := fO) (o := .cells #[.int .i64 aX, .int .i64 aY, .int .i64 ae, .int .i64 aT, .slice bH aM.length bC, .slice bE aU.length bD] 43 (0, 0)) (by (with_reducible repeat (first | refine ag ?_ _ | refine af ?_ | refine aW ?_ _)); exact dO.out) hb); have n1_ := aC.mk (ah (by repeat (first | (with_reducible first | exact HB.out | apply aH | apply aG | apply aI | refine aJ ?_ GE124.out) | exact HB.out)) hb); clear dO; clear HB; have dO := n0_; have HB := n1_; clear n0_ n1_; (try clear hb); (try clear hb2); (try clear hk); (try clear hi)))
    go_ret
    exact ⟨by first | rfl | (simp [az, ay] <;> rfl) | (simp [*, az, ay] <;> rfl), by repeat (first | (with_reducible first | exact HB.out | apply aH | apply aG | apply aI | refine aJ ?_ GE124.out) | exact HB.out)⟩
end Go.Proofs.Ytkaefgmgcghhiaa.X
end

section
namespace Go.Proofs.Ytkaefgmgcghhiaa.X
open Go.RowKit Go.Proofs.YtkaefgmgcghhiaaW.PrintWords Go.Proofs.YtkaefgmgcghhiaaW.PrintLast Go.Proofs.YtkaefgmgcghhiaaW.PrintMore
attribute [local go_sem] eP eH fQ fP d9 dZ eO eG   -- for this text's walks alone
set_option linter.unusedVariables false
set_option linter.unusedSimpArgs false
def dS.f (l0 : List Int) (l1 : List Int) : Option (List Int) := (some (([] : List Int) : List Int)).bind fun y583 => (if y583.length + l0.length < 17592186044416 then ((some (y583 ++ l0 : List Int)).bind fun y586 => (if y586.length + l1.length < 17592186044416 then (some (y586 ++ l1)) else (none))) else (none))
set_option maxHeartbeats 8000000 in
set_option maxRecDepth 100000 in
theorem dS.calls (A0 : Option Addr) (c0 : Nat) (l0 : List Int) (A1 : Option Addr) (c1 : Nat) (l1 : List Int) (r : List Int) (w : World) (hr0 : Kd.C (Kd.int .i64) w A0 l0.length l0) (hc0 : l0.length ≤ c0) (hr1 : Kd.C (Kd.int .i64) w A1 l1.length l1) (hc1 : l1.length ≤ c1) (h : dS.f l0 l1 = some r) :
    Calls Try.prog 99 #[.slice A0 l0.length c0, .slice A1 l1.length c1] w fun e w' => ∃ v0_ : Value, e = .returned (v0_) ∧ Kd.R (Kd.int .i64) 3 w' w.heap.size (fun _ => True) v0_ r ∧ Below w.heap.size w w' := by
  have HR0 := aC.mk hr0
  have HC0 := aC.mk hc0
  clear hr0 hc0
  have HR1 := aC.mk hr1
  have HC1 := aC.mk hc1
  clear hr1 hc1
  have HB := aC.mk (Below.refl w.heap.size w)
  have H : ((some (([] : List Int) : List Int)).bind fun y583 => (if y583.length + l0.length < 17592186044416 then ((some (y583 ++ l0 : List Int)).bind fun y586 => (if y586.length + l1.length < 17592186044416 then (some (y586 ++ l1)) else (none))) else (none))) = some r := h
  clear h
  obtain ⟨y583, hy583⟩ : ∃ y_ : List Int, y_ = (([] : List Int)) := ⟨_, rfl⟩
  replace H : (if y583.length + l0.length < 17592186044416 then ((some (y583 ++ l0 : List Int)).bind fun y586 => (if y586.length + l1.length < 17592186044416 then (some (y586 ++ l1)) else (none))) else (none)) = some r := by first | (rw [hy583]; with_reducible exact H) | (have H2_ := (Option.bind_some _ _).symm.trans H; rw [hy583]; with_reducible exact H2_) | (have H2_ := (Option.bind_some _ _).symm.trans H; with_reducible exact H2_) | with_reducible exact H | (rw [hy583]; exact H) | exact H
  have Ny583 := aC.mk hy583
  clear hy583
  by_cases c3 : y583.length + l0.length < 17592186044416
  · rw [if_pos c3] at H
    have LMc3 := aC.mk c3
    clear c3
    obtain ⟨y586, hy586⟩ : ∃ y_ : List Int, y_ = (y583 ++ l0) := ⟨_, rfl⟩
    replace H : (if y586.length + l1.length < 17592186044416 then (some (y586 ++ l1)) else (none)) = some r := by first | (rw [hy586]; with_reducible exact H) | (have H2_ := (Option.bind_some _ _).symm.trans H; rw [hy586]; with_reducible exact H2_) | (have H2_ := (Option.bind_some _ _).symm.trans H; with_reducible exact H2_) | with_reducible exact H | (rw [hy586]; exact H) | exact H
    have Ny586 := aC.mk hy586
    clear hy586
    by_cases c4 : y586.length + l1.length < 17592186044416
    · rw [if_pos c4] at H
      have LMc4 := aC.mk c4
      clear c4
      obtain ⟨y589, hy589⟩ : ∃ y_ : List Int, y_ = (y586 ++ l1) := ⟨_, rfl⟩
      replace H : (some y589) = some r := by first | (rw [hy589]; with_reducible exact H) | (have H2_ := (Option.bind_some _ _).symm.trans H; rw [hy589]; with_reducible exact H2_) | (have H2_ := (Option.bind_some _ _).symm.trans H; with_reducible exact H2_) | with_reducible exact H | (rw [hy589]; exact H) | exact H
      have Ny589 := aC.mk hy589
      clear hy589
      obtain rfl := Option.some.inj H
      go_enter Try.func99, Try.ntmps99
      go_wp2_with (first | ((with_reducible refine bK (N := 5) rfl ?_); refine Kd.R_lit (Kd.int .i64) _ 3 ?hg (N := 5) ?hd (xs := ([] : List Int)) (inner := []) (ok := fun _ => True) (okp := fun _ => True) ?hr ?hp (fun _ hk => hk) trivial (Below.refl _ _) (Nat.le_refl _) (by simp) ?_; (case hd => rfl); (case hg => rfl); (case hr => first | (go_simp; done) | (go_simp; rfl)); (case hp => exact (Reps.none _ _)); intro v584 w5 ho6 hb hg_ hnew_; clear hg_ hnew_; (first | rw [← Ny583.out] at ho6 | (simp only [Int.reduceToNat] at ho6; rw [← Ny583.out] at ho6)); have n0_ := aC.mk (Kd.dn ho6 (aZ (by repeat (first | (with_reducible first | exact HB.out | apply aH | apply aG | apply aI) | exact HB.out)))); have n1_ := aC.mk (ah (by repeat (first | (with_reducible first | exact HB.out | apply aH | apply aG | apply aI) | exact HB.out)) hb); clear HB; have HO585 := n0_; have HB := n1_; clear n0_ n1_; clear hb ho6) | ((with_reducible refine dF (b := .append) (xs := #[.tmp 5, .tmp 6]) rfl ?_); at_builtin; refine Kd.R_append_rows (Kd.int .i64) (w0 := w) w.heap.size rfl (.tmp 5) (.tmp 6) 22 3 (.int .i64 0) 8 rfl Try.underlying22 info3 rfl (by decide) (by omega) v584 y583 l0 _ _ _ (fun _ => True) (fun _ => False) rfl rfl ?aO ?aR (fun _ _ h => h) (fun _ h => h.elim) ?aF ?aB ?aS ?aL ?_; (case aR => repeat (first | exact (Kd.ak HR0.out HB.out) | (with_reducible refine Kd.bS ?_ _) | (with_reducible refine Kd.bR ?_ _) | (with_reducible refine Kd.bW ?_))); (case aB => exact (by repeat (first | (with_reducible first | exact HB.out | apply aH | apply aG | apply aI) | exact HB.out))); (case aF => exact (fun _ _ => trivial)); (case aO => exact (by (with_reducible repeat (first | apply Kd.bB | apply Kd.ax | apply Kd.bJ)); exact HO585.out)); (case aS => exact (aZ (by repeat (first | (with_reducible first | exact HB.out | apply aH | apply aG | apply aI) | exact HB.out)))); (case aL => have := LMc3.out; omega); intro v587 w7 ho hb hg hat; rw [← Ny586.out] at ho; have n0_ := aC.mk (hb); have n1_ := aC.mk (ho); clear HB; clear HO585; have HB := n0_; have HO588 := n1_; clear n0_ n1_; clear ho hb hg hat) | ((with_reducible refine dF (b := .append) (xs := #[.tmp 7, .tmp 8]) rfl ?_); at_builtin; refine Kd.R_append_rows (Kd.int .i64) (w0 := w) w.heap.size rfl (.tmp 7) (.tmp 8) 22 3 (.int .i64 0) 8 rfl Try.underlying22 info3 rfl (by decide) (by omega) v587 y586 l1 _ _ _ (fun _ => True) (fun _ => False) rfl rfl ?aO ?aR (fun _ _ h => h) (fun _ h => h.elim) ?aF ?aB ?aS ?aL ?_; (case aR => repeat (first | exact (Kd.ak HR1.out HB.out) | (with_reducible refine Kd.bS ?_ _) | (with_reducible refine Kd.bR ?_ _) | (with_reducible refine Kd.bW ?_))); (case aB => exact (by repeat (first | (with_reducible first | exact HB.out | apply aH | apply aG | apply aI) | exact HB.out))); (case aF => exact (fun _ _ => trivial)); (case aO => exact (by (with_reducible repeat (first | apply Kd.bB | apply Kd.ax | apply Kd.bJ)); exact HO588.out)); (case aS => exact (aZ (by repeat (first | (with_reducible first | exact HB.out | apply aH | apply aG | apply aI) | exact HB.out)))); (case aL => have := LMc4.out; omega); intro v590 w8 ho hb hg hat; rw [← Ny589.out] at ho; have n0_ := aC.mk (hb); have n1_ := aC.mk (ho); clear HB; clear HO588; have HB := n0_; have HO591 := n1_; clear n0_ n1_; clear ho hb hg hat))
      go_ret
      exact ⟨_, by first | rfl | (simp [az, ay] <;> rfl) | (simp [*, az, ay] <;> rfl), by (with_reducible repeat (first | apply Kd.bB | apply Kd.ax | apply Kd.bJ)); exact HO591.out, by repeat (first | (with_reducible first | exact HB.out | apply aH | apply aG | apply aI) | exact HB.out)⟩
    · rw [if_neg c4] at H
      exact absurd H (by simp)
  · rw [if_neg c3] at H
    exact absurd H (by simp)
end Go.Proofs.Ytkaefgmgcghhiaa.X
end

section
namespace Go.Proofs.Ytkaefgmgcghhiaa.X
open Go.RowKit Go.Proofs.YtkaefgmgcghhiaaW.PrintWords Go.Proofs.YtkaefgmgcghhiaaW.PrintLast Go.Proofs.YtkaefgmgcghhiaaW.PrintMore
attribute [local go_sem] eP eH fQ fP d9 dZ eO eG   -- for this text's walks alone
set_option linter.unusedVariables false
set_option linter.unusedSimpArgs false
mutual
def au.l0 : Nat → List Bool → List Int → List (List Int) → Int → Int → Int → Int → Int → List Int → List Int → Option (List Int × (List (List Int)) × Int)
  | 0, _, _, _, _, _, _, _, _, _, _ => none
  | k + 1, x7, x8, x9, x10, x593000, iq, x593002, x593003, jT, x593005 => if x10 < (x8.length : Int) then (au.l1 k x7 x8 x9 (x8.length : Int) x10 x593000 iq x593002 x593003 jT x593005) else (some (x8, x9, 0))
def au.l1 : Nat → List Bool → List Int → List (List Int) → Int → Int → Int → Int → Int → Int → List Int → List Int → Option (List Int × (List (List Int)) × Int)
  | 0, _, _, _, _, _, _, _, _, _, _, _ => none
  | k + 1, x7, x8, x9, x11, x12, x593000, iq, x593002, x593003, jT, x593005 => if x12 < x11 then (au.l2 k x7 x8 x9 x11 x12 0 x593000 iq x593002 x593003 jT x593005) else (au.l0 k x7 x8 x9 x11 x593000 iq x593002 x593003 jT x593005)
def au.l2 : Nat → List Bool → List Int → List (List Int) → Int → Int → Int → Int → Int → Int → Int → List Int → List Int → Option (List Int × (List (List Int)) × Int)
  | 0, _, _, _, _, _, _, _, _, _, _, _, _ => none
  | k + 1, x7, x8, x9, x11, x12, x13, x593000, iq, x593002, x593003, jT, x593005 => if x13 < iq then (if 0 ≤ x12 then (if x12 < (x8.length : Int) then (if 0 ≤ (wrap64 ((wrap64 ((rd x8 x12) * iq)) + x13)) then (if (wrap64 ((wrap64 ((rd x8 x12) * iq)) + x13)) < (jT.length : Int) then (if 0 ≤ (rd jT (wrap64 ((wrap64 ((rd x8 x12) * iq)) + x13))) then (if (rd jT (wrap64 ((wrap64 ((rd x8 x12) * iq)) + x13))) < (x7.length : Int) then (if (rdOf false x7 (rd jT (wrap64 ((wrap64 ((rd x8 x12) * iq)) + x13))) = true) then (au.l2 k x7 x8 x9 x11 x12 (wrap64 (x13 + 1)) x593000 iq x593002 x593003 jT x593005) else (if x8.length < 17592186044416 then (if x12 < (x9.length : Int) then ((dS.f (jX x9 x12) (([x13] : List Int))).bind fun t619 => (if x9.length < 5864062014805 then (au.l2 k (x7.set ((rd jT (wrap64 ((wrap64 ((rd x8 x12) * iq)) + x13))) : Int).toNat true) (x8 ++ [rd jT (wrap64 ((wrap64 ((rd x8 x12) * iq)) + x13))]) (x9 ++ [t619]) x11 x12 (wrap64 (x13 + 1)) x593000 iq x593002 x593003 jT x593005) else (none))) else (none)) else (none))) else (none)) else (none)) else (none)) else (none)) else (none)) else (none)) else (au.l1 k x7 x8 x9 x11 (wrap64 (x12 + 1)) x593000 iq x593002 x593003 jT x593005)
end
def au.f (k : Nat) (aX : Int) (aY : Int) (ae : Int) (aT : Int) (aM : List Int) (aU : List Int) : Option (List Int × (List (List Int)) × Int) := (aQ.f k aX aY ae aT aM aU).bind fun bt593 => (if bt593.2 = 0 then (if 0 ≤ aT then (if (aT : Int).toNat ≤ 281474976710656 then ((some (List.replicate (aT : Int).toNat false : List Bool)).bind fun iw => (if 0 < (iw.length : Int) then (au.l0 k (iw.set (0 : Int).toNat true) (([0] : List Int)) (([(([] : List Int))] : List (List Int))) 0 aX aY ae aT aM aU) else (none))) else (none)) else (none)) else (some (([] : List Int), ([] : List (List Int)), bt593.2)))
set_option maxHeartbeats 8000000 in
set_option maxRecDepth 100000 in
theorem au.calls (k : Nat) (aX : Int) (aY : Int) (ae : Int) (aT : Int) (bH : Option Addr) (bC : Nat) (aM : List Int) (bE : Option Addr) (bD : Nat) (aU : List Int) (r1 : List Int) (r2 : List (List Int)) (r3 : Int) (w : World) (eQ : Kd.C (Kd.int .i64) w bH aM.length aM) (eu : aM.length ≤ bC) (fD : Kd.C (Kd.int .i64) w bE aU.length aU) (fG : aU.length ≤ bD) (h : au.f k aX aY ae aT aM aU = some (r1, r2, r3)) :
    Calls Try.prog 76 #[.agg #[.int .i64 aX, .int .i64 aY, .int .i64 ae, .int .i64 aT, .slice bH aM.length bC, .slice bE aU.length bD]] w fun e w' => ∃ v0_ v1_ : Value, e = .returned (.tuple #[v0_, v1_, .int .i64 r3]) ∧ Kd.R (Kd.int .i64) 3 w' w.heap.size (fun k_ => (w.heap.size ≤ k_)) v0_ r1 ∧ Kd.N (Kd.slice 3 (Kd.int .i64)) 22 w' w.heap.size (fun k_ => (w.heap.size ≤ k_) ∧ some k_ ≠ (v0_ : Value).ownBlock) v1_ r2 ∧ Below w.heap.size w w' := by
  have hu43 := Try.underlying43
  have dY := aC.mk eQ
  have eX := aC.mk eu
  clear eQ eu
  have dV := aC.mk fD
  have fA := aC.mk fG
  clear fD fG
  have HB := aC.mk (Below.refl w.heap.size w)
  have H : ((aQ.f k aX aY ae aT aM aU).bind fun bt593 => (if bt593.2 = 0 then (if 0 ≤ aT then (if (aT : Int).toNat ≤ 281474976710656 then ((some (List.replicate (aT : Int).toNat false : List Bool)).bind fun iw => (if 0 < (iw.length : Int) then (au.l0 k (iw.set (0 : Int).toNat true) (([0] : List Int)) (([(([] : List Int))] : List (List Int))) 0 aX aY ae aT aM aU) else (none))) else (none)) else (none)) else (some (([] : List Int), ([] : List (List Int)), bt593.2)))) = some (r1, r2, r3) := h
  clear h
  replace H := Option.bind_eq_some_iff.mp H
  obtain ⟨⟨t593, t594⟩, A20, H⟩ := H
  replace H : (if t594 = 0 then (if 0 ≤ aT then (if (aT : Int).toNat ≤ 281474976710656 then ((some (List.replicate (aT : Int).toNat false : List Bool)).bind fun iw => (if 0 < (iw.length : Int) then (au.l0 k (iw.set (0 : Int).toNat true) (([0] : List Int)) (([(([] : List Int))] : List (List Int))) 0 aX aY ae aT aM aU) else (none))) else (none)) else (none)) else (some (([] : List Int), ([] : List (List Int)), t594))) = some (r1, r2, r3) := H
  have A2 := aC.mk A20
  clear A20
  by_cases c3 : t594 = 0
  · rw [if_pos c3] at H
    have lL : (t594 == 0) = true := beq_iff_eq.mpr c3
    have c3b1 : (t594 != 0) = false := bne_eq_false_iff_eq.mpr c3
    clear c3
    by_cases c4 : 0 ≤ aT
    · rw [if_pos c4] at H
      have iB := eq_true c4
      have ja : decide (0 ≤ aT) = true := decide_eq_true c4
      clear c4
      by_cases c5 : (aT : Int).toNat ≤ 281474976710656
      · rw [if_pos c5] at H
        have c5b0 := eq_true c5
        have c5b1 : decide ((aT : Int).toNat ≤ 281474976710656) = true := decide_eq_true c5
        clear c5
        obtain ⟨iw, hy595⟩ : ∃ y_ : List Bool, y_ = (List.replicate (aT : Int).toNat false) := ⟨_, rfl⟩
        replace H : (if 0 < (iw.length : Int) then (au.l0 k (iw.set (0 : Int).toNat true) (([0] : List Int)) (([(([] : List Int))] : List (List Int))) 0 aX aY ae aT aM aU) else (none)) = some (r1, r2, r3) := by first | (rw [hy595]; with_reducible exact H) | (have H2_ := (Option.bind_some _ _).symm.trans H; rw [hy595]; with_reducible exact H2_) | (have H2_ := (Option.bind_some _ _).symm.trans H; with_reducible exact H2_) | with_reducible exact H | (rw [hy595]; exact H) | exact H
        have Ny595 := aC.mk hy595
        clear hy595
        by_cases c6 : 0 < (iw.length : Int)
        · rw [if_pos c6] at H
          have c6b0 : decide (0 < (iw.length : Int)) = true := decide_eq_true c6
          have c6b1 : decide (0 < iw.length) = true := decide_eq_true (by omega)
          clear c6
          obtain ⟨y598, hy598⟩ : ∃ y_ : List Bool, y_ = (iw.set (0 : Int).toNat true) := ⟨_, rfl⟩
          replace H : (au.l0 k y598 (([0] : List Int)) (([(([] : List Int))] : List (List Int))) 0 aX aY ae aT aM aU) = some (r1, r2, r3) := by first | (rw [hy598]; with_reducible exact H) | (have H2_ := (Option.bind_some _ _).symm.trans H; rw [hy598]; with_reducible exact H2_) | (have H2_ := (Option.bind_some _ _).symm.trans H; with_reducible exact H2_) | with_reducible exact H | (rw [hy598]; exact H) | exact H
          have Ny598 := aC.mk hy598
          clear hy598
          obtain ⟨y599, hy599⟩ : ∃ y_ : List Int, y_ = (([0] : List Int)) := ⟨_, rfl⟩
          replace H : (au.l0 k y598 y599 (([(([] : List Int))] : List (List Int))) 0 aX aY ae aT aM aU) = some (r1, r2, r3) := by first | (rw [hy599]; with_reducible exact H) | (have H2_ := (Option.bind_some _ _).symm.trans H; rw [hy599]; with_reducible exact H2_) | (have H2_ := (Option.bind_some _ _).symm.trans H; with_reducible exact H2_) | with_reducible exact H | (rw [hy599]; exact H) | exact H
          have Ny599 := aC.mk hy599
          clear hy599
          obtain ⟨y602, hy602⟩ : ∃ y_ : List Int, y_ = (([] : List Int)) := ⟨_, rfl⟩
          replace H : (au.l0 k y598 y599 (([y602] : List (List Int))) 0 aX aY ae aT aM aU) = some (r1, r2, r3) := by first | (rw [hy602]; with_reducible exact H) | (have H2_ := (Option.bind_some _ _).symm.trans H; rw [hy602]; with_reducible exact H2_) | (have H2_ := (Option.bind_some _ _).symm.trans H; with_reducible exact H2_) | with_reducible exact H | (rw [hy602]; exact H) | exact H
          have Ny602 := aC.mk hy602
          clear hy602
          obtain ⟨y605, hy605⟩ : ∃ y_ : List (List Int), y_ = (([y602] : List (List Int))) := ⟨_, rfl⟩
          replace H : (au.l0 k y598 y599 y605 0 aX aY ae aT aM aU) = some (r1, r2, r3) := by first | (rw [hy605]; with_reducible exact H) | (have H2_ := (Option.bind_some _ _).symm.trans H; rw [hy605]; with_reducible exact H2_) | (have H2_ := (Option.bind_some _ _).symm.trans H; with_reducible exact H2_) | with_reducible exact H | (rw [hy605]; exact H) | exact H
          have Ny605 := aC.mk hy605
          clear hy605
          have H' := aC.mk H
          clear H
          go_enter Try.func76, Try.ntmps76
          go_wp2_with (first | ((with_reducible refine bK (N := 1) rfl ?_); refine dA ?hg (N := 1) ?hd (cs := #[.int .i64 aX, .int .i64 aY, .int .i64 ae, .int .i64 aT, .slice bH aM.length bC, .slice bE aU.length bD]) (t := 43) ?hr ?_; (case hd => rfl); (case hg => rfl); (case hr => first | (go_simp; done) | (go_simp; rfl)); intro bM hg w8 hbox hb; have n0_ := aC.mk (ah (by repeat (first | (with_reducible first | exact HB.out | apply aH | apply aG | apply aI) | exact HB.out)) hb); have n1_ := aC.mk (hbox); have n2_ := aC.mk ((by rw [hg]; exact (aZ (by repeat (first | (with_reducible first | exact HB.out | apply aH | apply aG | apply aI) | exact HB.out))) : w.heap.size ≤ bM)); have n3_ := aC.mk ((by rw [hg]; exact (aZ (by repeat (first | (with_reducible first | exact HB.out | apply aH | apply aG | apply aI) | exact HB.out))) : w.heap.size ≤ bM)); clear HB; have HB := n0_; have ai := n1_; have GW592 := n2_; have cO := n3_; clear n0_ n1_ n2_ n3_; clear hb hbox hg; have kJ : w8.cell? ⟨bM, 0, none⟩ = some (.int .i64 aX) := (aD ai.out 0).trans rfl; have kI : w8.cell? ⟨bM, 1, none⟩ = some (.int .i64 aY) := (aD ai.out 1).trans rfl; have kH : w8.cell? ⟨bM, 2, none⟩ = some (.int .i64 ae) := (aD ai.out 2).trans rfl; have kG : w8.cell? ⟨bM, 3, none⟩ = some (.int .i64 aT) := (aD ai.out 3).trans rfl; have kF : w8.cell? ⟨bM, 4, none⟩ = some (.slice bH aM.length bC) := (aD ai.out 4).trans rfl; have kE : w8.cell? ⟨bM, 5, none⟩ = some (.slice bE aU.length bD) := (aD ai.out 5).trans rfl; have kD := aA ai.out 0; have kC := aA ai.out 1; have jy := aA ai.out 2; have jw := aA ai.out 3; have jv := aA ai.out 4; have jr := aA ai.out 5) | (go_at_call 66; (with_reducible refine (aQ.calls k aX aY ae aT _ _ aM _ _ aU t593 t594 _ ?dD ?dC ?dJ ?dI A2.out).mono ?_); (case dD => repeat (first | exact (Kd.ak dY.out HB.out) | (with_reducible refine Kd.bS ?_ _) | (with_reducible refine Kd.bR ?_ _) | (with_reducible refine Kd.bW ?_))); (case dC => exact eX.out); (case dJ => repeat (first | exact (Kd.ak dV.out HB.out) | (with_reducible refine Kd.bS ?_ _) | (with_reducible refine Kd.bR ?_ _) | (with_reducible refine Kd.bW ?_))); (case dI => exact fA.out); rintro e w10 ⟨rfl, hb⟩; have n0_ := aC.mk (av (g := bM) (o := .cells #[.int .i64 aX, .int .i64 aY, .int .i64 ae, .int .i64 aT, .slice bH aM.length bC, .slice bE aU.length bD] 43 (0, 0)) (by (with_reducible repeat (first | refine ag ?_ _ | refine af ?_ | refine aW ?_ _)); exact ai.out) hb); have n1_ := aC.mk (ah (by repeat (first | (with_reducible first | exact HB.out | apply aH | apply aG | apply aI | refine aJ ?_ cO.out) | exact HB.out)) hb); clear ai; clear HB; have ai := n0_; have HB := n1_; clear n0_ n1_; (try clear hb); (try clear hb2); (try clear hk); (try clear hi); have gL : w10.cell? ⟨bM, 0, none⟩ = some (.int .i64 aX) := (aD ai.out 0).trans rfl; have gK : w10.cell? ⟨bM, 1, none⟩ = some (.int .i64 aY) := (aD ai.out 1).trans rfl; have gJ : w10.cell? ⟨bM, 2, none⟩ = some (.int .i64 ae) := (aD ai.out 2).trans rfl; have gI : w10.cell? ⟨bM, 3, none⟩ = some (.int .i64 aT) := (aD ai.out 3).trans rfl; have gH : w10.cell? ⟨bM, 4, none⟩ = some (.slice bH aM.length bC) := (aD ai.out 4).trans rfl; have gG : w10.cell? ⟨bM, 5, none⟩ = some (.slice bE aU.length bD) := (aD ai.out 5).trans rfl; have gF := aA ai.out 0; have gD := aA ai.out 1; have gB := aA ai.out 2; have fu := aA ai.out 3; have fq := aA ai.out 4; have fo := aA ai.out 5) | ((with_reducible refine bK (N := 25) rfl ?_); refine Kd.R_make Kd.bool _ 4 rfl (N := 25) rfl 95 _ _ rfl aT rfl rfl Try.underlying95 (.bool false) 1 info4 rfl (by decide) (by omega) false (ok := fun _ => True) (okp := fun _ => True) rfl (fun _ hk => hk) trivial (of_decide_eq_true (by first | (with_reducible assumption) | assumption)) (Nat.le_trans (Nat.mul_le_mul_right _ (of_decide_eq_true (by first | (with_reducible assumption) | assumption) : aT.toNat ≤ 281474976710656)) (by omega)) (Below.refl _ _) (Nat.le_refl _) ?_; intro v596 w12 ho13 hb hg_ hnew_; clear hg_ hnew_; (first | rw [← Ny595.out] at ho13 | (simp only [Int.reduceToNat] at ho13; rw [← Ny595.out] at ho13)); have n0_ := aC.mk (Kd.dn (Kd.jQ (M := fun k_ => (w.heap.size ≤ k_)) ho13 (aZ (by repeat (first | (with_reducible first | exact HB.out | apply aH | apply aG | apply aI | refine aJ ?_ cO.out) | exact HB.out))) (fun k_ h_ => h_)) (aZ (by repeat (first | (with_reducible first | exact HB.out | apply aH | apply aG | apply aI | refine aJ ?_ cO.out) | exact HB.out)))); have n1_ := aC.mk (av (g := bM) (o := .cells #[.int .i64 aX, .int .i64 aY, .int .i64 ae, .int .i64 aT, .slice bH aM.length bC, .slice bE aU.length bD] 43 (0, 0)) (by (with_reducible repeat (first | refine ag ?_ _ | refine af ?_ | refine aW ?_ _)); exact ai.out) hb); have n2_ := aC.mk (ah (by repeat (first | (with_reducible first | exact HB.out | apply aH | apply aG | apply aI | refine aJ ?_ cO.out) | exact HB.out)) hb); clear ai; clear HB; have bz := n0_; have ai := n1_; have HB := n2_; clear n0_ n1_ n2_; clear hb ho13; have p7 : 0 ≤ (0 : Int) := (by omega); have q7 : (0 : Int) < ((iw.length : Int) : Int) := of_decide_eq_true (by first | (with_reducible assumption) | assumption); have qi7 : (0 < iw.length) = True := eq_true (by omega); obtain ⟨go7, co7, eo7, gb7, gl7, cl7, HG7⟩ := Kd.R_form bz.out (by omega); (first | cases eo7 | (injection eo7 with ea_ en_ ec_; (first | subst ea_ | (injection ea_ with ea_; subst ea_)); subst ec_; clear en_)); have GB7 := aC.mk gb7; have GG7 := aC.mk HG7; clear gb7 gl7 HG7; obtain ⟨hx7_0, hf7_0⟩ := Kd.fT false bz.out (0 : Int) p7 q7; (try rw [show ((0 : Int)).toNat = 0 from rfl] at hx7_0); (try simp only [Nat.reduceMul, Nat.zero_mul, Nat.zero_add, Nat.reduceAdd] at hx7_0); (try rw [show ((0 : Int)).toNat = 0 from rfl] at hf7_0); (try simp only [Nat.reduceMul, Nat.zero_mul, Nat.zero_add, Nat.reduceAdd] at hf7_0); replace p7 := eq_true p7; replace q7 := eq_true q7; have n_ := aC.mk (Kd.dB (ok' := (fun k_ => (w.heap.size ≤ k_))) bz.out (fun k_ hk => hk.1)); clear bz; have bz := n_; clear n_; obtain ⟨lQ, lN⟩ := Kd.fT false bz.out (0 : Int) (by omega) (of_decide_eq_true (by first | (with_reducible assumption) | assumption)); (try simp only [Int.reduceToNat, Int.toNat_zero, Int.toNat_ofNat, Nat.reduceMul, Nat.zero_mul, Nat.zero_add] at lQ lN); (try rw [show ((0 : Int)).toNat = 0 from rfl] at lQ); (try rw [show ((0 : Int)).toNat = 0 from rfl] at lN); have HP14 := Kd.lM bz.out (0 : Int) true) | ((with_reducible refine dW (t := 4) (p := 27) rfl ?_); (try (rw [lK w12]; generalize hq_ : World.drewN w12 _ = w12; have n0_ := aC.mk (Kd.R_at hq_ bz.out); have n1_ := aC.mk (blk_at hq_ ai.out); have n2_ := aC.mk (below_at hq_ HB.out); clear hq_ bz ai HB; have bz := n0_; have ai := n1_; have HB := n2_; clear n0_ n1_ n2_; (try (have n_ := aC.mk (Kd.dB (ok' := (fun k_ => (w.heap.size ≤ k_))) bz.out (fun k_ hk => hk.1)); clear bz; have bz := n_; clear n_)); (try (obtain ⟨lQ, lN⟩ := Kd.fT false bz.out (0 : Int) (by omega) (of_decide_eq_true (by first | (with_reducible assumption) | assumption)))); (try (try simp only [Int.reduceToNat, Int.toNat_zero, Int.toNat_ofNat, Nat.reduceMul, Nat.zero_mul, Nat.zero_add] at lQ lN)); (try (try rw [show ((0 : Int)).toNat = 0 from rfl] at lQ)); (try (try rw [show ((0 : Int)).toNat = 0 from rfl] at lN)); (try (have HP14 := Kd.lM bz.out (0 : Int) true)); (try (obtain ⟨hzc_, hzf_⟩ := Kd.fT true bz.out (0 : Int) (by first | exact of_eq_true (by assumption) | exact of_decide_eq_true (by assumption)) (by first | exact of_eq_true (by assumption) | exact of_decide_eq_true (by assumption)))))); refine gz (t := 4) (p := 27) (v := ?vo_w15) (w1 := (w12.setCell ⟨go7, (0 : Int).toNat, none⟩ (.bool true))) ?hg ?ho ?hn ?hr ?_; (case ho => rfl); (case hg => rfl); (case hn => rfl); (case hr => first | (go_simp; done) | (go_simp; rfl)); intro w15 hw; have hg : w12.grownBy w15 (some go7) := (by rw [hw]; exact HP14.2); have hp_ : Kd.R Kd.bool 4 w15 w.heap.size (fun k_ => (w.heap.size ≤ k_)) (.slice (some ⟨go7, 0, none⟩) iw.length co7) y598 := (by rw [hw, Ny598.out]; exact HP14.1); clear HP14; have n0_ := aC.mk (cZ (g := bM) (o := .cells #[.int .i64 aX, .int .i64 aY, .int .i64 ae, .int .i64 aT, .slice bH aM.length bC, .slice bE aU.length bD] 43 (0, 0)) (by (with_reducible repeat (first | refine ag ?_ _ | refine af ?_ | refine aW ?_ _)); exact ai.out) hg (Kd.jL bz.out ai.out (by decide))); have n1_ := aC.mk (hp_); have n2_ := aC.mk ((by rw [hw]; exact aJ (HB.out) GB7.out : Below w.heap.size w w15)); clear ai; clear bz; clear HB; have ai := n0_; have bz := n1_; have HB := n2_; clear n0_ n1_ n2_; clear hg hw hp_) | ((with_reducible refine bK (N := 28) rfl ?_); refine Kd.R_lit (Kd.int .i64) _ 3 ?hg (N := 28) ?hd (xs := ([0] : List Int)) (inner := [.int .i64 0]) (ok := fun _ => True) (okp := fun _ => True) ?hr ?hp (fun _ hk => hk) trivial (Below.refl _ _) (Nat.le_refl _) (by simp) ?_; (case hd => rfl); (case hg => rfl); (case hr => first | (go_simp; done) | (go_simp; rfl)); (case hp => exact (Reps.one (show Kd.M (Kd.int .i64) _ _ _ 0 [.int .i64 0] from rfl) (Reps.none _ _))); intro v600 w16 ho17 hb hg_ hnew_; clear hg_ hnew_; (first | rw [← Ny599.out] at ho17 | (simp only [Int.reduceToNat] at ho17; rw [← Ny599.out] at ho17)); have n0_ := aC.mk (Kd.dz (by (with_reducible repeat (first | apply Kd.bB | apply Kd.ax | apply Kd.bJ)); exact bz.out) hb); have n1_ := aC.mk (Kd.dn (Kd.jQ (M := fun k_ => (w.heap.size ≤ k_)) ho17 (aZ (by repeat (first | (with_reducible first | exact HB.out | apply aH | apply aG | apply aI | refine aJ ?_ cO.out) | exact HB.out))) (fun k_ h_ => h_)) (aZ (by repeat (first | (with_reducible first | exact HB.out | apply aH | apply aG | apply aI | refine aJ ?_ cO.out) | exact HB.out)))); have n2_ := aC.mk (av (g := bM) (o := .cells #[.int .i64 aX, .int .i64 aY, .int .i64 ae, .int .i64 aT, .slice bH aM.length bC, .slice bE aU.length bD] 43 (0, 0)) (by (with_reducible repeat (first | refine ag ?_ _ | refine af ?_ | refine aW ?_ _)); exact ai.out) hb); have n3_ := aC.mk (ah (by repeat (first | (with_reducible first | exact HB.out | apply aH | apply aG | apply aI | refine aJ ?_ cO.out) | exact HB.out)) hb); clear bz; clear ai; clear HB; have bz := n0_; have jE := n1_; have ai := n2_; have HB := n3_; clear n0_ n1_ n2_ n3_; clear hb ho17) | ((with_reducible refine bK (N := 29) rfl ?_); refine Kd.R_lit (Kd.int .i64) _ 3 ?hg (N := 29) ?hd (xs := ([] : List Int)) (inner := []) (ok := fun _ => True) (okp := fun _ => True) ?hr ?hp (fun _ hk => hk) trivial (Below.refl _ _) (Nat.le_refl _) (by simp) ?_; (case hd => rfl); (case hg => rfl); (case hr => first | (go_simp; done) | (go_simp; rfl)); (case hp => exact (Reps.none _ _)); intro v603 w18 ho19 hb hg_ hnew_; clear hg_ hnew_; (first | rw [← Ny602.out] at ho19 | (simp only [Int.reduceToNat] at ho19; rw [← Ny602.out] at ho19)); have n0_ := aC.mk (Kd.dz (by (with_reducible repeat (first | apply Kd.bB | apply Kd.ax | apply Kd.bJ)); exact bz.out) hb); have n1_ := aC.mk (Kd.ic (by (with_reducible repeat (first | apply Kd.bB | apply Kd.ax | apply Kd.bJ)); exact jE.out) (Kd.gX ho19) hb); have n2_ := aC.mk (Kd.dn (Kd.l8 (Kd.jQ (M := fun k_ => (w.heap.size ≤ k_)) ho19 (aZ (by repeat (first | (with_reducible first | exact HB.out | apply aH | apply aG | apply aI | refine aJ ?_ cO.out) | exact HB.out))) (fun k_ h_ => h_)) (Kd.jD (by (with_reducible repeat (first | apply Kd.bB | apply Kd.ax | apply Kd.bJ)); exact jE.out))) (aZ (by repeat (first | (with_reducible first | exact HB.out | apply aH | apply aG | apply aI | refine aJ ?_ cO.out) | exact HB.out)))); have n3_ := aC.mk (av (g := bM) (o := .cells #[.int .i64 aX, .int .i64 aY, .int .i64 ae, .int .i64 aT, .slice bH aM.length bC, .slice bE aU.length bD] 43 (0, 0)) (by (with_reducible repeat (first | refine ag ?_ _ | refine af ?_ | refine aW ?_ _)); exact ai.out) hb); have n4_ := aC.mk (ah (by repeat (first | (with_reducible first | exact HB.out | apply aH | apply aG | apply aI | refine aJ ?_ cO.out) | exact HB.out)) hb); clear bz; clear jE; clear ai; clear HB; have bz := n0_; have jE := n1_; have HO604 := n2_; have ai := n3_; have HB := n4_; clear n0_ n1_ n2_ n3_ n4_; clear hb ho19; obtain ⟨Ao20, co20, eo20⟩ := Kd.bu HO604.out; subst eo20) | ((with_reducible refine bK (N := 30) rfl ?_); refine Kd.N_lit (Kd.slice 3 (Kd.int .i64)) _ 22 ?hg (N' := 30) ?hd (xs := ([y602] : List (List Int))) (inner := [.slice Ao20 y602.length co20]) (ok := (fun k_ => (w.heap.size ≤ k_) ∧ some k_ ≠ (.slice (some ⟨go7, 0, none⟩) iw.length co7 : Value).ownBlock ∧ some k_ ≠ (v600 : Value).ownBlock ∧ k_ ≠ bM)) (okp := (fun k_ => (w.heap.size ≤ k_) ∧ some k_ ≠ (.slice (some ⟨go7, 0, none⟩) iw.length co7 : Value).ownBlock ∧ some k_ ≠ (v600 : Value).ownBlock ∧ k_ ≠ bM)) ?hr ?hp (fun _ hk => hk) ((show ∀ k_, w18.heap.size ≤ k_ → (fun k_ => (w.heap.size ≤ k_) ∧ some k_ ≠ (.slice (some ⟨go7, 0, none⟩) iw.length co7 : Value).ownBlock ∧ some k_ ≠ (v600 : Value).ownBlock ∧ k_ ≠ bM) k_ from fun k_ hk => ⟨(Nat.le_trans (aZ (by repeat (first | (with_reducible first | exact HB.out | apply aH | apply aG | apply aI | refine aJ ?_ cO.out) | exact HB.out))) hk), Kd.fresh' (Kd.jD (by (with_reducible repeat (first | apply Kd.bB | apply Kd.ax | apply Kd.bJ)); exact bz.out)) k_ hk, Kd.fresh' (Kd.jD (by (with_reducible repeat (first | apply Kd.bB | apply Kd.ax | apply Kd.bJ)); exact jE.out)) k_ hk, Kd.freshB (g := bM) (o := .cells #[.int .i64 aX, .int .i64 aY, .int .i64 ae, .int .i64 aT, .slice bH aM.length bC, .slice bE aU.length bD] 43 (0, 0)) (by (with_reducible repeat (first | refine ag ?_ _ | refine af ?_ | refine aW ?_ _)); exact ai.out) k_ hk⟩) _ (Nat.le_refl _)) (Below.refl _ _) (Nat.le_refl _) (by simp) ?_; (case hd => rfl); (case hg => rfl); (case hr => first | (go_simp; done) | (go_simp; rfl)); (case hp => exact (Reps.one (show Kd.FK (Kd.slice 3 (Kd.int .i64)) _ _ y602 [.slice Ao20 y602.length co20] from (Kd.lU (Kd.bX (Kd.dB (ok' := (fun k_ => (w.heap.size ≤ k_) ∧ some k_ ≠ (.slice (some ⟨go7, 0, none⟩) iw.length co7 : Value).ownBlock ∧ some k_ ≠ (v600 : Value).ownBlock ∧ k_ ≠ bM)) (Kd.kg (Kd.gU (HO604.out) (Kd.gN bz.out) (by decide)) ai.out (by decide)) (fun k_ hk => ⟨hk.1.1.1.1, ⟨hk.1.2, ⟨hk.1.1.2, hk.2⟩⟩⟩))).2.1 (Kd.R_F (Kd.dB (ok' := (fun k_ => (w.heap.size ≤ k_) ∧ some k_ ≠ (.slice (some ⟨go7, 0, none⟩) iw.length co7 : Value).ownBlock ∧ some k_ ≠ (v600 : Value).ownBlock ∧ k_ ≠ bM)) (Kd.kg (Kd.gU (HO604.out) (Kd.gN bz.out) (by decide)) ai.out (by decide)) (fun k_ hk => ⟨hk.1.1.1.1, ⟨hk.1.2, ⟨hk.1.1.2, hk.2⟩⟩⟩))))) (Reps.none _ _))); intro v606 w21 ho22 hb hg_ hnew_; clear hg_ hnew_; (first | rw [← Ny605.out] at ho22 | (simp only [Int.reduceToNat] at ho22; rw [← Ny605.out] at ho22)); have n0_ := aC.mk (Kd.dz (by (with_reducible repeat (first | apply Kd.bB | apply Kd.ax | apply Kd.bJ)); exact bz.out) hb); have n1_ := aC.mk (Kd.dz (by (with_reducible repeat (first | apply Kd.bB | apply Kd.ax | apply Kd.bJ)); exact jE.out) hb); have n2_ := aC.mk (Kd.N_lower ho22 (aZ (by repeat (first | (with_reducible first | exact HB.out | apply aH | apply aG | apply aI | refine aJ ?_ cO.out) | exact HB.out)))); have n3_ := aC.mk (av (g := bM) (o := .cells #[.int .i64 aX, .int .i64 aY, .int .i64 ae, .int .i64 aT, .slice bH aM.length bC, .slice bE aU.length bD] 43 (0, 0)) (by (with_reducible repeat (first | refine ag ?_ _ | refine af ?_ | refine aW ?_ _)); exact ai.out) hb); have n4_ := aC.mk (ah (by repeat (first | (with_reducible first | exact HB.out | apply aH | apply aG | apply aI | refine aJ ?_ cO.out) | exact HB.out)) hb); clear bz; clear jE; clear ai; clear HB; clear HO604; have bz := n0_; have jE := n1_; have HO607 := n2_; have ai := n3_; have HB := n4_; clear n0_ n1_ n2_ n3_ n4_; clear hb ho22))
          repeat (go_quiet (first | ((with_reducible refine bK (N := 1) rfl ?_); refine dA ?hg (N := 1) ?hd (cs := #[.int .i64 aX, .int .i64 aY, .int .i64 ae, .int .i64 aT, .slice bH aM.length bC, .slice bE aU.length bD]) (t := 43) ?hr ?_; (case hd => rfl); (case hg => rfl); (case hr => first | (go_simp; done) | (go_simp; rfl)); intro bM hg w8 hbox hb; have n0_ := aC.mk (ah (by repeat (first | (with_reducible first | exact HB.out | apply aH | apply aG | apply aI) | exact HB.out)) hb); have n1_ := aC.mk (hbox); have n2_ := aC.mk ((by rw [hg]; exact (aZ (by repeat (first | (with_reducible first | exact HB.out | apply aH | apply aG | apply aI) | exact HB.out))) : w.heap.size ≤ bM)); have n3_ := aC.mk ((by rw [hg]; exact (aZ (by repeat (first | (with_reducible first | exact HB.out | apply aH | apply aG | apply aI) | exact HB.out))) : w.heap.size ≤ bM)); clear HB; have HB := n0_; have ai := n1_; have GW592 := n2_; have cO := n3_; clear n0_ n1_ n2_ n3_; clear hb hbox hg; have kJ : w8.cell? ⟨bM, 0, none⟩ = some (.int .i64 aX) := (aD ai.out 0).trans rfl; have kI : w8.cell? ⟨bM, 1, none⟩ = some (.int .i64 aY) := (aD ai.out 1).trans rfl; have kH : w8.cell? ⟨bM, 2, none⟩ = some (.int .i64 ae) := (aD ai.out 2).trans rfl; have kG : w8.cell? ⟨bM, 3, none⟩ = some (.int .i64 aT) := (aD ai.out 3).trans rfl; have kF : w8.cell? ⟨bM, 4, none⟩ = some (.slice bH aM.length bC) := (aD ai.out 4).trans rfl; have kE : w8.cell? ⟨bM, 5, none⟩ = some (.slice bE aU.length bD) := (aD ai.out 5).trans rfl; have kD := aA ai.out 0; have kC := aA ai.out 1; have jy := aA ai.out 2; have jw := aA ai.out 3; have jv := aA ai.out 4; have jr := aA ai.out 5) | (go_at_call 66; (with_reducible refine (aQ.calls k aX aY ae aT _ _ aM _ _ aU t593 t594 _ ?dD ?dC ?dJ ?dI A2.out).mono ?_); (case dD => repeat (first | exact (Kd.ak dY.out HB.out) | (with_reducible refine Kd.bS ?_ _) | (with_reducible refine Kd.bR ?_ _) | (with_reducible refine Kd.bW ?_))); (case dC => exact eX.out); (case dJ => repeat (first | exact (Kd.ak dV.out HB.out) | (with_reducible refine Kd.bS ?_ _) | (with_reducible refine Kd.bR ?_ _) | (with_reducible refine Kd.bW ?_))); (case dI => exact fA.out); rintro e w10 ⟨rfl, hb⟩; have n0_ := aC.mk (av (g := bM) (o := .cells #[.int .i64 aX, .int .i64 aY, .int .i64 ae, .int .i64 aT, .slice bH aM.length bC, .slice bE aU.length bD] 43 (0, 0)) (by (with_reducible repeat (first | refine ag ?_ _ | refine af ?_ | refine aW ?_ _)); exact ai.out) hb); have n1_ := aC.mk (ah (by repeat (first | (with_reducible first | exact HB.out | apply aH | apply aG | apply aI | refine aJ ?_ cO.out) | exact HB.out)) hb); clear ai; clear HB; have ai := n0_; have HB := n1_; clear n0_ n1_; (try clear hb); (try clear hb2); (try clear hk); (try clear hi); have gL : w10.cell? ⟨bM, 0, none⟩ = some (.int .i64 aX) := (aD ai.out 0).trans rfl; have gK : w10.cell? ⟨bM, 1, none⟩ = some (.int .i64 aY) := (aD ai.out 1).trans rfl; have gJ : w10.cell? ⟨bM, 2, none⟩ = some (.int .i64 ae) := (aD ai.out 2).trans rfl; have gI : w10.cell? ⟨bM, 3, none⟩ = some (.int .i64 aT) := (aD ai.out 3).trans rfl; have gH : w10.cell? ⟨bM, 4, none⟩ = some (.slice bH aM.length bC) := (aD ai.out 4).trans rfl; have gG : w10.cell? ⟨bM, 5, none⟩ = some (.slice bE aU.length bD) := (aD ai.out 5).trans rfl; have gF := aA ai.out 0; have gD := aA ai.out 1; have gB := aA ai.out 2; have fu := aA ai.out 3; have fq := aA ai.out 4; have fo := aA ai.out 5) | ((with_reducible refine bK (N := 25) rfl ?_); refine Kd.R_make Kd.bool _ 4 rfl (N := 25) rfl 95 _ _ rfl aT rfl rfl Try.underlying95 (.bool false) 1 info4 rfl (by decide) (by omega) false (ok := fun _ => True) (okp := fun _ => True) rfl (fun _ hk => hk) trivial (of_decide_eq_true (by first | (with_reducible assumption) | assumption)) (Nat.le_trans (Nat.mul_le_mul_right _ (of_decide_eq_true (by first | (with_reducible assumption) | assumption) : aT.toNat ≤ 281474976710656)) (by omega)) (Below.refl _ _) (Nat.le_refl _) ?_; intro v596 w12 ho13 hb hg_ hnew_; clear hg_ hnew_; (first | rw [← Ny595.out] at ho13 | (simp only [Int.reduceToNat] at ho13; rw [← Ny595.out] at ho13)); have n0_ := aC.mk (Kd.dn (Kd.jQ (M := fun k_ => (w.heap.size ≤ k_)) ho13 (aZ (by repeat (first | (with_reducible first | exact HB.out | apply aH | apply aG | apply aI | refine aJ ?_ cO.out) | exact HB.out))) (fun k_ h_ => h_)) (aZ (by repeat (first | (with_reducible first | exact HB.out | apply aH | apply aG | apply aI | refine aJ ?_ cO.out) | exact HB.out)))); have n1_ := aC.mk (av (g := bM) (o := .cells #[.int .i64 aX, .int .i64 aY, .int .i64 ae, .int .i64 aT, .slice bH aM.length bC, .slice bE aU.length bD] 43 (0, 0)) (by (with_reducible repeat (first | refine ag ?_ _ | refine af ?_ | refine aW ?_ _)); exact ai.out) hb); have n2_ := aC.mk (ah (by repeat (first | (with_reducible first | exact HB.out | apply aH | apply aG | apply aI | refine aJ ?_ cO.out) | exact HB.out)) hb); clear ai; clear HB; have bz := n0_; have ai := n1_; have HB := n2_; clear n0_ n1_ n2_; clear hb ho13; have p7 : 0 ≤ (0 : Int) := (by omega); have q7 : (0 : Int) < ((iw.length : Int) : Int) := of_decide_eq_true (by first | (with_reducible assumption) | assumption); have qi7 : (0 < iw.length) = True := eq_true (by omega); obtain ⟨go7, co7, eo7, gb7, gl7, cl7, HG7⟩ := Kd.R_form bz.out (by omega); (first | cases eo7 | (injection eo7 with ea_ en_ ec_; (first | subst ea_ | (injection ea_ with ea_; subst ea_)); subst ec_; clear en_)); have GB7 := aC.mk gb7; have GG7 := aC.mk HG7; clear gb7 gl7 HG7; obtain ⟨hx7_0, hf7_0⟩ := Kd.fT false bz.out (0 : Int) p7 q7; (try rw [show ((0 : Int)).toNat = 0 from rfl] at hx7_0); (try simp only [Nat.reduceMul, Nat.zero_mul, Nat.zero_add, Nat.reduceAdd] at hx7_0); (try rw [show ((0 : Int)).toNat = 0 from rfl] at hf7_0); (try simp only [Nat.reduceMul, Nat.zero_mul, Nat.zero_add, Nat.reduceAdd] at hf7_0); replace p7 := eq_true p7; replace q7 := eq_true q7; have n_ := aC.mk (Kd.dB (ok' := (fun k_ => (w.heap.size ≤ k_))) bz.out (fun k_ hk => hk.1)); clear bz; have bz := n_; clear n_; obtain ⟨lQ, lN⟩ := Kd.fT false bz.out (0 : Int) (by omega) (of_decide_eq_true (by first | (with_reducible assumption) | assumption)); (try simp only [Int.reduceToNat, Int.toNat_zero, Int.toNat_ofNat, Nat.reduceMul, Nat.zero_mul, Nat.zero_add] at lQ lN); (try rw [show ((0 : Int)).toNat = 0 from rfl] at lQ); (try rw [show ((0 : Int)).toNat = 0 from rfl] at lN); have HP14 := Kd.lM bz.out (0 : Int) true) | ((with_reducible refine dW (t := 4) (p := 27) rfl ?_); (try (rw [lK w12]; generalize hq_ : World.drewN w12 _ = w12; have n0_ := aC.mk (Kd.R_at hq_ bz.out); have n1_ := aC.mk (blk_at hq_ ai.out); have n2_ := aC.mk (below_at hq_ HB.out); clear hq_ bz ai HB; have bz := n0_; have ai := n1_; have HB := n2_; clear n0_ n1_ n2_; (try (have n_ := aC.mk (Kd.dB (ok' := (fun k_ => (w.heap.size ≤ k_))) bz.out (fun k_ hk => hk.1)); clear bz; have bz := n_; clear n_)); (try (obtain ⟨lQ, lN⟩ := Kd.fT false bz.out (0 : Int) (by omega) (of_decide_eq_true (by first | (with_reducible assumption) | assumption)))); (try (try simp only [Int.reduceToNat, Int.toNat_zero, Int.toNat_ofNat, Nat.reduceMul, Nat.zero_mul, Nat.zero_add] at lQ lN)); (try (try rw [show ((0 : Int)).toNat = 0 from rfl] at lQ)); (try (try rw [show ((0 : Int)).toNat = 0 from rfl] at lN)); (try (have HP14 := Kd.lM bz.out (0 : Int) true)); (try (obtain ⟨hzc_, hzf_⟩ := Kd.fT true bz.out (0 : Int) (by first | exact of_eq_true (by assumption) | exact of_decide_eq_true (by assumption)) (by first | exact of_eq_true (by assumption) | exact of_decide_eq_true (by assumption)))))); refine gz (t := 4) (p := 27) (v := ?vo_w15) (w1 := (w12.setCell ⟨go7, (0 : Int).toNat, none⟩ (.bool true))) ?hg ?ho ?hn ?hr ?_; (case ho => rfl); (case hg => rfl); (case hn => rfl); (case hr => first | (go_simp; done) | (go_simp; rfl)); intro w15 hw; have hg : w12.grownBy w15 (some go7) := (by rw [hw]; exact HP14.2); have hp_ : Kd.R Kd.bool 4 w15 w.heap.size (fun k_ => (w.heap.size ≤ k_)) (.slice (some ⟨go7, 0, none⟩) iw.length co7) y598 := (by rw [hw, Ny598.out]; exact HP14.1); clear HP14; have n0_ := aC.mk (cZ (g := bM) (o := .cells #[.int .i64 aX, .int .i64 aY, .int .i64 ae, .int .i64 aT, .slice bH aM.length bC, .slice bE aU.length bD] 43 (0, 0)) (by (with_reducible repeat (first | refine ag ?_ _ | refine af ?_ | refine aW ?_ _)); exact ai.out) hg (Kd.jL bz.out ai.out (by decide))); have n1_ := aC.mk (hp_); have n2_ := aC.mk ((by rw [hw]; exact aJ (HB.out) GB7.out : Below w.heap.size w w15)); clear ai; clear bz; clear HB; have ai := n0_; have bz := n1_; have HB := n2_; clear n0_ n1_ n2_; clear hg hw hp_) | ((with_reducible refine bK (N := 28) rfl ?_); refine Kd.R_lit (Kd.int .i64) _ 3 ?hg (N := 28) ?hd (xs := ([0] : List Int)) (inner := [.int .i64 0]) (ok := fun _ => True) (okp := fun _ => True) ?hr ?hp (fun _ hk => hk) trivial (Below.refl _ _) (Nat.le_refl _) (by simp) ?_; (case hd => rfl); (case hg => rfl); (case hr => first | (go_simp; done) | (go_simp; rfl)); (case hp => exact (Reps.one (show Kd.M (Kd.int .i64) _ _ _ 0 [.int .i64 0] from rfl) (Reps.none _ _))); intro v600 w16 ho17 hb hg_ hnew_; clear hg_ hnew_; (first | rw [← Ny599.out] at ho17 | (simp only [Int.reduceToNat] at ho17; rw [← Ny599.out] at ho17)); have n0_ := aC.mk (Kd.dz (by (with_reducible repeat (first | apply Kd.bB | apply Kd.ax | apply Kd.bJ)); exact bz.out) hb); have n1_ := aC.mk (Kd.dn (Kd.jQ (M := fun k_ => (w.heap.size ≤ k_)) ho17 (aZ (by repeat (first | (with_reducible first | exact HB.out | apply aH | apply aG | apply aI | refine aJ ?_ cO.out) | exact HB.out))) (fun k_ h_ => h_)) (aZ (by repeat (first | (with_reducible first | exact HB.out | apply aH | apply aG | apply aI | refine aJ ?_ cO.out) | exact HB.out)))); have n2_ := aC.mk (av (g := bM) (o := .cells #[.int .i64 aX, .int .i64 aY, .int .i64 ae, .int .i64 aT, .slice bH aM.length bC, .slice bE aU.length bD] 43 (0, 0)) (by (with_reducible repeat (first | refine ag ?_ _ | refine af ?_ | refine aW ?_ _)); exact ai.out) hb); have n3_ := aC.mk (ah (by repeat (first | (with_reducible first | exact HB.out | apply aH | apply aG | apply aI | refine aJ ?_ cO.out) | exact HB.out)) hb); clear bz; clear ai; clear HB; have bz := n0_; have jE := n1_; have ai := n2_; have HB := n3_; clear n0_ n1_ n2_ n3_; clear hb ho17) | ((with_reducible refine bK (N := 29) rfl ?_); refine Kd.R_lit (Kd.int .i64) _ 3 ?hg (N := 29) ?hd (xs := ([] : List Int)) (inner := []) (ok := fun _ => True) (okp := fun _ => True) ?hr ?hp (fun _ hk => hk) trivial (Below.refl _ _) (Nat.le_refl _) (by simp) ?_; (case hd => rfl); (case hg => rfl); (case hr => first | (go_simp; done) | (go_simp; rfl)); (case hp => exact (Reps.none _ _)); intro v603 w18 ho19 hb hg_ hnew_; clear hg_ hnew_; (first | rw [← Ny602.out] at ho19 | (simp only [Int.reduceToNat] at ho19; rw [← Ny602.out] at ho19)); have n0_ := aC.mk (Kd.dz (by (with_reducible repeat (first | apply Kd.bB | apply Kd.ax | apply Kd.bJ)); exact bz.out) hb); have n1_ := aC.mk (Kd.ic (by (with_reducible repeat (first | apply Kd.bB | apply Kd.ax | apply Kd.bJ)); exact jE.out) (Kd.gX ho19) hb); have n2_ := aC.mk (Kd.dn (Kd.l8 (Kd.jQ (M := fun k_ => (w.heap.size ≤ k_)) ho19 (aZ (by repeat (first | (with_reducible first | exact HB.out | apply aH | apply aG | apply aI | refine aJ ?_ cO.out) | exact HB.out))) (fun k_ h_ => h_)) (Kd.jD (by (with_reducible repeat (first | apply Kd.bB | apply Kd.ax | apply Kd.bJ)); exact jE.out))) (aZ (by repeat (first | (with_reducible first | exact HB.out | apply aH | apply aG | apply aI | refine aJ ?_ cO.out) | exact HB.out)))); have n3_ := aC.mk (av (g := bM) (o := .cells #[.int .i64 aX, .int .i64 aY, .int .i64 ae, .int .i64 aT, .slice bH aM.length bC, .slice bE aU.length bD] 43 (0, 0)) (by (with_reducible repeat (first | refine ag ?_ _ | refine af ?_ | refine aW ?_ _)); exact ai.out) hb); have n4_ := aC.mk (ah (by repeat (first | (with_reducible first | exact HB.out | apply aH | apply aG | apply aI | refine aJ ?_ cO.out) | exact HB.out)) hb); clear bz; clear jE; clear ai; clear HB; have bz := n0_; have jE := n1_; have HO604 := n2_; have ai := n3_; have HB := n4_; clear n0_ n1_ n2_ n3_ n4_; clear hb ho19; obtain ⟨Ao20, co20, eo20⟩ := Kd.bu HO604.out; subst eo20) | ((with_reducible refine bK (N := 30) rfl ?_); refine Kd.N_lit (Kd.slice 3 (Kd.int .i64)) _ 22 ?hg (N' := 30) ?hd (xs := ([y602] : List (List Int))) (inner := [.slice Ao20 y602.length co20]) (ok := (fun k_ => (w.heap.size ≤ k_) ∧ some k_ ≠ (.slice (some ⟨go7, 0, none⟩) iw.length co7 : Value).ownBlock ∧ some k_ ≠ (v600 : Value).ownBlock ∧ k_ ≠ bM)) (okp := (fun k_ => (w.heap.size ≤ k_) ∧ some k_ ≠ (.slice (some ⟨go7, 0, none⟩) iw.length co7 : Value).ownBlock ∧ some k_ ≠ (v600 : Value).ownBlock ∧ k_ ≠ bM)) ?hr ?hp (fun _ hk => hk) ((show ∀ k_, w18.heap.size ≤ k_ → (fun k_ => (w.heap.size ≤ k_) ∧ some k_ ≠ (.slice (some ⟨go7, 0, none⟩) iw.length co7 : Value).ownBlock ∧ some k_ ≠ (v600 : Value).ownBlock ∧ k_ ≠ bM) k_ from fun k_ hk => ⟨(Nat.le_trans (aZ (by repeat (first | (with_reducible first | exact HB.out | apply aH | apply aG | apply aI | refine aJ ?_ cO.out) | exact HB.out))) hk), Kd.fresh' (Kd.jD (by (with_reducible repeat (first | apply Kd.bB | apply Kd.ax | apply Kd.bJ)); exact bz.out)) k_ hk, Kd.fresh' (Kd.jD (by (with_reducible repeat (first | apply Kd.bB | apply Kd.ax | apply Kd.bJ)); exact jE.out)) k_ hk, Kd.freshB (g := bM) (o := .cells #[.int .i64 aX, .int .i64 aY, .int .i64 ae, .int .i64 aT, .slice bH aM.length bC, .slice bE aU.length bD] 43 (0, 0)) (by (with_reducible repeat (first | refine ag ?_ _ | refine af ?_ | refine aW ?_ _)); exact ai.out) k_ hk⟩) _ (Nat.le_refl _)) (Below.refl _ _) (Nat.le_refl _) (by simp) ?_; (case hd => rfl); (case hg => rfl); (case hr => first | (go_simp; done) | (go_simp; rfl)); (case hp => exact (Reps.one (show Kd.FK (Kd.slice 3 (Kd.int .i64)) _ _ y602 [.slice Ao20 y602.length co20] from (Kd.lU (Kd.bX (Kd.dB (ok' := (fun k_ => (w.heap.size ≤ k_) ∧ some k_ ≠ (.slice (some ⟨go7, 0, none⟩) iw.length co7 : Value).ownBlock ∧ some k_ ≠ (v600 : Value).ownBlock ∧ k_ ≠ bM)) (Kd.kg (Kd.gU (HO604.out) (Kd.gN bz.out) (by decide)) ai.out (by decide)) (fun k_ hk => ⟨hk.1.1.1.1, ⟨hk.1.2, ⟨hk.1.1.2, hk.2⟩⟩⟩))).2.1 (Kd.R_F (Kd.dB (ok' := (fun k_ => (w.heap.size ≤ k_) ∧ some k_ ≠ (.slice (some ⟨go7, 0, none⟩) iw.length co7 : Value).ownBlock ∧ some k_ ≠ (v600 : Value).ownBlock ∧ k_ ≠ bM)) (Kd.kg (Kd.gU (HO604.out) (Kd.gN bz.out) (by decide)) ai.out (by decide)) (fun k_ hk => ⟨hk.1.1.1.1, ⟨hk.1.2, ⟨hk.1.1.2, hk.2⟩⟩⟩))))) (Reps.none _ _))); intro v606 w21 ho22 hb hg_ hnew_; clear hg_ hnew_; (first | rw [← Ny605.out] at ho22 | (simp only [Int.reduceToNat] at ho22; rw [← Ny605.out] at ho22)); have n0_ := aC.mk (Kd.dz (by (with_reducible repeat (first | apply Kd.bB | apply Kd.ax | apply Kd.bJ)); exact bz.out) hb); have n1_ := aC.mk (Kd.dz (by (with_reducible repeat (first | apply Kd.bB | apply Kd.ax | apply Kd.bJ)); exact jE.out) hb); have n2_ := aC.mk (Kd.N_lower ho22 (aZ (by repeat (first | (with_reducible first | exact HB.out | apply aH | apply aG | apply aI | refine aJ ?_ cO.out) | exact HB.out)))); have n3_ := aC.mk (av (g := bM) (o := .cells #[.int .i64 aX, .int .i64 aY, .int .i64 ae, .int .i64 aT, .slice bH aM.length bC, .slice bE aU.length bD] 43 (0, 0)) (by (with_reducible repeat (first | refine ag ?_ _ | refine af ?_ | refine aW ?_ _)); exact ai.out) hb); have n4_ := aC.mk (ah (by repeat (first | (with_reducible first | exact HB.out | apply aH | apply aG | apply aI | refine aJ ?_ cO.out) | exact HB.out)) hb); clear bz; clear jE; clear ai; clear HB; clear HO604; have bz := n0_; have jE := n1_; have HO607 := n2_; have ai := n3_; have HB := n4_; clear n0_ n1_ n2_ n3_ n4_; clear hb ho22)); try go_wp2_with (first | ((with_reducible refine bK (N := 1) rfl ?_); refine dA ?hg (N := 1) ?hd (cs := #[.int .i64 aX, .int .i64 aY, .int .i64 ae, .int .i64 aT, .slice bH aM.length bC, .slice bE aU.length bD]) (t := 43) ?hr ?_; (case hd => rfl); (case hg => rfl); (case hr => first | (go_simp; done) | (go_simp; rfl)); intro bM hg w8 hbox hb; have n0_ := aC.mk (ah (by repeat (first | (with_reducible first | exact HB.out | apply aH | apply aG | apply aI) | exact HB.out)) hb); have n1_ := aC.mk (hbox); have n2_ := aC.mk ((by rw [hg]; exact (aZ (by repeat (first | (with_reducible first | exact HB.out | apply aH | apply aG | apply aI) | exact HB.out))) : w.heap.size ≤ bM)); have n3_ := aC.mk ((by rw [hg]; exact (aZ (by repeat (first | (with_reducible first | exact HB.out | apply aH | apply aG | apply aI) | exact HB.out))) : w.heap.size ≤ bM)); clear HB; have HB := n0_; have ai := n1_; have GW592 := n2_; have cO := n3_; clear n0_ n1_ n2_ n3_; clear hb hbox hg; have kJ : w8.cell? ⟨bM, 0, none⟩ = some (.int .i64 aX) := (aD ai.out 0).trans rfl; have kI : w8.cell? ⟨bM, 1, none⟩ = some (.int .i64 aY) := (aD ai.out 1).trans rfl; have kH : w8.cell? ⟨bM, 2, none⟩ = some (.int .i64 ae) := (aD ai.out 2).trans rfl; have kG : w8.cell? ⟨bM, 3, none⟩ = some (.int .i64 aT) := (aD ai.out 3).trans rfl; have kF : w8.cell? ⟨bM, 4, none⟩ = some (.slice bH aM.length bC) := (aD ai.out 4).trans rfl; have kE : w8.cell? ⟨bM, 5, none⟩ = some (.slice bE aU.length bD) := (aD ai.out 5).trans rfl; have kD := aA ai.out 0; have kC := aA ai.out 1; have jy := aA ai.out 2; have jw := aA ai.out 3; have jv := aA ai.out 4; have jr := aA ai.out 5) | (go_at_call 66; (with_reducible refine (aQ.calls k aX aY ae aT _ _ aM _ _ aU t593 t594 _ ?dD ?dC ?dJ ?dI A2.out).mono ?_); (case dD => repeat (first | exact (Kd.ak dY.out HB.out) | (with_reducible refine Kd.bS ?_ _) | (with_reducible refine Kd.bR ?_ _) | (with_reducible refine Kd.bW ?_))); (case dC => exact eX.out); (case dJ => repeat (first | exact (Kd.ak dV.out HB.out) | (with_reducible refine Kd.bS ?_ _) | (with_reducible refine Kd.bR ?_ _) | (with_reducible refine Kd.bW ?_))); (case dI => exact fA.out); rintro e w10 ⟨rfl, hb⟩; have n0_ := aC.mk (av (g := bM) (o := .cells #[.int .i64 aX, .int .i64 aY, .int .i64 ae, .int .i64 aT, .slice bH aM.length bC, .slice bE aU.length bD] 43 (0, 0)) (by (with_reducible repeat (first | refine ag ?_ _ | refine af ?_ | refine aW ?_ _)); exact ai.out) hb); have n1_ := aC.mk (ah (by repeat (first | (with_reducible first | exact HB.out | apply aH | apply aG | apply aI | refine aJ ?_ cO.out) | exact HB.out)) hb); clear ai; clear HB; have ai := n0_; have HB := n1_; clear n0_ n1_; (try clear hb); (try clear hb2); (try clear hk); (try clear hi); have gL : w10.cell? ⟨bM, 0, none⟩ = some (.int .i64 aX) := (aD ai.out 0).trans rfl; have gK : w10.cell? ⟨bM, 1, none⟩ = some (.int .i64 aY) := (aD ai.out 1).trans rfl; have gJ : w10.cell? ⟨bM, 2, none⟩ = some (.int .i64 ae) := (aD ai.out 2).trans rfl; have gI : w10.cell? ⟨bM, 3, none⟩ = some (.int .i64 aT) := (aD ai.out 3).trans rfl; have gH : w10.cell? ⟨bM, 4, none⟩ = some (.slice bH aM.length bC) := (aD ai.out 4).trans rfl; have gG : w10.cell? ⟨bM, 5, none⟩ = some (.slice bE aU.length bD) := (aD ai.out 5).trans rfl; have gF := aA ai.out 0; have gD := aA ai.out 1; have gB := aA ai.out 2; have fu := aA ai.out 3; have fq := aA ai.out 4; have fo := aA ai.out 5) | ((with_reducible refine bK (N := 25) rfl ?_); refine Kd.R_make Kd.bool _ 4 rfl (N := 25) rfl 95 _ _ rfl aT rfl rfl Try.underlying95 (.bool false) 1 info4 rfl (by decide) (by omega) false (ok := fun _ => True) (okp := fun _ => True) rfl (fun _ hk => hk) trivial (of_decide_eq_true (by first | (with_reducible assumption) | assumption)) (Nat.le_trans (Nat.mul_le_mul_right _ (of_decide_eq_true (by first | (with_reducible assumption) | assumption) : aT.toNat ≤ 281474976710656)) (by omega)) (Below.refl _ _) (Nat.le_refl _) ?_; intro v596 w12 ho13 hb hg_ hnew_; clear hg_ hnew_; (first | rw [← Ny595.out] at ho13 | (simp only [Int.reduceToNat] at ho13; rw [← Ny595.out] at ho13)); have n0_ := aC.mk (Kd.dn (Kd.jQ (M := fun k_ => (w.heap.size ≤ k_)) ho13 (aZ (by repeat (first | (with_reducible first | exact HB.out | apply aH | apply aG | apply aI | refine aJ ?_ cO.out) | exact HB.out))) (fun k_ h_ => h_)) (aZ (by repeat (first | (with_reducible first | exact HB.out | apply aH | apply aG | apply aI | refine aJ ?_ cO.out) | exact HB.out)))); have n1_ := aC.mk (av (g := bM) (o := .cells #[.int .i64 aX, .int .i64 aY, .int .i64 ae, .int .i64 aT, .slice bH aM.length bC, .slice bE aU.length bD] 43 (0, 0)) (by (with_reducible repeat (first | refine ag ?_ _ | refine af ?_ | refine aW ?_ _)); exact ai.out) hb); have n2_ := aC.mk (ah (by repeat (first | (with_reducible first | exact HB.out | apply aH | apply aG | apply aI | refine aJ ?_ cO.out) | exact HB.out)) hb); clear ai; clear HB; have bz := n0_; have ai := n1_; have HB := n2_; clear n0_ n1_ n2_; clear hb ho13; have p7 : 0 ≤ (0 : Int) := (by omega); have q7 : (0 : Int) < ((iw.length : Int) : Int) := of_decide_eq_true (by first | (with_reducible assumption) | assumption); have qi7 : (0 < iw.length) = True := eq_true (by omega); obtain ⟨go7, co7, eo7, gb7, gl7, cl7, HG7⟩ := Kd.R_form bz.out (by omega); (first | cases eo7 | (injection eo7 with ea_ en_ ec_; (first | subst ea_ | (injection ea_ with ea_; subst ea_)); subst ec_; clear en_)); have GB7 := aC.mk gb7; have GG7 := aC.mk HG7; clear gb7 gl7 HG7; obtain ⟨hx7_0, hf7_0⟩ := Kd.fT false bz.out (0 : Int) p7 q7; (try rw [show ((0 : Int)).toNat = 0 from rfl] at hx7_0); (try simp only [Nat.reduceMul, Nat.zero_mul, Nat.zero_add, Nat.reduceAdd] at hx7_0); (try rw [show ((0 : Int)).toNat = 0 from rfl] at hf7_0); (try simp only [Nat.reduceMul, Nat.zero_mul, Nat.zero_add, Nat.reduceAdd] at hf7_0); replace p7 := eq_true p7; replace q7 := eq_true q7; have n_ := aC.mk (Kd.dB (ok' := (fun k_ => (w.heap.size ≤ k_))) bz.out (fun k_ hk => hk.1)); clear bz; have bz := n_; clear n_; obtain ⟨lQ, lN⟩ := Kd.fT false bz.out (0 : Int) (by omega) (of_decide_eq_true (by first | (with_reducible assumption) | assumption)); (try simp only [Int.reduceToNat, Int.toNat_zero, Int.toNat_ofNat, Nat.reduceMul, Nat.zero_mul, Nat.zero_add] at lQ lN); (try rw [show ((0 : Int)).toNat = 0 from rfl] at lQ); (try rw [show ((0 : Int)).toNat = 0 from rfl] at lN); have HP14 := Kd.lM bz.out (0 : Int) true) | ((with_reducible refine dW (t := 4) (p := 27) rfl ?_); (try (rw [lK w12]; generalize hq_ : World.drewN w12 _ = w12; have n0_ := aC.mk (Kd.R_at hq_ bz.out); have n1_ := aC.mk (blk_at hq_ ai.out); have n2_ := aC.mk (below_at hq_ HB.out); clear hq_ bz ai HB; have bz := n0_; have ai := n1_; have HB := n2_; clear n0_ n1_ n2_; (try (have n_ := aC.mk (Kd.dB (ok' := (fun k_ => (w.heap.size ≤ k_))) bz.out (fun k_ hk => hk.1)); clear bz; have bz := n_; clear n_)); (try (obtain ⟨lQ, lN⟩ := Kd.fT false bz.out (0 : Int) (by omega) (of_decide_eq_true (by first | (with_reducible assumption) | assumption)))); (try (try simp only [Int.reduceToNat, Int.toNat_zero, Int.toNat_ofNat, Nat.reduceMul, Nat.zero_mul, Nat.zero_add] at lQ lN)); (try (try rw [show ((0 : Int)).toNat = 0 from rfl] at lQ)); (try (try rw [show ((0 : Int)).toNat = 0 from rfl] at lN)); (try (have HP14 := Kd.lM bz.out (0 : Int) true)); (try (obtain ⟨hzc_, hzf_⟩ := Kd.fT true bz.out (0 : Int) (by first | exact of_eq_true (by assumption) | exact of_decide_eq_true (by assumption)) (by first | exact of_eq_true (by assumption) | exact of_decide_eq_true (by assumption)))))); refine gz (t := 4) (p := 27) (v := ?vo_w15) (w1 := (w12.setCell ⟨go7, (0 : Int).toNat, none⟩ (.bool true))) ?hg ?ho ?hn ?hr ?_; (case ho => rfl); (case hg => rfl); (case hn => rfl); (case hr => first | (go_simp; done) | (go_simp; rfl)); intro w15 hw; have hg : w12.grownBy w15 (some go7) := (by rw [hw]; exact HP14.2); have hp_ : Kd.R Kd.bool 4 w15 w.heap.size (fun k_ => (w.heap.size ≤ k_)) (.slice (some ⟨go7, 0, none⟩) iw.length co7) y598 := (by rw [hw, Ny598.out]; exact HP14.1); clear HP14; have n0_ := aC.mk (cZ (g := bM) (o := .cells #[.int .i64 aX, .int .i64 aY, .int .i64 ae, .int .i64 aT, .slice bH aM.length bC, .slice bE aU.length bD] 43 (0, 0)) (by (with_reducible repeat (first | refine ag ?_ _ | refine af ?_ | refine aW ?_ _)); exact ai.out) hg (Kd.jL bz.out ai.out (by decide))); have n1_ := aC.mk (hp_); have n2_ := aC.mk ((by rw [hw]; exact aJ (HB.out) GB7.out : Below w.heap.size w w15)); clear ai; clear bz; clear HB; have ai := n0_; have bz := n1_; have HB := n2_; clear n0_ n1_ n2_; clear hg hw hp_) | ((with_reducible refine bK (N := 28) rfl ?_); refine Kd.R_lit (Kd.int .i64) _ 3 ?hg (N := 28) ?hd (xs := ([0] : List Int)) (inner := [.int .i64 0]) (ok := fun _ => True) (okp := fun _ => True) ?hr ?hp (fun _ hk => hk) trivial (Below.refl _ _) (Nat.le_refl _) (by simp) ?_; (case hd => rfl); (case hg => rfl); (case hr => first | (go_simp; done) | (go_simp; rfl)); (case hp => exact (Reps.one (show Kd.M (Kd.int .i64) _ _ _ 0 [.int .i64 0] from rfl) (Reps.none _ _))); intro v600 w16 ho17 hb hg_ hnew_; clear hg_ hnew_; (first | rw [← Ny599.out] at ho17 | (simp only [Int.reduceToNat] at ho17; rw [← Ny599.out] at ho17)); have n0_ := aC.mk (Kd.dz (by (with_reducible repeat (first | apply Kd.bB | apply Kd.ax | apply Kd.bJ)); exact bz.out) hb); have n1_ := aC.mk (Kd.dn (Kd.jQ (M := fun k_ => (w.heap.size ≤ k_)) ho17 (aZ (by repeat (first | (with_reducible first | exact HB.out | apply aH | apply aG | apply aI | refine aJ ?_ cO.out) | exact HB.out))) (fun k_ h_ => h_)) (aZ (by repeat (first | (with_reducible first | exact HB.out | apply aH | apply aG | apply aI | refine aJ ?_ cO.out) | exact HB.out)))); have n2_ := aC.mk (av (g := bM) (o := .cells #[.int .i64 aX, .int .i64 aY, .int .i64 ae, .int .i64 aT, .slice bH aM.length bC, .slice bE aU.length bD] 43 (0, 0)) (by (with_reducible repeat (first | refine ag ?_ _ | refine af ?_ | refine aW ?_ _)); exact ai.out) hb); have n3_ := aC.mk (ah (by repeat (first | (with_reducible first | exact HB.out | apply aH | apply aG | apply aI | refine aJ ?_ cO.out) | exact HB.out)) hb); clear bz; clear ai; clear HB; have bz := n0_; have jE := n1_; have ai := n2_; have HB := n3_; clear n0_ n1_ n2_ n3_; clear hb ho17) | ((with_reducible refine bK (N := 29) rfl ?_); refine Kd.R_lit (Kd.int .i64) _ 3 ?hg (N := 29) ?hd (xs := ([] : List Int)) (inner := []) (ok := fun _ => True) (okp := fun _ => True) ?hr ?hp (fun _ hk => hk) trivial (Below.refl _ _) (Nat.le_refl _) (by simp) ?_; (case hd => rfl); (case hg => rfl); (case hr => first | (go_simp; done) | (go_simp; rfl)); (case hp => exact (Reps.none _ _)); intro v603 w18 ho19 hb hg_ hnew_; clear hg_ hnew_; (first | rw [← Ny602.out] at ho19 | (simp only [Int.reduceToNat] at ho19; rw [← Ny602.out] at ho19)); have n0_ := aC.mk (Kd.dz (by (with_reducible repeat (first | apply Kd.bB | apply Kd.ax | apply Kd.bJ)); exact bz.out) hb); have n1_ := aC.mk (Kd.ic (by (with_reducible repeat (first | apply Kd.bB | apply Kd.ax | apply Kd.bJ)); exact jE.out) (Kd.gX ho19) hb); have n2_ := aC.mk (Kd.dn (Kd.l8 (Kd.jQ (M := fun k_ => (w.heap.size ≤ k_)) ho19 (aZ (by repeat (first | (with_reducible first | exact HB.out | apply aH | apply aG | apply aI | refine aJ ?_ cO.out) | exact HB.out))) (fun k_ h_ => h_)) (Kd.jD (by (with_reducible repeat (first | apply Kd.bB | apply Kd.ax | apply Kd.bJ)); exact jE.out))) (aZ (by repeat (first | (with_reducible first | exact HB.out | apply aH | apply aG | apply aI | refine aJ ?_ cO.out) | exact HB.out)))); have n3_ := aC.mk (av (g := bM) (o := .cells #[.int .i64 aX, .int .i64 aY, .int .i64 ae, .int .i64 aT, .slice bH aM.length bC, .slice bE aU.length bD] 43 (0, 0)) (by (with_reducible repeat (first | refine ag ?_ _ | refine af ?_ | refine aW ?_ _)); exact ai.out) hb); have n4_ := aC.mk (ah (by repeat (first | (with_reducible first | exact HB.out | apply aH | apply aG | apply aI | refine aJ ?_ cO.out) | exact HB.out)) hb); clear bz; clear jE; clear ai; clear HB; have bz := n0_; have jE := n1_; have HO604 := n2_; have ai := n3_; have HB := n4_; clear n0_ n1_ n2_ n3_ n4_; clear hb ho19; obtain ⟨Ao20, co20, eo20⟩ := Kd.bu HO604.out; subst eo20) | ((with_reducible refine bK (N := 30) rfl ?_); refine Kd.N_lit (Kd.slice 3 (Kd.int .i64)) _ 22 ?hg (N' := 30) ?hd (xs := ([y602] : List (List Int))) (inner := [.slice Ao20 y602.length co20]) (ok := (fun k_ => (w.heap.size ≤ k_) ∧ some k_ ≠ (.slice (some ⟨go7, 0, none⟩) iw.length co7 : Value).ownBlock ∧ some k_ ≠ (v600 : Value).ownBlock ∧ k_ ≠ bM)) (okp := (fun k_ => (w.heap.size ≤ k_) ∧ some k_ ≠ (.slice (some ⟨go7, 0, none⟩) iw.length co7 : Value).ownBlock ∧ some k_ ≠ (v600 : Value).ownBlock ∧ k_ ≠ bM)) ?hr ?hp (fun _ hk => hk) ((show ∀ k_, w18.heap.size ≤ k_ → (fun k_ => (w.heap.size ≤ k_) ∧ some k_ ≠ (.slice (some ⟨go7, 0, none⟩) iw.length co7 : Value).ownBlock ∧ some k_ ≠ (v600 : Value).ownBlock ∧ k_ ≠ bM) k_ from fun k_ hk => ⟨(Nat.le_trans (aZ (by repeat (first | (with_reducible first | exact HB.out | apply aH | apply aG | apply aI | refine aJ ?_ cO.out) | exact HB.out))) hk), Kd.fresh' (Kd.jD (by (with_reducible repeat (first | apply Kd.bB | apply Kd.ax | apply Kd.bJ)); exact bz.out)) k_ hk, Kd.fresh' (Kd.jD (by (with_reducible repeat (first | apply Kd.bB | apply Kd.ax | apply Kd.bJ)); exact jE.out)) k_ hk, Kd.freshB (g := bM) (o := .cells #[.int .i64 aX, .int .i64 aY, .int .i64 ae, .int .i64 aT, .slice bH aM.length bC, .slice bE aU.length bD] 43 (0, 0)) (by (with_reducible repeat (first | refine ag ?_ _ | refine af ?_ | refine aW ?_ _)); exact ai.out) k_ hk⟩) _ (Nat.le_refl _)) (Below.refl _ _) (Nat.le_refl _) (by simp) ?_; (case hd => rfl); (case hg => rfl); (case hr => first | (go_simp; done) | (go_simp; rfl)); (case hp => exact (Reps.one (show Kd.FK (Kd.slice 3 (Kd.int .i64)) _ _ y602 [.slice Ao20 y602.length co20] from (Kd.lU (Kd.bX (Kd.dB (ok' := (fun k_ => (w.heap.size ≤ k_) ∧ some k_ ≠ (.slice (some ⟨go7, 0, none⟩) iw.length co7 : Value).ownBlock ∧ some k_ ≠ (v600 : Value).ownBlock ∧ k_ ≠ bM)) (Kd.kg (Kd.gU (HO604.out) (Kd.gN bz.out) (by decide)) ai.out (by decide)) (fun k_ hk => ⟨hk.1.1.1.1, ⟨hk.1.2, ⟨hk.1.1.2, hk.2⟩⟩⟩))).2.1 (Kd.R_F (Kd.dB (ok' := (fun k_ => (w.heap.size ≤ k_) ∧ some k_ ≠ (.slice (some ⟨go7, 0, none⟩) iw.length co7 : Value).ownBlock ∧ some k_ ≠ (v600 : Value).ownBlock ∧ k_ ≠ bM)) (Kd.kg (Kd.gU (HO604.out) (Kd.gN bz.out) (by decide)) ai.out (by decide)) (fun k_ hk => ⟨hk.1.1.1.1, ⟨hk.1.2, ⟨hk.1.1.2, hk.2⟩⟩⟩))))) (Reps.none _ _))); intro v606 w21 ho22 hb hg_ hnew_; clear hg_ hnew_; (first | rw [← Ny605.out] at ho22 | (simp only [Int.reduceToNat] at ho22; rw [← Ny605.out] at ho22)); have n0_ := aC.mk (Kd.dz (by (with_reducible repeat (first | apply Kd.bB | apply Kd.ax | apply Kd.bJ)); exact bz.out) hb); have n1_ := aC.mk (Kd.dz (by (with_reducible repeat (first | apply Kd.bB | apply Kd.ax | apply Kd.bJ)); exact jE.out) hb); have n2_ := aC.mk (Kd.N_lower ho22 (aZ (by repeat (first | (with_reducible first | exact HB.out | apply aH | apply aG | apply aI | refine aJ ?_ cO.out) | exact HB.out)))); have n3_ := aC.mk (av (g := bM) (o := .cells #[.int .i64 aX, .int .i64 aY, .int .i64 ae, .int .i64 aT, .slice bH aM.length bC, .slice bE aU.length bD] 43 (0, 0)) (by (with_reducible repeat (first | refine ag ?_ _ | refine af ?_ | refine aW ?_ _)); exact ai.out) hb); have n4_ := aC.mk (ah (by repeat (first | (with_reducible first | exact HB.out | apply aH | apply aG | apply aI | refine aJ ?_ cO.out) | exact HB.out)) hb); clear bz; clear jE; clear ai; clear HB; clear HO604; have bz := n0_; have jE := n1_; have HO607 := n2_; have ai := n3_; have HB := n4_; clear n0_ n1_ n2_ n3_ n4_; clear hb ho22)))
          go_loopg [8, 9, 10] k (fun kq v8 v9 v10 w' => ∃ (x7_1 : List Bool) (fC : List Int) (ik : List (List Int)) (x10_1 : Int), v10 = .int .i64 x10_1 ∧ aC (au.l0 kq x7_1 fC ik x10_1 aX aY ae aT aM aU = some (r1, r2, r3)) ∧ aC (kq ≤ k) ∧ aC (Kd.R Kd.bool 4 w' w.heap.size (fun k_ => (w.heap.size ≤ k_)) (.slice (some ⟨go7, 0, none⟩) iw.length co7) x7_1) ∧ aC (Kd.R (Kd.int .i64) 3 w' w.heap.size (fun k_ => (w.heap.size ≤ k_)) v8 fC) ∧ aC (Kd.N (Kd.slice 3 (Kd.int .i64)) 22 w' w.heap.size (fun k_ => (w.heap.size ≤ k_) ∧ some k_ ≠ ((.slice (some ⟨go7, 0, none⟩) iw.length co7) : Value).ownBlock ∧ some k_ ≠ (v8 : Value).ownBlock ∧ k_ ≠ bM) v9 ik) ∧ aC (w'.heap[bM]? = some (.cells #[.int .i64 aX, .int .i64 aY, .int .i64 ae, .int .i64 aT, (.slice bH aM.length bC), (.slice bE aU.length bD)] 43 (0, 0))) ∧ aC (Below w.heap.size w w'))
          case atStart => exact ⟨(y598), (y599), (y605), (0), (by first | rfl | (simp; done) | (simp [*]; done)), H', ⟨Nat.le_refl _⟩, ⟨by (with_reducible repeat (first | apply Kd.bB | apply Kd.ax | apply Kd.bJ)); exact bz.out⟩, ⟨by (with_reducible repeat (first | apply Kd.bB | apply Kd.ax | apply Kd.bJ)); exact Kd.dB jE.out (fun _ hk => hk.1.1)⟩, ⟨by (with_reducible repeat (first | apply Kd.df | apply Kd.dX | apply Kd.fB)); exact HO607.out⟩, ⟨by (with_reducible repeat (first | refine ag ?_ _ | refine af ?_ | refine aW ?_ _)); exact ai.out⟩, ⟨by repeat (first | (with_reducible first | exact HB.out | apply aH | apply aG | apply aI | refine aJ ?_ cO.out) | exact HB.out)⟩⟩
          case round =>
            clear H'
            try clear p2
            try clear c3
            try clear lL
            try clear c3b1
            try clear c4
            try clear iB
            try clear ja
            try clear c5
            try clear c5b0
            try clear c5b1
            try clear c6
            try clear c6b0
            try clear c6b1
            try clear c7
            try clear p7
            try clear q7
            try clear hx7
            try clear qi7
            try clear hf7
            try clear gL
            try clear gK
            try clear gJ
            try clear gI
            try clear gH
            try clear gG
            try clear kJ
            try clear kI
            try clear kH
            try clear kG
            try clear kF
            try clear kE
            try clear gF
            try clear gD
            try clear gB
            try clear fu
            try clear fq
            try clear fo
            try clear kD
            try clear kC
            try clear jy
            try clear jw
            try clear jv
            try clear jr
            try clear hx7_0
            try clear p7
            try clear q7
            obtain ⟨x7_1, fC, ik, x10_1, rfl, HA, HK1, HO_7, HO_8, HO_9, ai, HB⟩ := hrel
            have iU := (Kd.bX HO_7.out).1
            rw [iU] at HO_7
            (try simp only [iU])
            (try simp only [iU] at ai)
            (try simp only [iU] at HO_8)
            (try simp only [iU] at HO_9)
            cases gk with
            | zero => exact absurd HA.out (by simp [au.l0])
            | succ k1 =>
              have H := HA.out
              clear HA
              simp only [au.l0] at H
              by_cases c23 : x10_1 < (fC.length : Int)
              · rw [if_pos c23] at H
                have c23b0 : decide (x10_1 < (fC.length : Int)) = true := decide_eq_true c23
                clear c23
                have H' := aC.mk H
                clear H
                obtain ⟨Ao24, co24, eo24⟩ := Kd.bu HO_8.out
                subst eo24
                go_wp2
                repeat (go_quiet (fail); try go_wp2)
                go_loopg [8, 9, 12] k1 (fun kq v8 v9 v12 w' => ∃ (dQ : List Bool) (x8_2 : List Int) (x9_2 : List (List Int)) (dU : Int), v12 = .int .i64 dU ∧ aC (au.l1 kq dQ x8_2 x9_2 (fC.length : Int) dU aX aY ae aT aM aU = some (r1, r2, r3)) ∧ aC (kq ≤ k1) ∧ aC (Kd.R Kd.bool 4 w' w.heap.size (fun k_ => (w.heap.size ≤ k_)) (.slice (some ⟨go7, 0, none⟩) x7_1.length co7) dQ) ∧ aC (Kd.R (Kd.int .i64) 3 w' w.heap.size (fun k_ => (w.heap.size ≤ k_)) v8 x8_2) ∧ aC (Kd.N (Kd.slice 3 (Kd.int .i64)) 22 w' w.heap.size (fun k_ => (w.heap.size ≤ k_) ∧ some k_ ≠ ((.slice (some ⟨go7, 0, none⟩) x7_1.length co7) : Value).ownBlock ∧ some k_ ≠ (v8 : Value).ownBlock ∧ k_ ≠ bM) v9 x9_2) ∧ aC (w'.heap[bM]? = some (.cells #[.int .i64 aX, .int .i64 aY, .int .i64 ae, .int .i64 aT, (.slice bH aM.length bC), (.slice bE aU.length bD)] 43 (0, 0))) ∧ aC (Below w.heap.size w w'))
                case atStart => exact ⟨(x7_1), (fC), (ik), (x10_1), (by first | rfl | (simp; done) | (simp [*]; done)), H', ⟨Nat.le_refl _⟩, ⟨by (try simp only [iU]); (with_reducible repeat (first | apply Kd.bB | apply Kd.ax | apply Kd.bJ)); exact HO_7.out⟩, ⟨by (try simp only [iU]); (with_reducible repeat (first | apply Kd.bB | apply Kd.ax | apply Kd.bJ)); exact HO_8.out⟩, ⟨by (try simp only [iU]); (with_reducible repeat (first | apply Kd.df | apply Kd.dX | apply Kd.fB)); exact HO_9.out⟩, ⟨by (try simp only [iU]); (with_reducible repeat (first | refine ag ?_ _ | refine af ?_ | refine aW ?_ _)); exact ai.out⟩, ⟨by repeat (first | (with_reducible first | exact HB.out | apply aH | apply aG | apply aI | refine aJ ?_ cO.out) | exact HB.out)⟩⟩
                case round =>
                  clear H'
                  try clear c2
                  try clear p2
                  try clear c3
                  try clear lL
                  try clear c3b1
                  try clear c4
                  try clear iB
                  try clear ja
                  try clear c5
                  try clear c5b0
                  try clear c5b1
                  try clear c6
                  try clear c6b0
                  try clear c6b1
                  try clear c7
                  try clear p7
                  try clear q7
                  try clear hx7
                  try clear qi7
                  try clear hf7
                  try clear c23
                  try clear c23b0
                  try clear gL
                  try clear gK
                  try clear gJ
                  try clear gI
                  try clear gH
                  try clear gG
                  try clear kJ
                  try clear kI
                  try clear kH
                  try clear kG
                  try clear kF
                  try clear kE
                  try clear gF
                  try clear gD
                  try clear gB
                  try clear fu
                  try clear fq
                  try clear fo
                  try clear kD
                  try clear kC
                  try clear jy
                  try clear jw
                  try clear jv
                  try clear jr
                  try clear hx7_0
                  try clear p2
                  try clear p7
                  try clear q7
                  obtain ⟨dQ, x8_2, x9_2, dU, rfl, HA, HK2, HO_7, HO_8, HO_9, ai, HB⟩ := hrel
                  have jC := (Kd.bX HO_7.out).1
                  rw [jC] at HO_7
                  (try simp only [jC])
                  (try simp only [jC] at ai)
                  (try simp only [jC] at HO_8)
                  (try simp only [jC] at HO_9)
                  cases gk with
                  | zero => exact absurd HA.out (by simp [au.l1])
                  | succ k2 =>
                    have H := HA.out
                    clear HA
                    simp only [au.l1] at H
                    by_cases c25 : dU < (fC.length : Int)
                    · rw [if_pos c25] at H
                      have jZ : decide (dU < (fC.length : Int)) = true := decide_eq_true c25
                      clear c25
                      have H' := aC.mk H
                      clear H
                      go_wp2
                      repeat (go_quiet (fail); try go_wp2)
                      go_loopg [8, 9, 13] k2 (fun kq v8 v9 v13 w' => ∃ (gm : List Bool) (jH : List Int) (dP : List (List Int)) (eB : Int), v13 = .int .i64 eB ∧ aC (au.l2 kq gm jH dP (fC.length : Int) dU eB aX aY ae aT aM aU = some (r1, r2, r3)) ∧ aC (kq ≤ k2) ∧ aC (Kd.R Kd.bool 4 w' w.heap.size (fun k_ => (w.heap.size ≤ k_)) (.slice (some ⟨go7, 0, none⟩) dQ.length co7) gm) ∧ aC (Kd.R (Kd.int .i64) 3 w' w.heap.size (fun k_ => (w.heap.size ≤ k_)) v8 jH) ∧ aC (Kd.N (Kd.slice 3 (Kd.int .i64)) 22 w' w.heap.size (fun k_ => (w.heap.size ≤ k_) ∧ some k_ ≠ ((.slice (some ⟨go7, 0, none⟩) dQ.length co7) : Value).ownBlock ∧ some k_ ≠ (v8 : Value).ownBlock ∧ k_ ≠ bM) v9 dP) ∧ aC (w'.heap[bM]? = some (.cells #[.int .i64 aX, .int .i64 aY, .int .i64 ae, .int .i64 aT, (.slice bH aM.length bC), (.slice bE aU.length bD)] 43 (0, 0))) ∧ aC (Below w.heap.size w w'))
                      case atStart => exact ⟨(dQ), (x8_2), (x9_2), (0), (by first | rfl | (simp; done) | (simp [*]; done)), H', ⟨Nat.le_refl _⟩, ⟨by (try simp only [iU]); (try simp only [jC]); (with_reducible repeat (first | apply Kd.bB | apply Kd.ax | apply Kd.bJ)); exact HO_7.out⟩, ⟨by (try simp only [iU]); (try simp only [jC]); (with_reducible repeat (first | apply Kd.bB | apply Kd.ax | apply Kd.bJ)); exact HO_8.out⟩, ⟨by (try simp only [iU]); (try simp only [jC]); (with_reducible repeat (first | apply Kd.df | apply Kd.dX | apply Kd.fB)); exact HO_9.out⟩, ⟨by (try simp only [iU]); (try simp only [jC]); (with_reducible repeat (first | refine ag ?_ _ | refine af ?_ | refine aW ?_ _)); exact ai.out⟩, ⟨by repeat (first | (with_reducible first | exact HB.out | apply aH | apply aG | apply aI | refine aJ ?_ cO.out) | exact HB.out)⟩⟩
                      case round =>
                        clear H'
                        try clear c2
                        try clear p2
                        try clear c3
                        try clear lL
                        try clear c3b1
                        try clear c4
                        try clear iB
                        try clear ja
                        try clear c5
                        try clear c5b0
                        try clear c5b1
                        try clear c6
                        try clear c6b0
                        try clear c6b1
                        try clear c7
                        try clear p7
                        try clear q7
                        try clear hx7
                        try clear qi7
                        try clear hf7
                        try clear c23
                        try clear c23b0
                        try clear c25
                        try clear jZ
                        try clear gL
                        try clear gK
                        try clear gJ
                        try clear gI
                        try clear gH
                        try clear gG
                        try clear kJ
                        try clear kI
                        try clear kH
                        try clear kG
                        try clear kF
                        try clear kE
                        try clear gF
                        try clear gD
                        try clear gB
                        try clear fu
                        try clear fq
                        try clear fo
                        try clear kD
                        try clear kC
                        try clear jy
                        try clear jw
                        try clear jv
                        try clear jr
                        try clear hx7_0
                        try clear p2
                        try clear p7
                        try clear q7
                        obtain ⟨gm, jH, dP, eB, rfl, HA, HK3, HO_7, HO_8, HO_9, ai, HB⟩ := hrel
                        have lS := (Kd.bX HO_7.out).1
                        rw [lS] at HO_7
                        (try simp only [lS])
                        (try simp only [lS] at ai)
                        (try simp only [lS] at HO_8)
                        (try simp only [lS] at HO_9)
                        cases gk with
                        | zero => exact absurd HA.out (by simp [au.l2])
                        | succ k3 =>
                          have H := HA.out
                          clear HA
                          simp only [au.l2] at H
                          by_cases c26 : eB < aY
                          · rw [if_pos c26] at H
                            have c26b0 : decide (eB < aY) = true := decide_eq_true c26
                            clear c26
                            by_cases c27 : 0 ≤ dU
                            · rw [if_pos c27] at H
                              have c27b0 : decide (0 ≤ dU) = true := decide_eq_true c27
                              clear c27
                              by_cases c28 : dU < (jH.length : Int)
                              · rw [if_pos c28] at H
                                have c28b0 : decide (dU < (jH.length : Int)) = true := decide_eq_true c28
                                clear c28
                                obtain ⟨cu, hji29⟩ : ∃ j_ : Int, (wrap64 ((wrap64 ((rd jH dU) * aY)) + eB)) = j_ := ⟨_, rfl⟩
                                replace H : (if 0 ≤ (cu) then (if (cu) < (aM.length : Int) then (if 0 ≤ (rd aM (cu)) then (if (rd aM (cu)) < (gm.length : Int) then (if (rdOf false gm (rd aM (cu)) = true) then (au.l2 k3 gm jH dP (fC.length : Int) dU (wrap64 (eB + 1)) aX aY ae aT aM aU) else (if jH.length < 17592186044416 then (if dU < (dP.length : Int) then ((dS.f (jX dP dU) (([eB] : List Int))).bind fun t619 => (if dP.length < 5864062014805 then (au.l2 k3 (gm.set ((rd aM (cu)) : Int).toNat true) (jH ++ [rd aM (cu)]) (dP ++ [t619]) (fC.length : Int) dU (wrap64 (eB + 1)) aX aY ae aT aM aU) else (none))) else (none)) else (none))) else (none)) else (none)) else (none)) else (none)) = some (r1, r2, r3) := by first | (rw [hji29] at H; exact H) | (simp only [hji29] at H ⊢; exact H)
                                have hji29w : (IntKind.i64.wrap ((wrap64 ((rd jH dU) * aY)) + eB)) = cu := (bT _).trans hji29
                                by_cases c30 : 0 ≤ (cu)
                                · rw [if_pos c30] at H
                                  have c30b0 : decide (0 ≤ (cu)) = true := decide_eq_true c30
                                  clear c30
                                  by_cases c31 : (cu) < (aM.length : Int)
                                  · rw [if_pos c31] at H
                                    have c31b0 : decide ((cu) < (aM.length : Int)) = true := decide_eq_true c31
                                    clear c31
                                    by_cases c32 : 0 ≤ (rd aM (cu))
                                    · rw [if_pos c32] at H
                                      have c32b0 : decide (0 ≤ (rd aM (cu))) = true := decide_eq_true c32
                                      clear c32
                                      by_cases c33 : (rd aM (cu)) < (gm.length : Int)
                                      · rw [if_pos c33] at H
                                        have c33b0 : decide ((rd aM (cu)) < (gm.length : Int)) = true := decide_eq_true c33
                                        clear c33
                                        obtain ⟨bq34, hbq34⟩ : ∃ b_ : Bool, b_ = (rdOf false gm (rd aM (cu))) := ⟨_, rfl⟩
                                        replace H : (if (bq34 = true) then (au.l2 k3 gm jH dP (fC.length : Int) dU (wrap64 (eB + 1)) aX aY ae aT aM aU) else (if jH.length < 17592186044416 then (if dU < (dP.length : Int) then ((dS.f (jX dP dU) (([eB] : List Int))).bind fun t619 => (if dP.length < 5864062014805 then (au.l2 k3 (gm.set ((rd aM (cu)) : Int).toNat true) (jH ++ [rd aM (cu)]) (dP ++ [t619]) (fC.length : Int) dU (wrap64 (eB + 1)) aX aY ae aT aM aU) else (none))) else (none)) else (none))) = some (r1, r2, r3) := by rw [← hbq34] at H; exact H
                                        have Nbq34 := aC.mk hbq34
                                        clear hbq34
                                        by_cases c35 : (bq34 = true)
                                        · subst c35
                                          have H1 : (au.l2 k3 gm jH dP (fC.length : Int) dU (wrap64 (eB + 1)) aX aY ae aT aM aU) = some (r1, r2, r3) := by rw [if_pos rfl] at H; exact H
                                          clear H
                                          have H := H1
                                          clear H1
                                          have H' := aC.mk H
                                          clear H
                                          have hcz36_0 : wr.cell? ⟨bM, 0, none⟩ = some (.int .i64 aX) := (aD ai.out 0).trans rfl
                                          have hcz36_1 : wr.cell? ⟨bM, 1, none⟩ = some (.int .i64 aY) := (aD ai.out 1).trans rfl
                                          have hcz36_2 : wr.cell? ⟨bM, 2, none⟩ = some (.int .i64 ae) := (aD ai.out 2).trans rfl
                                          have hcz36_3 : wr.cell? ⟨bM, 3, none⟩ = some (.int .i64 aT) := (aD ai.out 3).trans rfl
                                          have hcz36_4 : wr.cell? ⟨bM, 4, none⟩ = some (.slice bH aM.length bC) := (aD ai.out 4).trans rfl
                                          have hcz36_5 : wr.cell? ⟨bM, 5, none⟩ = some (.slice bE aU.length bD) := (aD ai.out 5).trans rfl
                                          have hfz36_0 := aA ai.out 0
                                          have hfz36_1 := aA ai.out 1
                                          have hfz36_2 := aA ai.out 2
                                          have hfz36_3 := aA ai.out 3
                                          have hfz36_4 := aA ai.out 4
                                          have hfz36_5 := aA ai.out 5
                                          obtain ⟨Ao37, co37, eo37⟩ := Kd.bu HO_8.out
                                          subst eo37
                                          have p608 : 0 ≤ (dU : Int) := of_decide_eq_true (by first | (with_reducible assumption) | assumption)
                                          have q608 : dU < (jH.length : Int) := of_decide_eq_true (by first | (with_reducible assumption) | assumption)
                                          obtain ⟨ad608, e608, hx608_0⟩ := Kd.cz (Kd.bX HO_8.out).2.2 dU p608 q608
                                          cases e608
                                          replace p608 := eq_true p608
                                          replace q608 := eq_true q608
                                          have p609 : 0 ≤ ((cu) : Int) := of_decide_eq_true (by first | (with_reducible assumption) | assumption)
                                          have q609 : (cu) < (aM.length : Int) := of_decide_eq_true (by first | (with_reducible assumption) | assumption)
                                          obtain ⟨l7, e609, hx609_0⟩ := Kd.cz dY.out (cu) p609 q609
                                          cases e609
                                          replace hx609_0 := (HB.out.cell (World.block_lt_of_cell? w _ hx609_0)).trans hx609_0
                                          replace p609 := eq_true p609
                                          replace q609 := eq_true q609
                                          have p610 : 0 ≤ ((rd aM (cu)) : Int) := of_decide_eq_true (by first | (with_reducible assumption) | assumption)
                                          have q610 : (rd aM (cu)) < (gm.length : Int) := of_decide_eq_true (by first | (with_reducible assumption) | assumption)
                                          obtain ⟨ad610, e610, hx610_0⟩ := Kd.at_bool (Kd.bX HO_7.out).2.2 (rd aM (cu)) p610 q610
                                          (try rw [← Nbq34.out] at hx610_0)
                                          obtain rfl : (⟨go7, 0, none⟩ : Addr) = ad610 := (by injection e610)
                                          (first | simp only [add_plain] at hx610_0 | simp only [add_at] at hx610_0 | simp only [Addr.add, Nat.zero_add] at hx610_0 | skip)
                                          replace p610 := eq_true p610
                                          replace q610 := eq_true q610
                                          go_wp2
                                          repeat (go_quiet (fail); try go_wp2)
                                          (try simp only [← lS])
                                          go_roundg k3
                                          case measure => have := HK1.out; have := HK2.out; have := HK3.out; omega
                                          case rel => exact ⟨(gm), (jH), (dP), (wrap64 (eB + 1)), (by first | rfl | (simp; done) | (simp [*]; done)), H', ⟨by have := HK1.out; have := HK2.out; have := HK3.out; omega⟩, ⟨by (try simp only [iU]); (try simp only [jC]); (try simp only [lS]); (with_reducible repeat (first | apply Kd.bB | apply Kd.ax | apply Kd.bJ)); exact HO_7.out⟩, ⟨by (try simp only [iU]); (try simp only [jC]); (try simp only [lS]); (with_reducible repeat (first | apply Kd.bB | apply Kd.ax | apply Kd.bJ)); exact HO_8.out⟩, ⟨by (try simp only [iU]); (try simp only [jC]); (try simp only [lS]); (with_reducible repeat (first | apply Kd.df | apply Kd.dX | apply Kd.fB)); exact HO_9.out⟩, ⟨by (try simp only [iU]); (try simp only [jC]); (try simp only [lS]); (with_reducible repeat (first | refine ag ?_ _ | refine af ?_ | refine aW ?_ _)); exact ai.out⟩, ⟨by repeat (first | (with_reducible first | exact HB.out | apply aH | apply aG | apply aI | refine aJ ?_ cO.out) | exact HB.out)⟩⟩
                                        · replace c35 := Bool.eq_false_iff.mpr c35
                                          subst c35
                                          have H1 : (if jH.length < 17592186044416 then (if dU < (dP.length : Int) then ((dS.f (jX dP dU) (([eB] : List Int))).bind fun t619 => (if dP.length < 5864062014805 then (au.l2 k3 (gm.set ((rd aM (cu)) : Int).toNat true) (jH ++ [rd aM (cu)]) (dP ++ [t619]) (fC.length : Int) dU (wrap64 (eB + 1)) aX aY ae aT aM aU) else (none))) else (none)) else (none)) = some (r1, r2, r3) := by rw [if_neg (show ¬ (false = true) by decide)] at H; exact H
                                          clear H
                                          have H := H1
                                          clear H1
                                          obtain ⟨y611, hy611⟩ : ∃ y_ : List Bool, y_ = (gm.set ((rd aM (cu)) : Int).toNat true) := ⟨_, rfl⟩
                                          replace H : (if jH.length < 17592186044416 then (if dU < (dP.length : Int) then ((dS.f (jX dP dU) (([eB] : List Int))).bind fun t619 => (if dP.length < 5864062014805 then (au.l2 k3 y611 (jH ++ [rd aM (cu)]) (dP ++ [t619]) (fC.length : Int) dU (wrap64 (eB + 1)) aX aY ae aT aM aU) else (none))) else (none)) else (none)) = some (r1, r2, r3) := by first | (rw [hy611]; with_reducible exact H) | (have H2_ := (Option.bind_some _ _).symm.trans H; rw [hy611]; with_reducible exact H2_) | (have H2_ := (Option.bind_some _ _).symm.trans H; with_reducible exact H2_) | with_reducible exact H | (rw [hy611]; exact H) | exact H
                                          have Ny611 := aC.mk hy611
                                          clear hy611
                                          by_cases c39 : jH.length < 17592186044416
                                          · rw [if_pos c39] at H
                                            have LMc39 := aC.mk c39
                                            clear c39
                                            obtain ⟨y612, hy612⟩ : ∃ y_ : List Int, y_ = (jH ++ [rd aM (cu)]) := ⟨_, rfl⟩
                                            replace H : (if dU < (dP.length : Int) then ((dS.f (jX dP dU) (([eB] : List Int))).bind fun t619 => (if dP.length < 5864062014805 then (au.l2 k3 y611 y612 (dP ++ [t619]) (fC.length : Int) dU (wrap64 (eB + 1)) aX aY ae aT aM aU) else (none))) else (none)) = some (r1, r2, r3) := by first | (rw [hy612]; with_reducible exact H) | (have H2_ := (Option.bind_some _ _).symm.trans H; rw [hy612]; with_reducible exact H2_) | (have H2_ := (Option.bind_some _ _).symm.trans H; with_reducible exact H2_) | with_reducible exact H | (rw [hy612]; exact H) | exact H
                                            have Ny612 := aC.mk hy612
                                            clear hy612
                                            by_cases c40 : dU < (dP.length : Int)
                                            · rw [if_pos c40] at H
                                              have c40b0 : decide (dU < (dP.length : Int)) = true := decide_eq_true c40
                                              clear c40
                                              obtain ⟨y616, hy616⟩ : ∃ y_ : List Int, y_ = (([eB] : List Int)) := ⟨_, rfl⟩
                                              replace H : ((dS.f (jX dP dU) y616).bind fun t619 => (if dP.length < 5864062014805 then (au.l2 k3 y611 y612 (dP ++ [t619]) (fC.length : Int) dU (wrap64 (eB + 1)) aX aY ae aT aM aU) else (none))) = some (r1, r2, r3) := by first | (rw [hy616]; with_reducible exact H) | (have H2_ := (Option.bind_some _ _).symm.trans H; rw [hy616]; with_reducible exact H2_) | (have H2_ := (Option.bind_some _ _).symm.trans H; with_reducible exact H2_) | with_reducible exact H | (rw [hy616]; exact H) | exact H
                                              have Ny616 := aC.mk hy616
                                              clear hy616
                                              replace H := Option.bind_eq_some_iff.mp H
                                              obtain ⟨t619, A410, H⟩ := H
                                              replace H : (if dP.length < 5864062014805 then (au.l2 k3 y611 y612 (dP ++ [t619]) (fC.length : Int) dU (wrap64 (eB + 1)) aX aY ae aT aM aU) else (none)) = some (r1, r2, r3) := H
                                              have A41 := aC.mk A410
                                              clear A410
                                              by_cases c42 : dP.length < 5864062014805
                                              · rw [if_pos c42] at H
                                                have LMc42 := aC.mk c42
                                                clear c42
                                                obtain ⟨y622, hy622⟩ : ∃ y_ : List (List Int), y_ = (dP ++ [t619]) := ⟨_, rfl⟩
                                                replace H : (au.l2 k3 y611 y612 y622 (fC.length : Int) dU (wrap64 (eB + 1)) aX aY ae aT aM aU) = some (r1, r2, r3) := by first | (rw [hy622]; with_reducible exact H) | (have H2_ := (Option.bind_some _ _).symm.trans H; rw [hy622]; with_reducible exact H2_) | (have H2_ := (Option.bind_some _ _).symm.trans H; with_reducible exact H2_) | with_reducible exact H | (rw [hy622]; exact H) | exact H
                                                have Ny622 := aC.mk hy622
                                                clear hy622
                                                have H' := aC.mk H
                                                clear H
                                                have hcz43_0 : wr.cell? ⟨bM, 0, none⟩ = some (.int .i64 aX) := (aD ai.out 0).trans rfl
                                                have hcz43_1 : wr.cell? ⟨bM, 1, none⟩ = some (.int .i64 aY) := (aD ai.out 1).trans rfl
                                                have hcz43_2 : wr.cell? ⟨bM, 2, none⟩ = some (.int .i64 ae) := (aD ai.out 2).trans rfl
                                                have hcz43_3 : wr.cell? ⟨bM, 3, none⟩ = some (.int .i64 aT) := (aD ai.out 3).trans rfl
                                                have hcz43_4 : wr.cell? ⟨bM, 4, none⟩ = some (.slice bH aM.length bC) := (aD ai.out 4).trans rfl
                                                have hcz43_5 : wr.cell? ⟨bM, 5, none⟩ = some (.slice bE aU.length bD) := (aD ai.out 5).trans rfl
                                                have hfz43_0 := aA ai.out 0
                                                have hfz43_1 := aA ai.out 1
                                                have hfz43_2 := aA ai.out 2
                                                have hfz43_3 := aA ai.out 3
                                                have hfz43_4 := aA ai.out 4
                                                have hfz43_5 := aA ai.out 5
                                                obtain ⟨Ao44, co44, eo44⟩ := Kd.bu HO_8.out
                                                subst eo44
                                                have p608 : 0 ≤ (dU : Int) := of_decide_eq_true (by first | (with_reducible assumption) | assumption)
                                                have q608 : dU < (jH.length : Int) := of_decide_eq_true (by first | (with_reducible assumption) | assumption)
                                                obtain ⟨ad608, e608, hx608_0⟩ := Kd.cz (Kd.bX HO_8.out).2.2 dU p608 q608
                                                cases e608
                                                replace p608 := eq_true p608
                                                replace q608 := eq_true q608
                                                have p609 : 0 ≤ ((cu) : Int) := of_decide_eq_true (by first | (with_reducible assumption) | assumption)
                                                have q609 : (cu) < (aM.length : Int) := of_decide_eq_true (by first | (with_reducible assumption) | assumption)
                                                obtain ⟨l7, e609, hx609_0⟩ := Kd.cz dY.out (cu) p609 q609
                                                cases e609
                                                replace hx609_0 := (HB.out.cell (World.block_lt_of_cell? w _ hx609_0)).trans hx609_0
                                                replace p609 := eq_true p609
                                                replace q609 := eq_true q609
                                                have p610 : 0 ≤ ((rd aM (cu)) : Int) := of_decide_eq_true (by first | (with_reducible assumption) | assumption)
                                                have q610 : (rd aM (cu)) < (gm.length : Int) := of_decide_eq_true (by first | (with_reducible assumption) | assumption)
                                                obtain ⟨ad610, e610, hx610_0⟩ := Kd.at_bool (Kd.bX HO_7.out).2.2 (rd aM (cu)) p610 q610
                                                (try rw [← Nbq34.out] at hx610_0)
                                                obtain rfl : (⟨go7, 0, none⟩ : Addr) = ad610 := (by injection e610)
                                                (first | simp only [add_plain] at hx610_0 | simp only [add_at] at hx610_0 | simp only [Addr.add, Nat.zero_add] at hx610_0 | skip)
                                                replace p610 := eq_true p610
                                                replace q610 := eq_true q610
                                                have p38 : 0 ≤ ((rd aM (cu)) : Int) := of_decide_eq_true (by first | (with_reducible assumption) | assumption)
                                                have q38 : ((rd aM (cu)) : Int) < ((gm.length : Int) : Int) := of_decide_eq_true (by first | (with_reducible assumption) | assumption)
                                                obtain ⟨hx38_0, hf38_0⟩ := Kd.fT false HO_7.out ((rd aM (cu)) : Int) p38 q38
                                                replace p38 := eq_true p38
                                                replace q38 := eq_true q38
                                                have HP45 := Kd.lM HO_7.out ((rd aM (cu)) : Int) true
                                                go_wp2_with (first | ((with_reducible refine dW (t := 4) (p := 69) rfl ?_); (try (rw [lK wr]; generalize hq_ : World.drewN wr _ = wr; have n0_ := aC.mk (Kd.R_at hq_ HO_7.out); have n1_ := aC.mk (Kd.R_at hq_ HO_8.out); have n2_ := aC.mk (Kd.N_at hq_ HO_9.out); have n3_ := aC.mk (blk_at hq_ ai.out); have n4_ := aC.mk (below_at hq_ HB.out); clear hq_ HO_7 HO_8 HO_9 ai HB; have HO_7 := n0_; have HO_8 := n1_; have HO_9 := n2_; have ai := n3_; have HB := n4_; clear n0_ n1_ n2_ n3_ n4_; (try (have HP45 := Kd.lM HO_7.out ((rd aM (cu)) : Int) true)); (try (obtain ⟨hzc_, hzf_⟩ := Kd.fT true HO_7.out ((rd aM (cu)) : Int) (by first | exact of_eq_true (by assumption) | exact of_decide_eq_true (by assumption)) (by first | exact of_eq_true (by assumption) | exact of_decide_eq_true (by assumption)))))); refine gz (t := 4) (p := 69) (v := ?vo_w46) (w1 := (wr.setCell ⟨go7, ((rd aM (cu)) : Int).toNat, none⟩ (.bool true))) ?hg ?ho ?hn ?hr ?_; (case ho => rfl); (case hg => rfl); (case hn => rfl); (case hr => first | (go_simp; done) | (go_simp; rfl)); intro w46 hw; have hg : wr.grownBy w46 (some go7) := (by rw [hw]; exact HP45.2); have hp_ : Kd.R Kd.bool 4 w46 w.heap.size (fun k_ => (w.heap.size ≤ k_)) (.slice (some ⟨go7, 0, none⟩) gm.length co7) y611 := (by rw [hw, Ny611.out]; exact HP45.1); clear HP45; have n0_ := aC.mk (hp_); have n1_ := aC.mk (Kd.jK (v := (.slice (some ⟨go7, 0, none⟩) gm.length co7)) (by (with_reducible repeat (first | apply Kd.bB | apply Kd.ax | apply Kd.bJ)); exact HO_8.out) (Kd.gN HO_7.out) (by decide) hg); have n2_ := aC.mk (Kd.N_afterv (v := (.slice (some ⟨go7, 0, none⟩) gm.length co7)) (v1 := (.slice (some ⟨go7, 0, none⟩) gm.length co7)) (ok := (fun k_ => (w.heap.size ≤ k_) ∧ some k_ ≠ (.slice (some ad608) jH.length co44 : Value).ownBlock ∧ k_ ≠ bM)) (by (with_reducible repeat (first | apply Kd.df | apply Kd.dX | apply Kd.fB)); exact Kd.kK HO_9.out (fun _ hk => ⟨⟨hk.1, ⟨hk.2.2.1, hk.2.2.2⟩⟩, hk.2.1⟩)) hg (.inl rfl)); have n3_ := aC.mk (cZ (g := bM) (o := .cells #[.int .i64 aX, .int .i64 aY, .int .i64 ae, .int .i64 aT, .slice (some l7) aM.length bC, .slice bE aU.length bD] 43 (0, 0)) (by (with_reducible repeat (first | refine ag ?_ _ | refine af ?_ | refine aW ?_ _)); exact ai.out) hg (Kd.jL HO_7.out ai.out (by decide))); have n4_ := aC.mk ((by rw [hw]; exact aJ (HB.out) GB7.out : Below w.heap.size w w46)); clear HO_7; clear HO_8; clear HO_9; clear ai; clear HB; have HO_7 := n0_; have HO_8 := n1_; have HO_9 := n2_; have ai := n3_; have HB := n4_; clear n0_ n1_ n2_ n3_ n4_; clear hg hw hp_) | ((with_reducible refine dF (b := .append) (xs := #[.tmp 70, .tmp 72]) rfl ?_); at_builtin; refine Kd.iP (Kd.int .i64) (w0 := w) w.heap.size rfl (.tmp 70) (.tmp 72) 22 3 (.int .i64 0) 8 rfl Try.underlying22 info3 rfl (by decide) (by omega) (.slice (some ad608) jH.length co44) jH (rd aM (cu)) [.int .i64 (rd aM (cu))] (fun k_ => (w.heap.size ≤ k_)) (fun _ => False) rfl rfl ?aP (fun _ hk => hk.elim) ?aF ?aO ?aB ?aS ?aL ?_; (case aP => exact rfl); (case aB => exact (by repeat (first | (with_reducible first | exact HB.out | apply aH | apply aG | apply aI | refine aJ ?_ cO.out) | exact HB.out))); (case aF => exact (fun k_ hk => (Nat.le_trans (aZ (by repeat (first | (with_reducible first | exact HB.out | apply aH | apply aG | apply aI | refine aJ ?_ cO.out) | exact HB.out))) hk))); (case aO => exact (by (with_reducible repeat (first | apply Kd.bB | apply Kd.ax | apply Kd.bJ)); exact HO_8.out)); (case aS => exact (aZ (by repeat (first | (with_reducible first | exact HB.out | apply aH | apply aG | apply aI | refine aJ ?_ cO.out) | exact HB.out)))); (case aL => have := LMc39.out; omega); intro v613 w47 ho hb hg hat; rw [← Ny612.out] at ho; have n0_ := aC.mk (Kd.jK (by (with_reducible repeat (first | apply Kd.bB | apply Kd.ax | apply Kd.bJ)); exact HO_7.out) (Kd.gN (by (with_reducible repeat (first | apply Kd.bB | apply Kd.ax | apply Kd.bJ)); exact HO_8.out)) (by decide) hg); have n1_ := aC.mk (Kd.N_afterv (ok := (fun k_ => (w.heap.size ≤ k_) ∧ some k_ ≠ (.slice (some ⟨go7, 0, none⟩) gm.length co7 : Value).ownBlock ∧ k_ ≠ bM)) (by (with_reducible repeat (first | apply Kd.df | apply Kd.dX | apply Kd.fB)); exact Kd.kK HO_9.out (fun _ hk => ⟨⟨hk.1.1, ⟨hk.2, hk.1.2.2⟩⟩, hk.1.2.1⟩)) hg hat); have n2_ := aC.mk (cZ (g := bM) (o := .cells #[.int .i64 aX, .int .i64 aY, .int .i64 ae, .int .i64 aT, .slice (some l7) aM.length bC, .slice bE aU.length bD] 43 (0, 0)) (by (with_reducible repeat (first | refine ag ?_ _ | refine af ?_ | refine aW ?_ _)); exact ai.out) hg (Kd.jL HO_8.out ai.out (by decide))); have n3_ := aC.mk (hb); have n4_ := aC.mk (ho); clear HO_7; clear HO_9; clear ai; clear HB; clear HO_8; have HO_7 := n0_; have HO_9 := n1_; have ai := n2_; have HB := n3_; have gP := n4_; clear n0_ n1_ n2_ n3_ n4_; clear ho hb hg hat; obtain ⟨Ao48, co48, eo48⟩ := Kd.N_slice HO_9.out; subst eo48; have p615 : 0 ≤ (dU : Int) := of_decide_eq_true (by first | (with_reducible assumption) | assumption); have q615 : dU < (dP.length : Int) := of_decide_eq_true (by first | (with_reducible assumption) | assumption); obtain ⟨ad615, A615_0, c615_0, e615, hx615_0, hl615_0, hi615_0⟩ := at_L1 (Kd.N_reads' HO_9.out).2.2 dU p615 q615; cases e615; obtain ⟨ce615, hce615, hMe615, hcc615⟩ := Kd.N_get HO_9.out [] dU p615 (by first | exact q615 | exact of_decide_eq_true (by first | (with_reducible assumption) | assumption) | (have e_ := (Kd.N_reads' HO_9.out).1; omega)); obtain ⟨ua615_0, uc615_0, rfl, lZ, l6⟩ := Kd.FK_slice_open hMe615; have jY := hcc615 0 _ rfl; rw [Nat.add_zero, show ((Kd.slice 3 (Kd.int .i64))).sz = 1 from rfl, Nat.mul_one] at jY; replace jY := Option.some.inj (jY.symm.trans hx615_0); injection jY with hva_ hvn_ hvc_; rw [hva_] at l6; rw [hvc_] at lZ; have eT := aC.mk (show Kd.V (Kd.int .i64) 3 _ w.heap.size _ _ (jX dP dU) from Kd.V_mk lZ l6); clear hva_ hvn_ hvc_ l6 lZ; clear hcc615 hce615; have dw := aC.mk hi615_0; have HC615_0 := aC.mk hl615_0; clear hi615_0 hl615_0; replace p615 := eq_true p615; replace q615 := eq_true q615) | ((with_reducible refine bK (N := 80) rfl ?_); refine Kd.R_lit (Kd.int .i64) _ 3 ?hg (N := 80) ?hd (xs := ([eB] : List Int)) (inner := [.int .i64 eB]) (ok := fun _ => True) (okp := fun _ => True) ?hr ?hp (fun _ hk => hk) trivial (Below.refl _ _) (Nat.le_refl _) (by simp) ?_; (case hd => rfl); (case hg => rfl); (case hr => first | (go_simp; done) | (go_simp; rfl)); (case hp => exact (Reps.one (show Kd.M (Kd.int .i64) _ _ _ eB [.int .i64 eB] from rfl) (Reps.none _ _))); intro v617 w49 ho50 hb hg_ hnew_; clear hg_ hnew_; (first | rw [← Ny616.out] at ho50 | (simp only [Int.reduceToNat] at ho50; rw [← Ny616.out] at ho50)); have n0_ := aC.mk (Kd.dz (by (with_reducible repeat (first | apply Kd.bB | apply Kd.ax | apply Kd.bJ)); exact HO_7.out) hb); have n1_ := aC.mk (Kd.N_elder' (by (with_reducible repeat (first | apply Kd.df | apply Kd.dX | apply Kd.fB)); exact HO_9.out) (Kd.gX ho50) hb); have n2_ := aC.mk (Kd.ic (by (with_reducible repeat (first | apply Kd.bB | apply Kd.ax | apply Kd.bJ)); exact gP.out) (Kd.gX ho50) hb); have n3_ := aC.mk (Kd.V_elder' (by (with_reducible repeat (first | apply Kd.V_alloc | apply Kd.V_drewN | apply Kd.V_drew)); exact eT.out) (Kd.gX ho50) hb); have n4_ := aC.mk (Kd.dn (Kd.l8 (Kd.jQ (M := fun k_ => (w.heap.size ≤ k_)) ho50 (aZ (by repeat (first | (with_reducible first | exact HB.out | apply aH | apply aG | apply aI | refine aJ ?_ cO.out) | exact HB.out))) (fun k_ h_ => h_)) (Kd.jD (by (with_reducible repeat (first | apply Kd.bB | apply Kd.ax | apply Kd.bJ)); exact gP.out))) (aZ (by repeat (first | (with_reducible first | exact HB.out | apply aH | apply aG | apply aI | refine aJ ?_ cO.out) | exact HB.out)))); have n5_ := aC.mk (av (g := bM) (o := .cells #[.int .i64 aX, .int .i64 aY, .int .i64 ae, .int .i64 aT, .slice (some l7) aM.length bC, .slice bE aU.length bD] 43 (0, 0)) (by (with_reducible repeat (first | refine ag ?_ _ | refine af ?_ | refine aW ?_ _)); exact ai.out) hb); have n6_ := aC.mk (Kd.ak (by repeat (first | (with_reducible exact dw.out) | (with_reducible refine Kd.bS ?_ _) | (with_reducible refine Kd.bR ?_ _) | (with_reducible refine Kd.bW ?_) | exact dw.out)) hb); have n7_ := aC.mk (ah (by repeat (first | (with_reducible first | exact HB.out | apply aH | apply aG | apply aI | refine aJ ?_ cO.out) | exact HB.out)) hb); clear HO_7; clear HO_9; clear gP; clear eT; clear ai; clear dw; clear HB; have HO_7 := n0_; have HO_9 := n1_; have gP := n2_; have eT := n3_; have gY := n4_; have ai := n5_; have dw := n6_; have HB := n7_; clear n0_ n1_ n2_ n3_ n4_ n5_ n6_ n7_; clear hb ho50; obtain ⟨Ao51, co51, eo51⟩ := Kd.bu gY.out; subst eo51) | (go_at_call 99; (with_reducible refine (dS.calls _ _ (jX dP dU) _ _ y616 t619 _ ?dD ?dC ?dJ ?dI A41.out).mono ?_); (case dD => repeat (first | exact (by repeat (first | (with_reducible exact dw.out) | (with_reducible refine Kd.bS ?_ _) | (with_reducible refine Kd.bR ?_ _) | (with_reducible refine Kd.bW ?_) | exact dw.out)) | (with_reducible refine Kd.bS ?_ _) | (with_reducible refine Kd.bR ?_ _) | (with_reducible refine Kd.bW ?_))); (case dC => exact HC615_0.out); (case dJ => repeat (first | exact (Kd.bX gY.out).2.2 | (with_reducible refine Kd.bS ?_ _) | (with_reducible refine Kd.bR ?_ _) | (with_reducible refine Kd.bW ?_))); (case dI => exact (Kd.bX gY.out).2.1); rintro e w52 ⟨v620, rfl, ho0, hb⟩; have n0_ := aC.mk (Kd.dz (by (with_reducible repeat (first | apply Kd.bB | apply Kd.ax | apply Kd.bJ)); exact HO_7.out) hb); have n1_ := aC.mk (Kd.N_elder' (by (with_reducible repeat (first | apply Kd.df | apply Kd.dX | apply Kd.fB)); exact HO_9.out) (Kd.gX ho0) hb); have n2_ := aC.mk (Kd.ic (by (with_reducible repeat (first | apply Kd.bB | apply Kd.ax | apply Kd.bJ)); exact gP.out) (Kd.gX ho0) hb); have n3_ := aC.mk (Kd.V_elder' (by (with_reducible repeat (first | apply Kd.V_alloc | apply Kd.V_drewN | apply Kd.V_drew)); exact eT.out) (Kd.gX ho0) hb); have n4_ := aC.mk (Kd.ic (by (with_reducible repeat (first | apply Kd.bB | apply Kd.ax | apply Kd.bJ)); exact gY.out) (Kd.gX ho0) hb); have n5_ := aC.mk (Kd.dn (Kd.l8 (Kd.l8 (Kd.jQ (M := fun k_ => (w.heap.size ≤ k_)) ho0 (aZ (by repeat (first | (with_reducible first | exact HB.out | apply aH | apply aG | apply aI | refine aJ ?_ cO.out) | exact HB.out))) (fun k_ h_ => h_)) (Kd.jD (by (with_reducible repeat (first | apply Kd.bB | apply Kd.ax | apply Kd.bJ)); exact gP.out))) (Kd.jD (by (with_reducible repeat (first | apply Kd.bB | apply Kd.ax | apply Kd.bJ)); exact gY.out))) (aZ (by repeat (first | (with_reducible first | exact HB.out | apply aH | apply aG | apply aI | refine aJ ?_ cO.out) | exact HB.out)))); have n6_ := aC.mk (av (g := bM) (o := .cells #[.int .i64 aX, .int .i64 aY, .int .i64 ae, .int .i64 aT, .slice (some l7) aM.length bC, .slice bE aU.length bD] 43 (0, 0)) (by (with_reducible repeat (first | refine ag ?_ _ | refine af ?_ | refine aW ?_ _)); exact ai.out) hb); have n7_ := aC.mk (Kd.ak (by repeat (first | (with_reducible exact dw.out) | (with_reducible refine Kd.bS ?_ _) | (with_reducible refine Kd.bR ?_ _) | (with_reducible refine Kd.bW ?_) | exact dw.out)) hb); have n8_ := aC.mk (ah (by repeat (first | (with_reducible first | exact HB.out | apply aH | apply aG | apply aI | refine aJ ?_ cO.out) | exact HB.out)) hb); clear HO_7; clear HO_9; clear gP; clear eT; clear gY; clear ai; clear dw; clear HB; have HO_7 := n0_; have HO_9 := n1_; have gP := n2_; have eT := n3_; have gY := n4_; have HO621 := n5_; have ai := n6_; have dw := n7_; have HB := n8_; clear n0_ n1_ n2_ n3_ n4_ n5_ n6_ n7_ n8_; (try clear hb); (try clear hb2); (try clear hk); (try clear hi); (try clear ho0); obtain ⟨Ao54, co54, eo54⟩ := Kd.bu HO621.out; subst eo54) | ((with_reducible refine dF (b := .append) (xs := #[.tmp 74, .tmp 82]) rfl ?_); at_builtin; refine Kd.N_append (Kd.slice 3 (Kd.int .i64)) (w0 := w) w.heap.size rfl (.tmp 74) (.tmp 82) 50 22 (.slice none 0 0) 24 rfl Try.underlying50 info22 rfl (by decide) (by omega) (.slice (some ad615) dP.length co48) dP t619 [.slice Ao54 t619.length co54] (fun k_ => (w.heap.size ≤ k_) ∧ some k_ ≠ (.slice (some ⟨go7, 0, none⟩) gm.length co7 : Value).ownBlock ∧ some k_ ≠ (v613 : Value).ownBlock ∧ some k_ ≠ (.slice Ao51 y616.length co51 : Value).ownBlock ∧ k_ ≠ bM) (fun k_ => ((fun k_ => (w.heap.size ≤ k_) ∧ some k_ ≠ (.slice (some ⟨go7, 0, none⟩) gm.length co7 : Value).ownBlock ∧ some k_ ≠ (v613 : Value).ownBlock ∧ some k_ ≠ (.slice Ao51 y616.length co51 : Value).ownBlock ∧ k_ ≠ bM)) k_ ∧ some k_ ≠ (.slice (some ad615) dP.length co48 : Value).ownBlock) rfl rfl ?aP (fun _ hk => hk) ?aF ?aO ?aB ?aS ?aL ?_; (case aP => exact (Kd.lU (Kd.bX (Kd.dB (ok' := (fun k_ => ((fun k_ => (w.heap.size ≤ k_) ∧ some k_ ≠ (.slice (some ⟨go7, 0, none⟩) gm.length co7 : Value).ownBlock ∧ some k_ ≠ (v613 : Value).ownBlock ∧ some k_ ≠ (.slice Ao51 y616.length co51 : Value).ownBlock ∧ k_ ≠ bM)) k_ ∧ some k_ ≠ (.slice (some ad615) dP.length co48 : Value).ownBlock)) (Kd.kg (Kd.gU (Kd.gU (HO621.out) (Kd.gN HO_7.out) (by decide)) (Kd.jM HO_9.out) (by decide)) ai.out (by decide)) (fun k_ hk => ⟨⟨hk.1.1.1.1.1.1, ⟨hk.1.1.2, ⟨hk.1.1.1.1.2, ⟨hk.1.1.1.2, hk.2⟩⟩⟩⟩, hk.1.2⟩))).2.1 (Kd.R_F (Kd.dB (ok' := (fun k_ => ((fun k_ => (w.heap.size ≤ k_) ∧ some k_ ≠ (.slice (some ⟨go7, 0, none⟩) gm.length co7 : Value).ownBlock ∧ some k_ ≠ (v613 : Value).ownBlock ∧ some k_ ≠ (.slice Ao51 y616.length co51 : Value).ownBlock ∧ k_ ≠ bM)) k_ ∧ some k_ ≠ (.slice (some ad615) dP.length co48 : Value).ownBlock)) (Kd.kg (Kd.gU (Kd.gU (HO621.out) (Kd.gN HO_7.out) (by decide)) (Kd.jM HO_9.out) (by decide)) ai.out (by decide)) (fun k_ hk => ⟨⟨hk.1.1.1.1.1.1, ⟨hk.1.1.2, ⟨hk.1.1.1.1.2, ⟨hk.1.1.1.2, hk.2⟩⟩⟩⟩, hk.1.2⟩))))); (case aB => exact (by repeat (first | (with_reducible first | exact HB.out | apply aH | apply aG | apply aI | refine aJ ?_ cO.out) | exact HB.out))); (case aF => exact (fun k_ hk => ⟨(Nat.le_trans (aZ (by repeat (first | (with_reducible first | exact HB.out | apply aH | apply aG | apply aI | refine aJ ?_ cO.out) | exact HB.out))) hk), Kd.fresh' (Kd.jD (by (with_reducible repeat (first | apply Kd.bB | apply Kd.ax | apply Kd.bJ)); exact HO_7.out)) k_ hk, Kd.fresh' (Kd.jD (by (with_reducible repeat (first | apply Kd.bB | apply Kd.ax | apply Kd.bJ)); exact gP.out)) k_ hk, Kd.fresh' (Kd.jD (by (with_reducible repeat (first | apply Kd.bB | apply Kd.ax | apply Kd.bJ)); exact gY.out)) k_ hk, Kd.freshB (g := bM) (o := .cells #[.int .i64 aX, .int .i64 aY, .int .i64 ae, .int .i64 aT, .slice (some l7) aM.length bC, .slice bE aU.length bD] 43 (0, 0)) (by (with_reducible repeat (first | refine ag ?_ _ | refine af ?_ | refine aW ?_ _)); exact ai.out) k_ hk⟩)); (case aO => exact (by (with_reducible repeat (first | apply Kd.df | apply Kd.dX | apply Kd.fB)); exact Kd.kK HO_9.out (fun _ hk => ⟨hk.1.1.1.1, ⟨hk.1.1.1.2.1, ⟨hk.1.1.2, ⟨hk.1.2, hk.1.1.1.2.2⟩⟩⟩⟩))); (case aS => exact (aZ (by repeat (first | (with_reducible first | exact HB.out | apply aH | apply aG | apply aI | refine aJ ?_ cO.out) | exact HB.out)))); (case aL => have := LMc42.out; omega); intro v623 w53 ho hb hg hat; rw [← Ny622.out] at ho; have n0_ := aC.mk (Kd.jK (by (with_reducible repeat (first | apply Kd.bB | apply Kd.ax | apply Kd.bJ)); exact HO_7.out) (Kd.jM (by (with_reducible repeat (first | apply Kd.df | apply Kd.dX | apply Kd.fB)); exact HO_9.out)) (by decide) hg); have n1_ := aC.mk (cZ (g := bM) (o := .cells #[.int .i64 aX, .int .i64 aY, .int .i64 ae, .int .i64 aT, .slice (some l7) aM.length bC, .slice bE aU.length bD] 43 (0, 0)) (by (with_reducible repeat (first | refine ag ?_ _ | refine af ?_ | refine aW ?_ _)); exact ai.out) hg (Kd.N_ne HO_9.out ai.out (by decide))); have n2_ := aC.mk (Kd.jK (by (with_reducible repeat (first | apply Kd.bB | apply Kd.ax | apply Kd.bJ)); exact gP.out) (Kd.jM (by (with_reducible repeat (first | apply Kd.df | apply Kd.dX | apply Kd.fB)); exact HO_9.out)) (by decide) hg); have n3_ := aC.mk (Kd.V_afterv (ok := (fun k_ => (w.heap.size ≤ k_) ∧ some k_ ≠ (.slice (some ⟨go7, 0, none⟩) gm.length co7 : Value).ownBlock ∧ some k_ ≠ (v613 : Value).ownBlock ∧ some k_ ≠ (.slice Ao51 y616.length co51 : Value).ownBlock ∧ some k_ ≠ (.slice Ao54 t619.length co54 : Value).ownBlock ∧ k_ ≠ bM)) (by (with_reducible repeat (first | apply Kd.V_alloc | apply Kd.V_drewN | apply Kd.V_drew)); exact Kd.V_mono eT.out (fun _ hk => ⟨⟨hk.1.1.1.1.1, ⟨hk.1.1.1.1.2.1, ⟨hk.1.1.1.2, ⟨hk.1.2, ⟨hk.2, hk.1.1.1.1.2.2⟩⟩⟩⟩⟩, hk.1.1.2⟩)) hg hat); have n4_ := aC.mk (Kd.jK (by (with_reducible repeat (first | apply Kd.bB | apply Kd.ax | apply Kd.bJ)); exact gY.out) (Kd.jM (by (with_reducible repeat (first | apply Kd.df | apply Kd.dX | apply Kd.fB)); exact HO_9.out)) (by decide) hg); have n5_ := aC.mk (hb); have n6_ := aC.mk (ho); clear HO_7; clear ai; clear gP; clear eT; clear gY; clear HB; clear HO_9; clear HO621; have HO_7 := n0_; have ai := n1_; have gP := n2_; have eT := n3_; have gY := n4_; have HB := n5_; have HO624 := n6_; clear n0_ n1_ n2_ n3_ n4_ n5_ n6_; clear ho hb hg hat))
                                                repeat (go_quiet (first | ((with_reducible refine dW (t := 4) (p := 69) rfl ?_); (try (rw [lK wr]; generalize hq_ : World.drewN wr _ = wr; have n0_ := aC.mk (Kd.R_at hq_ HO_7.out); have n1_ := aC.mk (Kd.R_at hq_ HO_8.out); have n2_ := aC.mk (Kd.N_at hq_ HO_9.out); have n3_ := aC.mk (blk_at hq_ ai.out); have n4_ := aC.mk (below_at hq_ HB.out); clear hq_ HO_7 HO_8 HO_9 ai HB; have HO_7 := n0_; have HO_8 := n1_; have HO_9 := n2_; have ai := n3_; have HB := n4_; clear n0_ n1_ n2_ n3_ n4_; (try (have HP45 := Kd.lM HO_7.out ((rd aM (cu)) : Int) true)); (try (obtain ⟨hzc_, hzf_⟩ := Kd.fT true HO_7.out ((rd aM (cu)) : Int) (by first | exact of_eq_true (by assumption) | exact of_decide_eq_true (by assumption)) (by first | exact of_eq_true (by assumption) | exact of_decide_eq_true (by assumption)))))); refine gz (t := 4) (p := 69) (v := ?vo_w46) (w1 := (wr.setCell ⟨go7, ((rd aM (cu)) : Int).toNat, none⟩ (.bool true))) ?hg ?ho ?hn ?hr ?_; (case ho => rfl); (case hg => rfl); (case hn => rfl); (case hr => first | (go_simp; done) | (go_simp; rfl)); intro w46 hw; have hg : wr.grownBy w46 (some go7) := (by rw [hw]; exact HP45.2); have hp_ : Kd.R Kd.bool 4 w46 w.heap.size (fun k_ => (w.heap.size ≤ k_)) (.slice (some ⟨go7, 0, none⟩) gm.length co7) y611 := (by rw [hw, Ny611.out]; exact HP45.1); clear HP45; have n0_ := aC.mk (hp_); have n1_ := aC.mk (Kd.jK (v := (.slice (some ⟨go7, 0, none⟩) gm.length co7)) (by (with_reducible repeat (first | apply Kd.bB | apply Kd.ax | apply Kd.bJ)); exact HO_8.out) (Kd.gN HO_7.out) (by decide) hg); have n2_ := aC.mk (Kd.N_afterv (v := (.slice (some ⟨go7, 0, none⟩) gm.length co7)) (v1 := (.slice (some ⟨go7, 0, none⟩) gm.length co7)) (ok := (fun k_ => (w.heap.size ≤ k_) ∧ some k_ ≠ (.slice (some ad608) jH.length co44 : Value).ownBlock ∧ k_ ≠ bM)) (by (with_reducible repeat (first | apply Kd.df | apply Kd.dX | apply Kd.fB)); exact Kd.kK HO_9.out (fun _ hk => ⟨⟨hk.1, ⟨hk.2.2.1, hk.2.2.2⟩⟩, hk.2.1⟩)) hg (.inl rfl)); have n3_ := aC.mk (cZ (g := bM) (o := .cells #[.int .i64 aX, .int .i64 aY, .int .i64 ae, .int .i64 aT, .slice (some l7) aM.length bC, .slice bE aU.length bD] 43 (0, 0)) (by (with_reducible repeat (first | refine ag ?_ _ | refine af ?_ | refine aW ?_ _)); exact ai.out) hg (Kd.jL HO_7.out ai.out (by decide))); have n4_ := aC.mk ((by rw [hw]; exact aJ (HB.out) GB7.out : Below w.heap.size w w46)); clear HO_7; clear HO_8; clear HO_9; clear ai; clear HB; have HO_7 := n0_; have HO_8 := n1_; have HO_9 := n2_; have ai := n3_; have HB := n4_; clear n0_ n1_ n2_ n3_ n4_; clear hg hw hp_) | ((with_reducible refine dF (b := .append) (xs := #[.tmp 70, .tmp 72]) rfl ?_); at_builtin; refine Kd.iP (Kd.int .i64) (w0 := w) w.heap.size rfl (.tmp 70) (.tmp 72) 22 3 (.int .i64 0) 8 rfl Try.underlying22 info3 rfl (by decide) (by omega) (.slice (some ad608) jH.length co44) jH (rd aM (cu)) [.int .i64 (rd aM (cu))] (fun k_ => (w.heap.size ≤ k_)) (fun _ => False) rfl rfl ?aP (fun _ hk => hk.elim) ?aF ?aO ?aB ?aS ?aL ?_; (case aP => exact rfl); (case aB => exact (by repeat (first | (with_reducible first | exact HB.out | apply aH | apply aG | apply aI | refine aJ ?_ cO.out) | exact HB.out))); (case aF => exact (fun k_ hk => (Nat.le_trans (aZ (by repeat (first | (with_reducible first | exact HB.out | apply aH | apply aG | apply aI | refine aJ ?_ cO.out) | exact HB.out))) hk))); (case aO => exact (by (with_reducible repeat (first | apply Kd.bB | apply Kd.ax | apply Kd.bJ)); exact HO_8.out)); (case aS => exact (aZ (by repeat (first | (with_reducible first | exact HB.out | apply aH | apply aG | apply aI | refine aJ ?_ cO.out) | exact HB.out)))); (case aL => have := LMc39.out; omega); intro v613 w47 ho hb hg hat; rw [← Ny612.out] at ho; have n0_ := aC.mk (Kd.jK (by (with_reducible repeat (first | apply Kd.bB | apply Kd.ax | apply Kd.bJ)); exact HO_7.out) (Kd.gN (by (with_reducible repeat (first | apply Kd.bB | apply Kd.ax | apply Kd.bJ)); exact HO_8.out)) (by decide) hg); have n1_ := aC.mk (Kd.N_afterv (ok := (fun k_ => (w.heap.size ≤ k_) ∧ some k_ ≠ (.slice (some ⟨go7, 0, none⟩) gm.length co7 : Value).ownBlock ∧ k_ ≠ bM)) (by (with_reducible repeat (first | apply Kd.df | apply Kd.dX | apply Kd.fB)); exact Kd.kK HO_9.out (fun _ hk => ⟨⟨hk.1.1, ⟨hk.2, hk.1.2.2⟩⟩, hk.1.2.1⟩)) hg hat); have n2_ := aC.mk (cZ (g := bM) (o := .cells #[.int .i64 aX, .int .i64 aY, .int .i64 ae, .int .i64 aT, .slice (some l7) aM.length bC, .slice bE aU.length bD] 43 (0, 0)) (by (with_reducible repeat (first | refine ag ?_ _ | refine af ?_ | refine aW ?_ _)); exact ai.out) hg (Kd.jL HO_8.out ai.out (by decide))); have n3_ := aC.mk (hb); have n4_ := aC.mk (ho); clear HO_7; clear HO_9; clear ai; clear HB; clear HO_8; have HO_7 := n0_; have HO_9 := n1_; have ai := n2_; have HB := n3_; have gP := n4_; clear n0_ n1_ n2_ n3_ n4_; clear ho hb hg hat; obtain ⟨Ao48, co48, eo48⟩ := Kd.N_slice HO_9.out; subst eo48; have p615 : 0 ≤ (dU : Int) := of_decide_eq_true (by first | (with_reducible assumption) | assumption); have q615 : dU < (dP.length : Int) := of_decide_eq_true (by first | (with_reducible assumption) | assumption); obtain ⟨ad615, A615_0, c615_0, e615, hx615_0, hl615_0, hi615_0⟩ := at_L1 (Kd.N_reads' HO_9.out).2.2 dU p615 q615; cases e615; obtain ⟨ce615, hce615, hMe615, hcc615⟩ := Kd.N_get HO_9.out [] dU p615 (by first | exact q615 | exact of_decide_eq_true (by first | (with_reducible assumption) | assumption) | (have e_ := (Kd.N_reads' HO_9.out).1; omega)); obtain ⟨ua615_0, uc615_0, rfl, lZ, l6⟩ := Kd.FK_slice_open hMe615; have jY := hcc615 0 _ rfl; rw [Nat.add_zero, show ((Kd.slice 3 (Kd.int .i64))).sz = 1 from rfl, Nat.mul_one] at jY; replace jY := Option.some.inj (jY.symm.trans hx615_0); injection jY with hva_ hvn_ hvc_; rw [hva_] at l6; rw [hvc_] at lZ; have eT := aC.mk (show Kd.V (Kd.int .i64) 3 _ w.heap.size _ _ (jX dP dU) from Kd.V_mk lZ l6); clear hva_ hvn_ hvc_ l6 lZ; clear hcc615 hce615; have dw := aC.mk hi615_0; have HC615_0 := aC.mk hl615_0; clear hi615_0 hl615_0; replace p615 := eq_true p615; replace q615 := eq_true q615) | ((with_reducible refine bK (N := 80) rfl ?_); refine Kd.R_lit (Kd.int .i64) _ 3 ?hg (N := 80) ?hd (xs := ([eB] : List Int)) (inner := [.int .i64 eB]) (ok := fun _ => True) (okp := fun _ => True) ?hr ?hp (fun _ hk => hk) trivial (Below.refl _ _) (Nat.le_refl _) (by simp) ?_; (case hd => rfl); (case hg => rfl); (case hr => first | (go_simp; done) | (go_simp; rfl)); (case hp => exact (Reps.one (show Kd.M (Kd.int .i64) _ _ _ eB [.int .i64 eB] from rfl) (Reps.none _ _))); intro v617 w49 ho50 hb hg_ hnew_; clear hg_ hnew_; (first | rw [← Ny616.out] at ho50 | (simp only [Int.reduceToNat] at ho50; rw [← Ny616.out] at ho50)); have n0_ := aC.mk (Kd.dz (by (with_reducible repeat (first | apply Kd.bB | apply Kd.ax | apply Kd.bJ)); exact HO_7.out) hb); have n1_ := aC.mk (Kd.N_elder' (by (with_reducible repeat (first | apply Kd.df | apply Kd.dX | apply Kd.fB)); exact HO_9.out) (Kd.gX ho50) hb); have n2_ := aC.mk (Kd.ic (by (with_reducible repeat (first | apply Kd.bB | apply Kd.ax | apply Kd.bJ)); exact gP.out) (Kd.gX ho50) hb); have n3_ := aC.mk (Kd.V_elder' (by (with_reducible repeat (first | apply Kd.V_alloc | apply Kd.V_drewN | apply Kd.V_drew)); exact eT.out) (Kd.gX ho50) hb); have n4_ := aC.mk (Kd.dn (Kd.l8 (Kd.jQ (M := fun k_ => (w.heap.size ≤ k_)) ho50 (aZ (by repeat (first | (with_reducible first | exact HB.out | apply aH | apply aG | apply aI | refine aJ ?_ cO.out) | exact HB.out))) (fun k_ h_ => h_)) (Kd.jD (by (with_reducible repeat (first | apply Kd.bB | apply Kd.ax | apply Kd.bJ)); exact gP.out))) (aZ (by repeat (first | (with_reducible first | exact HB.out | apply aH | apply aG | apply aI | refine aJ ?_ cO.out) | exact HB.out)))); have n5_ := aC.mk (av (g := bM) (o := .cells #[.int .i64 aX, .int .i64 aY, .int .i64 ae, .int .i64 aT, .slice (some l7) aM.length bC, .slice bE aU.length bD] 43 (0, 0)) (by (with_reducible repeat (first | refine ag ?_ _ | refine af ?_ | refine aW ?_ _)); exact ai.out) hb); have n6_ := aC.mk (Kd.ak (by repeat (first | (with_reducible exact dw.out) | (with_reducible refine Kd.bS ?_ _) | (with_reducible refine Kd.bR ?_ _) | (with_reducible refine Kd.bW ?_) | exact dw.out)) hb); have n7_ := aC.mk (ah (by repeat (first | (with_reducible first | exact HB.out | apply aH | apply aG | apply aI | refine aJ ?_ cO.out) | exact HB.out)) hb); clear HO_7; clear HO_9; clear gP; clear eT; clear ai; clear dw; clear HB; have HO_7 := n0_; have HO_9 := n1_; have gP := n2_; have eT := n3_; have gY := n4_; have ai := n5_; have dw := n6_; have HB := n7_; clear n0_ n1_ n2_ n3_ n4_ n5_ n6_ n7_; clear hb ho50; obtain ⟨Ao51, co51, eo51⟩ := Kd.bu gY.out; subst eo51) | (go_at_call 99; (with_reducible refine (dS.calls _ _ (jX dP dU) _ _ y616 t619 _ ?dD ?dC ?dJ ?dI A41.out).mono ?_); (case dD => repeat (first | exact (by repeat (first | (with_reducible exact dw.out) | (with_reducible refine Kd.bS ?_ _) | (with_reducible refine Kd.bR ?_ _) | (with_reducible refine Kd.bW ?_) | exact dw.out)) | (with_reducible refine Kd.bS ?_ _) | (with_reducible refine Kd.bR ?_ _) | (with_reducible refine Kd.bW ?_))); (case dC => exact HC615_0.out); (case dJ => repeat (first | exact (Kd.bX gY.out).2.2 | (with_reducible refine Kd.bS ?_ _) | (with_reducible refine Kd.bR ?_ _) | (with_reducible refine Kd.bW ?_))); (case dI => exact (Kd.bX gY.out).2.1); rintro e w52 ⟨v620, rfl, ho0, hb⟩; have n0_ := aC.mk (Kd.dz (by (with_reducible repeat (first | apply Kd.bB | apply Kd.ax | apply Kd.bJ)); exact HO_7.out) hb); have n1_ := aC.mk (Kd.N_elder' (by (with_reducible repeat (first | apply Kd.df | apply Kd.dX | apply Kd.fB)); exact HO_9.out) (Kd.gX ho0) hb); have n2_ := aC.mk (Kd.ic (by (with_reducible repeat (first | apply Kd.bB | apply Kd.ax | apply Kd.bJ)); exact gP.out) (Kd.gX ho0) hb); have n3_ := aC.mk (Kd.V_elder' (by (with_reducible repeat (first | apply Kd.V_alloc | apply Kd.V_drewN | apply Kd.V_drew)); exact eT.out) (Kd.gX ho0) hb); have n4_ := aC.mk (Kd.ic (by (with_reducible repeat (first | apply Kd.bB | apply Kd.ax | apply Kd.bJ)); exact gY.out) (Kd.gX ho0) hb); have n5_ := aC.mk (Kd.dn (Kd.l8 (Kd.l8 (Kd.jQ (M := fun k_ => (w.heap.size ≤ k_)) ho0 (aZ (by repeat (first | (with_reducible first | exact HB.out | apply aH | apply aG | apply aI | refine aJ ?_ cO.out) | exact HB.out))) (fun k_ h_ => h_)) (Kd.jD (by (with_reducible repeat (first | apply Kd.bB | apply Kd.ax | apply Kd.bJ)); exact gP.out))) (Kd.jD (by (with_reducible repeat (first | apply Kd.bB | apply Kd.ax | apply Kd.bJ)); exact gY.out))) (aZ (by repeat (first | (with_reducible first | exact HB.out | apply aH | apply aG | apply aI | refine aJ ?_ cO.out) | exact HB.out)))); have n6_ := aC.mk (av (g := bM) (o := .cells #[.int .i64 aX, .int .i64 aY, .int .i64 ae, .int .i64 aT, .slice (some l7) aM.length bC, .slice bE aU.length bD] 43 (0, 0)) (by (with_reducible repeat (first | refine ag ?_ _ | refine af ?_ | refine aW ?_ _)); exact ai.out) hb); have n7_ := aC.mk (Kd.ak (by repeat (first | (with_reducible exact dw.out) | (with_reducible refine Kd.bS ?_ _) | (with_reducible refine Kd.bR ?_ _) | (with_reducible refine Kd.bW ?_) | exact dw.out)) hb); have n8_ := aC.mk (ah (by repeat (first | (with_reducible first | exact HB.out | apply aH | apply aG | apply aI | refine aJ ?_ cO.out) | exact HB.out)) hb); clear HO_7; clear HO_9; clear gP; clear eT; clear gY; clear ai; clear dw; clear HB; have HO_7 := n0_; have HO_9 := n1_; have gP := n2_; have eT := n3_; have gY := n4_; have HO621 := n5_; have ai := n6_; have dw := n7_; have HB := n8_; clear n0_ n1_ n2_ n3_ n4_ n5_ n6_ n7_ n8_; (try clear hb); (try clear hb2); (try clear hk); (try clear hi); (try clear ho0); obtain ⟨Ao54, co54, eo54⟩ := Kd.bu HO621.out; subst eo54) | ((with_reducible refine dF (b := .append) (xs := #[.tmp 74, .tmp 82]) rfl ?_); at_builtin; refine Kd.N_append (Kd.slice 3 (Kd.int .i64)) (w0 := w) w.heap.size rfl (.tmp 74) (.tmp 82) 50 22 (.slice none 0 0) 24 rfl Try.underlying50 info22 rfl (by decide) (by omega) (.slice (some ad615) dP.length co48) dP t619 [.slice Ao54 t619.length co54] (fun k_ => (w.heap.size ≤ k_) ∧ some k_ ≠ (.slice (some ⟨go7, 0, none⟩) gm.length co7 : Value).ownBlock ∧ some k_ ≠ (v613 : Value).ownBlock ∧ some k_ ≠ (.slice Ao51 y616.length co51 : Value).ownBlock ∧ k_ ≠ bM) (fun k_ => ((fun k_ => (w.heap.size ≤ k_) ∧ some k_ ≠ (.slice (some ⟨go7, 0, none⟩) gm.length co7 : Value).ownBlock ∧ some k_ ≠ (v613 : Value).ownBlock ∧ some k_ ≠ (.slice Ao51 y616.length co51 : Value).ownBlock ∧ k_ ≠ bM)) k_ ∧ some k_ ≠ (.slice (some ad615) dP.length co48 : Value).ownBlock) rfl rfl ?aP (fun _ hk => hk) ?aF ?aO ?aB ?aS ?aL ?_; (case aP => exact (Kd.lU (Kd.bX (Kd.dB (ok' := (fun k_ => ((fun k_ => (w.heap.size ≤ k_) ∧ some k_ ≠ (.slice (some ⟨go7, 0, none⟩) gm.length co7 : Value).ownBlock ∧ some k_ ≠ (v613 : Value).ownBlock ∧ some k_ ≠ (.slice Ao51 y616.length co51 : Value).ownBlock ∧ k_ ≠ bM)) k_ ∧ some k_ ≠ (.slice (some ad615) dP.length co48 : Value).ownBlock)) (Kd.kg (Kd.gU (Kd.gU (HO621.out) (Kd.gN HO_7.out) (by decide)) (Kd.jM HO_9.out) (by decide)) ai.out (by decide)) (fun k_ hk => ⟨⟨hk.1.1.1.1.1.1, ⟨hk.1.1.2, ⟨hk.1.1.1.1.2, ⟨hk.1.1.1.2, hk.2⟩⟩⟩⟩, hk.1.2⟩))).2.1 (Kd.R_F (Kd.dB (ok' := (fun k_ => ((fun k_ => (w.heap.size ≤ k_) ∧ some k_ ≠ (.slice (some ⟨go7, 0, none⟩) gm.length co7 : Value).ownBlock ∧ some k_ ≠ (v613 : Value).ownBlock ∧ some k_ ≠ (.slice Ao51 y616.length co51 : Value).ownBlock ∧ k_ ≠ bM)) k_ ∧ some k_ ≠ (.slice (some ad615) dP.length co48 : Value).ownBlock)) (Kd.kg (Kd.gU (Kd.gU (HO621.out) (Kd.gN HO_7.out) (by decide)) (Kd.jM HO_9.out) (by decide)) ai.out (by decide)) (fun k_ hk => ⟨⟨hk.1.1.1.1.1.1, ⟨hk.1.1.2, ⟨hk.1.1.1.1.2, ⟨hk.1.1.1.2, hk.2⟩⟩⟩⟩, hk.1.2⟩))))); (case aB => exact (by repeat (first | (with_reducible first | exact HB.out | apply aH | apply aG | apply aI | refine aJ ?_ cO.out) | exact HB.out))); (case aF => exact (fun k_ hk => ⟨(Nat.le_trans (aZ (by repeat (first | (with_reducible first | exact HB.out | apply aH | apply aG | apply aI | refine aJ ?_ cO.out) | exact HB.out))) hk), Kd.fresh' (Kd.jD (by (with_reducible repeat (first | apply Kd.bB | apply Kd.ax | apply Kd.bJ)); exact HO_7.out)) k_ hk, Kd.fresh' (Kd.jD (by (with_reducible repeat (first | apply Kd.bB | apply Kd.ax | apply Kd.bJ)); exact gP.out)) k_ hk, Kd.fresh' (Kd.jD (by (with_reducible repeat (first | apply Kd.bB | apply Kd.ax | apply Kd.bJ)); exact gY.out)) k_ hk, Kd.freshB (g := bM) (o := .cells #[.int .i64 aX, .int .i64 aY, .int .i64 ae, .int .i64 aT, .slice (some l7) aM.length bC, .slice bE aU.length bD] 43 (0, 0)) (by (with_reducible repeat (first | refine ag ?_ _ | refine af ?_ | refine aW ?_ _)); exact ai.out) k_ hk⟩)); (case aO => exact (by (with_reducible repeat (first | apply Kd.df | apply Kd.dX | apply Kd.fB)); exact Kd.kK HO_9.out (fun _ hk => ⟨hk.1.1.1.1, ⟨hk.1.1.1.2.1, ⟨hk.1.1.2, ⟨hk.1.2, hk.1.1.1.2.2⟩⟩⟩⟩))); (case aS => exact (aZ (by repeat (first | (with_reducible first | exact HB.out | apply aH | apply aG | apply aI | refine aJ ?_ cO.out) | exact HB.out)))); (case aL => have := LMc42.out; omega); intro v623 w53 ho hb hg hat; rw [← Ny622.out] at ho; have n0_ := aC.mk (Kd.jK (by (with_reducible repeat (first | apply Kd.bB | apply Kd.ax | apply Kd.bJ)); exact HO_7.out) (Kd.jM (by (with_reducible repeat (first | apply Kd.df | apply Kd.dX | apply Kd.fB)); exact HO_9.out)) (by decide) hg); have n1_ := aC.mk (cZ (g := bM) (o := .cells #[.int .i64 aX, .int .i64 aY, .int .i64 ae, .int .i64 aT, .slice (some l7) aM.length bC, .slice bE aU.length bD] 43 (0, 0)) (by (with_reducible repeat (first | refine ag ?_ _ | refine af ?_ | refine aW ?_ _)); exact ai.out) hg (Kd.N_ne HO_9.out ai.out (by decide))); have n2_ := aC.mk (Kd.jK (by (with_reducible repeat (first | apply Kd.bB | apply Kd.ax | apply Kd.bJ)); exact gP.out) (Kd.jM (by (with_reducible repeat (first | apply Kd.df | apply Kd.dX | apply Kd.fB)); exact HO_9.out)) (by decide) hg); have n3_ := aC.mk (Kd.V_afterv (ok := (fun k_ => (w.heap.size ≤ k_) ∧ some k_ ≠ (.slice (some ⟨go7, 0, none⟩) gm.length co7 : Value).ownBlock ∧ some k_ ≠ (v613 : Value).ownBlock ∧ some k_ ≠ (.slice Ao51 y616.length co51 : Value).ownBlock ∧ some k_ ≠ (.slice Ao54 t619.length co54 : Value).ownBlock ∧ k_ ≠ bM)) (by (with_reducible repeat (first | apply Kd.V_alloc | apply Kd.V_drewN | apply Kd.V_drew)); exact Kd.V_mono eT.out (fun _ hk => ⟨⟨hk.1.1.1.1.1, ⟨hk.1.1.1.1.2.1, ⟨hk.1.1.1.2, ⟨hk.1.2, ⟨hk.2, hk.1.1.1.1.2.2⟩⟩⟩⟩⟩, hk.1.1.2⟩)) hg hat); have n4_ := aC.mk (Kd.jK (by (with_reducible repeat (first | apply Kd.bB | apply Kd.ax | apply Kd.bJ)); exact gY.out) (Kd.jM (by (with_reducible repeat (first | apply Kd.df | apply Kd.dX | apply Kd.fB)); exact HO_9.out)) (by decide) hg); have n5_ := aC.mk (hb); have n6_ := aC.mk (ho); clear HO_7; clear ai; clear gP; clear eT; clear gY; clear HB; clear HO_9; clear HO621; have HO_7 := n0_; have ai := n1_; have gP := n2_; have eT := n3_; have gY := n4_; have HB := n5_; have HO624 := n6_; clear n0_ n1_ n2_ n3_ n4_ n5_ n6_; clear ho hb hg hat)); try go_wp2_with (first | ((with_reducible refine dW (t := 4) (p := 69) rfl ?_); (try (rw [lK wr]; generalize hq_ : World.drewN wr _ = wr; have n0_ := aC.mk (Kd.R_at hq_ HO_7.out); have n1_ := aC.mk (Kd.R_at hq_ HO_8.out); have n2_ := aC.mk (Kd.N_at hq_ HO_9.out); have n3_ := aC.mk (blk_at hq_ ai.out); have n4_ := aC.mk (below_at hq_ HB.out); clear hq_ HO_7 HO_8 HO_9 ai HB; have HO_7 := n0_; have HO_8 := n1_; have HO_9 := n2_; have ai := n3_; have HB := n4_; clear n0_ n1_ n2_ n3_ n4_; (try (have HP45 := Kd.lM HO_7.out ((rd aM (cu)) : Int) true)); (try (obtain ⟨hzc_, hzf_⟩ := Kd.fT true HO_7.out ((rd aM (cu)) : Int) (by first | exact of_eq_true (by assumption) | exact of_decide_eq_true (by assumption)) (by first | exact of_eq_true (by assumption) | exact of_decide_eq_true (by assumption)))))); refine gz (t := 4) (p := 69) (v := ?vo_w46) (w1 := (wr.setCell ⟨go7, ((rd aM (cu)) : Int).toNat, none⟩ (.bool true))) ?hg ?ho ?hn ?hr ?_; (case ho => rfl); (case hg => rfl); (case hn => rfl); (case hr => first | (go_simp; done) | (go_simp; rfl)); intro w46 hw; have hg : wr.grownBy w46 (some go7) := (by rw [hw]; exact HP45.2); have hp_ : Kd.R Kd.bool 4 w46 w.heap.size (fun k_ => (w.heap.size ≤ k_)) (.slice (some ⟨go7, 0, none⟩) gm.length co7) y611 := (by rw [hw, Ny611.out]; exact HP45.1); clear HP45; have n0_ := aC.mk (hp_); have n1_ := aC.mk (Kd.jK (v := (.slice (some ⟨go7, 0, none⟩) gm.length co7)) (by (with_reducible repeat (first | apply Kd.bB | apply Kd.ax | apply Kd.bJ)); exact HO_8.out) (Kd.gN HO_7.out) (by decide) hg); have n2_ := aC.mk (Kd.N_afterv (v := (.slice (some ⟨go7, 0, none⟩) gm.length co7)) (v1 := (.slice (some ⟨go7, 0, none⟩) gm.length co7)) (ok := (fun k_ => (w.heap.size ≤ k_) ∧ some k_ ≠ (.slice (some ad608) jH.length co44 : Value).ownBlock ∧ k_ ≠ bM)) (by (with_reducible repeat (first | apply Kd.df | apply Kd.dX | apply Kd.fB)); exact Kd.kK HO_9.out (fun _ hk => ⟨⟨hk.1, ⟨hk.2.2.1, hk.2.2.2⟩⟩, hk.2.1⟩)) hg (.inl rfl)); have n3_ := aC.mk (cZ (g := bM) (o := .cells #[.int .i64 aX, .int .i64 aY, .int .i64 ae, .int .i64 aT, .slice (some l7) aM.length bC, .slice bE aU.length bD] 43 (0, 0)) (by (with_reducible repeat (first | refine ag ?_ _ | refine af ?_ | refine aW ?_ _)); exact ai.out) hg (Kd.jL HO_7.out ai.out (by decide))); have n4_ := aC.mk ((by rw [hw]; exact aJ (HB.out) GB7.out : Below w.heap.size w w46)); clear HO_7; clear HO_8; clear HO_9; clear ai; clear HB; have HO_7 := n0_; have HO_8 := n1_; have HO_9 := n2_; have ai := n3_; have HB := n4_; clear n0_ n1_ n2_ n3_ n4_; clear hg hw hp_) | ((with_reducible refine dF (b := .append) (xs := #[.tmp 70, .tmp 72]) rfl ?_); at_builtin; refine Kd.iP (Kd.int .i64) (w0 := w) w.heap.size rfl (.tmp 70) (.tmp 72) 22 3 (.int .i64 0) 8 rfl Try.underlying22 info3 rfl (by decide) (by omega) (.slice (some ad608) jH.length co44) jH (rd aM (cu)) [.int .i64 (rd aM (cu))] (fun k_ => (w.heap.size ≤ k_)) (fun _ => False) rfl rfl ?aP (fun _ hk => hk.elim) ?aF ?aO ?aB ?aS ?aL ?_; (case aP => exact rfl); (case aB => exact (by repeat (first | (with_reducible first | exact HB.out | apply aH | apply aG | apply aI | refine aJ ?_ cO.out) | exact HB.out))); (case aF => exact (fun k_ hk => (Nat.le_trans (aZ (by repeat (first | (with_reducible first | exact HB.out | apply aH | apply aG | apply aI | refine aJ ?_ cO.out) | exact HB.out))) hk))); (case aO => exact (by (with_reducible repeat (first | apply Kd.bB | apply Kd.ax | apply Kd.bJ)); exact HO_8.out)); (case aS => exact (aZ (by repeat (first | (with_reducible first | exact HB.out | apply aH | apply aG | apply aI | refine aJ ?_ cO.out) | exact HB.out)))); (case aL => have := LMc39.out; omega); intro v613 w47 ho hb hg hat; rw [← Ny612.out] at ho; have n0_ := aC.mk (Kd.jK (by (with_reducible repeat (first | apply Kd.bB | apply Kd.ax | apply Kd.bJ)); exact HO_7.out) (Kd.gN (by (with_reducible repeat (first | apply Kd.bB | apply Kd.ax | apply Kd.bJ)); exact HO_8.out)) (by decide) hg); have n1_ := aC.mk (Kd.N_afterv (ok := (fun k_ => (w.heap.size ≤ k_) ∧ some k_ ≠ (.slice (some ⟨go7, 0, none⟩) gm.length co7 : Value).ownBlock ∧ k_ ≠ bM)) (by (with_reducible repeat (first | apply Kd.df | apply Kd.dX | apply Kd.fB)); exact Kd.kK HO_9.out (fun _ hk => ⟨⟨hk.1.1, ⟨hk.2, hk.1.2.2⟩⟩, hk.1.2.1⟩)) hg hat); have n2_ := aC.mk (cZ (g := bM) (o := .cells #[.int .i64 aX, .int .i64 aY, .int .i64 ae, .int .i64 aT, .slice (some l7) aM.length bC, .slice bE aU.length bD] 43 (0, 0)) (by (with_reducible repeat (first | refine ag ?_ _ | refine af ?_ | refine aW ?_ _)); exact ai.out) hg (Kd.jL HO_8.out ai.out (by decide))); have n3_ := aC.mk (hb); have n4_ := aC.mk (ho); clear HO_7; clear HO_9; clear ai; clear HB; clear HO_8; have HO_7 := n0_; have HO_9 := n1_; have ai := n2_; have HB := n3_; have gP := n4_; clear n0_ n1_ n2_ n3_ n4_; clear ho hb hg hat; obtain ⟨Ao48, co48, eo48⟩ := Kd.N_slice HO_9.out; subst eo48; have p615 : 0 ≤ (dU : Int) := of_decide_eq_true (by first | (with_reducible assumption) | assumption); have q615 : dU < (dP.length : Int) := of_decide_eq_true (by first | (with_reducible assumption) | assumption); obtain ⟨ad615, A615_0, c615_0, e615, hx615_0, hl615_0, hi615_0⟩ := at_L1 (Kd.N_reads' HO_9.out).2.2 dU p615 q615; cases e615; obtain ⟨ce615, hce615, hMe615, hcc615⟩ := Kd.N_get HO_9.out [] dU p615 (by first | exact q615 | exact of_decide_eq_true (by first | (with_reducible assumption) | assumption) | (have e_ := (Kd.N_reads' HO_9.out).1; omega)); obtain ⟨ua615_0, uc615_0, rfl, lZ, l6⟩ := Kd.FK_slice_open hMe615; have jY := hcc615 0 _ rfl; rw [Nat.add_zero, show ((Kd.slice 3 (Kd.int .i64))).sz = 1 from rfl, Nat.mul_one] at jY; replace jY := Option.some.inj (jY.symm.trans hx615_0); injection jY with hva_ hvn_ hvc_; rw [hva_] at l6; rw [hvc_] at lZ; have eT := aC.mk (show Kd.V (Kd.int .i64) 3 _ w.heap.size _ _ (jX dP dU) from Kd.V_mk lZ l6); clear hva_ hvn_ hvc_ l6 lZ; clear hcc615 hce615; have dw := aC.mk hi615_0; have HC615_0 := aC.mk hl615_0; clear hi615_0 hl615_0; replace p615 := eq_true p615; replace q615 := eq_true q615) | ((with_reducible refine bK (N := 80) rfl ?_); refine Kd.R_lit (Kd.int .i64) _ 3 ?hg (N := 80) ?hd (xs := ([eB] : List Int)) (inner := [.int .i64 eB]) (ok := fun _ => True) (okp := fun _ => True) ?hr ?hp (fun _ hk => hk) trivial (Below.refl _ _) (Nat.le_refl _) (by simp) ?_; (case hd => rfl); (case hg => rfl); (case hr => first | (go_simp; done) | (go_simp; rfl)); (case hp => exact (Reps.one (show Kd.M (Kd.int .i64) _ _ _ eB [.int .i64 eB] from rfl) (Reps.none _ _))); intro v617 w49 ho50 hb hg_ hnew_; clear hg_ hnew_; (first | rw [← Ny616.out] at ho50 | (simp only [Int.reduceToNat] at ho50; rw [← Ny616.out] at ho50)); have n0_ := aC.mk (Kd.dz (by (with_reducible repeat (first | apply Kd.bB | apply Kd.ax | apply Kd.bJ)); exact HO_7.out) hb); have n1_ := aC.mk (Kd.N_elder' (by (with_reducible repeat (first | apply Kd.df | apply Kd.dX | apply Kd.fB)); exact HO_9.out) (Kd.gX ho50) hb); have n2_ := aC.mk (Kd.ic (by (with_reducible repeat (first | apply Kd.bB | apply Kd.ax | apply Kd.bJ)); exact gP.out) (Kd.gX ho50) hb); have n3_ := aC.mk (Kd.V_elder' (by (with_reducible repeat (first | apply Kd.V_alloc | apply Kd.V_drewN | apply Kd.V_drew)); exact eT.out) (Kd.gX ho50) hb); have n4_ := aC.mk (Kd.dn (Kd.l8 (Kd.jQ (M := fun k_ => (w.heap.size ≤ k_)) ho50 (aZ (by repeat (first | (with_reducible first | exact HB.out | apply aH | apply aG | apply aI | refine aJ ?_ cO.out) | exact HB.out))) (fun k_ h_ => h_)) (Kd.jD (by (with_reducible repeat (first | apply Kd.bB | apply Kd.ax | apply Kd.bJ)); exact gP.out))) (aZ (by repeat (first | (with_reducible first | exact HB.out | apply aH | apply aG | apply aI | refine aJ ?_ cO.out) | exact HB.out)))); have n5_ := aC.mk (av (g := bM) (o := .cells #[.int .i64 aX, .int .i64 aY, .int .i64 ae, .int .i64 aT, .slice (some l7) aM.length bC, .slice bE aU.length bD] 43 (0, 0)) (by (with_reducible repeat (first | refine ag ?_ _ | refine af ?_ | refine aW ?_ _)); exact ai.out) hb); have n6_ := aC.mk (Kd.ak (by repeat (first | (with_reducible exact dw.out) | (with_reducible refine Kd.bS ?_ _) | (with_reducible refine Kd.bR ?_ _) | (with_reducible refine Kd.bW ?_) | exact dw.out)) hb); have n7_ := aC.mk (ah (by repeat (first | (with_reducible first | exact HB.out | apply aH | apply aG | apply aI | refine aJ ?_ cO.out) | exact HB.out)) hb); clear HO_7; clear HO_9; clear gP; clear eT; clear ai; clear dw; clear HB; have HO_7 := n0_; have HO_9 := n1_; have gP := n2_; have eT := n3_; have gY := n4_; have ai := n5_; have dw := n6_; have HB := n7_; clear n0_ n1_ n2_ n3_ n4_ n5_ n6_ n7_; clear hb ho50; obtain ⟨Ao51, co51, eo51⟩ := Kd.bu gY.out; subst eo51) | (go_at_call 99; (with_reducible refine (dS.calls _ _ (jX dP dU) _ _ y616 t619 _ ?dD ?dC ?dJ ?dI A41.out).mono ?_); (case dD => repeat (first | exact (by repeat (first | (with_reducible exact dw.out) | (with_reducible refine Kd.bS ?_ _) | (with_reducible refine Kd.bR ?_ _) | (with_reducible refine Kd.bW ?_) | exact dw.out)) | (with_reducible refine Kd.bS ?_ _) | (with_reducible refine Kd.bR ?_ _) | (with_reducible refine Kd.bW ?_))); (case dC => exact HC615_0.out); (case dJ => repeat (first | exact (Kd.bX gY.out).2.2 | (with_reducible refine Kd.bS ?_ _) | (with_reducible refine Kd.bR ?_ _) | (with_reducible refine Kd.bW ?_))); (case dI => exact (Kd.bX gY.out).2.1); rintro e w52 ⟨v620, rfl, ho0, hb⟩; have n0_ := aC.mk (Kd.dz (by (with_reducible repeat (first | apply Kd.bB | apply Kd.ax | apply Kd.bJ)); exact HO_7.out) hb); have n1_ := aC.mk (Kd.N_elder' (by (with_reducible repeat (first | apply Kd.df | apply Kd.dX | apply Kd.fB)); exact HO_9.out) (Kd.gX ho0) hb); have n2_ := aC.mk (Kd.ic (by (with_reducible repeat (first | apply Kd.bB | apply Kd.ax | apply Kd.bJ)); exact gP.out) (Kd.gX ho0) hb); have n3_ := aC.mk (Kd.V_elder' (by (with_reducible repeat (first | apply Kd.V_alloc | apply Kd.V_drewN | apply Kd.V_drew)); exact eT.out) (Kd.gX ho0) hb); have n4_ := aC.mk (Kd.ic (by (with_reducible repeat (first | apply Kd.bB | apply Kd.ax | apply Kd.bJ)); exact gY.out) (Kd.gX ho0) hb); have n5_ := aC.mk (Kd.dn (Kd.l8 (Kd.l8 (Kd.jQ (M := fun k_ => (w.heap.size ≤ k_)) ho0 (aZ (by repeat (first | (with_reducible first | exact HB.out | apply aH | apply aG | apply aI | refine aJ ?_ cO.out) | exact HB.out))) (fun k_ h_ => h_)) (Kd.jD (by (with_reducible repeat (first | apply Kd.bB | apply Kd.ax | apply Kd.bJ)); exact gP.out))) (Kd.jD (by (with_reducible repeat (first | apply Kd.bB | apply Kd.ax | apply Kd.bJ)); exact gY.out))) (aZ (by repeat (first | (with_reducible first | exact HB.out | apply aH | apply aG | apply aI | refine aJ ?_ cO.out) | exact HB.out)))); have n6_ := aC.mk (av (g := bM) (o := .cells #[.int .i64 aX, .int .i64 aY, .int .i64 ae, .int .i64 aT, .slice (some l7) aM.length bC, .slice bE aU.length bD] 43 (0, 0)) (by (with_reducible repeat (first | refine ag ?_ _ | refine af ?_ | refine aW ?_ _)); exact ai.out) hb); have n7_ := aC.mk (Kd.ak (by repeat (first | (with_reducible exact dw.out) | (with_reducible refine Kd.bS ?_ _) | (with_reducible refine Kd.bR ?_ _) | (with_reducible refine Kd.bW ?_) | exact dw.out)) hb); have n8_ := aC.mk (ah (by repeat (first | (with_reducible first | exact HB.out | apply aH | apply aG | apply aI | refine aJ ?_ cO.out) | exact HB.out)) hb); clear HO_7; clear HO_9; clear gP; clear eT; clear gY; clear ai; clear dw; clear HB; have HO_7 := n0_; have HO_9 := n1_; have gP := n2_; have eT := n3_; have gY := n4_; have HO621 := n5_; have ai := n6_; have dw := n7_; have HB := n8_; clear n0_ n1_ n2_ n3_ n4_ n5_ n6_ n7_ n8_; (try clear hb); (try clear hb2); (try clear hk); (try clear hi); (try clear ho0); obtain ⟨Ao54, co54, eo54⟩ := Kd.bu HO621.out; subst eo54) | ((with_reducible refine dF (b := .append) (xs := #[.tmp 74, .tmp 82]) rfl ?_); at_builtin; refine Kd.N_append (Kd.slice 3 (Kd.int .i64)) (w0 := w) w.heap.size rfl (.tmp 74) (.tmp 82) 50 22 (.slice none 0 0) 24 rfl Try.underlying50 info22 rfl (by decide) (by omega) (.slice (some ad615) dP.length co48) dP t619 [.slice Ao54 t619.length co54] (fun k_ => (w.heap.size ≤ k_) ∧ some k_ ≠ (.slice (some ⟨go7, 0, none⟩) gm.length co7 : Value).ownBlock ∧ some k_ ≠ (v613 : Value).ownBlock ∧ some k_ ≠ (.slice Ao51 y616.length co51 : Value).ownBlock ∧ k_ ≠ bM) (fun k_ => ((fun k_ => (w.heap.size ≤ k_) ∧ some k_ ≠ (.slice (some ⟨go7, 0, none⟩) gm.length co7 : Value).ownBlock ∧ some k_ ≠ (v613 : Value).ownBlock ∧ some k_ ≠ (.slice Ao51 y616.length co51 : Value).ownBlock ∧ k_ ≠ bM)) k_ ∧ some k_ ≠ (.slice (some ad615) dP.length co48 : Value).ownBlock) rfl rfl ?aP (fun _ hk => hk) ?aF ?aO ?aB ?aS ?aL ?_; (case aP => exact (Kd.lU (Kd.bX (Kd.dB (ok' := (fun k_ => ((fun k_ => (w.heap.size ≤ k_) ∧ some k_ ≠ (.slice (some ⟨go7, 0, none⟩) gm.length co7 : Value).ownBlock ∧ some k_ ≠ (v613 : Value).ownBlock ∧ some k_ ≠ (.slice Ao51 y616.length co51 : Value).ownBlock ∧ k_ ≠ bM)) k_ ∧ some k_ ≠ (.slice (some ad615) dP.length co48 : Value).ownBlock)) (Kd.kg (Kd.gU (Kd.gU (HO621.out) (Kd.gN HO_7.out) (by decide)) (Kd.jM HO_9.out) (by decide)) ai.out (by decide)) (fun k_ hk => ⟨⟨hk.1.1.1.1.1.1, ⟨hk.1.1.2, ⟨hk.1.1.1.1.2, ⟨hk.1.1.1.2, hk.2⟩⟩⟩⟩, hk.1.2⟩))).2.1 (Kd.R_F (Kd.dB (ok' := (fun k_ => ((fun k_ => (w.heap.size ≤ k_) ∧ some k_ ≠ (.slice (some ⟨go7, 0, none⟩) gm.length co7 : Value).ownBlock ∧ some k_ ≠ (v613 : Value).ownBlock ∧ some k_ ≠ (.slice Ao51 y616.length co51 : Value).ownBlock ∧ k_ ≠ bM)) k_ ∧ some k_ ≠ (.slice (some ad615) dP.length co48 : Value).ownBlock)) (Kd.kg (Kd.gU (Kd.gU (HO621.out) (Kd.gN HO_7.out) (by decide)) (Kd.jM HO_9.out) (by decide)) ai.out (by decide)) (fun k_ hk => ⟨⟨hk.1.1.1.1.1.1, ⟨hk.1.1.2, ⟨hk.1.1.1.1.2, ⟨hk.1.1.1.2, hk.2⟩⟩⟩⟩, hk.1.2⟩))))); (case aB => exact (by repeat (first | (with_reducible first | exact HB.out | apply aH | apply aG | apply aI | refine aJ ?_ cO.out) | exact HB.out))); (case aF => exact (fun k_ hk => ⟨(Nat.le_trans (aZ (by repeat (first | (with_reducible first | exact HB.out | apply aH | apply aG | apply aI | refine aJ ?_ cO.out) | exact HB.out))) hk), Kd.fresh' (Kd.jD (by (with_reducible repeat (first | apply Kd.bB | apply Kd.ax | apply Kd.bJ)); exact HO_7.out)) k_ hk, Kd.fresh' (Kd.jD (by (with_reducible repeat (first | apply Kd.bB | apply Kd.ax | apply Kd.bJ)); exact gP.out)) k_ hk, Kd.fresh' (Kd.jD (by (with_reducible repeat (first | apply Kd.bB | apply Kd.ax | apply Kd.bJ)); exact gY.out)) k_ hk, Kd.freshB (g := bM) (o := .cells #[.int .i64 aX, .int .i64 aY, .int .i64 ae, .int .i64 aT, .slice (some l7) aM.length bC, .slice bE aU.length bD] 43 (0, 0)) (by (with_reducible repeat (first | refine ag ?_ _ | refine af ?_ | refine aW ?_ _)); exact ai.out) k_ hk⟩)); (case aO => exact (by (with_reducible repeat (first | apply Kd.df | apply Kd.dX | apply Kd.fB)); exact Kd.kK HO_9.out (fun _ hk => ⟨hk.1.1.1.1, ⟨hk.1.1.1.2.1, ⟨hk.1.1.2, ⟨hk.1.2, hk.1.1.1.2.2⟩⟩⟩⟩))); (case aS => exact (aZ (by repeat (first | (with_reducible first | exact HB.out | apply aH | apply aG | apply aI | refine aJ ?_ cO.out) | exact HB.out)))); (case aL => have := LMc42.out; omega); intro v623 w53 ho hb hg hat; rw [← Ny622.out] at ho; have n0_ := aC.mk (Kd.jK (by (with_reducible repeat (first | apply Kd.bB | apply Kd.ax | apply Kd.bJ)); exact HO_7.out) (Kd.jM (by (with_reducible repeat (first | apply Kd.df | apply Kd.dX | apply Kd.fB)); exact HO_9.out)) (by decide) hg); have n1_ := aC.mk (cZ (g := bM) (o := .cells #[.int .i64 aX, .int .i64 aY, .int .i64 ae, .int .i64 aT, .slice (some l7) aM.length bC, .slice bE aU.length bD] 43 (0, 0)) (by (with_reducible repeat (first | refine ag ?_ _ | refine af ?_ | refine aW ?_ _)); exact ai.out) hg (Kd.N_ne HO_9.out ai.out (by decide))); have n2_ := aC.mk (Kd.jK (by (with_reducible repeat (first | apply Kd.bB | apply Kd.ax | apply Kd.bJ)); exact gP.out) (Kd.jM (by (with_reducible repeat (first | apply Kd.df | apply Kd.dX | apply Kd.fB)); exact HO_9.out)) (by decide) hg); have n3_ := aC.mk (Kd.V_afterv (ok := (fun k_ => (w.heap.size ≤ k_) ∧ some k_ ≠ (.slice (some ⟨go7, 0, none⟩) gm.length co7 : Value).ownBlock ∧ some k_ ≠ (v613 : Value).ownBlock ∧ some k_ ≠ (.slice Ao51 y616.length co51 : Value).ownBlock ∧ some k_ ≠ (.slice Ao54 t619.length co54 : Value).ownBlock ∧ k_ ≠ bM)) (by (with_reducible repeat (first | apply Kd.V_alloc | apply Kd.V_drewN | apply Kd.V_drew)); exact Kd.V_mono eT.out (fun _ hk => ⟨⟨hk.1.1.1.1.1, ⟨hk.1.1.1.1.2.1, ⟨hk.1.1.1.2, ⟨hk.1.2, ⟨hk.2, hk.1.1.1.1.2.2⟩⟩⟩⟩⟩, hk.1.1.2⟩)) hg hat); have n4_ := aC.mk (Kd.jK (by (with_reducible repeat (first | apply Kd.bB | apply Kd.ax | apply Kd.bJ)); exact gY.out) (Kd.jM (by (with_reducible repeat (first | apply Kd.df | apply Kd.dX | apply Kd.fB)); exact HO_9.out)) (by decide) hg); have n5_ := aC.mk (hb); have n6_ := aC.mk (ho); clear HO_7; clear ai; clear gP; clear eT; clear gY; clear HB; clear HO_9; clear HO621; have HO_7 := n0_; have ai := n1_; have gP := n2_; have eT := n3_; have gY := n4_; have HB := n5_; have HO624 := n6_; clear n0_ n1_ n2_ n3_ n4_ n5_ n6_; clear ho hb hg hat)))
                                                (try simp only [← lS])
                                                go_roundg k3
                                                case measure => have := HK1.out; have := HK2.out; have := HK3.out; omega
                                                case rel => exact ⟨(y611), (y612), (y622), (wrap64 (eB + 1)), (by first | rfl | (simp; done) | (simp [*]; done)), H', ⟨by have := HK1.out; have := HK2.out; have := HK3.out; omega⟩, ⟨by (try simp only [iU]); (try simp only [jC]); (try simp only [lS]); (with_reducible repeat (first | apply Kd.bB | apply Kd.ax | apply Kd.bJ)); exact HO_7.out⟩, ⟨by (try simp only [iU]); (try simp only [jC]); (try simp only [lS]); (with_reducible repeat (first | apply Kd.bB | apply Kd.ax | apply Kd.bJ)); exact Kd.dB gP.out (fun _ hk => hk.1.1)⟩, ⟨by (try simp only [iU]); (try simp only [jC]); (try simp only [lS]); (with_reducible repeat (first | apply Kd.df | apply Kd.dX | apply Kd.fB)); exact Kd.kK HO624.out (fun _ hk => ⟨hk.1, ⟨hk.2.1, ⟨hk.2.2.1, hk.2.2.2.2⟩⟩⟩)⟩, ⟨by (try simp only [iU]); (try simp only [jC]); (try simp only [lS]); (with_reducible repeat (first | refine ag ?_ _ | refine af ?_ | refine aW ?_ _)); exact ai.out⟩, ⟨by repeat (first | (with_reducible first | exact HB.out | apply aH | apply aG | apply aI | refine aJ ?_ cO.out) | exact HB.out)⟩⟩
                                              · rw [if_neg c42] at H
                                                exact absurd H (by simp)
                                            · rw [if_neg c40] at H
                                              exact absurd H (by simp)
                                          · rw [if_neg c39] at H
                                            exact absurd H (by simp)
                                      · rw [if_neg c33] at H
                                        exact absurd H (by simp)
                                    · rw [if_neg c32] at H
                                      exact absurd H (by simp)
                                  · rw [if_neg c31] at H
                                    exact absurd H (by simp)
                                · rw [if_neg c30] at H
                                  exact absurd H (by simp)
                              · rw [if_neg c28] at H
                                exact absurd H (by simp)
                            · rw [if_neg c27] at H
                              exact absurd H (by simp)
                          · rw [if_neg c26] at H
                            have c26b0 : decide (eB < aY) = false := decide_eq_false c26
                            clear c26
                            have H' := aC.mk H
                            clear H
                            have hcz55_0 : wr.cell? ⟨bM, 0, none⟩ = some (.int .i64 aX) := (aD ai.out 0).trans rfl
                            have hcz55_1 : wr.cell? ⟨bM, 1, none⟩ = some (.int .i64 aY) := (aD ai.out 1).trans rfl
                            have hcz55_2 : wr.cell? ⟨bM, 2, none⟩ = some (.int .i64 ae) := (aD ai.out 2).trans rfl
                            have hcz55_3 : wr.cell? ⟨bM, 3, none⟩ = some (.int .i64 aT) := (aD ai.out 3).trans rfl
                            have hcz55_4 : wr.cell? ⟨bM, 4, none⟩ = some (.slice bH aM.length bC) := (aD ai.out 4).trans rfl
                            have hcz55_5 : wr.cell? ⟨bM, 5, none⟩ = some (.slice bE aU.length bD) := (aD ai.out 5).trans rfl
                            have hfz55_0 := aA ai.out 0
                            have hfz55_1 := aA ai.out 1
                            have hfz55_2 := aA ai.out 2
                            have hfz55_3 := aA ai.out 3
                            have hfz55_4 := aA ai.out 4
                            have hfz55_5 := aA ai.out 5
                            go_wp2
                            repeat (go_quiet (fail); try go_wp2)
                            (try simp only [← jC, ← lS])
                            go_roundg k3
                            case measure => have := HK1.out; have := HK2.out; have := HK3.out; omega
                            case rel => exact ⟨(gm), (jH), (dP), (wrap64 (dU + 1)), (by first | rfl | (simp; done) | (simp [*]; done)), H', ⟨by have := HK1.out; have := HK2.out; have := HK3.out; omega⟩, ⟨by (try simp only [iU]); (try simp only [jC]); (try simp only [lS]); (with_reducible repeat (first | apply Kd.bB | apply Kd.ax | apply Kd.bJ)); exact HO_7.out⟩, ⟨by (try simp only [iU]); (try simp only [jC]); (try simp only [lS]); (with_reducible repeat (first | apply Kd.bB | apply Kd.ax | apply Kd.bJ)); exact HO_8.out⟩, ⟨by (try simp only [iU]); (try simp only [jC]); (try simp only [lS]); (with_reducible repeat (first | apply Kd.df | apply Kd.dX | apply Kd.fB)); exact HO_9.out⟩, ⟨by (try simp only [iU]); (try simp only [jC]); (try simp only [lS]); (with_reducible repeat (first | refine ag ?_ _ | refine af ?_ | refine aW ?_ _)); exact ai.out⟩, ⟨by repeat (first | (with_reducible first | exact HB.out | apply aH | apply aG | apply aI | refine aJ ?_ cO.out) | exact HB.out)⟩⟩
                    · rw [if_neg c25] at H
                      have jZ : decide (dU < (fC.length : Int)) = false := decide_eq_false c25
                      clear c25
                      have H' := aC.mk H
                      clear H
                      go_wp2
                      repeat (go_quiet (fail); try go_wp2)
                      (try simp only [← iU, ← jC])
                      go_roundg k2
                      case measure => have := HK1.out; have := HK2.out; omega
                      case rel => exact ⟨(dQ), (x8_2), (x9_2), ((fC.length : Int)), (by first | rfl | (simp; done) | (simp [*]; done)), H', ⟨by have := HK1.out; have := HK2.out; omega⟩, ⟨by (try simp only [iU]); (try simp only [jC]); (with_reducible repeat (first | apply Kd.bB | apply Kd.ax | apply Kd.bJ)); exact HO_7.out⟩, ⟨by (try simp only [iU]); (try simp only [jC]); (with_reducible repeat (first | apply Kd.bB | apply Kd.ax | apply Kd.bJ)); exact HO_8.out⟩, ⟨by (try simp only [iU]); (try simp only [jC]); (with_reducible repeat (first | apply Kd.df | apply Kd.dX | apply Kd.fB)); exact HO_9.out⟩, ⟨by (try simp only [iU]); (try simp only [jC]); (with_reducible repeat (first | refine ag ?_ _ | refine af ?_ | refine aW ?_ _)); exact ai.out⟩, ⟨by repeat (first | (with_reducible first | exact HB.out | apply aH | apply aG | apply aI | refine aJ ?_ cO.out) | exact HB.out)⟩⟩
              · rw [if_neg c23] at H
                have c23b0 : decide (x10_1 < (fC.length : Int)) = false := decide_eq_false c23
                clear c23
                simp only [Option.some.injEq, Prod.mk.injEq] at H
                obtain ⟨rfl, rfl, rfl⟩ := H
                obtain ⟨Ao56, co56, eo56⟩ := Kd.bu HO_8.out
                subst eo56
                go_wp2
                repeat (go_quiet (fail); try go_wp2)
                go_ret3
                exact ⟨_, _, by first | rfl | (simp [az, ay] <;> rfl) | (simp [*, az, ay] <;> rfl), by (with_reducible repeat (first | apply Kd.bB | apply Kd.ax | apply Kd.bJ)); exact HO_8.out, by (with_reducible repeat (first | apply Kd.df | apply Kd.dX | apply Kd.fB)); exact Kd.kK HO_9.out (fun _ hk => ⟨hk.1, hk.2.2.1⟩), by repeat (first | (with_reducible first | exact HB.out | apply aH | apply aG | apply aI | refine aJ ?_ cO.out) | exact HB.out)⟩
        · rw [if_neg c6] at H
          exact absurd H (by simp)
      · rw [if_neg c5] at H
        exact absurd H (by simp)
    · rw [if_neg c4] at H
      exact absurd H (by simp)
  · rw [if_neg c3] at H
    have lL : (t594 == 0) = false := beq_eq_false_iff_ne.mpr c3
    have c3b1 : (t594 != 0) = true := bne_iff_ne.mpr c3
    simp only [Option.some.injEq, Prod.mk.injEq] at H
    obtain ⟨rfl, rfl, rfl⟩ := H
    go_enter Try.func76, Try.ntmps76
    go_wp2_with (first | ((with_reducible refine bK (N := 1) rfl ?_); refine dA ?hg (N := 1) ?hd (cs := #[.int .i64 aX, .int .i64 aY, .int .i64 ae, .int .i64 aT, .slice bH aM.length bC, .slice bE aU.length bD]) (t := 43) ?hr ?_; (case hd => rfl); (case hg => rfl); (case hr => first | (go_simp; done) | (go_simp; rfl)); intro bM hg w57 hbox hb; have n0_ := aC.mk (ah (by repeat (first | (with_reducible first | exact HB.out | apply aH | apply aG | apply aI) | exact HB.out)) hb); have n1_ := aC.mk (hbox); have n2_ := aC.mk ((by rw [hg]; exact (aZ (by repeat (first | (with_reducible first | exact HB.out | apply aH | apply aG | apply aI) | exact HB.out))) : w.heap.size ≤ bM)); have n3_ := aC.mk ((by rw [hg]; exact (aZ (by repeat (first | (with_reducible first | exact HB.out | apply aH | apply aG | apply aI) | exact HB.out))) : w.heap.size ≤ bM)); clear HB; have HB := n0_; have ai := n1_; have GW592 := n2_; have cO := n3_; clear n0_ n1_ n2_ n3_; clear hb hbox hg; have hcz58_0 : w57.cell? ⟨bM, 0, none⟩ = some (.int .i64 aX) := (aD ai.out 0).trans rfl; have hcz58_1 : w57.cell? ⟨bM, 1, none⟩ = some (.int .i64 aY) := (aD ai.out 1).trans rfl; have hcz58_2 : w57.cell? ⟨bM, 2, none⟩ = some (.int .i64 ae) := (aD ai.out 2).trans rfl; have hcz58_3 : w57.cell? ⟨bM, 3, none⟩ = some (.int .i64 aT) := (aD ai.out 3).trans rfl; have hcz58_4 : w57.cell? ⟨bM, 4, none⟩ = some (.slice bH aM.length bC) := (aD ai.out 4).trans rfl; have hcz58_5 : w57.cell? ⟨bM, 5, none⟩ = some (.slice bE aU.length bD) := (aD ai.out 5).trans rfl; have hfz58_0 := aA ai.out 0; have hfz58_1 := aA ai.out 1; have hfz58_2 := aA ai.out 2; have hfz58_3 := aA ai.out 3; have hfz58_4 := aA ai.out 4; have hfz58_5 := aA ai.out 5) | (go_at_call 66; (with_reducible refine (aQ.calls k aX aY ae aT _ _ aM _ _ aU t593 t594 _ ?dD ?dC ?dJ ?dI A2.out).mono ?_); (case dD => repeat (first | exact (Kd.ak dY.out HB.out) | (with_reducible refine Kd.bS ?_ _) | (with_reducible refine Kd.bR ?_ _) | (with_reducible refine Kd.bW ?_))); (case dC => exact eX.out); (case dJ => repeat (first | exact (Kd.ak dV.out HB.out) | (with_reducible refine Kd.bS ?_ _) | (with_reducible refine Kd.bR ?_ _) | (with_reducible refine Kd.bW ?_))); (case dI => exact fA.out); rintro e w59 ⟨rfl, hb⟩; have n0_ := aC.mk (av (g := bM) (o := .cells #[.int .i64 aX, .int .i64 aY, .int .i64 ae, .int .i64 aT, .slice bH aM.length bC, .slice bE aU.length bD] 43 (0, 0)) (by (with_reducible repeat (first | refine ag ?_ _ | refine af ?_ | refine aW ?_ _)); exact ai.out) hb); have n1_ := aC.mk (ah (by repeat (first | (with_reducible first | exact HB.out | apply aH | apply aG | apply aI | refine aJ ?_ cO.out) | exact HB.out)) hb); clear ai; clear HB; have ai := n0_; have HB := n1_; clear n0_ n1_; (try clear hb); (try clear hb2); (try clear hk); (try clear hi)))
    repeat (go_quiet (first | ((with_reducible refine bK (N := 1) rfl ?_); refine dA ?hg (N := 1) ?hd (cs := #[.int .i64 aX, .int .i64 aY, .int .i64 ae, .int .i64 aT, .slice bH aM.length bC, .slice bE aU.length bD]) (t := 43) ?hr ?_; (case hd => rfl); (case hg => rfl); (case hr => first | (go_simp; done) | (go_simp; rfl)); intro bM hg w57 hbox hb; have n0_ := aC.mk (ah (by repeat (first | (with_reducible first | exact HB.out | apply aH | apply aG | apply aI) | exact HB.out)) hb); have n1_ := aC.mk (hbox); have n2_ := aC.mk ((by rw [hg]; exact (aZ (by repeat (first | (with_reducible first | exact HB.out | apply aH | apply aG | apply aI) | exact HB.out))) : w.heap.size ≤ bM)); have n3_ := aC.mk ((by rw [hg]; exact (aZ (by repeat (first | (with_reducible first | exact HB.out | apply aH | apply aG | apply aI) | exact HB.out))) : w.heap.size ≤ bM)); clear HB; have HB := n0_; have ai := n1_; have GW592 := n2_; have cO := n3_; clear n0_ n1_ n2_ n3_; clear hb hbox hg; have hcz58_0 : w57.cell? ⟨bM, 0, none⟩ = some (.int .i64 aX) := (aD ai.out 0).trans rfl; have hcz58_1 : w57.cell? ⟨bM, 1, none⟩ = some (.int .i64 aY) := (aD ai.out 1).trans rfl; have hcz58_2 : w57.cell? ⟨bM, 2, none⟩ = some (.int .i64 ae) := (aD ai.out 2).trans rfl; have hcz58_3 : w57.cell? ⟨bM, 3, none⟩ = some (.int .i64 aT) := (aD ai.out 3).trans rfl; have hcz58_4 : w57.cell? ⟨bM, 4, none⟩ = some (.slice bH aM.length bC) := (aD ai.out 4).trans rfl; have hcz58_5 : w57.cell? ⟨bM, 5, none⟩ = some (.slice bE aU.length bD) := (aD ai.out 5).trans rfl; have hfz58_0 := aA ai.out 0; have hfz58_1 := aA ai.out 1; have hfz58_2 := aA ai.out 2; have hfz58_3 := aA ai.out 3; have hfz58_4 := aA ai.out 4; have hfz58_5 := aA ai.out 5) | (go_at_call 66; (with_reducible refine (aQ.calls k aX aY ae aT _ _ aM _ _ aU t593 t594 _ ?dD ?dC ?dJ ?dI A2.out).mono ?_); (case dD => repeat (first | exact (Kd.ak dY.out HB.out) | (with_reducible refine Kd.bS ?_ _) | (with_reducible refine Kd.bR ?_ _) | (with_reducible refine Kd.bW ?_))); (case dC => exact eX.out); (case dJ => repeat (first | exact (Kd.ak dV.out HB.out) | (with_reducible refine Kd.bS ?_ _) | (with_reducible refine Kd.bR ?_ _) | (with_reducible refine Kd.bW ?_))); (case dI => exact fA.out); rintro e w59 ⟨rfl, hb⟩; have n0_ := aC.mk (av (g := bM) (o := .cells #[.int .i64 aX, .int .i64 aY, .int .i64 ae, .int .i64 aT, .slice bH aM.length bC, .slice bE aU.length bD] 43 (0, 0)) (by (with_reducible repeat (first | refine ag ?_ _ | refine af ?_ | refine aW ?_ _)); exact ai.out) hb); have n1_ := aC.mk (ah (by repeat (first | (with_reducible first | exact HB.out | apply aH | apply aG | apply aI | refine aJ ?_ cO.out) | exact HB.out)) hb); clear ai; clear HB; have ai := n0_; have HB := n1_; clear n0_ n1_; (try clear hb); (try clear hb2); (try clear hk); (try clear hi))); try go_wp2_with (first | ((with_reducible refine bK (N := 1) rfl ?_); refine dA ?hg (N := 1) ?hd (cs := #[.int .i64 aX, .int .i64 aY, .int .i64 ae, .int .i64 aT, .slice bH aM.length bC, .slice bE aU.length bD]) (t := 43) ?hr ?_; (case hd => rfl); (case hg => rfl); (case hr => first | (go_simp; done) | (go_simp; rfl)); intro bM hg w57 hbox hb; have n0_ := aC.mk (ah (by repeat (first | (with_reducible first | exact HB.out | apply aH | apply aG | apply aI) | exact HB.out)) hb); have n1_ := aC.mk (hbox); have n2_ := aC.mk ((by rw [hg]; exact (aZ (by repeat (first | (with_reducible first | exact HB.out | apply aH | apply aG | apply aI) | exact HB.out))) : w.heap.size ≤ bM)); have n3_ := aC.mk ((by rw [hg]; exact (aZ (by repeat (first | (with_reducible first | exact HB.out | apply aH | apply aG | apply aI) | exact HB.out))) : w.heap.size ≤ bM)); clear HB; have HB := n0_; have ai := n1_; have GW592 := n2_; have cO := n3_; clear n0_ n1_ n2_ n3_; clear hb hbox hg; have hcz58_0 : w57.cell? ⟨bM, 0, none⟩ = some (.int .i64 aX) := (aD ai.out 0).trans rfl; have hcz58_1 : w57.cell? ⟨bM, 1, none⟩ = some (.int .i64 aY) := (aD ai.out 1).trans rfl; have hcz58_2 : w57.cell? ⟨bM, 2, none⟩ = some (.int .i64 ae) := (aD ai.out 2).trans rfl; have hcz58_3 : w57.cell? ⟨bM, 3, none⟩ = some (.int .i64 aT) := (aD ai.out 3).trans rfl; have hcz58_4 : w57.cell? ⟨bM, 4, none⟩ = some (.slice bH aM.length bC) := (aD ai.out 4).trans rfl; have hcz58_5 : w57.cell? ⟨bM, 5, none⟩ = some (.slice bE aU.length bD) := (aD ai.out 5).trans rfl; have hfz58_0 := aA ai.out 0; have hfz58_1 := aA ai.out 1; have hfz58_2 := aA ai.out 2; have hfz58_3 := aA ai.out 3; have hfz58_4 := aA ai.out 4; have hfz58_5 := aA ai.out 5) | (go_at_call 66; (with_reducible refine (aQ.calls k aX aY ae aT _ _ aM _ _ aU t593 t594 _ ?dD ?dC ?dJ ?dI A2.out).mono ?_); (case dD => repeat (first | exact (Kd.ak dY.out HB.out) | (with_reducible refine Kd.bS ?_ _) | (with_reducible refine Kd.bR ?_ _) | (with_reducible refine Kd.bW ?_))); (case dC => exact eX.out); (case dJ => repeat (first | exact (Kd.ak dV.out HB.out) | (with_reducible refine Kd.bS ?_ _) | (with_reducible refine Kd.bR ?_ _) | (with_reducible refine Kd.bW ?_))); (case dI => exact fA.out); rintro e w59 ⟨rfl, hb⟩; have n0_ := aC.mk (av (g := bM) (o := .cells #[.int .i64 aX, .int .i64 aY, .int .i64 ae, .int .i64 aT, .slice bH aM.length bC, .slice bE aU.length bD] 43 (0, 0)) (by (with_reducible repeat (first | refine ag ?_ _ | refine af ?_ | refine aW ?_ _)); exact ai.out) hb); have n1_ := aC.mk (ah (by repeat (first | (with_reducible first | exact HB.out | apply aH | apply aG | apply aI | refine aJ ?_ cO.out) | exact HB.out)) hb); clear ai; clear HB; have ai := n0_; have HB := n1_; clear n0_ n1_; (try clear hb); (try clear hb2); (try clear hk); (try clear hi))))
    go_ret3
    exact ⟨_, _, by first | rfl | (simp [az, ay] <;> rfl) | (simp [*, az, ay] <;> rfl), by first | exact Kd.jq _ _ _ _ _ | exact Kd.N_nil _ _ _ _ _ | exact Kd.V_nil _ _ _ _ _ | exact Kd.Q_nil _ _ _ _ _ | exact Kd.S_nil _ _ _ _ _, by first | exact Kd.S_nil _ _ _ _ _ | exact Kd.N_nil _ _ _ _ _ | exact Kd.V_nil _ _ _ _ _ | exact Kd.Q_nil _ _ _ _ _ | exact Kd.jq _ _ _ _ _, by repeat (first | (with_reducible first | exact HB.out | apply aH | apply aG | apply aI | refine aJ ?_ cO.out) | exact HB.out)⟩
end Go.Proofs.Ytkaefgmgcghhiaa.X
end

section
namespace Go.Proofs.Ytkaefgmgcghhiaa.X
open Go.RowKit Go.Proofs.YtkaefgmgcghhiaaW.PrintWords Go.Proofs.YtkaefgmgcghhiaaW.PrintLast Go.Proofs.YtkaefgmgcghhiaaW.PrintMore
attribute [local go_sem] eP eH fQ fP d9 dZ eO eG   -- for this text's walks alone
set_option linter.unusedVariables false
set_option linter.unusedSimpArgs false
def bV.f (k : Nat) (aX : Int) (aY : Int) (ae : Int) (aT : Int) (aM : List Int) (aU : List Int) : Option (Int) := (aQ.f k aX aY ae aT aM aU).bind fun bt896 => (if bt896.2 = 0 then (if aX = 1 then (some 0) else (some 30)) else (some bt896.2))
set_option maxHeartbeats 8000000 in
set_option maxRecDepth 100000 in
theorem bV.calls (k : Nat) (aX : Int) (aY : Int) (ae : Int) (aT : Int) (bH : Option Addr) (bC : Nat) (aM : List Int) (bE : Option Addr) (bD : Nat) (aU : List Int) (r : Int) (w : World) (eQ : Kd.C (Kd.int .i64) w bH aM.length aM) (eu : aM.length ≤ bC) (fD : Kd.C (Kd.int .i64) w bE aU.length aU) (fG : aU.length ≤ bD) (h : bV.f k aX aY ae aT aM aU = some r) :
    Calls Try.prog 75 #[.agg #[.int .i64 aX, .int .i64 aY, .int .i64 ae, .int .i64 aT, .slice bH aM.length bC, .slice bE aU.length bD]] w fun e w' => e = .returned (.int .i64 r) ∧ Below w.heap.size w w' := by
  have hu43 := Try.underlying43
  have dY := aC.mk eQ
  have eX := aC.mk eu
  clear eQ eu
  have dV := aC.mk fD
  have fA := aC.mk fG
  clear fD fG
  have HB := aC.mk (Below.refl w.heap.size w)
  have H : ((aQ.f k aX aY ae aT aM aU).bind fun bt896 => (if bt896.2 = 0 then (if aX = 1 then (some 0) else (some 30)) else (some bt896.2))) = some r := h
  clear h
  replace H := Option.bind_eq_some_iff.mp H
  obtain ⟨⟨t896, t897⟩, A20, H⟩ := H
  replace H : (if t897 = 0 then (if aX = 1 then (some 0) else (some 30)) else (some t897)) = some r := H
  have A2 := aC.mk A20
  clear A20
  by_cases c3 : t897 = 0
  · rw [if_pos c3] at H
    have lL : (t897 == 0) = true := beq_iff_eq.mpr c3
    have c3b1 : (t897 != 0) = false := bne_eq_false_iff_eq.mpr c3
    clear c3
    by_cases c4 : aX = 1
    · rw [if_pos c4] at H
      have iB : (aX == 1) = true := beq_iff_eq.mpr c4
      have ja : (aX != 1) = false := bne_eq_false_iff_eq.mpr c4
      clear c4
      obtain rfl := Option.some.inj H
      go_enter Try.func75, Try.ntmps75
      go_wp2_with (first | ((with_reducible refine bK (N := 1) rfl ?_); refine dA ?hg (N := 1) ?hd (cs := #[.int .i64 aX, .int .i64 aY, .int .i64 ae, .int .i64 aT, .slice bH aM.length bC, .slice bE aU.length bD]) (t := 43) ?hr ?_; (case hd => rfl); (case hg => rfl); (case hr => first | (go_simp; done) | (go_simp; rfl)); intro fM hg w5 hbox hb; have n0_ := aC.mk (ah (by repeat (first | (with_reducible first | exact HB.out | apply aH | apply aG | apply aI) | exact HB.out)) hb); have n1_ := aC.mk (hbox); have n2_ := aC.mk ((by rw [hg]; exact (aZ (by repeat (first | (with_reducible first | exact HB.out | apply aH | apply aG | apply aI) | exact HB.out))) : w.heap.size ≤ fM)); have n3_ := aC.mk ((by rw [hg]; exact (aZ (by repeat (first | (with_reducible first | exact HB.out | apply aH | apply aG | apply aI) | exact HB.out))) : w.heap.size ≤ fM)); clear HB; have HB := n0_; have dN := n1_; have GW895 := n2_; have GE895 := n3_; clear n0_ n1_ n2_ n3_; clear hb hbox hg; have iO : w5.cell? ⟨fM, 0, none⟩ = some (.int .i64 aX) := (aD dN.out 0).trans rfl; have iN : w5.cell? ⟨fM, 1, none⟩ = some (.int .i64 aY) := (aD dN.out 1).trans rfl; have iM : w5.cell? ⟨fM, 2, none⟩ = some (.int .i64 ae) := (aD dN.out 2).trans rfl; have iL : w5.cell? ⟨fM, 3, none⟩ = some (.int .i64 aT) := (aD dN.out 3).trans rfl; have iK : w5.cell? ⟨fM, 4, none⟩ = some (.slice bH aM.length bC) := (aD dN.out 4).trans rfl; have iJ : w5.cell? ⟨fM, 5, none⟩ = some (.slice bE aU.length bD) := (aD dN.out 5).trans rfl; have iI := aA dN.out 0; have iH := aA dN.out 1; have iG := aA dN.out 2; have iF := aA dN.out 3; have iE := aA dN.out 4; have iD := aA dN.out 5) | ((with_reducible refine dG (f := 66) rfl ?_); refine gW (some 7) rfl rfl Try.func66 (by kernel_rfl) rfl #[.agg #[.int .i64 aX, .int .i64 aY, .int .i64 ae, .int .i64 aT, .slice bH aM.length bC, .slice bE aU.length bD]] rfl (by (try simp only [List.map_toArray, List.map_cons, List.map_nil]); first | done | rfl | (simp only [List.length_drop, List.length_take]; rfl)) ?_; (with_reducible refine (aQ.calls k aX aY ae aT _ _ aM _ _ aU t896 t897 _ ?dD ?dC ?dJ ?dI A2.out).mono ?_); (case dD => repeat (first | exact (Kd.ak dY.out HB.out) | (with_reducible refine Kd.bS ?_ _) | (with_reducible refine Kd.bR ?_ _) | (with_reducible refine Kd.bW ?_))); (case dC => exact eX.out); (case dJ => repeat (first | exact (Kd.ak dV.out HB.out) | (with_reducible refine Kd.bS ?_ _) | (with_reducible refine Kd.bR ?_ _) | (with_reducible refine Kd.bW ?_))); (case dI => exact fA.out); rintro e w7 ⟨rfl, hb⟩; refine ⟨_, rfl, ?_⟩; have n0_ := aC.mk (av (g := fM) (o := .cells #[.int .i64 aX, .int .i64 aY, .int .i64 ae, .int .i64 aT, .slice bH aM.length bC, .slice bE aU.length bD] 43 (0, 0)) (by (with_reducible repeat (first | refine ag ?_ _ | refine af ?_ | refine aW ?_ _)); exact dN.out) hb); have n1_ := aC.mk (ah (by repeat (first | (with_reducible first | exact HB.out | apply aH | apply aG | apply aI | refine aJ ?_ GE895.out) | exact HB.out)) hb); clear dN; clear HB; have dN := n0_; have HB := n1_; clear n0_ n1_; (try clear hb); (try clear hb2); (try clear hk); (try clear hi); have hcz8_0 : w7.cell? ⟨fM, 0, none⟩ = some (.int .i64 aX) := (aD dN.out 0).trans rfl; have hcz8_1 : w7.cell? ⟨fM, 1, none⟩ = some (.int .i64 aY) := (aD dN.out 1).trans rfl; have hcz8_2 : w7.cell? ⟨fM, 2, none⟩ = some (.int .i64 ae) := (aD dN.out 2).trans rfl; have hcz8_3 : w7.cell? ⟨fM, 3, none⟩ = some (.int .i64 aT) := (aD dN.out 3).trans rfl; have hcz8_4 : w7.cell? ⟨fM, 4, none⟩ = some (.slice bH aM.length bC) := (aD dN.out 4).trans rfl; have hcz8_5 : w7.cell? ⟨fM, 5, none⟩ = some (.slice bE aU.length bD) := (aD dN.out 5).trans rfl; have hfz8_0 := aA dN.out 0; have hfz8_1 := aA dN.out 1; have hfz8_2 := aA dN.out 2; have hfz8_3 := aA dN.out 3; have hfz8_4 := aA dN.out 4; have hfz8_5 := aA dN.out 5))
      go_ret
      exact ⟨by first | rfl | (simp [az, ay] <;> rfl) | (simp [*, az, ay] <;> rfl), by repeat (first | (with_reducible first | exact HB.out | apply aH | apply aG | apply aI | refine aJ ?_ GE895.out) | exact HB.out)⟩
    · rw [if_neg c4] at H
      have iB : (aX == 1) = false := beq_eq_false_iff_ne.mpr c4
      have ja : (aX != 1) = true := bne_iff_ne.mpr c4
      obtain rfl := Option.some.inj H
      go_enter Try.func75, Try.ntmps75
      go_wp2_with (first | ((with_reducible refine bK (N := 1) rfl ?_); refine dA ?hg (N := 1) ?hd (cs := #[.int .i64 aX, .int .i64 aY, .int .i64 ae, .int .i64 aT, .slice bH aM.length bC, .slice bE aU.length bD]) (t := 43) ?hr ?_; (case hd => rfl); (case hg => rfl); (case hr => first | (go_simp; done) | (go_simp; rfl)); intro fM hg w9 hbox hb; have n0_ := aC.mk (ah (by repeat (first | (with_reducible first | exact HB.out | apply aH | apply aG | apply aI) | exact HB.out)) hb); have n1_ := aC.mk (hbox); have n2_ := aC.mk ((by rw [hg]; exact (aZ (by repeat (first | (with_reducible first | exact HB.out | apply aH | apply aG | apply aI) | exact HB.out))) : w.heap.size ≤ fM)); have n3_ := aC.mk ((by rw [hg]; exact (aZ (by repeat (first | (with_reducible first | exact HB.out | apply aH | apply aG | apply aI) | exact HB.out))) : w.heap.size ≤ fM)); clear HB; have HB := n0_; have dN := n1_; have GW895 := n2_; have GE895 := n3_; clear n0_ n1_ n2_ n3_; clear hb hbox hg; have hcz10_0 : w9.cell? ⟨fM, 0, none⟩ = some (.int .i64 aX) := (aD dN.out 0).trans rfl; have hcz10_1 : w9.cell? ⟨fM, 1, none⟩ = some (.int .i64 aY) := (aD dN.out 1).trans rfl; have hcz10_2 : w9.cell? ⟨fM, 2, none⟩ = some (.int .i64 ae) := (aD dN.out 2).trans rfl; have hcz10_3 : w9.cell? ⟨fM, 3, none⟩ = some (.int .i64 aT) := (aD dN.out 3).trans rfl; have hcz10_4 : w9.cell? ⟨fM, 4, none⟩ = some (.slice bH aM.length bC) := (aD dN.out 4).trans rfl; have hcz10_5 : w9.cell? ⟨fM, 5, none⟩ = some (.slice bE aU.length bD) := (aD dN.out 5).trans rfl; have hfz10_0 := aA dN.out 0; have hfz10_1 := aA dN.out 1; have hfz10_2 := aA dN.out 2; have hfz10_3 := aA dN.out 3; have hfz10_4 := aA dN.out 4; have hfz10_5 := aA dN.out 5) | ((with_reducible refine dG (f := 66) rfl ?_); refine gW (some 7) rfl rfl Try.func66 (by kernel_rfl) rfl #[.agg #[.int .i64 aX, .int .i64 aY, .int .i64 ae, .int .i64 aT, .slice bH aM.length bC, .slice bE aU.length bD]] rfl (by (try simp only [List.map_toArray, List.map_cons, List.map_nil]); first | done | rfl | (simp only [List.length_drop, List.length_take]; rfl)) ?_; (with_reducible refine (aQ.calls k aX aY ae aT _ _ aM _ _ aU t896 t897 _ ?dD ?dC ?dJ ?dI A2.out).mono ?_); (case dD => repeat (first | exact (Kd.ak dY.out HB.out) | (with_reducible refine Kd.bS ?_ _) | (with_reducible refine Kd.bR ?_ _) | (with_reducible refine Kd.bW ?_))); (case dC => exact eX.out); (case dJ => repeat (first | exact (Kd.ak dV.out HB.out) | (with_reducible refine Kd.bS ?_ _) | (with_reducible refine Kd.bR ?_ _) | (with_reducible refine Kd.bW ?_))); (case dI => exact fA.out); rintro e w11 ⟨rfl, hb⟩; refine ⟨_, rfl, ?_⟩; have n0_ := aC.mk (av (g := fM) (o := .cells #[.int .i64 aX, .int .i64 aY, .int .i64 ae, .int .i64 aT, .slice bH aM.length bC, .slice bE aU.length bD] 43 (0, 0)) (by (with_reducible repeat (first | refine ag ?_ _ | refine af ?_ | refine aW ?_ _)); exact dN.out) hb); have n1_ := aC.mk (ah (by repeat (first | (with_reducible first | exact HB.out | apply aH | apply aG | apply aI | refine aJ ?_ GE895.out) | exact HB.out)) hb); clear dN; clear HB; have dN := n0_; have HB := n1_; clear n0_ n1_; (try clear hb); (try clear hb2); (try clear hk); (try clear hi); have hcz12_0 : w11.cell? ⟨fM, 0, none⟩ = some (.int .i64 aX) := (aD dN.out 0).trans rfl; have hcz12_1 : w11.cell? ⟨fM, 1, none⟩ = some (.int .i64 aY) := (aD dN.out 1).trans rfl; have hcz12_2 : w11.cell? ⟨fM, 2, none⟩ = some (.int .i64 ae) := (aD dN.out 2).trans rfl; have hcz12_3 : w11.cell? ⟨fM, 3, none⟩ = some (.int .i64 aT) := (aD dN.out 3).trans rfl; have hcz12_4 : w11.cell? ⟨fM, 4, none⟩ = some (.slice bH aM.length bC) := (aD dN.out 4).trans rfl; have hcz12_5 : w11.cell? ⟨fM, 5, none⟩ = some (.slice bE aU.length bD) := (aD dN.out 5).trans rfl; have hfz12_0 := aA dN.out 0; have hfz12_1 := aA dN.out 1; have hfz12_2 := aA dN.out 2; have hfz12_3 := aA dN.out 3; have hfz12_4 := aA dN.out 4; have hfz12_5 := aA dN.out 5))
      go_ret
      exact ⟨by first | rfl | (simp [az, ay] <;> rfl) | (simp [*, az, ay] <;> rfl), by repeat (first | (with_reducible first | exact HB.out | apply aH | apply aG | apply aI | refine aJ ?_ GE895.out) | exact HB.out)⟩
  · rw [if_neg c3] at H
    have lL : (t897 == 0) = false := beq_eq_false_iff_ne.mpr c3
    have c3b1 : (t897 != 0) = true := bne_iff_ne.mpr c3
    obtain rfl := Option.some.inj H
    go_enter Try.func75, Try.ntmps75
    go_wp2_with (first | ((with_reducible refine bK (N := 1) rfl ?_); refine dA ?hg (N := 1) ?hd (cs := #[.int .i64 aX, .int .i64 aY, .int .i64 ae, .int .i64 aT, .slice bH aM.length bC, .slice bE aU.length bD]) (t := 43) ?hr ?_; (case hd => rfl); (case hg => rfl); (case hr => first | (go_simp; done) | (go_simp; rfl)); intro fM hg w13 hbox hb; have n0_ := aC.mk (ah (by repeat (first | (with_reducible first | exact HB.out | apply aH | apply aG | apply aI) | exact HB.out)) hb); have n1_ := aC.mk (hbox); have n2_ := aC.mk ((by rw [hg]; exact (aZ (by repeat (first | (with_reducible first | exact HB.out | apply aH | apply aG | apply aI) | exact HB.out))) : w.heap.size ≤ fM)); have n3_ := aC.mk ((by rw [hg]; exact (aZ (by repeat (first | (with_reducible first | exact HB.out | apply aH | apply aG | apply aI) | exact HB.out))) : w.heap.size ≤ fM)); clear HB; have HB := n0_; have dN := n1_; have GW895 := n2_; have GE895 := n3_; clear n0_ n1_ n2_ n3_; clear hb hbox hg; have hcz14_0 : w13.cell? ⟨fM, 0, none⟩ = some (.int .i64 aX) := (aD dN.out 0).trans rfl; have hcz14_1 : w13.cell? ⟨fM, 1, none⟩ = some (.int .i64 aY) := (aD dN.out 1).trans rfl; have hcz14_2 : w13.cell? ⟨fM, 2, none⟩ = some (.int .i64 ae) := (aD dN.out 2).trans rfl; have hcz14_3 : w13.cell? ⟨fM, 3, none⟩ = some (.int .i64 aT) := (aD dN.out 3).trans rfl; have hcz14_4 : w13.cell? ⟨fM, 4, none⟩ = some (.slice bH aM.length bC) := (aD dN.out 4).trans rfl; have hcz14_5 : w13.cell? ⟨fM, 5, none⟩ = some (.slice bE aU.length bD) := (aD dN.out 5).trans rfl; have hfz14_0 := aA dN.out 0; have hfz14_1 := aA dN.out 1; have hfz14_2 := aA dN.out 2; have hfz14_3 := aA dN.out 3; have hfz14_4 := aA dN.out 4; have hfz14_5 := aA dN.out 5) | ((with_reducible refine dG (f := 66) rfl ?_); refine gW (some 7) rfl rfl Try.func66 (by kernel_rfl) rfl #[.agg #[.int .i64 aX, .int .i64 aY, .int .i64 ae, .int .i64 aT, .slice bH aM.length bC, .slice bE aU.length bD]] rfl (by (try simp only [List.map_toArray, List.map_cons, List.map_nil]); first | done | rfl | (simp only [List.length_drop, List.length_take]; rfl)) ?_; (with_reducible refine (aQ.calls k aX aY ae aT _ _ aM _ _ aU t896 t897 _ ?dD ?dC ?dJ ?dI A2.out).mono ?_); (case dD => repeat (first | exact (Kd.ak dY.out HB.out) | (with_reducible refine Kd.bS ?_ _) | (with_reducible refine Kd.bR ?_ _) | (with_reducible refine Kd.bW ?_))); (case dC => exact eX.out); (case dJ => repeat (first | exact (Kd.ak dV.out HB.out) | (with_reducible refine Kd.bS ?_ _) | (with_reducible refine Kd.bR ?_ _) | (with_reducible refine Kd.bW ?_))); (case dI => exact fA.out); rintro e w15 ⟨rfl, hb⟩; refine ⟨_, rfl, ?_⟩; have n0_ := aC.mk (av (g := fM) (o := .cells #[.int .i64 aX, .int .i64 aY, .int .i64 ae, .int .i64 aT, .slice bH aM.length bC, .slice bE aU.length bD] 43 (0, 0)) (by (with_reducible repeat (first | refine ag ?_ _ | refine af ?_ | refine aW ?_ _)); exact dN.out) hb); have n1_ := aC.mk (ah (by repeat (first | (with_reducible first | exact HB.out | apply aH | apply aG | apply aI | refine aJ ?_ GE895.out) | exact HB.out)) hb); clear dN; clear HB; have dN := n0_; have HB := n1_; clear n0_ n1_; (try clear hb); (try clear hb2); (try clear hk); (try clear hi)))
    go_ret
    exact ⟨by first | rfl | (simp [az, ay] <;> rfl) | (simp [*, az, ay] <;> rfl), by repeat (first | (with_reducible first | exact HB.out | apply aH | apply aG | apply aI | refine aJ ?_ GE895.out) | exact HB.out)⟩
end Go.Proofs.Ytkaefgmgcghhiaa.X
end
