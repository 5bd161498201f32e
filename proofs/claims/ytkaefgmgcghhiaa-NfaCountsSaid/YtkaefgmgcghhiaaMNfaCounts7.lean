/- Texts of the statement NfaCounts, one behind the other: Go functions as Lean functions, the machine's calls, the plain law. -/
import Derived.Test.YtkaefgmgcghhiaaMNfaCounts4
set_option linter.unusedVariables false
set_option linter.unusedSimpArgs false
section
namespace Go.Proofs.Ytkaefgmgcghhiaa.X
open Go.RowKit Go.Proofs.YtkaefgmgcghhiaaW.PrintWords Go.Proofs.YtkaefgmgcghhiaaW.PrintLast Go.Proofs.YtkaefgmgcghhiaaW.PrintMore
attribute [local go_sem] eP eH fQ fP d9 dZ eO eG   -- for this text's walks alone
set_option linter.unusedVariables false
set_option linter.unusedSimpArgs false
def bg.l0 : Nat → List Int → Int → Int → Int → Option (Int)
  | 0, _, _, _, _ => none
  | k + 1, x0, x1, x7, x8 => if x8 < x7 then (if 0 ≤ x8 then (if x8 < (x0.length : Int) then (if x1 = (rd x0 x8) then (some x8) else (bg.l0 k x0 x1 x7 (wrap64 (x8 + 1)))) else (none)) else (none)) else (some (-1))
def bg.f (k : Nat) (l0 : List Int) (a1 : Int) : Option (Int) := bg.l0 k l0 a1 (l0.length : Int) 0
set_option maxHeartbeats 8000000 in
set_option maxRecDepth 100000 in
theorem bg.calls (k : Nat) (A0 : Option Addr) (c0 : Nat) (l0 : List Int) (a1 : Int) (r : Int) (w : World) (hr0 : Kd.C (Kd.int .i64) w A0 l0.length l0) (hc0 : l0.length ≤ c0) (h : bg.f k l0 a1 = some r) :
    Calls Try.prog 100 #[.slice A0 l0.length c0, .int .i64 a1] w fun e w' => e = .returned (.int .i64 r) ∧ bY w w' := by
  have HR0 := aC.mk hr0
  have HC0 := aC.mk hc0
  clear hr0 hc0
  have H : (bg.l0 k l0 a1 (l0.length : Int) 0) = some r := h
  clear h
  have H' := aC.mk H
  clear H
  go_enter Try.func100, Try.ntmps100
  go_wp2
  go_loopg [8] k (fun kq v8 w' => ∃ (fC : Int), v8 = .int .i64 fC ∧ aC (bg.l0 kq l0 a1 (l0.length : Int) fC = some r) ∧ aC (kq ≤ k) ∧ bY w w')
  case atStart => exact ⟨(0), (by first | rfl | (simp; done) | (simp [*]; done)), H', ⟨Nat.le_refl _⟩, by repeat (first | exact bY.refl _ | apply bY.step)⟩
  case round =>
    clear H'
    try clear c1
    try clear p2
    obtain ⟨fC, rfl, HA, HK1, ⟨m1, rfl⟩⟩ := hrel
    cases gk with
    | zero => exact absurd HA.out (by simp [bg.l0])
    | succ k1 =>
      have H := HA.out
      clear HA
      simp only [bg.l0] at H
      by_cases c3 : fC < (l0.length : Int)
      · rw [if_pos c3] at H
        have lL : decide (fC < (l0.length : Int)) = true := decide_eq_true c3
        clear c3
        by_cases c4 : 0 ≤ fC
        · rw [if_pos c4] at H
          have iB : decide (0 ≤ fC) = true := decide_eq_true c4
          clear c4
          by_cases c5 : fC < (l0.length : Int)
          · rw [if_pos c5] at H
            have c5b0 : decide (fC < (l0.length : Int)) = true := decide_eq_true c5
            clear c5
            by_cases c6 : a1 = (rd l0 fC)
            · rw [if_pos c6] at H
              have c6b0 : (a1 == (rd l0 fC)) = true := beq_iff_eq.mpr c6
              have c6b1 : (a1 != (rd l0 fC)) = false := bne_eq_false_iff_eq.mpr c6
              clear c6
              obtain rfl := Option.some.inj H
              have p927 : 0 ≤ (fC : Int) := of_decide_eq_true (by first | (with_reducible assumption) | assumption)
              have q927 : fC < (l0.length : Int) := of_decide_eq_true (by first | (with_reducible assumption) | assumption)
              obtain ⟨ad927, e927, hx927_0⟩ := Kd.cz HR0.out fC p927 q927
              cases e927
              replace p927 := eq_true p927
              replace q927 := eq_true q927
              go_wp2
              go_ret
              exact ⟨by first | rfl | (simp; done) | (simp [*]; done), by repeat (first | exact bY.refl _ | apply bY.step)⟩
            · rw [if_neg c6] at H
              have c6b0 : (a1 == (rd l0 fC)) = false := beq_eq_false_iff_ne.mpr c6
              have c6b1 : (a1 != (rd l0 fC)) = true := bne_iff_ne.mpr c6
              have H' := aC.mk H
              clear H
              have p927 : 0 ≤ (fC : Int) := of_decide_eq_true (by first | (with_reducible assumption) | assumption)
              have q927 : fC < (l0.length : Int) := of_decide_eq_true (by first | (with_reducible assumption) | assumption)
              obtain ⟨ad927, e927, hx927_0⟩ := Kd.cz HR0.out fC p927 q927
              cases e927
              replace p927 := eq_true p927
              replace q927 := eq_true q927
              go_wp2
              go_roundg k1
              case measure => have := HK1.out; omega
              case rel => exact ⟨(wrap64 (fC + 1)), (by first | rfl | (simp; done) | (simp [*]; done)), H', ⟨by have := HK1.out; omega⟩, by repeat (first | exact bY.refl _ | apply bY.step)⟩
          · rw [if_neg c5] at H
            exact absurd H (by simp)
        · rw [if_neg c4] at H
          exact absurd H (by simp)
      · rw [if_neg c3] at H
        have lL : decide (fC < (l0.length : Int)) = false := decide_eq_false c3
        clear c3
        obtain rfl := Option.some.inj H
        go_wp2
        go_ret
        exact ⟨by first | rfl | (simp; done) | (simp [*]; done), by repeat (first | exact bY.refl _ | apply bY.step)⟩
end Go.Proofs.Ytkaefgmgcghhiaa.X
end

section
namespace Go.Proofs.Ytkaefgmgcghhiaa.X
open Go.RowKit Go.Proofs.YtkaefgmgcghhiaaW.PrintWords Go.Proofs.YtkaefgmgcghhiaaW.PrintLast Go.Proofs.YtkaefgmgcghhiaaW.PrintMore
attribute [local go_sem] eP eH fQ fP d9 dZ eO eG   -- for this text's walks alone
set_option linter.unusedVariables false
set_option linter.unusedSimpArgs false
def fK.f (k : Nat) (l0 : List Int) (a1 : Int) : Option (Bool) := (bg.f k l0 a1).bind fun t928 => (some (decide (t928 ≥ 0)))
set_option maxHeartbeats 8000000 in
set_option maxRecDepth 100000 in
theorem fK.calls (k : Nat) (A0 : Option Addr) (c0 : Nat) (l0 : List Int) (a1 : Int) (r : Bool) (w : World) (hr0 : Kd.C (Kd.int .i64) w A0 l0.length l0) (hc0 : l0.length ≤ c0) (h : fK.f k l0 a1 = some r) :
    Calls Try.prog 77 #[.slice A0 l0.length c0, .int .i64 a1] w fun e w' => e = .returned (.bool r) ∧ bY w w' := by
  have HR0 := aC.mk hr0
  have HC0 := aC.mk hc0
  clear hr0 hc0
  have H : ((bg.f k l0 a1).bind fun t928 => (some (decide (t928 ≥ 0)))) = some r := h
  clear h
  replace H := Option.bind_eq_some_iff.mp H
  obtain ⟨t928, A30, H⟩ := H
  replace H : (some (decide (t928 ≥ 0))) = some r := H
  have A3 := aC.mk A30
  clear A30
  obtain rfl := Option.some.inj H
  go_enter Try.func77, Try.ntmps77
  go_wp2_with (first | ((with_reducible refine dG (f := 100) rfl ?_); refine gW (some 7) rfl rfl Try.func100 (by kernel_rfl) rfl #[.slice A0 l0.length c0, .int .i64 a1] rfl (by (try simp only [List.map_toArray, List.map_cons, List.map_nil]); first | done | rfl | (simp only [List.length_drop, List.length_take]; rfl)) ?_; (with_reducible refine (bg.calls k _ _ l0 a1 t928 _ ?dD ?dC A3.out).mono ?_); (case dD => repeat (first | exact HR0.out | (with_reducible refine Kd.bS ?_ _) | (with_reducible refine Kd.bR ?_ _) | (with_reducible refine Kd.bW ?_))); (case dC => exact HC0.out); rintro e w' ⟨rfl, ⟨nd, rfl⟩⟩; refine ⟨_, rfl, ?_⟩))
  go_ret
  exact ⟨by first | rfl | (simp; done) | (simp [*]; done), by repeat (first | exact bY.refl _ | apply bY.step)⟩
end Go.Proofs.Ytkaefgmgcghhiaa.X
end

section
namespace Go.Proofs.Ytkaefgmgcghhiaa.X
open Go.RowKit Go.Proofs.YtkaefgmgcghhiaaW.PrintWords Go.Proofs.YtkaefgmgcghhiaaW.PrintLast Go.Proofs.YtkaefgmgcghhiaaW.PrintMore
attribute [local go_sem] eP eH fQ fP d9 dZ eO eG   -- for this text's walks alone
set_option linter.unusedVariables false
set_option linter.unusedSimpArgs false
def jA.f (aX : Int) (aY : Int) (ae : Int) (aT : Int) (aM : List Int) (aU : List Int) (a1 : Int) : Option (Bool) := if aT > a1 then (some true) else (if (aM.length : Int) > 70000 then (some true) else (some (decide ((aU.length : Int) > 70000))))
set_option maxHeartbeats 8000000 in
set_option maxRecDepth 100000 in
theorem jA.calls (aX : Int) (aY : Int) (ae : Int) (aT : Int) (bH : Option Addr) (bC : Nat) (aM : List Int) (bE : Option Addr) (bD : Nat) (aU : List Int) (a1 : Int) (r : Bool) (w : World) (eQ : Kd.C (Kd.int .i64) w bH aM.length aM) (eu : aM.length ≤ bC) (fD : Kd.C (Kd.int .i64) w bE aU.length aU) (fG : aU.length ≤ bD) (h : jA.f aX aY ae aT aM aU a1 = some r) :
    Calls Try.prog 28 #[.agg #[.int .i64 aX, .int .i64 aY, .int .i64 ae, .int .i64 aT, .slice bH aM.length bC, .slice bE aU.length bD], .int .i64 a1] w fun e w' => e = .returned (.bool r) ∧ Below w.heap.size w w' := by
  have hu43 := Try.underlying43
  have dY := aC.mk eQ
  have eX := aC.mk eu
  clear eQ eu
  have dV := aC.mk fD
  have fA := aC.mk fG
  clear fD fG
  have HB := aC.mk (Below.refl w.heap.size w)
  have H : (if aT > a1 then (some true) else (if (aM.length : Int) > 70000 then (some true) else (some (decide ((aU.length : Int) > 70000))))) = some r := h
  clear h
  by_cases c3 : aT > a1
  · rw [if_pos c3] at H
    have lL : decide (a1 < aT) = true := decide_eq_true c3
    clear c3
    obtain rfl := Option.some.inj H
    go_enter Try.func28, Try.ntmps28
    go_wp2_with (first | ((with_reducible refine bK (N := 2) rfl ?_); (try (refine gate_guard (by rfl) ?_; dsimp only)); refine dA ?hg (N := 2) ?hd (cs := #[.int .i64 aX, .int .i64 aY, .int .i64 ae, .int .i64 aT, .slice bH aM.length bC, .slice bE aU.length bD]) (t := 43) ?hr ?_; (case hd => rfl); (case hg => rfl); (case hr => first | (go_simp; done) | (go_simp; rfl)); intro jF hg w4 hbox hb; have n0_ := aC.mk (ah (by repeat (first | (with_reducible first | exact HB.out | apply aH | apply aG | apply aI) | exact HB.out)) hb); have n1_ := aC.mk (hbox); have n2_ := aC.mk ((by rw [hg]; exact (aZ (by repeat (first | (with_reducible first | exact HB.out | apply aH | apply aG | apply aI) | exact HB.out))) : w.heap.size ≤ jF)); have n3_ := aC.mk ((by rw [hg]; exact (aZ (by repeat (first | (with_reducible first | exact HB.out | apply aH | apply aG | apply aI) | exact HB.out))) : w.heap.size ≤ jF)); clear HB; have HB := n0_; have gQ := n1_; have GW389 := n2_; have GE389 := n3_; clear n0_ n1_ n2_ n3_; clear hb hbox hg; have lJ : w4.cell? ⟨jF, 0, none⟩ = some (.int .i64 aX) := (aD gQ.out 0).trans rfl; have lI : w4.cell? ⟨jF, 1, none⟩ = some (.int .i64 aY) := (aD gQ.out 1).trans rfl; have lH : w4.cell? ⟨jF, 2, none⟩ = some (.int .i64 ae) := (aD gQ.out 2).trans rfl; have lG : w4.cell? ⟨jF, 3, none⟩ = some (.int .i64 aT) := (aD gQ.out 3).trans rfl; have lF : w4.cell? ⟨jF, 4, none⟩ = some (.slice bH aM.length bC) := (aD gQ.out 4).trans rfl; have lD : w4.cell? ⟨jF, 5, none⟩ = some (.slice bE aU.length bD) := (aD gQ.out 5).trans rfl; have lC := aA gQ.out 0; have kz := aA gQ.out 1; have ky := aA gQ.out 2; have kw := aA gQ.out 3; have kv := aA gQ.out 4; have ku := aA gQ.out 5))
    go_ret
    exact ⟨by first | rfl | (simp [az, ay] <;> rfl) | (simp [*, az, ay] <;> rfl), by repeat (first | (with_reducible first | exact HB.out | apply aH | apply aG | apply aI | refine aJ ?_ GE389.out) | exact HB.out)⟩
  · rw [if_neg c3] at H
    have lL : decide (a1 < aT) = false := decide_eq_false c3
    clear c3
    by_cases c6 : (aM.length : Int) > 70000
    · rw [if_pos c6] at H
      have c6b0 : decide (70000 < (aM.length : Int)) = true := decide_eq_true c6
      have c6b1 : decide (70000 < aM.length) = true := decide_eq_true (by omega)
      clear c6
      obtain rfl := Option.some.inj H
      go_enter Try.func28, Try.ntmps28
      go_wp2_with (first | ((with_reducible refine bK (N := 2) rfl ?_); (try (refine gate_guard (by rfl) ?_; dsimp only)); refine dA ?hg (N := 2) ?hd (cs := #[.int .i64 aX, .int .i64 aY, .int .i64 ae, .int .i64 aT, .slice bH aM.length bC, .slice bE aU.length bD]) (t := 43) ?hr ?_; (case hd => rfl); (case hg => rfl); (case hr => first | (go_simp; done) | (go_simp; rfl)); intro jF hg w7 hbox hb; have n0_ := aC.mk (ah (by repeat (first | (with_reducible first | exact HB.out | apply aH | apply aG | apply aI) | exact HB.out)) hb); have n1_ := aC.mk (hbox); have n2_ := aC.mk ((by rw [hg]; exact (aZ (by repeat (first | (with_reducible first | exact HB.out | apply aH | apply aG | apply aI) | exact HB.out))) : w.heap.size ≤ jF)); have n3_ := aC.mk ((by rw [hg]; exact (aZ (by repeat (first | (with_reducible first | exact HB.out | apply aH | apply aG | apply aI) | exact HB.out))) : w.heap.size ≤ jF)); clear HB; have HB := n0_; have gQ := n1_; have GW389 := n2_; have GE389 := n3_; clear n0_ n1_ n2_ n3_; clear hb hbox hg; have hcz8_0 : w7.cell? ⟨jF, 0, none⟩ = some (.int .i64 aX) := (aD gQ.out 0).trans rfl; have hcz8_1 : w7.cell? ⟨jF, 1, none⟩ = some (.int .i64 aY) := (aD gQ.out 1).trans rfl; have hcz8_2 : w7.cell? ⟨jF, 2, none⟩ = some (.int .i64 ae) := (aD gQ.out 2).trans rfl; have hcz8_3 : w7.cell? ⟨jF, 3, none⟩ = some (.int .i64 aT) := (aD gQ.out 3).trans rfl; have hcz8_4 : w7.cell? ⟨jF, 4, none⟩ = some (.slice bH aM.length bC) := (aD gQ.out 4).trans rfl; have hcz8_5 : w7.cell? ⟨jF, 5, none⟩ = some (.slice bE aU.length bD) := (aD gQ.out 5).trans rfl; have hfz8_0 := aA gQ.out 0; have hfz8_1 := aA gQ.out 1; have hfz8_2 := aA gQ.out 2; have hfz8_3 := aA gQ.out 3; have hfz8_4 := aA gQ.out 4; have hfz8_5 := aA gQ.out 5))
      go_ret
      exact ⟨by first | rfl | (simp [az, ay] <;> rfl) | (simp [*, az, ay] <;> rfl), by repeat (first | (with_reducible first | exact HB.out | apply aH | apply aG | apply aI | refine aJ ?_ GE389.out) | exact HB.out)⟩
    · rw [if_neg c6] at H
      have c6b0 : decide (70000 < (aM.length : Int)) = false := decide_eq_false c6
      have c6b1 : decide (70000 < aM.length) = false := decide_eq_false (by omega)
      clear c6
      obtain rfl := Option.some.inj H
      go_enter Try.func28, Try.ntmps28
      go_wp2_with (first | ((with_reducible refine bK (N := 2) rfl ?_); (try (refine gate_guard (by rfl) ?_; dsimp only)); refine dA ?hg (N := 2) ?hd (cs := #[.int .i64 aX, .int .i64 aY, .int .i64 ae, .int .i64 aT, .slice bH aM.length bC, .slice bE aU.length bD]) (t := 43) ?hr ?_; (case hd => rfl); (case hg => rfl); (case hr => first | (go_simp; done) | (go_simp; rfl)); intro jF hg w9 hbox hb; have n0_ := aC.mk (ah (by repeat (first | (with_reducible first | exact HB.out | apply aH | apply aG | apply aI) | exact HB.out)) hb); have n1_ := aC.mk (hbox); have n2_ := aC.mk ((by rw [hg]; exact (aZ (by repeat (first | (with_reducible first | exact HB.out | apply aH | apply aG | apply aI) | exact HB.out))) : w.heap.size ≤ jF)); have n3_ := aC.mk ((by rw [hg]; exact (aZ (by repeat (first | (with_reducible first | exact HB.out | apply aH | apply aG | apply aI) | exact HB.out))) : w.heap.size ≤ jF)); clear HB; have HB := n0_; have gQ := n1_; have GW389 := n2_; have GE389 := n3_; clear n0_ n1_ n2_ n3_; clear hb hbox hg; have hcz10_0 : w9.cell? ⟨jF, 0, none⟩ = some (.int .i64 aX) := (aD gQ.out 0).trans rfl; have hcz10_1 : w9.cell? ⟨jF, 1, none⟩ = some (.int .i64 aY) := (aD gQ.out 1).trans rfl; have hcz10_2 : w9.cell? ⟨jF, 2, none⟩ = some (.int .i64 ae) := (aD gQ.out 2).trans rfl; have hcz10_3 : w9.cell? ⟨jF, 3, none⟩ = some (.int .i64 aT) := (aD gQ.out 3).trans rfl; have hcz10_4 : w9.cell? ⟨jF, 4, none⟩ = some (.slice bH aM.length bC) := (aD gQ.out 4).trans rfl; have hcz10_5 : w9.cell? ⟨jF, 5, none⟩ = some (.slice bE aU.length bD) := (aD gQ.out 5).trans rfl; have hfz10_0 := aA gQ.out 0; have hfz10_1 := aA gQ.out 1; have hfz10_2 := aA gQ.out 2; have hfz10_3 := aA gQ.out 3; have hfz10_4 := aA gQ.out 4; have hfz10_5 := aA gQ.out 5))
      go_ret
      exact ⟨by first | rfl | (simp [az, ay] <;> rfl) | (simp [*, az, ay] <;> rfl), by repeat (first | (with_reducible first | exact HB.out | apply aH | apply aG | apply aI | refine aJ ?_ GE389.out) | exact HB.out)⟩
end Go.Proofs.Ytkaefgmgcghhiaa.X
end

section
namespace Go.Proofs.Ytkaefgmgcghhiaa.X
open Go.RowKit Go.Proofs.YtkaefgmgcghhiaaW.PrintWords Go.Proofs.YtkaefgmgcghhiaaW.PrintLast Go.Proofs.YtkaefgmgcghhiaaW.PrintMore
attribute [local go_sem] eP eH fQ fP d9 dZ eO eG   -- for this text's walks alone
set_option linter.unusedVariables false
set_option linter.unusedSimpArgs false
def fZ.f (a0 : Int) : Option (Int) := some a0
set_option maxHeartbeats 8000000 in
set_option maxRecDepth 100000 in
theorem fZ.calls (a0 : Int) (r : Int) (w : World) (h : fZ.f a0 = some r) :
    Calls Try.prog 17 #[.int .i64 a0] w fun e w' => e = .returned (.int .i64 r) ∧ bY w w' := by
  have H : (some a0) = some r := h
  clear h
  obtain rfl := Option.some.inj H
  go_enter Try.func17, Try.ntmps17
  go_wp2
  go_ret
  exact ⟨by first | rfl | (simp; done) | (simp [*]; done), by repeat (first | exact bY.refl _ | apply bY.step)⟩
end Go.Proofs.Ytkaefgmgcghhiaa.X
end
