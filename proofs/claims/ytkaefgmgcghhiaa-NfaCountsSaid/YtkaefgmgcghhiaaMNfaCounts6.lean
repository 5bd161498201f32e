/- Texts of the statement NfaCounts, one behind the other: Go functions as Lean functions, the machine's calls, the plain law. -/
import Derived.Test.YtkaefgmgcghhiaaMNfaCounts4
import Derived.Test.YtkaefgmgcghhiaaMNfaCounts5
set_option linter.unusedVariables false
set_option linter.unusedSimpArgs false
section
namespace Go.Proofs.Ytkaefgmgcghhiaa.X
open Go.RowKit Go.Proofs.YtkaefgmgcghhiaaW.PrintWords Go.Proofs.YtkaefgmgcghhiaaW.PrintLast Go.Proofs.YtkaefgmgcghhiaaW.PrintMore
attribute [local go_sem] eP eH fQ fP d9 dZ eO eG   -- for this text's walks alone
set_option linter.unusedVariables false
set_option linter.unusedSimpArgs false
mutual
def aV.j0 : Nat → Int → Bool → Int → Int → Int → Int → List Int → List Int → Option (Int × Int)
  | 0, _, _, _, _, _, _, _, _ => none
  | k + 1, x1, x25, jS, fU, jR, gT, gV, il => if x25 = true then (some (0, 1)) else (if 0 ≤ gT then (if (gT : Int).toNat ≤ 35184372088832 then ((some (List.replicate (gT : Int).toNat 0 : List Int)).bind fun y900 => (if 0 < (y900.length : Int) then (aV.l0 k x1 (y900.set (0 : Int).toNat 1) 0 jS fU jR gT gV il) else (none))) else (none)) else (none))
def aV.l0 : Nat → Int → List Int → Int → Int → Int → Int → Int → List Int → List Int → Option (Int × Int)
  | 0, _, _, _, _, _, _, _, _, _ => none
  | k + 1, x1, x7, x8, jS, fU, jR, gT, gV, il => if x8 < x1 then (if 0 ≤ gT then (if (gT : Int).toNat ≤ 35184372088832 then (aV.l1 k x1 x7 x8 (List.replicate (gT : Int).toNat 0) 0 jS fU jR gT gV il) else (none)) else (none)) else (aV.l3 k x7 0 0 jS fU jR gT gV il)
def aV.l1 : Nat → Int → List Int → Int → List Int → Int → Int → Int → Int → Int → List Int → List Int → Option (Int × Int)
  | 0, _, _, _, _, _, _, _, _, _, _, _ => none
  | k + 1, x1, x7, x8, x9, x10, jS, fU, jR, gT, gV, il => if x10 < gT then (aV.l2 k x1 x7 x8 x9 x10 0 jS fU jR gT gV il) else (aV.l0 k x1 x9 (wrap64 (x8 + 1)) jS fU jR gT gV il)
def aV.l2 : Nat → Int → List Int → Int → List Int → Int → Int → Int → Int → Int → Int → List Int → List Int → Option (Int × Int)
  | 0, _, _, _, _, _, _, _, _, _, _, _, _ => none
  | k + 1, x1, x7, x8, x9, x10, x11, jS, fU, jR, gT, gV, il => if x11 < fU then (if 0 ≤ (wrap64 ((wrap64 (x10 * fU)) + x11)) then (if (wrap64 ((wrap64 (x10 * fU)) + x11)) < (gV.length : Int) then (if 0 ≤ (rd gV (wrap64 ((wrap64 (x10 * fU)) + x11))) then (if (rd gV (wrap64 ((wrap64 (x10 * fU)) + x11))) < (x9.length : Int) then (if 0 ≤ x10 then (if x10 < (x7.length : Int) then ((some (x9.set ((rd gV (wrap64 ((wrap64 (x10 * fU)) + x11))) : Int).toNat (wrap64 ((rd x9 (rd gV (wrap64 ((wrap64 (x10 * fU)) + x11)))) + (rd x7 x10))) : List Int)).bind fun y910 => (if (wrap64 ((rd x9 (rd gV (wrap64 ((wrap64 (x10 * fU)) + x11)))) + (rd x7 x10))) > 2199023255552 then (aV.l2 k x1 x7 x8 (y910.set ((rd gV (wrap64 ((wrap64 (x10 * fU)) + x11))) : Int).toNat 2199023255552) x10 (wrap64 (x11 + 1)) jS fU jR gT gV il) else (aV.l2 k x1 x7 x8 y910 x10 (wrap64 (x11 + 1)) jS fU jR gT gV il))) else (none)) else (none)) else (none)) else (none)) else (none)) else (none)) else (aV.l1 k x1 x7 x8 x9 (wrap64 (x10 + 1)) jS fU jR gT gV il)
def aV.l3 : Nat → List Int → Int → Int → Int → Int → Int → Int → List Int → List Int → Option (Int × Int)
  | 0, _, _, _, _, _, _, _, _, _ => none
  | k + 1, x7, x13, x14, jS, fU, jR, gT, gV, il => if x14 < gT then (if 0 ≤ x14 then (if x14 < (il.length : Int) then (if (rd il x14) = 1 then (if x14 < (x7.length : Int) then (if (wrap64 (x13 + (rd x7 x14))) > 1099511627776 then (some (0, 11)) else (aV.l3 k x7 (wrap64 (x13 + (rd x7 x14))) (wrap64 (x14 + 1)) jS fU jR gT gV il)) else (none)) else (if x13 > 1099511627776 then (some (0, 11)) else (aV.l3 k x7 x13 (wrap64 (x14 + 1)) jS fU jR gT gV il))) else (none)) else (none)) else (some (x13, 0))
end
def aV.f (k : Nat) (aX : Int) (aY : Int) (ae : Int) (aT : Int) (aM : List Int) (aU : List Int) (a1 : Int) : Option (Int × Int) := (bV.f k aX aY ae aT aM aU).bind fun t899 => (if t899 = 0 then (if a1 < 0 then (aV.j0 k a1 true aX aY ae aT aM aU) else (aV.j0 k a1 (decide (a1 > 4096)) aX aY ae aT aM aU)) else (some (0, t899)))
def aV.T19 : Bool × List (List Nat × List Nat) := (true, [([], []), ([], []), ([], []), ([], []), ([2, 3], [2, 3]), ([4], [4]), ([], []), ([], []), ([6, 7], [6, 7]), ([8], [8]), ([5, 9], [5, 9]), ([0, 1, 0, 1, 2, 3, 4, 5, 6, 7, 8, 9, 10], [0, 1]), ([11, 10, 0, 1, 2, 3, 4, 5, 6, 7, 8, 9, 10], [10, 11])])
def aV.B19 : List Nat := [0, 0, 0, 0, 12, 28, 0, 0, 192, 448, 1020, 2047, 4095]
theorem aV.tab19 : rtab .any (opsOf Try.f40 19) = aV.T19 := by kernel_rfl
theorem aV.bits19 : waitsOk aV.T19.2 aV.B19 = true := by kernel_rfl
set_option maxHeartbeats 8000000 in
set_option maxRecDepth 100000 in
theorem aV.calls (k : Nat) (aX : Int) (aY : Int) (ae : Int) (aT : Int) (bH : Option Addr) (bC : Nat) (aM : List Int) (bE : Option Addr) (bD : Nat) (aU : List Int) (a1 : Int) (r1 : Int) (r2 : Int) (w : World) (eQ : Kd.C (Kd.int .i64) w bH aM.length aM) (eu : aM.length ≤ bC) (fD : Kd.C (Kd.int .i64) w bE aU.length aU) (fG : aU.length ≤ bD) (h : aV.f k aX aY ae aT aM aU a1 = some (r1, r2)) :
    Calls Try.prog 40 #[.agg #[.int .i64 aX, .int .i64 aY, .int .i64 ae, .int .i64 aT, .slice bH aM.length bC, .slice bE aU.length bD], .int .i64 a1] w fun e w' => e = .returned (.tuple #[.int .i64 r1, .int .i64 r2]) ∧ Below w.heap.size w w' := by
  have hu43 := Try.underlying43
  have dY := aC.mk eQ
  have eX := aC.mk eu
  clear eQ eu
  have dV := aC.mk fD
  have fA := aC.mk fG
  clear fD fG
  have HB := aC.mk (Below.refl w.heap.size w)
  have H : ((bV.f k aX aY ae aT aM aU).bind fun t899 => (if t899 = 0 then (if a1 < 0 then (aV.j0 k a1 true aX aY ae aT aM aU) else (aV.j0 k a1 (decide (a1 > 4096)) aX aY ae aT aM aU)) else (some (0, t899)))) = some (r1, r2) := h
  clear h
  replace H := Option.bind_eq_some_iff.mp H
  obtain ⟨t899, A30, H⟩ := H
  replace H : (if t899 = 0 then (if a1 < 0 then (aV.j0 k a1 true aX aY ae aT aM aU) else (aV.j0 k a1 (decide (a1 > 4096)) aX aY ae aT aM aU)) else (some (0, t899))) = some (r1, r2) := H
  have A3 := aC.mk A30
  clear A30
  by_cases c4 : t899 = 0
  · rw [if_pos c4] at H
    have iB : (t899 == 0) = true := beq_iff_eq.mpr c4
    have ja : (t899 != 0) = false := bne_eq_false_iff_eq.mpr c4
    clear c4
    have HC5 := aC.mk H
    clear H
    go_enter Try.func40, Try.ntmps40
    go_upto_region 4 with (first | ((with_reducible refine bK (N := 2) rfl ?_); refine dA ?hg (N := 2) ?hd (cs := #[.int .i64 aX, .int .i64 aY, .int .i64 ae, .int .i64 aT, .slice bH aM.length bC, .slice bE aU.length bD]) (t := 43) ?hr ?_; (case hd => rfl); (case hg => rfl); (case hr => first | (go_simp; done) | (go_simp; rfl)); intro bi hg w6 hbox hb; have n0_ := aC.mk (ah (by repeat (first | (with_reducible first | exact HB.out | apply aH | apply aG | apply aI) | exact HB.out)) hb); have n1_ := aC.mk (hbox); have n2_ := aC.mk ((by rw [hg]; exact (aZ (by repeat (first | (with_reducible first | exact HB.out | apply aH | apply aG | apply aI) | exact HB.out))) : w.heap.size ≤ bi)); have n3_ := aC.mk ((by rw [hg]; exact (aZ (by repeat (first | (with_reducible first | exact HB.out | apply aH | apply aG | apply aI) | exact HB.out))) : w.heap.size ≤ bi)); clear HB; have HB := n0_; have bF := n1_; have GW898 := n2_; have jO := n3_; clear n0_ n1_ n2_ n3_; clear hb hbox hg; have hcz7_0 : w6.cell? ⟨bi, 0, none⟩ = some (.int .i64 aX) := (aD bF.out 0).trans rfl; have hcz7_1 : w6.cell? ⟨bi, 1, none⟩ = some (.int .i64 aY) := (aD bF.out 1).trans rfl; have hcz7_2 : w6.cell? ⟨bi, 2, none⟩ = some (.int .i64 ae) := (aD bF.out 2).trans rfl; have hcz7_3 : w6.cell? ⟨bi, 3, none⟩ = some (.int .i64 aT) := (aD bF.out 3).trans rfl; have hcz7_4 : w6.cell? ⟨bi, 4, none⟩ = some (.slice bH aM.length bC) := (aD bF.out 4).trans rfl; have hcz7_5 : w6.cell? ⟨bi, 5, none⟩ = some (.slice bE aU.length bD) := (aD bF.out 5).trans rfl; have hfz7_0 := aA bF.out 0; have hfz7_1 := aA bF.out 1; have hfz7_2 := aA bF.out 2; have hfz7_3 := aA bF.out 3; have hfz7_4 := aA bF.out 4; have hfz7_5 := aA bF.out 5) | ((with_reducible refine dG (f := 75) rfl ?_); refine gW (some 16) rfl rfl Try.func75 (by kernel_rfl) rfl #[.agg #[.int .i64 aX, .int .i64 aY, .int .i64 ae, .int .i64 aT, .slice bH aM.length bC, .slice bE aU.length bD]] rfl (by (try simp only [List.map_toArray, List.map_cons, List.map_nil]); first | done | rfl | (simp only [List.length_drop, List.length_take]; rfl)) ?_; (with_reducible refine (bV.calls k aX aY ae aT _ _ aM _ _ aU t899 _ ?dD ?dC ?dJ ?dI A3.out).mono ?_); (case dD => repeat (first | exact (Kd.ak dY.out HB.out) | (with_reducible refine Kd.bS ?_ _) | (with_reducible refine Kd.bR ?_ _) | (with_reducible refine Kd.bW ?_))); (case dC => exact eX.out); (case dJ => repeat (first | exact (Kd.ak dV.out HB.out) | (with_reducible refine Kd.bS ?_ _) | (with_reducible refine Kd.bR ?_ _) | (with_reducible refine Kd.bW ?_))); (case dI => exact fA.out); rintro e w8 ⟨rfl, hb⟩; refine ⟨_, rfl, ?_⟩; have n0_ := aC.mk (av (g := bi) (o := .cells #[.int .i64 aX, .int .i64 aY, .int .i64 ae, .int .i64 aT, .slice bH aM.length bC, .slice bE aU.length bD] 43 (0, 0)) (by (with_reducible repeat (first | refine ag ?_ _ | refine af ?_ | refine aW ?_ _)); exact bF.out) hb); have n1_ := aC.mk (ah (by repeat (first | (with_reducible first | exact HB.out | apply aH | apply aG | apply aI | refine aJ ?_ jO.out) | exact HB.out)) hb); clear bF; clear HB; have bF := n0_; have HB := n1_; clear n0_ n1_; (try clear hb); (try clear hb2); (try clear hk); (try clear hi)))
    (try simp only [Act.put, List.setIfInBounds_toArray, List.set_cons_zero, List.set_cons_succ])
    go_cut [25] (fun v25 wc => ∃ (kq : Nat) (x25_4 : Bool), v25 = .bool x25_4 ∧ aC (aV.j0 kq a1 x25_4 aX aY ae aT aM aU = some (r1, r2)) ∧ aC (kq ≤ k) ∧ aC (wc.heap[bi]? = some (.cells #[.int .i64 aX, .int .i64 aY, .int .i64 ae, .int .i64 aT, (.slice bH aM.length bC), (.slice bE aU.length bD)] 43 (0, 0))) ∧ aC (Below w.heap.size w wc))
    case first =>
      have H := HC5.out
      clear HC5
      by_cases c9 : a1 < 0
      · rw [if_pos c9] at H
        have c9b0 : decide (a1 < 0) = true := decide_eq_true c9
        clear c9
        (first | rw [c9b0] | (simp only [bT, bU]; rw [c9b0]) | skip)
        have H' := aC.mk H
        clear H
        go_wp2
        go_meet
        case rel => exact ⟨_, (true), (by first | rfl | (simp; done) | (simp [*]; done)), H', ⟨by first | omega | exact Nat.le_refl _⟩, ⟨by (with_reducible repeat (first | refine ag ?_ _ | refine af ?_ | refine aW ?_ _)); exact bF.out⟩, ⟨by repeat (first | (with_reducible first | exact HB.out | apply aH | apply aG | apply aI | refine aJ ?_ jO.out) | exact HB.out)⟩⟩
      · rw [if_neg c9] at H
        have c9b0 : decide (a1 < 0) = false := decide_eq_false c9
        clear c9
        (first | rw [c9b0] | (simp only [bT, bU]; rw [c9b0]) | skip)
        have H' := aC.mk H
        clear H
        go_wp2
        go_meet
        case rel => exact ⟨_, (decide (a1 > 4096)), (by first | rfl | (simp; done) | (simp [*]; done)), H', ⟨by first | omega | exact Nat.le_refl _⟩, ⟨by (with_reducible repeat (first | refine ag ?_ _ | refine af ?_ | refine aW ?_ _)); exact bF.out⟩, ⟨by repeat (first | (with_reducible first | exact HB.out | apply aH | apply aG | apply aI | refine aJ ?_ jO.out) | exact HB.out)⟩⟩
    case rest =>
      clear HC5
      try clear p2
      try clear c4
      try clear iB
      try clear ja
      try clear c7
      try clear c9
      try clear c9b0
      try clear hcz7_0
      try clear hcz7_1
      try clear hcz7_2
      try clear hcz7_3
      try clear hcz7_4
      try clear hcz7_5
      try clear hfz7_0
      try clear hfz7_1
      try clear hfz7_2
      try clear hfz7_3
      try clear hfz7_4
      try clear hfz7_5
      obtain ⟨kq, x25_4, rfl, HA, HJ4, bF, HB⟩ := hcut
      cases kq with
      | zero => exact absurd HA.out (by simp [aV.j0])
      | succ kj4 =>
        have H := HA.out
        clear HA
        simp only [aV.j0] at H
        by_cases c10 : x25_4 = true
        · subst c10
          have H1 : (some (0, 1)) = some (r1, r2) := by rw [if_pos rfl] at H; exact H
          clear H
          have H := H1
          clear H1
          simp only [Option.some.injEq, Prod.mk.injEq] at H
          obtain ⟨rfl, rfl⟩ := H
          go_wp2
          go_ret2
          exact ⟨by first | rfl | (simp [az, ay] <;> rfl) | (simp [*, az, ay] <;> rfl), by repeat (first | (with_reducible first | exact HB.out | apply aH | apply aG | apply aI | refine aJ ?_ jO.out) | exact HB.out)⟩
        · replace c10 := Bool.eq_false_iff.mpr c10
          subst c10
          have H1 : (if 0 ≤ aT then (if (aT : Int).toNat ≤ 35184372088832 then ((some (List.replicate (aT : Int).toNat 0 : List Int)).bind fun y900 => (if 0 < (y900.length : Int) then (aV.l0 kj4 a1 (y900.set (0 : Int).toNat 1) 0 aX aY ae aT aM aU) else (none))) else (none)) else (none)) = some (r1, r2) := by rw [if_neg (show ¬ (false = true) by decide)] at H; exact H
          clear H
          have H := H1
          clear H1
          by_cases c11 : 0 ≤ aT
          · rw [if_pos c11] at H
            have c11b0 := eq_true c11
            have c11b1 : decide (0 ≤ aT) = true := decide_eq_true c11
            clear c11
            by_cases c12 : (aT : Int).toNat ≤ 35184372088832
            · rw [if_pos c12] at H
              have c12b0 := eq_true c12
              have c12b1 : decide ((aT : Int).toNat ≤ 35184372088832) = true := decide_eq_true c12
              clear c12
              obtain ⟨y900, hy900⟩ : ∃ y_ : List Int, y_ = (List.replicate (aT : Int).toNat 0) := ⟨_, rfl⟩
              replace H : (if 0 < (y900.length : Int) then (aV.l0 kj4 a1 (y900.set (0 : Int).toNat 1) 0 aX aY ae aT aM aU) else (none)) = some (r1, r2) := by first | (rw [hy900]; with_reducible exact H) | (have H2_ := (Option.bind_some _ _).symm.trans H; rw [hy900]; with_reducible exact H2_) | (have H2_ := (Option.bind_some _ _).symm.trans H; with_reducible exact H2_) | with_reducible exact H | (rw [hy900]; exact H) | exact H
              have Ny900 := aC.mk hy900
              clear hy900
              by_cases c13 : 0 < (y900.length : Int)
              · rw [if_pos c13] at H
                have c13b0 : decide (0 < (y900.length : Int)) = true := decide_eq_true c13
                have c13b1 : decide (0 < y900.length) = true := decide_eq_true (by omega)
                clear c13
                obtain ⟨y903, hy903⟩ : ∃ y_ : List Int, y_ = (y900.set (0 : Int).toNat 1) := ⟨_, rfl⟩
                replace H : (aV.l0 kj4 a1 y903 0 aX aY ae aT aM aU) = some (r1, r2) := by first | (rw [hy903]; with_reducible exact H) | (have H2_ := (Option.bind_some _ _).symm.trans H; rw [hy903]; with_reducible exact H2_) | (have H2_ := (Option.bind_some _ _).symm.trans H; with_reducible exact H2_) | with_reducible exact H | (rw [hy903]; exact H) | exact H
                have Ny903 := aC.mk hy903
                clear hy903
                have H' := aC.mk H
                clear H
                have hcz15_0 : wc.cell? ⟨bi, 0, none⟩ = some (.int .i64 aX) := (aD bF.out 0).trans rfl
                have hcz15_1 : wc.cell? ⟨bi, 1, none⟩ = some (.int .i64 aY) := (aD bF.out 1).trans rfl
                have hcz15_2 : wc.cell? ⟨bi, 2, none⟩ = some (.int .i64 ae) := (aD bF.out 2).trans rfl
                have hcz15_3 : wc.cell? ⟨bi, 3, none⟩ = some (.int .i64 aT) := (aD bF.out 3).trans rfl
                have hcz15_4 : wc.cell? ⟨bi, 4, none⟩ = some (.slice bH aM.length bC) := (aD bF.out 4).trans rfl
                have hcz15_5 : wc.cell? ⟨bi, 5, none⟩ = some (.slice bE aU.length bD) := (aD bF.out 5).trans rfl
                have hfz15_0 := aA bF.out 0
                have hfz15_1 := aA bF.out 1
                have hfz15_2 := aA bF.out 2
                have hfz15_3 := aA bF.out 3
                have hfz15_4 := aA bF.out 4
                have hfz15_5 := aA bF.out 5
                go_wp2_with (first | ((with_reducible refine bK (N := 28) rfl ?_); refine Kd.R_make (Kd.int .i64) _ 3 rfl (N := 28) rfl 22 _ _ rfl aT rfl rfl Try.underlying22 (.int .i64 0) 8 info3 rfl (by decide) (by omega) 0 (ok := fun _ => True) (okp := fun _ => True) rfl (fun _ hk => hk) trivial (of_decide_eq_true (by first | (with_reducible assumption) | assumption)) (Nat.le_trans (Nat.mul_le_mul_right _ (of_decide_eq_true (by first | (with_reducible assumption) | assumption) : aT.toNat ≤ 35184372088832)) (by omega)) (Below.refl _ _) (Nat.le_refl _) ?_; intro v901 w16 ho17 hb hg_ hnew_; clear hg_ hnew_; (first | rw [← Ny900.out] at ho17 | (simp only [Int.reduceToNat] at ho17; rw [← Ny900.out] at ho17)); have n0_ := aC.mk (Kd.dn ho17 (aZ (by repeat (first | (with_reducible first | exact HB.out | apply aH | apply aG | apply aI | refine aJ ?_ jO.out) | exact HB.out)))); have n1_ := aC.mk (av (g := bi) (o := .cells #[.int .i64 aX, .int .i64 aY, .int .i64 ae, .int .i64 aT, .slice bH aM.length bC, .slice bE aU.length bD] 43 (0, 0)) (by (with_reducible repeat (first | refine ag ?_ _ | refine af ?_ | refine aW ?_ _)); exact bF.out) hb); have n2_ := aC.mk (ah (by repeat (first | (with_reducible first | exact HB.out | apply aH | apply aG | apply aI | refine aJ ?_ jO.out) | exact HB.out)) hb); clear bF; clear HB; have HO902 := n0_; have bF := n1_; have HB := n2_; clear n0_ n1_ n2_; clear hb ho17; have p14 : 0 ≤ (0 : Int) := (by omega); have q14 : (0 : Int) < ((y900.length : Int) : Int) := of_decide_eq_true (by first | (with_reducible assumption) | assumption); have qi14 : (0 < y900.length) = True := eq_true (by omega); obtain ⟨go14, co14, eo14, gb14, gl14, cl14, HG14⟩ := Kd.R_form HO902.out (by omega); (first | cases eo14 | (injection eo14 with ea_ en_ ec_; (first | subst ea_ | (injection ea_ with ea_; subst ea_)); subst ec_; clear en_)); have GB14 := aC.mk gb14; have GG14 := aC.mk HG14; clear gb14 gl14 HG14; obtain ⟨hx14_0, hf14_0⟩ := Kd.fT 0 HO902.out (0 : Int) p14 q14; (try rw [show ((0 : Int)).toNat = 0 from rfl] at hx14_0); (try simp only [Nat.reduceMul, Nat.zero_mul, Nat.zero_add, Nat.reduceAdd] at hx14_0); (try rw [show ((0 : Int)).toNat = 0 from rfl] at hf14_0); (try simp only [Nat.reduceMul, Nat.zero_mul, Nat.zero_add, Nat.reduceAdd] at hf14_0); replace p14 := eq_true p14; replace q14 := eq_true q14; obtain ⟨hy18_, hz18_⟩ := Kd.fT 0 HO902.out (0 : Int) (by omega) (of_decide_eq_true (by first | (with_reducible assumption) | assumption)); (try simp only [Int.reduceToNat, Int.toNat_zero, Int.toNat_ofNat, Nat.reduceMul, Nat.zero_mul, Nat.zero_add] at hy18_ hz18_); (try rw [show ((0 : Int)).toNat = 0 from rfl] at hy18_); (try rw [show ((0 : Int)).toNat = 0 from rfl] at hz18_); have HP18 := Kd.lM HO902.out (0 : Int) 1) | ((with_reducible refine dW (t := 3) (p := 30) rfl ?_); refine gz (t := 3) (p := 30) (v := ?vo_w19) (w1 := (w16.setCell ⟨go14, (0 : Int).toNat, none⟩ (.int .i64 1))) ?hg ?ho ?hn ?hr ?_; (case ho => rfl); (case hg => rfl); (case hn => rfl); (case hr => first | (go_simp; done) | (go_simp; rfl)); intro w19 hw; have hg : w16.grownBy w19 (some go14) := (by rw [hw]; exact HP18.2); have hp_ : Kd.R (Kd.int .i64) 3 w19 w.heap.size (fun _ => True) (.slice (some ⟨go14, 0, none⟩) y900.length co14) y903 := (by rw [hw, Ny903.out]; exact HP18.1); clear HP18; have n0_ := aC.mk (cZ (g := bi) (o := .cells #[.int .i64 aX, .int .i64 aY, .int .i64 ae, .int .i64 aT, .slice bH aM.length bC, .slice bE aU.length bD] 43 (0, 0)) (by (with_reducible repeat (first | refine ag ?_ _ | refine af ?_ | refine aW ?_ _)); exact bF.out) hg (Kd.jL HO902.out bF.out (by decide))); have n1_ := aC.mk (hp_); have n2_ := aC.mk ((by rw [hw]; exact aJ (HB.out) GB14.out : Below w.heap.size w w19)); clear bF; clear HO902; clear HB; have bF := n0_; have HO902 := n1_; have HB := n2_; clear n0_ n1_ n2_; clear hg hw hp_))
                go_loopg [7, 8] kj4 (fun kq v7 v8 w' => ∃ (dQ : List Int) (x8_2 : Int), v8 = .int .i64 x8_2 ∧ aC (aV.l0 kq a1 dQ x8_2 aX aY ae aT aM aU = some (r1, r2)) ∧ aC (kq ≤ kj4) ∧ aC (Kd.R (Kd.int .i64) 3 w' w.heap.size (fun _ => True) v7 dQ) ∧ aC (w'.heap[bi]? = some (.cells #[.int .i64 aX, .int .i64 aY, .int .i64 ae, .int .i64 aT, (.slice bH aM.length bC), (.slice bE aU.length bD)] 43 (0, 0))) ∧ aC (Below w.heap.size w w'))
                case atStart => exact ⟨(y903), (0), (by first | rfl | (simp; done) | (simp [*]; done)), H', ⟨Nat.le_refl _⟩, ⟨by (with_reducible repeat (first | apply Kd.bB | apply Kd.ax | apply Kd.bJ)); exact HO902.out⟩, ⟨by (with_reducible repeat (first | refine ag ?_ _ | refine af ?_ | refine aW ?_ _)); exact bF.out⟩, ⟨by repeat (first | (with_reducible first | exact HB.out | apply aH | apply aG | apply aI | refine aJ ?_ jO.out) | exact HB.out)⟩⟩
                case round =>
                  clear H'
                  try clear c1
                  try clear p1
                  try clear q1
                  try clear hx1
                  try clear qi1
                  try clear p2
                  try clear c4
                  try clear iB
                  try clear ja
                  try clear c7
                  try clear c9
                  try clear c9b0
                  try clear c10
                  try clear c11
                  try clear c11b0
                  try clear c11b1
                  try clear c12
                  try clear c12b0
                  try clear c12b1
                  try clear c13
                  try clear c13b0
                  try clear c13b1
                  try clear p14
                  try clear q14
                  try clear hx14
                  try clear qi14
                  try clear hf14
                  try clear hcz15_0
                  try clear hcz15_1
                  try clear hcz15_2
                  try clear hcz15_3
                  try clear hcz15_4
                  try clear hcz15_5
                  try clear hcz7_0
                  try clear hcz7_1
                  try clear hcz7_2
                  try clear hcz7_3
                  try clear hcz7_4
                  try clear hcz7_5
                  try clear hfz15_0
                  try clear hfz15_1
                  try clear hfz15_2
                  try clear hfz15_3
                  try clear hfz15_4
                  try clear hfz15_5
                  try clear hfz7_0
                  try clear hfz7_1
                  try clear hfz7_2
                  try clear hfz7_3
                  try clear hfz7_4
                  try clear hfz7_5
                  try clear hx14_0
                  try clear p14
                  try clear p2
                  try clear q14
                  obtain ⟨dQ, x8_2, rfl, HA, HK2, HO_7, bF, HB⟩ := hrel
                  cases gk with
                  | zero => exact absurd HA.out (by simp [aV.l0])
                  | succ k2 =>
                    have H := HA.out
                    clear HA
                    simp only [aV.l0] at H
                    by_cases c20 : x8_2 < a1
                    · rw [if_pos c20] at H
                      have jf : decide (x8_2 < a1) = true := decide_eq_true c20
                      clear c20
                      by_cases c21 : 0 ≤ aT
                      · rw [if_pos c21] at H
                        have c21b0 := eq_true c21
                        have c21b1 : decide (0 ≤ aT) = true := decide_eq_true c21
                        clear c21
                        by_cases c22 : (aT : Int).toNat ≤ 35184372088832
                        · rw [if_pos c22] at H
                          have c22b0 := eq_true c22
                          have c22b1 : decide ((aT : Int).toNat ≤ 35184372088832) = true := decide_eq_true c22
                          clear c22
                          obtain ⟨y904, hy904⟩ : ∃ y_ : List Int, y_ = (List.replicate (aT : Int).toNat 0) := ⟨_, rfl⟩
                          replace H : (aV.l1 k2 a1 dQ x8_2 y904 0 aX aY ae aT aM aU) = some (r1, r2) := by first | (rw [hy904]; with_reducible exact H) | (have H2_ := (Option.bind_some _ _).symm.trans H; rw [hy904]; with_reducible exact H2_) | (have H2_ := (Option.bind_some _ _).symm.trans H; with_reducible exact H2_) | with_reducible exact H | (rw [hy904]; exact H) | exact H
                          have Ny904 := aC.mk hy904
                          clear hy904
                          have H' := aC.mk H
                          clear H
                          have hcz23_0 : wr.cell? ⟨bi, 0, none⟩ = some (.int .i64 aX) := (aD bF.out 0).trans rfl
                          have hcz23_1 : wr.cell? ⟨bi, 1, none⟩ = some (.int .i64 aY) := (aD bF.out 1).trans rfl
                          have hcz23_2 : wr.cell? ⟨bi, 2, none⟩ = some (.int .i64 ae) := (aD bF.out 2).trans rfl
                          have hcz23_3 : wr.cell? ⟨bi, 3, none⟩ = some (.int .i64 aT) := (aD bF.out 3).trans rfl
                          have hcz23_4 : wr.cell? ⟨bi, 4, none⟩ = some (.slice bH aM.length bC) := (aD bF.out 4).trans rfl
                          have hcz23_5 : wr.cell? ⟨bi, 5, none⟩ = some (.slice bE aU.length bD) := (aD bF.out 5).trans rfl
                          have hfz23_0 := aA bF.out 0
                          have hfz23_1 := aA bF.out 1
                          have hfz23_2 := aA bF.out 2
                          have hfz23_3 := aA bF.out 3
                          have hfz23_4 := aA bF.out 4
                          have hfz23_5 := aA bF.out 5
                          go_wp2_with (first | ((with_reducible refine bK (N := 38) rfl ?_); refine Kd.R_make (Kd.int .i64) _ 3 rfl (N := 38) rfl 22 _ _ rfl aT rfl rfl Try.underlying22 (.int .i64 0) 8 info3 rfl (by decide) (by omega) 0 (ok := fun _ => True) (okp := fun _ => True) rfl (fun _ hk => hk) trivial (of_decide_eq_true (by first | (with_reducible assumption) | assumption)) (Nat.le_trans (Nat.mul_le_mul_right _ (of_decide_eq_true (by first | (with_reducible assumption) | assumption) : aT.toNat ≤ 35184372088832)) (by omega)) (Below.refl _ _) (Nat.le_refl _) ?_; intro v905 w24 ho25 hb hg_ hnew_; clear hg_ hnew_; (first | rw [← Ny904.out] at ho25 | (simp only [Int.reduceToNat] at ho25; rw [← Ny904.out] at ho25)); have n0_ := aC.mk (Kd.ic (by (with_reducible repeat (first | apply Kd.bB | apply Kd.ax | apply Kd.bJ)); exact HO_7.out) (Kd.gX ho25) hb); have n1_ := aC.mk (Kd.dn (Kd.l8 ho25 (Kd.jD (by (with_reducible repeat (first | apply Kd.bB | apply Kd.ax | apply Kd.bJ)); exact HO_7.out))) (aZ (by repeat (first | (with_reducible first | exact HB.out | apply aH | apply aG | apply aI | refine aJ ?_ jO.out) | exact HB.out)))); have n2_ := aC.mk (av (g := bi) (o := .cells #[.int .i64 aX, .int .i64 aY, .int .i64 ae, .int .i64 aT, .slice bH aM.length bC, .slice bE aU.length bD] 43 (0, 0)) (by (with_reducible repeat (first | refine ag ?_ _ | refine af ?_ | refine aW ?_ _)); exact bF.out) hb); have n3_ := aC.mk (ah (by repeat (first | (with_reducible first | exact HB.out | apply aH | apply aG | apply aI | refine aJ ?_ jO.out) | exact HB.out)) hb); clear HO_7; clear bF; clear HB; have HO_7 := n0_; have HO906 := n1_; have bF := n2_; have HB := n3_; clear n0_ n1_ n2_ n3_; clear hb ho25))
                          go_loopg [10] k2 (fun kq v10 w' => ∃ (dP : List Int) (eU : Int), v10 = .int .i64 eU ∧ aC (aV.l1 kq a1 dQ x8_2 dP eU aX aY ae aT aM aU = some (r1, r2)) ∧ aC (kq ≤ k2) ∧ aC (Kd.R (Kd.int .i64) 3 w' w.heap.size (fun k_ => some k_ ≠ (v905 : Value).ownBlock) u7 dQ) ∧ aC (Kd.R (Kd.int .i64) 3 w' w.heap.size (fun k_ => some k_ ≠ (u7 : Value).ownBlock) v905 dP) ∧ aC (w'.heap[bi]? = some (.cells #[.int .i64 aX, .int .i64 aY, .int .i64 ae, .int .i64 aT, (.slice bH aM.length bC), (.slice bE aU.length bD)] 43 (0, 0))) ∧ aC (Below w.heap.size w w'))
                          case atStart => exact ⟨(y904), (0), (by first | rfl | (simp; done) | (simp [*]; done)), H', ⟨Nat.le_refl _⟩, ⟨by (with_reducible repeat (first | apply Kd.bB | apply Kd.ax | apply Kd.bJ)); exact Kd.dB HO_7.out (fun _ hk => hk.2)⟩, ⟨by (with_reducible repeat (first | apply Kd.bB | apply Kd.ax | apply Kd.bJ)); exact Kd.dB HO906.out (fun _ hk => hk.2)⟩, ⟨by (with_reducible repeat (first | refine ag ?_ _ | refine af ?_ | refine aW ?_ _)); exact bF.out⟩, ⟨by repeat (first | (with_reducible first | exact HB.out | apply aH | apply aG | apply aI | refine aJ ?_ jO.out) | exact HB.out)⟩⟩
                          case round =>
                            clear H'
                            try clear c1
                            try clear p1
                            try clear q1
                            try clear hx1
                            try clear qi1
                            try clear c2
                            try clear p2
                            try clear c4
                            try clear iB
                            try clear ja
                            try clear c7
                            try clear c9
                            try clear c9b0
                            try clear c10
                            try clear c11
                            try clear c11b0
                            try clear c11b1
                            try clear c12
                            try clear c12b0
                            try clear c12b1
                            try clear c13
                            try clear c13b0
                            try clear c13b1
                            try clear p14
                            try clear q14
                            try clear hx14
                            try clear qi14
                            try clear hf14
                            try clear c20
                            try clear jf
                            try clear c21
                            try clear c21b0
                            try clear c21b1
                            try clear c22
                            try clear c22b0
                            try clear c22b1
                            try clear hcz15_0
                            try clear hcz15_1
                            try clear hcz15_2
                            try clear hcz15_3
                            try clear hcz15_4
                            try clear hcz15_5
                            try clear hcz23_0
                            try clear hcz23_1
                            try clear hcz23_2
                            try clear hcz23_3
                            try clear hcz23_4
                            try clear hcz23_5
                            try clear hcz7_0
                            try clear hcz7_1
                            try clear hcz7_2
                            try clear hcz7_3
                            try clear hcz7_4
                            try clear hcz7_5
                            try clear hfz15_0
                            try clear hfz15_1
                            try clear hfz15_2
                            try clear hfz15_3
                            try clear hfz15_4
                            try clear hfz15_5
                            try clear hfz23_0
                            try clear hfz23_1
                            try clear hfz23_2
                            try clear hfz23_3
                            try clear hfz23_4
                            try clear hfz23_5
                            try clear hfz7_0
                            try clear hfz7_1
                            try clear hfz7_2
                            try clear hfz7_3
                            try clear hfz7_4
                            try clear hfz7_5
                            try clear hx14_0
                            try clear p1
                            try clear p14
                            try clear p2
                            try clear q1
                            try clear q14
                            obtain ⟨dP, eU, rfl, HA, HK3, HO_7, HO_9, bF, HB⟩ := hrel
                            cases gk with
                            | zero => exact absurd HA.out (by simp [aV.l1])
                            | succ k3 =>
                              have H := HA.out
                              clear HA
                              simp only [aV.l1] at H
                              by_cases c26 : eU < aT
                              · rw [if_pos c26] at H
                                have c26b0 : decide (eU < aT) = true := decide_eq_true c26
                                clear c26
                                have H' := aC.mk H
                                clear H
                                have hcz27_0 : wr.cell? ⟨bi, 0, none⟩ = some (.int .i64 aX) := (aD bF.out 0).trans rfl
                                have hcz27_1 : wr.cell? ⟨bi, 1, none⟩ = some (.int .i64 aY) := (aD bF.out 1).trans rfl
                                have hcz27_2 : wr.cell? ⟨bi, 2, none⟩ = some (.int .i64 ae) := (aD bF.out 2).trans rfl
                                have hcz27_3 : wr.cell? ⟨bi, 3, none⟩ = some (.int .i64 aT) := (aD bF.out 3).trans rfl
                                have hcz27_4 : wr.cell? ⟨bi, 4, none⟩ = some (.slice bH aM.length bC) := (aD bF.out 4).trans rfl
                                have hcz27_5 : wr.cell? ⟨bi, 5, none⟩ = some (.slice bE aU.length bD) := (aD bF.out 5).trans rfl
                                have hfz27_0 := aA bF.out 0
                                have hfz27_1 := aA bF.out 1
                                have hfz27_2 := aA bF.out 2
                                have hfz27_3 := aA bF.out 3
                                have hfz27_4 := aA bF.out 4
                                have hfz27_5 := aA bF.out 5
                                go_wp2
                                go_loopg [11] k3 (fun kq v11 w' => ∃ (iy : List Int) (x11_4 : Int), v11 = .int .i64 x11_4 ∧ aC (aV.l2 kq a1 dQ x8_2 iy eU x11_4 aX aY ae aT aM aU = some (r1, r2)) ∧ aC (kq ≤ k3) ∧ aC (Kd.R (Kd.int .i64) 3 w' w.heap.size (fun k_ => some k_ ≠ (v905 : Value).ownBlock) u7 dQ) ∧ aC (Kd.R (Kd.int .i64) 3 w' w.heap.size (fun k_ => some k_ ≠ (u7 : Value).ownBlock) v905 iy) ∧ aC (w'.heap[bi]? = some (.cells #[.int .i64 aX, .int .i64 aY, .int .i64 ae, .int .i64 aT, (.slice bH aM.length bC), (.slice bE aU.length bD)] 43 (0, 0))) ∧ aC (Below w.heap.size w w'))
                                case atStart => exact ⟨(dP), (0), (by first | rfl | (simp; done) | (simp [*]; done)), H', ⟨Nat.le_refl _⟩, ⟨by (with_reducible repeat (first | apply Kd.bB | apply Kd.ax | apply Kd.bJ)); exact HO_7.out⟩, ⟨by (with_reducible repeat (first | apply Kd.bB | apply Kd.ax | apply Kd.bJ)); exact HO_9.out⟩, ⟨by (with_reducible repeat (first | refine ag ?_ _ | refine af ?_ | refine aW ?_ _)); exact bF.out⟩, ⟨by repeat (first | (with_reducible first | exact HB.out | apply aH | apply aG | apply aI | refine aJ ?_ jO.out) | exact HB.out)⟩⟩
                                case round =>
                                  clear H'
                                  try clear c1
                                  try clear p1
                                  try clear q1
                                  try clear hx1
                                  try clear qi1
                                  try clear c2
                                  try clear p2
                                  try clear c4
                                  try clear iB
                                  try clear ja
                                  try clear c7
                                  try clear c9
                                  try clear c9b0
                                  try clear c10
                                  try clear c11
                                  try clear c11b0
                                  try clear c11b1
                                  try clear c12
                                  try clear c12b0
                                  try clear c12b1
                                  try clear c13
                                  try clear c13b0
                                  try clear c13b1
                                  try clear p14
                                  try clear q14
                                  try clear hx14
                                  try clear qi14
                                  try clear hf14
                                  try clear c20
                                  try clear jf
                                  try clear c21
                                  try clear c21b0
                                  try clear c21b1
                                  try clear c22
                                  try clear c22b0
                                  try clear c22b1
                                  try clear c26
                                  try clear c26b0
                                  try clear hcz15_0
                                  try clear hcz15_1
                                  try clear hcz15_2
                                  try clear hcz15_3
                                  try clear hcz15_4
                                  try clear hcz15_5
                                  try clear hcz23_0
                                  try clear hcz23_1
                                  try clear hcz23_2
                                  try clear hcz23_3
                                  try clear hcz23_4
                                  try clear hcz23_5
                                  try clear hcz27_0
                                  try clear hcz27_1
                                  try clear hcz27_2
                                  try clear hcz27_3
                                  try clear hcz27_4
                                  try clear hcz27_5
                                  try clear hcz7_0
                                  try clear hcz7_1
                                  try clear hcz7_2
                                  try clear hcz7_3
                                  try clear hcz7_4
                                  try clear hcz7_5
                                  try clear hfz15_0
                                  try clear hfz15_1
                                  try clear hfz15_2
                                  try clear hfz15_3
                                  try clear hfz15_4
                                  try clear hfz15_5
                                  try clear hfz23_0
                                  try clear hfz23_1
                                  try clear hfz23_2
                                  try clear hfz23_3
                                  try clear hfz23_4
                                  try clear hfz23_5
                                  try clear hfz27_0
                                  try clear hfz27_1
                                  try clear hfz27_2
                                  try clear hfz27_3
                                  try clear hfz27_4
                                  try clear hfz27_5
                                  try clear hfz7_0
                                  try clear hfz7_1
                                  try clear hfz7_2
                                  try clear hfz7_3
                                  try clear hfz7_4
                                  try clear hfz7_5
                                  try clear hx14_0
                                  try clear p1
                                  try clear p14
                                  try clear p2
                                  try clear q1
                                  try clear q14
                                  obtain ⟨iy, x11_4, rfl, HA, HK4, HO_7, HO_9, bF, HB⟩ := hrel
                                  cases gk with
                                  | zero => exact absurd HA.out (by simp [aV.l2])
                                  | succ k4 =>
                                    have H := HA.out
                                    clear HA
                                    simp only [aV.l2] at H
                                    by_cases c28 : x11_4 < aY
                                    · rw [if_pos c28] at H
                                      have c28b0 : decide (x11_4 < aY) = true := decide_eq_true c28
                                      clear c28
                                      obtain ⟨cu, hji29⟩ : ∃ j_ : Int, (wrap64 ((wrap64 (eU * aY)) + x11_4)) = j_ := ⟨_, rfl⟩
                                      replace H : (if 0 ≤ (cu) then (if (cu) < (aM.length : Int) then (if 0 ≤ (rd aM (cu)) then (if (rd aM (cu)) < (iy.length : Int) then (if 0 ≤ eU then (if eU < (dQ.length : Int) then ((some (iy.set ((rd aM (cu)) : Int).toNat (wrap64 ((rd iy (rd aM (cu))) + (rd dQ eU))) : List Int)).bind fun y910 => (if (wrap64 ((rd iy (rd aM (cu))) + (rd dQ eU))) > 2199023255552 then (aV.l2 k4 a1 dQ x8_2 (y910.set ((rd aM (cu)) : Int).toNat 2199023255552) eU (wrap64 (x11_4 + 1)) aX aY ae aT aM aU) else (aV.l2 k4 a1 dQ x8_2 y910 eU (wrap64 (x11_4 + 1)) aX aY ae aT aM aU))) else (none)) else (none)) else (none)) else (none)) else (none)) else (none)) = some (r1, r2) := by first | (rw [hji29] at H; exact H) | (simp only [hji29] at H ⊢; exact H)
                                      have hji29w : (IntKind.i64.wrap ((wrap64 (eU * aY)) + x11_4)) = cu := (bT _).trans hji29
                                      by_cases c30 : 0 ≤ (cu)
                                      · rw [if_pos c30] at H
                                        have c30b0 : decide (0 ≤ (cu)) = true := decide_eq_true c30
                                        clear c30
                                        by_cases c31 : (cu) < (aM.length : Int)
                                        · rw [if_pos c31] at H
                                          have c31b0 : decide ((cu) < (aM.length : Int)) = true := decide_eq_true c31
                                          clear c31
                                          by_cases c32 : 0 ≤ (rd aM (cu))
                                          · rw [if_pos c32] at H
                                            have c32b0 : decide (0 ≤ (rd aM (cu))) = true := decide_eq_true c32
                                            clear c32
                                            by_cases c33 : (rd aM (cu)) < (iy.length : Int)
                                            · rw [if_pos c33] at H
                                              have c33b0 : decide ((rd aM (cu)) < (iy.length : Int)) = true := decide_eq_true c33
                                              clear c33
                                              by_cases c34 : 0 ≤ eU
                                              · rw [if_pos c34] at H
                                                have c34b0 : decide (0 ≤ eU) = true := decide_eq_true c34
                                                clear c34
                                                by_cases c35 : eU < (dQ.length : Int)
                                                · rw [if_pos c35] at H
                                                  have c35b0 : decide (eU < (dQ.length : Int)) = true := decide_eq_true c35
                                                  clear c35
                                                  obtain ⟨y910, hy910⟩ : ∃ y_ : List Int, y_ = (iy.set ((rd aM (cu)) : Int).toNat (wrap64 ((rd iy (rd aM (cu))) + (rd dQ eU)))) := ⟨_, rfl⟩
                                                  replace H : (if (wrap64 ((rd iy (rd aM (cu))) + (rd dQ eU))) > 2199023255552 then (aV.l2 k4 a1 dQ x8_2 (y910.set ((rd aM (cu)) : Int).toNat 2199023255552) eU (wrap64 (x11_4 + 1)) aX aY ae aT aM aU) else (aV.l2 k4 a1 dQ x8_2 y910 eU (wrap64 (x11_4 + 1)) aX aY ae aT aM aU)) = some (r1, r2) := by first | (rw [hy910]; with_reducible exact H) | (have H2_ := (Option.bind_some _ _).symm.trans H; rw [hy910]; with_reducible exact H2_) | (have H2_ := (Option.bind_some _ _).symm.trans H; with_reducible exact H2_) | with_reducible exact H | (rw [hy910]; exact H) | exact H
                                                  have Ny910 := aC.mk hy910
                                                  clear hy910
                                                  by_cases c38 : (wrap64 ((rd iy (rd aM (cu))) + (rd dQ eU))) > 2199023255552
                                                  · rw [if_pos c38] at H
                                                    have c38b0 : decide (2199023255552 < (wrap64 ((rd iy (rd aM (cu))) + (rd dQ eU)))) = true := decide_eq_true c38
                                                    clear c38
                                                    obtain ⟨y912, hy912⟩ : ∃ y_ : List Int, y_ = (y910.set ((rd aM (cu)) : Int).toNat 2199023255552) := ⟨_, rfl⟩
                                                    replace H : (aV.l2 k4 a1 dQ x8_2 y912 eU (wrap64 (x11_4 + 1)) aX aY ae aT aM aU) = some (r1, r2) := by first | (rw [hy912]; with_reducible exact H) | (have H2_ := (Option.bind_some _ _).symm.trans H; rw [hy912]; with_reducible exact H2_) | (have H2_ := (Option.bind_some _ _).symm.trans H; with_reducible exact H2_) | with_reducible exact H | (rw [hy912]; exact H) | exact H
                                                    have Ny912 := aC.mk hy912
                                                    clear hy912
                                                    have H' := aC.mk H
                                                    clear H
                                                    have hcz40_0 : wr.cell? ⟨bi, 0, none⟩ = some (.int .i64 aX) := (aD bF.out 0).trans rfl
                                                    have hcz40_1 : wr.cell? ⟨bi, 1, none⟩ = some (.int .i64 aY) := (aD bF.out 1).trans rfl
                                                    have hcz40_2 : wr.cell? ⟨bi, 2, none⟩ = some (.int .i64 ae) := (aD bF.out 2).trans rfl
                                                    have hcz40_3 : wr.cell? ⟨bi, 3, none⟩ = some (.int .i64 aT) := (aD bF.out 3).trans rfl
                                                    have hcz40_4 : wr.cell? ⟨bi, 4, none⟩ = some (.slice bH aM.length bC) := (aD bF.out 4).trans rfl
                                                    have hcz40_5 : wr.cell? ⟨bi, 5, none⟩ = some (.slice bE aU.length bD) := (aD bF.out 5).trans rfl
                                                    have hfz40_0 := aA bF.out 0
                                                    have hfz40_1 := aA bF.out 1
                                                    have hfz40_2 := aA bF.out 2
                                                    have hfz40_3 := aA bF.out 3
                                                    have hfz40_4 := aA bF.out 4
                                                    have hfz40_5 := aA bF.out 5
                                                    have p907 : 0 ≤ ((cu) : Int) := of_decide_eq_true (by first | (with_reducible assumption) | assumption)
                                                    have q907 : (cu) < (aM.length : Int) := of_decide_eq_true (by first | (with_reducible assumption) | assumption)
                                                    obtain ⟨ad907, e907, hx907_0⟩ := Kd.cz dY.out (cu) p907 q907
                                                    cases e907
                                                    replace hx907_0 := (HB.out.cell (World.block_lt_of_cell? w _ hx907_0)).trans hx907_0
                                                    replace p907 := eq_true p907
                                                    replace q907 := eq_true q907
                                                    try go_wp2
                                                    have n0_ := aC.mk (Kd.bJ HO_7.out)
                                                    have n1_ := aC.mk (Kd.bJ HO_9.out)
                                                    have n2_ := aC.mk (af bF.out)
                                                    have n3_ := aC.mk (aI HB.out)
                                                    clear HO_7
                                                    clear HO_9
                                                    clear bF
                                                    clear HB
                                                    have HO_7 := n0_
                                                    have HO_9 := n1_
                                                    have bF := n2_
                                                    have HB := n3_
                                                    clear n0_ n1_ n2_ n3_
                                                    obtain ⟨Ao42, co42, eo42⟩ := Kd.bu HO_9.out
                                                    (first | subst eo42 | (injection eo42 with f1_ f2_ f3_; have f4_ := f1_.symm; have f5_ := f3_.symm; clear f1_ f2_ f3_; subst f4_; subst f5_))
                                                    have p908 : 0 ≤ ((rd aM (cu)) : Int) := of_decide_eq_true (by first | (with_reducible assumption) | assumption)
                                                    have q908 : (rd aM (cu)) < (iy.length : Int) := of_decide_eq_true (by first | (with_reducible assumption) | assumption)
                                                    obtain ⟨ad908, e908, hx908_0⟩ := Kd.cz (Kd.bX HO_9.out).2.2 (rd aM (cu)) p908 q908
                                                    cases e908
                                                    replace p908 := eq_true p908
                                                    replace q908 := eq_true q908
                                                    obtain ⟨Ao43, co43, eo43⟩ := Kd.bu HO_7.out
                                                    (first | subst eo43 | (injection eo43 with f1_ f2_ f3_; have f4_ := f1_.symm; have f5_ := f3_.symm; clear f1_ f2_ f3_; subst f4_; subst f5_))
                                                    have p909 : 0 ≤ (eU : Int) := of_decide_eq_true (by first | (with_reducible assumption) | assumption)
                                                    have q909 : eU < (dQ.length : Int) := of_decide_eq_true (by first | (with_reducible assumption) | assumption)
                                                    obtain ⟨ad909, e909, hx909_0⟩ := Kd.cz (Kd.bX HO_7.out).2.2 eU p909 q909
                                                    cases e909
                                                    replace p909 := eq_true p909
                                                    replace q909 := eq_true q909
                                                    have p36 : 0 ≤ ((rd aM (cu)) : Int) := of_decide_eq_true (by first | (with_reducible assumption) | assumption)
                                                    have q36 : ((rd aM (cu)) : Int) < ((iy.length : Int) : Int) := of_decide_eq_true (by first | (with_reducible assumption) | assumption)
                                                    obtain ⟨go36, co36, eo36, gb36, gl36, cl36, HG36⟩ := Kd.R_form HO_9.out (by omega)
                                                    (first | cases eo36 | (injection eo36 with ea_ en_ ec_; (first | subst ea_ | (injection ea_ with ea_; subst ea_)); subst ec_; clear en_))
                                                    have GB36 := aC.mk gb36
                                                    have GG36 := aC.mk HG36
                                                    clear gb36 gl36 HG36
                                                    (first | simp only [add_plain] at hx908_0 | skip)
                                                    obtain ⟨hx36_0, hf36_0⟩ := Kd.fT 0 HO_9.out ((rd aM (cu)) : Int) p36 q36
                                                    replace p36 := eq_true p36
                                                    replace q36 := eq_true q36
                                                    have HP44 := Kd.R_putn HO_9.out ((rd aM (cu)) : Int) (wrap64 ((rd iy (rd aM (cu))) + (rd dQ eU)))
                                                    rw [← Ny910.out] at HP44
                                                    have HQ44 := aC.mk HP44
                                                    clear HP44
                                                    refine start_ (n := 13) (S := fun w' => w'.cell? ⟨go36, ((rd aM (cu))).toNat, none⟩ = some (.int .i64 (rd iy (rd aM (cu)))) ∧ w'.cell? (ad909.add (eU).toNat) = some (.int .i64 (rd dQ eU))) (ds := [12]) #[false, false, false, false, false, false, false, false, false, false, false, false, false] (by kernel_rfl) rfl rfl ⟨hx908_0, hx909_0⟩ (fun hHeld => ?_); refine with_tabW aV.tab19 aV.bits19 (fun HT_ HW_ => ?_)
                                                    generalize wr.drew = w41 at HO_7 HO_9 bF HB GG36 HQ44 hf36_0 hx36_0 hx908_0 hx909_0 hHeld ⊢
                                                    refine dM (i := 0) (N := some 61) (v := ?_) (a' := ?_) #[true, false, false, false, false, false, false, false, false, false, false, false, false] rfl rfl (dE HT_.out (by kernel_rfl)) (fun _ _ _ h => h) (Or.inl ⟨by rfl, ?_⟩) ?_ ?_
                                                    rotate_left
                                                    · intro w'
                                                      go_simp
                                                      with_reducible rfl
                                                    rotate_left
                                                    · simp only [Act.put, List.setIfInBounds_toArray, List.set_cons_zero, List.set_cons_succ, bT, bU]
                                                      rfl
                                                    refine dM (i := 1) (N := some 62) (v := ?_) (a' := ?_) #[true, true, false, false, false, false, false, false, false, false, false, false, false] rfl rfl (dE HT_.out (by kernel_rfl)) (fun _ _ _ h => h) (Or.inl ⟨by rfl, ?_⟩) ?_ ?_
                                                    rotate_left
                                                    · intro w'
                                                      go_simp
                                                      with_reducible rfl
                                                    rotate_left
                                                    · simp only [Act.put, List.setIfInBounds_toArray, List.set_cons_zero, List.set_cons_succ, bT, bU]
                                                      rfl
                                                    refine dM (i := 2) (N := some 63) (v := ?_) (a' := ?_) #[true, true, true, false, false, false, false, false, false, false, false, false, false] rfl rfl (dE HT_.out (by kernel_rfl)) (fun _ _ _ h => h) (Or.inl ⟨by rfl, ?_⟩) ?_ ?_
                                                    rotate_left
                                                    · intro w'
                                                      go_simp
                                                      with_reducible rfl
                                                    rotate_left
                                                    · simp only [Act.put, List.setIfInBounds_toArray, List.set_cons_zero, List.set_cons_succ, bT, bU]
                                                      rfl
                                                    refine dM (i := 3) (N := some 64) (v := ?_) (a' := ?_) #[true, true, true, true, false, false, false, false, false, false, false, false, false] rfl rfl (dE HT_.out (by kernel_rfl)) (fun _ _ _ h => h) (Or.inl ⟨by rfl, ?_⟩) ?_ ?_
                                                    rotate_left
                                                    · intro w'
                                                      go_simp
                                                      with_reducible rfl
                                                    rotate_left
                                                    · simp only [Act.put, List.setIfInBounds_toArray, List.set_cons_zero, List.set_cons_succ, bT, bU]
                                                      rfl
                                                    refine dM (i := 4) (N := some 65) (v := ?_) (a' := ?_) #[true, true, true, true, true, false, false, false, false, false, false, false, false] rfl rfl (dE HT_.out (by kernel_rfl)) (fun _ _ _ h => h) (Or.inl ⟨by rfl, ?_⟩) ?_ ?_
                                                    rotate_left
                                                    · intro w'
                                                      go_simp
                                                      with_reducible rfl
                                                    rotate_left
                                                    · simp only [Act.put, List.setIfInBounds_toArray, List.set_cons_zero, List.set_cons_succ, bT, bU]
                                                      rfl
                                                    refine dM (i := 6) (N := some 67) (v := ?_) (a' := ?_) #[true, true, true, true, true, false, true, false, false, false, false, false, false] rfl rfl (dE HT_.out (by kernel_rfl)) (fun _ _ _ h => h) (Or.inl ⟨by rfl, ?_⟩) ?_ ?_
                                                    rotate_left
                                                    · intro w'
                                                      go_simp
                                                      with_reducible rfl
                                                    rotate_left
                                                    · simp only [Act.put, List.setIfInBounds_toArray, List.set_cons_zero, List.set_cons_succ, bT, bU]
                                                      rfl
                                                    refine dM (i := 7) (N := some 68) (v := ?_) (a' := ?_) #[true, true, true, true, true, false, true, true, false, false, false, false, false] rfl rfl (dE HT_.out (by kernel_rfl)) (fun _ _ _ h => h) (Or.inl ⟨by rfl, ?_⟩) ?_ ?_
                                                    rotate_left
                                                    · intro w'
                                                      go_simp
                                                      with_reducible rfl
                                                    rotate_left
                                                    · simp only [Act.put, List.setIfInBounds_toArray, List.set_cons_zero, List.set_cons_succ, bT, bU]
                                                      rfl
                                                    refine dM (i := 8) (N := some 69) (v := ?_) (a' := ?_) #[true, true, true, true, true, false, true, true, true, false, false, false, false] rfl rfl (dE HT_.out (by kernel_rfl)) (fun _ _ _ h => h) (Or.inl ⟨by rfl, ?_⟩) ?_ ?_
                                                    rotate_left
                                                    · intro w'
                                                      go_simp
                                                      with_reducible rfl
                                                    rotate_left
                                                    · simp only [Act.put, List.setIfInBounds_toArray, List.set_cons_zero, List.set_cons_succ, bT, bU]
                                                      rfl
                                                    refine jB (i := 5) (N := some 66) (v := ?_) (a' := ?_) #[true, true, true, true, true, true, true, true, true, false, false, false, false] rfl rfl (ek HT_.out HW_.out (by kernel_rfl)) (fun _ _ _ h => h) (Or.inl ⟨by rfl, ?_⟩) hHeld ?_ ?_
                                                    rotate_left
                                                    · rintro w' ⟨s0, s1⟩
                                                      go_simp
                                                      with_reducible rfl
                                                    rotate_left
                                                    · simp only [Act.put, List.setIfInBounds_toArray, List.set_cons_zero, List.set_cons_succ, bT, bU]
                                                      rfl
                                                    refine jB (i := 9) (N := some 70) (v := ?_) (a' := ?_) #[true, true, true, true, true, true, true, true, true, true, false, false, false] rfl rfl (ek HT_.out HW_.out (by kernel_rfl)) (fun _ _ _ h => h) (Or.inl ⟨by rfl, ?_⟩) hHeld ?_ ?_
                                                    rotate_left
                                                    · rintro w' ⟨s0, s1⟩
                                                      go_simp
                                                      with_reducible rfl
                                                    rotate_left
                                                    · simp only [Act.put, List.setIfInBounds_toArray, List.set_cons_zero, List.set_cons_succ, bT, bU]
                                                      rfl
                                                    refine dM (i := 10) (N := some 71) (v := ?_) (a' := ?_) #[true, true, true, true, true, true, true, true, true, true, true, false, false] rfl rfl (dE HT_.out (by kernel_rfl)) (fun _ _ _ h => h) (Or.inl ⟨by rfl, ?_⟩) ?_ ?_
                                                    rotate_left
                                                    · intro w'
                                                      go_simp
                                                      with_reducible rfl
                                                    rotate_left
                                                    · simp only [Act.put, List.setIfInBounds_toArray, List.set_cons_zero, List.set_cons_succ, bT, bU]
                                                      rfl
                                                    refine dM (i := 11) (N := some 72) (v := ?_) (a' := ?_) #[true, true, true, true, true, true, true, true, true, true, true, true, false] rfl rfl (dE HT_.out (by kernel_rfl)) (fun _ _ _ h => h) (Or.inl ⟨by rfl, ?_⟩) ?_ ?_
                                                    rotate_left
                                                    · intro w'
                                                      go_simp
                                                      with_reducible rfl
                                                    rotate_left
                                                    · simp only [Act.put, List.setIfInBounds_toArray, List.set_cons_zero, List.set_cons_succ, bT, bU]
                                                      rfl
                                                    refine last_ (i := 12) (N := none) #[true, true, true, true, true, true, true, true, true, true, true, true, true] rfl rfl (one_of HT_.out (by kernel_rfl)) (by decide) (fun K hK => ?_)
                                                    refine skip_ (w1 := ?_) (by rfl) rfl ?_ ?_
                                                    rotate_left
                                                    · go_simp
                                                      rfl
                                                    refine hK.out _ _ ?_
                                                    clear hK K
                                                    refine done_ (done_of HT_.out (by kernel_rfl)) ?_
                                                    have n0_ : aC (Kd.R (Kd.int .i64) 3 (w41.setCell ⟨go36, ((rd aM (cu)) : Int).toNat, none⟩ (.int .i64 (wrap64 ((rd iy (rd aM (cu))) + (rd dQ eU))))) w.heap.size (fun k_ => some k_ ≠ (.slice (some ⟨go36, 0, none⟩) iy.length co42 : Value).ownBlock) (.slice (some ad909) dQ.length co43) dQ) := ⟨by (with_reducible repeat (first | apply Kd.bB | apply Kd.ax | apply Kd.bJ)); exact Kd.dB (Kd.R_far (p := ⟨go36, ((rd aM (cu)) : Int).toNat, none⟩) (Kd.dB HO_7.out (fun k_ hk => (⟨hk, fun e_ => hk (by rw [e_]; rfl)⟩ : _ ∧ k_ ≠ go36))) (fun _ hk => hk.2) (.int .i64 (wrap64 ((rd iy (rd aM (cu))) + (rd dQ eU))))) (fun _ hk => hk.1)⟩
                                                    have n1_ : aC (Kd.R (Kd.int .i64) 3 (w41.setCell ⟨go36, ((rd aM (cu)) : Int).toNat, none⟩ (.int .i64 (wrap64 ((rd iy (rd aM (cu))) + (rd dQ eU))))) w.heap.size (fun k_ => some k_ ≠ (.slice (some ad909) dQ.length co43 : Value).ownBlock) (.slice (some ⟨go36, 0, none⟩) iy.length co42) y910) := ⟨by (with_reducible repeat (first | apply Kd.bB | apply Kd.ax | apply Kd.bJ)); exact HQ44.out⟩
                                                    have n2_ : aC ((w41.setCell ⟨go36, ((rd aM (cu)) : Int).toNat, none⟩ (.int .i64 (wrap64 ((rd iy (rd aM (cu))) + (rd dQ eU))))).heap[bi]? = some (.cells #[.int .i64 aX, .int .i64 aY, .int .i64 ae, .int .i64 aT, .slice (some ad907) aM.length bC, .slice bE aU.length bD] 43 (0, 0))) := ⟨by (with_reducible repeat (first | refine ag ?_ _ | refine af ?_ | refine aW ?_ _)); refine blk_far ?_ (by have h_ := Kd.jL HO_9.out bF.out (by decide); intro e_; exact h_ (by rw [e_]; rfl)) _; (with_reducible repeat (first | refine ag ?_ _ | refine af ?_ | refine aW ?_ _)); exact bF.out⟩
                                                    have n3_ : aC (Below w.heap.size w (w41.setCell ⟨go36, ((rd aM (cu)) : Int).toNat, none⟩ (.int .i64 (wrap64 ((rd iy (rd aM (cu))) + (rd dQ eU)))))) := ⟨by repeat (first | (with_reducible first | exact HB.out | apply aH | apply aG | apply aI | refine aJ ?_ GB36.out | refine aJ ?_ jO.out) | exact HB.out)⟩
                                                    (try clear HO_7)
                                                    (try clear HO_9)
                                                    (try clear bF)
                                                    (try clear HB)
                                                    generalize (w41.setCell ⟨go36, ((rd aM (cu)) : Int).toNat, none⟩ (.int .i64 (wrap64 ((rd iy (rd aM (cu))) + (rd dQ eU))))) = w45 at n0_ n1_ n2_ n3_ ⊢
                                                    have HO_7 := n0_
                                                    have HO_9 := n1_
                                                    have bF := n2_
                                                    have HB := n3_
                                                    clear n0_ n1_ n2_ n3_
                                                    have p37 : 0 ≤ ((rd aM (cu)) : Int) := of_decide_eq_true (by first | (with_reducible assumption) | assumption)
                                                    have q37 : ((rd aM (cu)) : Int) < ((iy.length : Int) : Int) := of_decide_eq_true (by first | (with_reducible assumption) | assumption)
                                                    replace p37 := eq_true p37
                                                    replace q37 := eq_true q37
                                                    have p39 : 0 ≤ ((rd aM (cu)) : Int) := of_decide_eq_true (by first | (with_reducible assumption) | assumption)
                                                    have q39 : ((rd aM (cu)) : Int) < ((iy.length : Int) : Int) := of_decide_eq_true (by first | (with_reducible assumption) | assumption)
                                                    replace p39 := eq_true p39
                                                    replace q39 := eq_true q39
                                                    obtain ⟨hy46_, hz46_⟩ := Kd.fT 0 HO_9.out ((rd aM (cu)) : Int) (of_decide_eq_true (by first | (with_reducible assumption) | assumption)) (of_decide_eq_true (by first | (with_reducible assumption) | assumption))
                                                    have HP46 := Kd.lM HO_9.out ((rd aM (cu)) : Int) 2199023255552
                                                    try go_wp2_with (first | ((with_reducible refine dW (t := 3) (p := 80) rfl ?_); refine gz (t := 3) (p := 80) (v := ?vo_w47) (w1 := (w45.setCell ⟨go36, ((rd aM (cu)) : Int).toNat, none⟩ (.int .i64 2199023255552))) ?hg ?ho ?hn ?hr ?_; (case ho => rfl); (case hg => rfl); (case hn => rfl); (case hr => first | (go_simp; done) | (go_simp; rfl)); intro w47 hw; have hg : w45.grownBy w47 (some go36) := (by rw [hw]; exact HP46.2); have hp_ : Kd.R (Kd.int .i64) 3 w47 w.heap.size (fun k_ => some k_ ≠ (.slice (some ad909) dQ.length co43 : Value).ownBlock) (.slice (some ⟨go36, 0, none⟩) iy.length co42) y912 := (by rw [hw, Ny912.out]; exact HP46.1); clear HP46; have n0_ := aC.mk (Kd.R_after (v := (.slice (some ⟨go36, 0, none⟩) iy.length co42)) (v1 := (.slice (some ⟨go36, 0, none⟩) iy.length co42)) (ok := (fun _ => True)) (by (with_reducible repeat (first | apply Kd.bB | apply Kd.ax | apply Kd.bJ)); exact Kd.dB HO_7.out (fun _ hk => ⟨trivial, hk⟩)) hg (.inl rfl)); have n1_ := aC.mk (hp_); have n2_ := aC.mk (cZ (g := bi) (o := .cells #[.int .i64 aX, .int .i64 aY, .int .i64 ae, .int .i64 aT, .slice (some ad907) aM.length bC, .slice bE aU.length bD] 43 (0, 0)) (by (with_reducible repeat (first | refine ag ?_ _ | refine af ?_ | refine aW ?_ _)); exact bF.out) hg (Kd.jL HO_9.out bF.out (by decide))); have n3_ := aC.mk ((by rw [hw]; exact aJ (HB.out) GB36.out : Below w.heap.size w w47)); clear HO_7; clear HO_9; clear bF; clear HB; have HO_7 := n0_; have HO_9 := n1_; have bF := n2_; have HB := n3_; clear n0_ n1_ n2_ n3_; clear hg hw hp_))
                                                    go_roundg k4
                                                    case measure => have := HJ4.out; have := HK2.out; have := HK3.out; have := HK4.out; omega
                                                    case rel => exact ⟨(y912), (wrap64 (x11_4 + 1)), (by first | rfl | (simp; done) | (simp [*]; done)), H', ⟨by have := HJ4.out; have := HK2.out; have := HK3.out; have := HK4.out; omega⟩, ⟨by (with_reducible repeat (first | apply Kd.bB | apply Kd.ax | apply Kd.bJ)); exact Kd.dB HO_7.out (fun _ hk => hk.2)⟩, ⟨by (with_reducible repeat (first | apply Kd.bB | apply Kd.ax | apply Kd.bJ)); exact HO_9.out⟩, ⟨by (with_reducible repeat (first | refine ag ?_ _ | refine af ?_ | refine aW ?_ _)); exact bF.out⟩, ⟨by repeat (first | (with_reducible first | exact HB.out | apply aH | apply aG | apply aI | refine aJ ?_ jO.out) | exact HB.out)⟩⟩
                                                    all_goals
                                                      exfalso
                                                      have hq_ : rdOf 0 y910 (rd aM cu) = (wrap64 ((rd iy (rd aM (cu))) + (rd dQ eU))) := by
                                                        rw [Ny910.out]
                                                        have h1_ : 0 ≤ rd aM cu := by first | exact of_eq_true (by assumption) | exact of_decide_eq_true (by assumption)
                                                        have h2_ : rd aM cu < (iy.length : Int) := by first | exact of_eq_true (by assumption) | exact of_decide_eq_true (by assumption)
                                                        simp only [rdOf]
                                                        rw [List.getD_eq_getElem?_getD, List.getElem?_set_self (by omega)]
                                                        rfl
                                                      have h3_ := of_decide_eq_true c38b0
                                                      omega
                                                  · rw [if_neg c38] at H
                                                    have c38b0 : decide (2199023255552 < (wrap64 ((rd iy (rd aM (cu))) + (rd dQ eU)))) = false := decide_eq_false c38
                                                    clear c38
                                                    have H' := aC.mk H
                                                    clear H
                                                    have hcz48_0 : wr.cell? ⟨bi, 0, none⟩ = some (.int .i64 aX) := (aD bF.out 0).trans rfl
                                                    have hcz48_1 : wr.cell? ⟨bi, 1, none⟩ = some (.int .i64 aY) := (aD bF.out 1).trans rfl
                                                    have hcz48_2 : wr.cell? ⟨bi, 2, none⟩ = some (.int .i64 ae) := (aD bF.out 2).trans rfl
                                                    have hcz48_3 : wr.cell? ⟨bi, 3, none⟩ = some (.int .i64 aT) := (aD bF.out 3).trans rfl
                                                    have hcz48_4 : wr.cell? ⟨bi, 4, none⟩ = some (.slice bH aM.length bC) := (aD bF.out 4).trans rfl
                                                    have hcz48_5 : wr.cell? ⟨bi, 5, none⟩ = some (.slice bE aU.length bD) := (aD bF.out 5).trans rfl
                                                    have hfz48_0 := aA bF.out 0
                                                    have hfz48_1 := aA bF.out 1
                                                    have hfz48_2 := aA bF.out 2
                                                    have hfz48_3 := aA bF.out 3
                                                    have hfz48_4 := aA bF.out 4
                                                    have hfz48_5 := aA bF.out 5
                                                    have p907 : 0 ≤ ((cu) : Int) := of_decide_eq_true (by first | (with_reducible assumption) | assumption)
                                                    have q907 : (cu) < (aM.length : Int) := of_decide_eq_true (by first | (with_reducible assumption) | assumption)
                                                    obtain ⟨ad907, e907, hx907_0⟩ := Kd.cz dY.out (cu) p907 q907
                                                    cases e907
                                                    replace hx907_0 := (HB.out.cell (World.block_lt_of_cell? w _ hx907_0)).trans hx907_0
                                                    replace p907 := eq_true p907
                                                    replace q907 := eq_true q907
                                                    try go_wp2
                                                    have n0_ := aC.mk (Kd.bJ HO_7.out)
                                                    have n1_ := aC.mk (Kd.bJ HO_9.out)
                                                    have n2_ := aC.mk (af bF.out)
                                                    have n3_ := aC.mk (aI HB.out)
                                                    clear HO_7
                                                    clear HO_9
                                                    clear bF
                                                    clear HB
                                                    have HO_7 := n0_
                                                    have HO_9 := n1_
                                                    have bF := n2_
                                                    have HB := n3_
                                                    clear n0_ n1_ n2_ n3_
                                                    obtain ⟨Ao50, co50, eo50⟩ := Kd.bu HO_9.out
                                                    (first | subst eo50 | (injection eo50 with f1_ f2_ f3_; have f4_ := f1_.symm; have f5_ := f3_.symm; clear f1_ f2_ f3_; subst f4_; subst f5_))
                                                    have p908 : 0 ≤ ((rd aM (cu)) : Int) := of_decide_eq_true (by first | (with_reducible assumption) | assumption)
                                                    have q908 : (rd aM (cu)) < (iy.length : Int) := of_decide_eq_true (by first | (with_reducible assumption) | assumption)
                                                    obtain ⟨ad908, e908, hx908_0⟩ := Kd.cz (Kd.bX HO_9.out).2.2 (rd aM (cu)) p908 q908
                                                    cases e908
                                                    replace p908 := eq_true p908
                                                    replace q908 := eq_true q908
                                                    obtain ⟨Ao51, co51, eo51⟩ := Kd.bu HO_7.out
                                                    (first | subst eo51 | (injection eo51 with f1_ f2_ f3_; have f4_ := f1_.symm; have f5_ := f3_.symm; clear f1_ f2_ f3_; subst f4_; subst f5_))
                                                    have p909 : 0 ≤ (eU : Int) := of_decide_eq_true (by first | (with_reducible assumption) | assumption)
                                                    have q909 : eU < (dQ.length : Int) := of_decide_eq_true (by first | (with_reducible assumption) | assumption)
                                                    obtain ⟨ad909, e909, hx909_0⟩ := Kd.cz (Kd.bX HO_7.out).2.2 eU p909 q909
                                                    cases e909
                                                    replace p909 := eq_true p909
                                                    replace q909 := eq_true q909
                                                    have p36 : 0 ≤ ((rd aM (cu)) : Int) := of_decide_eq_true (by first | (with_reducible assumption) | assumption)
                                                    have q36 : ((rd aM (cu)) : Int) < ((iy.length : Int) : Int) := of_decide_eq_true (by first | (with_reducible assumption) | assumption)
                                                    obtain ⟨go36, co36, eo36, gb36, gl36, cl36, HG36⟩ := Kd.R_form HO_9.out (by omega)
                                                    (first | cases eo36 | (injection eo36 with ea_ en_ ec_; (first | subst ea_ | (injection ea_ with ea_; subst ea_)); subst ec_; clear en_))
                                                    have GB36 := aC.mk gb36
                                                    have GG36 := aC.mk HG36
                                                    clear gb36 gl36 HG36
                                                    (first | simp only [add_plain] at hx908_0 | skip)
                                                    obtain ⟨hx36_0, hf36_0⟩ := Kd.fT 0 HO_9.out ((rd aM (cu)) : Int) p36 q36
                                                    replace p36 := eq_true p36
                                                    replace q36 := eq_true q36
                                                    have HP52 := Kd.R_putn HO_9.out ((rd aM (cu)) : Int) (wrap64 ((rd iy (rd aM (cu))) + (rd dQ eU)))
                                                    rw [← Ny910.out] at HP52
                                                    have HQ52 := aC.mk HP52
                                                    clear HP52
                                                    refine start_ (n := 13) (S := fun w' => w'.cell? ⟨go36, ((rd aM (cu))).toNat, none⟩ = some (.int .i64 (rd iy (rd aM (cu)))) ∧ w'.cell? (ad909.add (eU).toNat) = some (.int .i64 (rd dQ eU))) (ds := [12]) #[false, false, false, false, false, false, false, false, false, false, false, false, false] (by kernel_rfl) rfl rfl ⟨hx908_0, hx909_0⟩ (fun hHeld => ?_); refine with_tabW aV.tab19 aV.bits19 (fun HT_ HW_ => ?_)
                                                    generalize wr.drew = w49 at HO_7 HO_9 bF HB GG36 HQ52 hf36_0 hx36_0 hx908_0 hx909_0 hHeld ⊢
                                                    refine dM (i := 0) (N := some 61) (v := ?_) (a' := ?_) #[true, false, false, false, false, false, false, false, false, false, false, false, false] rfl rfl (dE HT_.out (by kernel_rfl)) (fun _ _ _ h => h) (Or.inl ⟨by rfl, ?_⟩) ?_ ?_
                                                    rotate_left
                                                    · intro w'
                                                      go_simp
                                                      with_reducible rfl
                                                    rotate_left
                                                    · simp only [Act.put, List.setIfInBounds_toArray, List.set_cons_zero, List.set_cons_succ, bT, bU]
                                                      rfl
                                                    refine dM (i := 1) (N := some 62) (v := ?_) (a' := ?_) #[true, true, false, false, false, false, false, false, false, false, false, false, false] rfl rfl (dE HT_.out (by kernel_rfl)) (fun _ _ _ h => h) (Or.inl ⟨by rfl, ?_⟩) ?_ ?_
                                                    rotate_left
                                                    · intro w'
                                                      go_simp
                                                      with_reducible rfl
                                                    rotate_left
                                                    · simp only [Act.put, List.setIfInBounds_toArray, List.set_cons_zero, List.set_cons_succ, bT, bU]
                                                      rfl
                                                    refine dM (i := 2) (N := some 63) (v := ?_) (a' := ?_) #[true, true, true, false, false, false, false, false, false, false, false, false, false] rfl rfl (dE HT_.out (by kernel_rfl)) (fun _ _ _ h => h) (Or.inl ⟨by rfl, ?_⟩) ?_ ?_
                                                    rotate_left
                                                    · intro w'
                                                      go_simp
                                                      with_reducible rfl
                                                    rotate_left
                                                    · simp only [Act.put, List.setIfInBounds_toArray, List.set_cons_zero, List.set_cons_succ, bT, bU]
                                                      rfl
                                                    refine dM (i := 3) (N := some 64) (v := ?_) (a' := ?_) #[true, true, true, true, false, false, false, false, false, false, false, false, false] rfl rfl (dE HT_.out (by kernel_rfl)) (fun _ _ _ h => h) (Or.inl ⟨by rfl, ?_⟩) ?_ ?_
                                                    rotate_left
                                                    · intro w'
                                                      go_simp
                                                      with_reducible rfl
                                                    rotate_left
                                                    · simp only [Act.put, List.setIfInBounds_toArray, List.set_cons_zero, List.set_cons_succ, bT, bU]
                                                      rfl
                                                    refine dM (i := 4) (N := some 65) (v := ?_) (a' := ?_) #[true, true, true, true, true, false, false, false, false, false, false, false, false] rfl rfl (dE HT_.out (by kernel_rfl)) (fun _ _ _ h => h) (Or.inl ⟨by rfl, ?_⟩) ?_ ?_
                                                    rotate_left
                                                    · intro w'
                                                      go_simp
                                                      with_reducible rfl
                                                    rotate_left
                                                    · simp only [Act.put, List.setIfInBounds_toArray, List.set_cons_zero, List.set_cons_succ, bT, bU]
                                                      rfl
                                                    refine dM (i := 6) (N := some 67) (v := ?_) (a' := ?_) #[true, true, true, true, true, false, true, false, false, false, false, false, false] rfl rfl (dE HT_.out (by kernel_rfl)) (fun _ _ _ h => h) (Or.inl ⟨by rfl, ?_⟩) ?_ ?_
                                                    rotate_left
                                                    · intro w'
                                                      go_simp
                                                      with_reducible rfl
                                                    rotate_left
                                                    · simp only [Act.put, List.setIfInBounds_toArray, List.set_cons_zero, List.set_cons_succ, bT, bU]
                                                      rfl
                                                    refine dM (i := 7) (N := some 68) (v := ?_) (a' := ?_) #[true, true, true, true, true, false, true, true, false, false, false, false, false] rfl rfl (dE HT_.out (by kernel_rfl)) (fun _ _ _ h => h) (Or.inl ⟨by rfl, ?_⟩) ?_ ?_
                                                    rotate_left
                                                    · intro w'
                                                      go_simp
                                                      with_reducible rfl
                                                    rotate_left
                                                    · simp only [Act.put, List.setIfInBounds_toArray, List.set_cons_zero, List.set_cons_succ, bT, bU]
                                                      rfl
                                                    refine dM (i := 8) (N := some 69) (v := ?_) (a' := ?_) #[true, true, true, true, true, false, true, true, true, false, false, false, false] rfl rfl (dE HT_.out (by kernel_rfl)) (fun _ _ _ h => h) (Or.inl ⟨by rfl, ?_⟩) ?_ ?_
                                                    rotate_left
                                                    · intro w'
                                                      go_simp
                                                      with_reducible rfl
                                                    rotate_left
                                                    · simp only [Act.put, List.setIfInBounds_toArray, List.set_cons_zero, List.set_cons_succ, bT, bU]
                                                      rfl
                                                    refine jB (i := 5) (N := some 66) (v := ?_) (a' := ?_) #[true, true, true, true, true, true, true, true, true, false, false, false, false] rfl rfl (ek HT_.out HW_.out (by kernel_rfl)) (fun _ _ _ h => h) (Or.inl ⟨by rfl, ?_⟩) hHeld ?_ ?_
                                                    rotate_left
                                                    · rintro w' ⟨s0, s1⟩
                                                      go_simp
                                                      with_reducible rfl
                                                    rotate_left
                                                    · simp only [Act.put, List.setIfInBounds_toArray, List.set_cons_zero, List.set_cons_succ, bT, bU]
                                                      rfl
                                                    refine jB (i := 9) (N := some 70) (v := ?_) (a' := ?_) #[true, true, true, true, true, true, true, true, true, true, false, false, false] rfl rfl (ek HT_.out HW_.out (by kernel_rfl)) (fun _ _ _ h => h) (Or.inl ⟨by rfl, ?_⟩) hHeld ?_ ?_
                                                    rotate_left
                                                    · rintro w' ⟨s0, s1⟩
                                                      go_simp
                                                      with_reducible rfl
                                                    rotate_left
                                                    · simp only [Act.put, List.setIfInBounds_toArray, List.set_cons_zero, List.set_cons_succ, bT, bU]
                                                      rfl
                                                    refine dM (i := 10) (N := some 71) (v := ?_) (a' := ?_) #[true, true, true, true, true, true, true, true, true, true, true, false, false] rfl rfl (dE HT_.out (by kernel_rfl)) (fun _ _ _ h => h) (Or.inl ⟨by rfl, ?_⟩) ?_ ?_
                                                    rotate_left
                                                    · intro w'
                                                      go_simp
                                                      with_reducible rfl
                                                    rotate_left
                                                    · simp only [Act.put, List.setIfInBounds_toArray, List.set_cons_zero, List.set_cons_succ, bT, bU]
                                                      rfl
                                                    refine dM (i := 11) (N := some 72) (v := ?_) (a' := ?_) #[true, true, true, true, true, true, true, true, true, true, true, true, false] rfl rfl (dE HT_.out (by kernel_rfl)) (fun _ _ _ h => h) (Or.inl ⟨by rfl, ?_⟩) ?_ ?_
                                                    rotate_left
                                                    · intro w'
                                                      go_simp
                                                      with_reducible rfl
                                                    rotate_left
                                                    · simp only [Act.put, List.setIfInBounds_toArray, List.set_cons_zero, List.set_cons_succ, bT, bU]
                                                      rfl
                                                    refine last_ (i := 12) (N := none) #[true, true, true, true, true, true, true, true, true, true, true, true, true] rfl rfl (one_of HT_.out (by kernel_rfl)) (by decide) (fun K hK => ?_)
                                                    refine skip_ (w1 := ?_) (by rfl) rfl ?_ ?_
                                                    rotate_left
                                                    · go_simp
                                                      rfl
                                                    refine hK.out _ _ ?_
                                                    clear hK K
                                                    refine done_ (done_of HT_.out (by kernel_rfl)) ?_
                                                    have p37 : 0 ≤ ((rd aM (cu)) : Int) := of_decide_eq_true (by first | (with_reducible assumption) | assumption)
                                                    have q37 : ((rd aM (cu)) : Int) < ((iy.length : Int) : Int) := of_decide_eq_true (by first | (with_reducible assumption) | assumption)
                                                    replace p37 := eq_true p37
                                                    replace q37 := eq_true q37
                                                    try go_wp2
                                                    go_roundg k4
                                                    case measure => have := HJ4.out; have := HK2.out; have := HK3.out; have := HK4.out; omega
                                                    case rel => exact ⟨(y910), (wrap64 (x11_4 + 1)), (by first | rfl | (simp; done) | (simp [*]; done)), H', ⟨by have := HJ4.out; have := HK2.out; have := HK3.out; have := HK4.out; omega⟩, ⟨by (with_reducible repeat (first | apply Kd.bB | apply Kd.ax | apply Kd.bJ)); exact Kd.dB (Kd.R_far (p := ⟨go36, ((rd aM (cu)) : Int).toNat, none⟩) (Kd.dB HO_7.out (fun k_ hk => (⟨hk, fun e_ => hk (by rw [e_]; rfl)⟩ : _ ∧ k_ ≠ go36))) (fun _ hk => hk.2) (.int .i64 (wrap64 ((rd iy (rd aM (cu))) + (rd dQ eU))))) (fun _ hk => hk.1)⟩, ⟨by (with_reducible repeat (first | apply Kd.bB | apply Kd.ax | apply Kd.bJ)); exact HQ52.out⟩, ⟨by (with_reducible repeat (first | refine ag ?_ _ | refine af ?_ | refine aW ?_ _)); refine blk_far ?_ (by have h_ := Kd.jL HO_9.out bF.out (by decide); intro e_; exact h_ (by rw [e_]; rfl)) _; (with_reducible repeat (first | refine ag ?_ _ | refine af ?_ | refine aW ?_ _)); exact bF.out⟩, ⟨by repeat (first | (with_reducible first | exact HB.out | apply aH | apply aG | apply aI | refine aJ ?_ GB36.out | refine aJ ?_ jO.out) | exact HB.out)⟩⟩
                                                · rw [if_neg c35] at H
                                                  exact absurd H (by simp)
                                              · rw [if_neg c34] at H
                                                exact absurd H (by simp)
                                            · rw [if_neg c33] at H
                                              exact absurd H (by simp)
                                          · rw [if_neg c32] at H
                                            exact absurd H (by simp)
                                        · rw [if_neg c31] at H
                                          exact absurd H (by simp)
                                      · rw [if_neg c30] at H
                                        exact absurd H (by simp)
                                    · rw [if_neg c28] at H
                                      have c28b0 : decide (x11_4 < aY) = false := decide_eq_false c28
                                      clear c28
                                      have H' := aC.mk H
                                      clear H
                                      have hcz53_0 : wr.cell? ⟨bi, 0, none⟩ = some (.int .i64 aX) := (aD bF.out 0).trans rfl
                                      have hcz53_1 : wr.cell? ⟨bi, 1, none⟩ = some (.int .i64 aY) := (aD bF.out 1).trans rfl
                                      have hcz53_2 : wr.cell? ⟨bi, 2, none⟩ = some (.int .i64 ae) := (aD bF.out 2).trans rfl
                                      have hcz53_3 : wr.cell? ⟨bi, 3, none⟩ = some (.int .i64 aT) := (aD bF.out 3).trans rfl
                                      have hcz53_4 : wr.cell? ⟨bi, 4, none⟩ = some (.slice bH aM.length bC) := (aD bF.out 4).trans rfl
                                      have hcz53_5 : wr.cell? ⟨bi, 5, none⟩ = some (.slice bE aU.length bD) := (aD bF.out 5).trans rfl
                                      have hfz53_0 := aA bF.out 0
                                      have hfz53_1 := aA bF.out 1
                                      have hfz53_2 := aA bF.out 2
                                      have hfz53_3 := aA bF.out 3
                                      have hfz53_4 := aA bF.out 4
                                      have hfz53_5 := aA bF.out 5
                                      go_wp2
                                      go_roundg k4
                                      case measure => have := HJ4.out; have := HK2.out; have := HK3.out; have := HK4.out; omega
                                      case rel => exact ⟨(iy), (wrap64 (eU + 1)), (by first | rfl | (simp; done) | (simp [*]; done)), H', ⟨by have := HJ4.out; have := HK2.out; have := HK3.out; have := HK4.out; omega⟩, ⟨by (with_reducible repeat (first | apply Kd.bB | apply Kd.ax | apply Kd.bJ)); exact HO_7.out⟩, ⟨by (with_reducible repeat (first | apply Kd.bB | apply Kd.ax | apply Kd.bJ)); exact HO_9.out⟩, ⟨by (with_reducible repeat (first | refine ag ?_ _ | refine af ?_ | refine aW ?_ _)); exact bF.out⟩, ⟨by repeat (first | (with_reducible first | exact HB.out | apply aH | apply aG | apply aI | refine aJ ?_ jO.out) | exact HB.out)⟩⟩
                              · rw [if_neg c26] at H
                                have c26b0 : decide (eU < aT) = false := decide_eq_false c26
                                clear c26
                                have H' := aC.mk H
                                clear H
                                have hcz54_0 : wr.cell? ⟨bi, 0, none⟩ = some (.int .i64 aX) := (aD bF.out 0).trans rfl
                                have hcz54_1 : wr.cell? ⟨bi, 1, none⟩ = some (.int .i64 aY) := (aD bF.out 1).trans rfl
                                have hcz54_2 : wr.cell? ⟨bi, 2, none⟩ = some (.int .i64 ae) := (aD bF.out 2).trans rfl
                                have hcz54_3 : wr.cell? ⟨bi, 3, none⟩ = some (.int .i64 aT) := (aD bF.out 3).trans rfl
                                have hcz54_4 : wr.cell? ⟨bi, 4, none⟩ = some (.slice bH aM.length bC) := (aD bF.out 4).trans rfl
                                have hcz54_5 : wr.cell? ⟨bi, 5, none⟩ = some (.slice bE aU.length bD) := (aD bF.out 5).trans rfl
                                have hfz54_0 := aA bF.out 0
                                have hfz54_1 := aA bF.out 1
                                have hfz54_2 := aA bF.out 2
                                have hfz54_3 := aA bF.out 3
                                have hfz54_4 := aA bF.out 4
                                have hfz54_5 := aA bF.out 5
                                go_wp2
                                go_roundg k3
                                case measure => have := HJ4.out; have := HK2.out; have := HK3.out; omega
                                case rel => exact ⟨(dP), (wrap64 (x8_2 + 1)), (by first | rfl | (simp; done) | (simp [*]; done)), H', ⟨by have := HJ4.out; have := HK2.out; have := HK3.out; omega⟩, ⟨by (with_reducible repeat (first | apply Kd.bB | apply Kd.ax | apply Kd.bJ)); exact Kd.dB HO_9.out (fun _ hk => trivial)⟩, ⟨by (with_reducible repeat (first | refine ag ?_ _ | refine af ?_ | refine aW ?_ _)); exact bF.out⟩, ⟨by repeat (first | (with_reducible first | exact HB.out | apply aH | apply aG | apply aI | refine aJ ?_ jO.out) | exact HB.out)⟩⟩
                        · rw [if_neg c22] at H
                          exact absurd H (by simp)
                      · rw [if_neg c21] at H
                        exact absurd H (by simp)
                    · rw [if_neg c20] at H
                      have jf : decide (x8_2 < a1) = false := decide_eq_false c20
                      clear c20
                      have H' := aC.mk H
                      clear H
                      go_wp2
                      go_loopg [13, 14] k2 (fun kq v13 v14 w' => ∃ (eB : Int) (fJ : Int), v13 = .int .i64 eB ∧ v14 = .int .i64 fJ ∧ aC (aV.l3 kq dQ eB fJ aX aY ae aT aM aU = some (r1, r2)) ∧ aC (kq ≤ k2) ∧ aC (Kd.R (Kd.int .i64) 3 w' w.heap.size (fun _ => True) u7 dQ) ∧ aC (w'.heap[bi]? = some (.cells #[.int .i64 aX, .int .i64 aY, .int .i64 ae, .int .i64 aT, (.slice bH aM.length bC), (.slice bE aU.length bD)] 43 (0, 0))) ∧ aC (Below w.heap.size w w'))
                      case atStart => exact ⟨(0), (0), (by first | rfl | (simp; done) | (simp [*]; done)), (by first | rfl | (simp; done) | (simp [*]; done)), H', ⟨Nat.le_refl _⟩, ⟨by (with_reducible repeat (first | apply Kd.bB | apply Kd.ax | apply Kd.bJ)); exact HO_7.out⟩, ⟨by (with_reducible repeat (first | refine ag ?_ _ | refine af ?_ | refine aW ?_ _)); exact bF.out⟩, ⟨by repeat (first | (with_reducible first | exact HB.out | apply aH | apply aG | apply aI | refine aJ ?_ jO.out) | exact HB.out)⟩⟩
                      case round =>
                        clear H'
                        try clear c1
                        try clear p1
                        try clear q1
                        try clear hx1
                        try clear qi1
                        try clear c2
                        try clear p2
                        try clear c3
                        try clear p3
                        try clear q3
                        try clear hx3
                        try clear hf3
                        try clear c4
                        try clear iB
                        try clear ja
                        try clear p6
                        try clear c7
                        try clear c9
                        try clear c9b0
                        try clear p9
                        try clear q9
                        try clear hx9
                        try clear c10
                        try clear c11
                        try clear c11b0
                        try clear c11b1
                        try clear c12
                        try clear c12b0
                        try clear c12b1
                        try clear c13
                        try clear c13b0
                        try clear c13b1
                        try clear p14
                        try clear q14
                        try clear hx14
                        try clear qi14
                        try clear hf14
                        try clear c20
                        try clear jf
                        try clear c21
                        try clear c21b0
                        try clear c21b1
                        try clear c22
                        try clear c22b0
                        try clear c22b1
                        try clear c26
                        try clear c26b0
                        try clear c28
                        try clear c28b0
                        try clear c30
                        try clear c30b0
                        try clear c31
                        try clear c31b0
                        try clear c32
                        try clear c32b0
                        try clear c33
                        try clear c33b0
                        try clear c34
                        try clear c34b0
                        try clear c35
                        try clear c35b0
                        try clear p36
                        try clear q36
                        try clear hx36
                        try clear hf36
                        try clear p37
                        try clear q37
                        try clear c38
                        try clear c38b0
                        try clear p39
                        try clear q39
                        try clear hcz15_0
                        try clear hcz15_1
                        try clear hcz15_2
                        try clear hcz15_3
                        try clear hcz15_4
                        try clear hcz15_5
                        try clear hcz23_0
                        try clear hcz23_1
                        try clear hcz23_2
                        try clear hcz23_3
                        try clear hcz23_4
                        try clear hcz23_5
                        try clear hcz27_0
                        try clear hcz27_1
                        try clear hcz27_2
                        try clear hcz27_3
                        try clear hcz27_4
                        try clear hcz27_5
                        try clear hcz40_0
                        try clear hcz40_1
                        try clear hcz40_2
                        try clear hcz40_3
                        try clear hcz40_4
                        try clear hcz40_5
                        try clear hcz48_0
                        try clear hcz48_1
                        try clear hcz48_2
                        try clear hcz48_3
                        try clear hcz48_4
                        try clear hcz48_5
                        try clear hcz53_0
                        try clear hcz53_1
                        try clear hcz53_2
                        try clear hcz53_3
                        try clear hcz53_4
                        try clear hcz53_5
                        try clear hcz54_0
                        try clear hcz54_1
                        try clear hcz54_2
                        try clear hcz54_3
                        try clear hcz54_4
                        try clear hcz54_5
                        try clear hcz7_0
                        try clear hcz7_1
                        try clear hcz7_2
                        try clear hcz7_3
                        try clear hcz7_4
                        try clear hcz7_5
                        try clear hfz15_0
                        try clear hfz15_1
                        try clear hfz15_2
                        try clear hfz15_3
                        try clear hfz15_4
                        try clear hfz15_5
                        try clear hfz23_0
                        try clear hfz23_1
                        try clear hfz23_2
                        try clear hfz23_3
                        try clear hfz23_4
                        try clear hfz23_5
                        try clear hfz27_0
                        try clear hfz27_1
                        try clear hfz27_2
                        try clear hfz27_3
                        try clear hfz27_4
                        try clear hfz27_5
                        try clear hfz40_0
                        try clear hfz40_1
                        try clear hfz40_2
                        try clear hfz40_3
                        try clear hfz40_4
                        try clear hfz40_5
                        try clear hfz48_0
                        try clear hfz48_1
                        try clear hfz48_2
                        try clear hfz48_3
                        try clear hfz48_4
                        try clear hfz48_5
                        try clear hfz53_0
                        try clear hfz53_1
                        try clear hfz53_2
                        try clear hfz53_3
                        try clear hfz53_4
                        try clear hfz53_5
                        try clear hfz54_0
                        try clear hfz54_1
                        try clear hfz54_2
                        try clear hfz54_3
                        try clear hfz54_4
                        try clear hfz54_5
                        try clear hfz7_0
                        try clear hfz7_1
                        try clear hfz7_2
                        try clear hfz7_3
                        try clear hfz7_4
                        try clear hfz7_5
                        try clear hx14_0
                        try clear hx36_0
                        try clear hx907_0
                        try clear hx908_0
                        try clear hx909_0
                        try clear p1
                        try clear p14
                        try clear p2
                        try clear p36
                        try clear p37
                        try clear p39
                        try clear p907
                        try clear p908
                        try clear p909
                        try clear q1
                        try clear q14
                        try clear q36
                        try clear q37
                        try clear q39
                        try clear q907
                        try clear q908
                        try clear q909
                        obtain ⟨eB, fJ, rfl, rfl, HA, HK3, HO_7, bF, HB⟩ := hrel
                        cases gk with
                        | zero => exact absurd HA.out (by simp [aV.l3])
                        | succ k3 =>
                          have H := HA.out
                          clear HA
                          simp only [aV.l3] at H
                          by_cases c55 : fJ < aT
                          · rw [if_pos c55] at H
                            have c55b0 : decide (fJ < aT) = true := decide_eq_true c55
                            clear c55
                            by_cases c56 : 0 ≤ fJ
                            · rw [if_pos c56] at H
                              have c56b0 : decide (0 ≤ fJ) = true := decide_eq_true c56
                              clear c56
                              by_cases c57 : fJ < (aU.length : Int)
                              · rw [if_pos c57] at H
                                have c57b0 : decide (fJ < (aU.length : Int)) = true := decide_eq_true c57
                                clear c57
                                by_cases c58 : (rd aU fJ) = 1
                                · rw [if_pos c58] at H
                                  have c58b0 : ((rd aU fJ) == 1) = true := beq_iff_eq.mpr c58
                                  have c58b1 : ((rd aU fJ) != 1) = false := bne_eq_false_iff_eq.mpr c58
                                  clear c58
                                  by_cases c59 : fJ < (dQ.length : Int)
                                  · rw [if_pos c59] at H
                                    have c59b0 : decide (fJ < (dQ.length : Int)) = true := decide_eq_true c59
                                    clear c59
                                    by_cases c60 : (wrap64 (eB + (rd dQ fJ))) > 1099511627776
                                    · rw [if_pos c60] at H
                                      have c60b0 : decide (1099511627776 < (wrap64 (eB + (rd dQ fJ)))) = true := decide_eq_true c60
                                      clear c60
                                      simp only [Option.some.injEq, Prod.mk.injEq] at H
                                      obtain ⟨rfl, rfl⟩ := H
                                      have hcz61_0 : wr.cell? ⟨bi, 0, none⟩ = some (.int .i64 aX) := (aD bF.out 0).trans rfl
                                      have hcz61_1 : wr.cell? ⟨bi, 1, none⟩ = some (.int .i64 aY) := (aD bF.out 1).trans rfl
                                      have hcz61_2 : wr.cell? ⟨bi, 2, none⟩ = some (.int .i64 ae) := (aD bF.out 2).trans rfl
                                      have hcz61_3 : wr.cell? ⟨bi, 3, none⟩ = some (.int .i64 aT) := (aD bF.out 3).trans rfl
                                      have hcz61_4 : wr.cell? ⟨bi, 4, none⟩ = some (.slice bH aM.length bC) := (aD bF.out 4).trans rfl
                                      have hcz61_5 : wr.cell? ⟨bi, 5, none⟩ = some (.slice bE aU.length bD) := (aD bF.out 5).trans rfl
                                      have hfz61_0 := aA bF.out 0
                                      have hfz61_1 := aA bF.out 1
                                      have hfz61_2 := aA bF.out 2
                                      have hfz61_3 := aA bF.out 3
                                      have hfz61_4 := aA bF.out 4
                                      have hfz61_5 := aA bF.out 5
                                      have p913 : 0 ≤ (fJ : Int) := of_decide_eq_true (by first | (with_reducible assumption) | assumption)
                                      have q913 : fJ < (aU.length : Int) := of_decide_eq_true (by first | (with_reducible assumption) | assumption)
                                      obtain ⟨ad913, e913, jJ⟩ := Kd.cz dV.out fJ p913 q913
                                      cases e913
                                      replace jJ := (HB.out.cell (World.block_lt_of_cell? w _ jJ)).trans jJ
                                      replace p913 := eq_true p913
                                      replace q913 := eq_true q913
                                      obtain ⟨Ao62, co62, eo62⟩ := Kd.bu HO_7.out
                                      subst eo62
                                      have p914 : 0 ≤ (fJ : Int) := of_decide_eq_true (by first | (with_reducible assumption) | assumption)
                                      have q914 : fJ < (dQ.length : Int) := of_decide_eq_true (by first | (with_reducible assumption) | assumption)
                                      obtain ⟨ad914, e914, hx914_0⟩ := Kd.cz (Kd.bX HO_7.out).2.2 fJ p914 q914
                                      cases e914
                                      replace p914 := eq_true p914
                                      replace q914 := eq_true q914
                                      go_wp2
                                      go_ret2
                                      exact ⟨by first | rfl | (simp [az, ay] <;> rfl) | (simp [*, az, ay] <;> rfl), by repeat (first | (with_reducible first | exact HB.out | apply aH | apply aG | apply aI | refine aJ ?_ jO.out) | exact HB.out)⟩
                                    · rw [if_neg c60] at H
                                      have c60b0 : decide (1099511627776 < (wrap64 (eB + (rd dQ fJ)))) = false := decide_eq_false c60
                                      clear c60
                                      have H' := aC.mk H
                                      clear H
                                      have hcz63_0 : wr.cell? ⟨bi, 0, none⟩ = some (.int .i64 aX) := (aD bF.out 0).trans rfl
                                      have hcz63_1 : wr.cell? ⟨bi, 1, none⟩ = some (.int .i64 aY) := (aD bF.out 1).trans rfl
                                      have hcz63_2 : wr.cell? ⟨bi, 2, none⟩ = some (.int .i64 ae) := (aD bF.out 2).trans rfl
                                      have hcz63_3 : wr.cell? ⟨bi, 3, none⟩ = some (.int .i64 aT) := (aD bF.out 3).trans rfl
                                      have hcz63_4 : wr.cell? ⟨bi, 4, none⟩ = some (.slice bH aM.length bC) := (aD bF.out 4).trans rfl
                                      have hcz63_5 : wr.cell? ⟨bi, 5, none⟩ = some (.slice bE aU.length bD) := (aD bF.out 5).trans rfl
                                      have hfz63_0 := aA bF.out 0
                                      have hfz63_1 := aA bF.out 1
                                      have hfz63_2 := aA bF.out 2
                                      have hfz63_3 := aA bF.out 3
                                      have hfz63_4 := aA bF.out 4
                                      have hfz63_5 := aA bF.out 5
                                      have p913 : 0 ≤ (fJ : Int) := of_decide_eq_true (by first | (with_reducible assumption) | assumption)
                                      have q913 : fJ < (aU.length : Int) := of_decide_eq_true (by first | (with_reducible assumption) | assumption)
                                      obtain ⟨ad913, e913, jJ⟩ := Kd.cz dV.out fJ p913 q913
                                      cases e913
                                      replace jJ := (HB.out.cell (World.block_lt_of_cell? w _ jJ)).trans jJ
                                      replace p913 := eq_true p913
                                      replace q913 := eq_true q913
                                      obtain ⟨Ao64, co64, eo64⟩ := Kd.bu HO_7.out
                                      subst eo64
                                      have p914 : 0 ≤ (fJ : Int) := of_decide_eq_true (by first | (with_reducible assumption) | assumption)
                                      have q914 : fJ < (dQ.length : Int) := of_decide_eq_true (by first | (with_reducible assumption) | assumption)
                                      obtain ⟨ad914, e914, hx914_0⟩ := Kd.cz (Kd.bX HO_7.out).2.2 fJ p914 q914
                                      cases e914
                                      replace p914 := eq_true p914
                                      replace q914 := eq_true q914
                                      go_wp2
                                      go_roundg k3
                                      case measure => have := HJ4.out; have := HK2.out; have := HK3.out; omega
                                      case rel => exact ⟨(wrap64 (eB + (rd dQ fJ))), (wrap64 (fJ + 1)), (by first | rfl | (simp; done) | (simp [*]; done)), (by first | rfl | (simp; done) | (simp [*]; done)), H', ⟨by have := HJ4.out; have := HK2.out; have := HK3.out; omega⟩, ⟨by (with_reducible repeat (first | apply Kd.bB | apply Kd.ax | apply Kd.bJ)); exact HO_7.out⟩, ⟨by (with_reducible repeat (first | refine ag ?_ _ | refine af ?_ | refine aW ?_ _)); exact bF.out⟩, ⟨by repeat (first | (with_reducible first | exact HB.out | apply aH | apply aG | apply aI | refine aJ ?_ jO.out) | exact HB.out)⟩⟩
                                  · rw [if_neg c59] at H
                                    exact absurd H (by simp)
                                · rw [if_neg c58] at H
                                  have c58b0 : ((rd aU fJ) == 1) = false := beq_eq_false_iff_ne.mpr c58
                                  have c58b1 : ((rd aU fJ) != 1) = true := bne_iff_ne.mpr c58
                                  by_cases c65 : eB > 1099511627776
                                  · rw [if_pos c65] at H
                                    have c65b0 : decide (1099511627776 < eB) = true := decide_eq_true c65
                                    clear c65
                                    simp only [Option.some.injEq, Prod.mk.injEq] at H
                                    obtain ⟨rfl, rfl⟩ := H
                                    have hcz66_0 : wr.cell? ⟨bi, 0, none⟩ = some (.int .i64 aX) := (aD bF.out 0).trans rfl
                                    have hcz66_1 : wr.cell? ⟨bi, 1, none⟩ = some (.int .i64 aY) := (aD bF.out 1).trans rfl
                                    have hcz66_2 : wr.cell? ⟨bi, 2, none⟩ = some (.int .i64 ae) := (aD bF.out 2).trans rfl
                                    have hcz66_3 : wr.cell? ⟨bi, 3, none⟩ = some (.int .i64 aT) := (aD bF.out 3).trans rfl
                                    have hcz66_4 : wr.cell? ⟨bi, 4, none⟩ = some (.slice bH aM.length bC) := (aD bF.out 4).trans rfl
                                    have hcz66_5 : wr.cell? ⟨bi, 5, none⟩ = some (.slice bE aU.length bD) := (aD bF.out 5).trans rfl
                                    have hfz66_0 := aA bF.out 0
                                    have hfz66_1 := aA bF.out 1
                                    have hfz66_2 := aA bF.out 2
                                    have hfz66_3 := aA bF.out 3
                                    have hfz66_4 := aA bF.out 4
                                    have hfz66_5 := aA bF.out 5
                                    have p913 : 0 ≤ (fJ : Int) := of_decide_eq_true (by first | (with_reducible assumption) | assumption)
                                    have q913 : fJ < (aU.length : Int) := of_decide_eq_true (by first | (with_reducible assumption) | assumption)
                                    obtain ⟨ad913, e913, jJ⟩ := Kd.cz dV.out fJ p913 q913
                                    cases e913
                                    replace jJ := (HB.out.cell (World.block_lt_of_cell? w _ jJ)).trans jJ
                                    replace p913 := eq_true p913
                                    replace q913 := eq_true q913
                                    go_wp2
                                    go_ret2
                                    exact ⟨by first | rfl | (simp [az, ay] <;> rfl) | (simp [*, az, ay] <;> rfl), by repeat (first | (with_reducible first | exact HB.out | apply aH | apply aG | apply aI | refine aJ ?_ jO.out) | exact HB.out)⟩
                                  · rw [if_neg c65] at H
                                    have c65b0 : decide (1099511627776 < eB) = false := decide_eq_false c65
                                    clear c65
                                    have H' := aC.mk H
                                    clear H
                                    have hcz67_0 : wr.cell? ⟨bi, 0, none⟩ = some (.int .i64 aX) := (aD bF.out 0).trans rfl
                                    have hcz67_1 : wr.cell? ⟨bi, 1, none⟩ = some (.int .i64 aY) := (aD bF.out 1).trans rfl
                                    have hcz67_2 : wr.cell? ⟨bi, 2, none⟩ = some (.int .i64 ae) := (aD bF.out 2).trans rfl
                                    have hcz67_3 : wr.cell? ⟨bi, 3, none⟩ = some (.int .i64 aT) := (aD bF.out 3).trans rfl
                                    have hcz67_4 : wr.cell? ⟨bi, 4, none⟩ = some (.slice bH aM.length bC) := (aD bF.out 4).trans rfl
                                    have hcz67_5 : wr.cell? ⟨bi, 5, none⟩ = some (.slice bE aU.length bD) := (aD bF.out 5).trans rfl
                                    have hfz67_0 := aA bF.out 0
                                    have hfz67_1 := aA bF.out 1
                                    have hfz67_2 := aA bF.out 2
                                    have hfz67_3 := aA bF.out 3
                                    have hfz67_4 := aA bF.out 4
                                    have hfz67_5 := aA bF.out 5
                                    have p913 : 0 ≤ (fJ : Int) := of_decide_eq_true (by first | (with_reducible assumption) | assumption)
                                    have q913 : fJ < (aU.length : Int) := of_decide_eq_true (by first | (with_reducible assumption) | assumption)
                                    obtain ⟨ad913, e913, jJ⟩ := Kd.cz dV.out fJ p913 q913
                                    cases e913
                                    replace jJ := (HB.out.cell (World.block_lt_of_cell? w _ jJ)).trans jJ
                                    replace p913 := eq_true p913
                                    replace q913 := eq_true q913
                                    go_wp2
                                    go_roundg k3
                                    case measure => have := HJ4.out; have := HK2.out; have := HK3.out; omega
                                    case rel => exact ⟨(eB), (wrap64 (fJ + 1)), (by first | rfl | (simp; done) | (simp [*]; done)), (by first | rfl | (simp; done) | (simp [*]; done)), H', ⟨by have := HJ4.out; have := HK2.out; have := HK3.out; omega⟩, ⟨by (with_reducible repeat (first | apply Kd.bB | apply Kd.ax | apply Kd.bJ)); exact HO_7.out⟩, ⟨by (with_reducible repeat (first | refine ag ?_ _ | refine af ?_ | refine aW ?_ _)); exact bF.out⟩, ⟨by repeat (first | (with_reducible first | exact HB.out | apply aH | apply aG | apply aI | refine aJ ?_ jO.out) | exact HB.out)⟩⟩
                              · rw [if_neg c57] at H
                                exact absurd H (by simp)
                            · rw [if_neg c56] at H
                              exact absurd H (by simp)
                          · rw [if_neg c55] at H
                            have c55b0 : decide (fJ < aT) = false := decide_eq_false c55
                            clear c55
                            simp only [Option.some.injEq, Prod.mk.injEq] at H
                            obtain ⟨rfl, rfl⟩ := H
                            have hcz68_0 : wr.cell? ⟨bi, 0, none⟩ = some (.int .i64 aX) := (aD bF.out 0).trans rfl
                            have hcz68_1 : wr.cell? ⟨bi, 1, none⟩ = some (.int .i64 aY) := (aD bF.out 1).trans rfl
                            have hcz68_2 : wr.cell? ⟨bi, 2, none⟩ = some (.int .i64 ae) := (aD bF.out 2).trans rfl
                            have hcz68_3 : wr.cell? ⟨bi, 3, none⟩ = some (.int .i64 aT) := (aD bF.out 3).trans rfl
                            have hcz68_4 : wr.cell? ⟨bi, 4, none⟩ = some (.slice bH aM.length bC) := (aD bF.out 4).trans rfl
                            have hcz68_5 : wr.cell? ⟨bi, 5, none⟩ = some (.slice bE aU.length bD) := (aD bF.out 5).trans rfl
                            have hfz68_0 := aA bF.out 0
                            have hfz68_1 := aA bF.out 1
                            have hfz68_2 := aA bF.out 2
                            have hfz68_3 := aA bF.out 3
                            have hfz68_4 := aA bF.out 4
                            have hfz68_5 := aA bF.out 5
                            go_wp2
                            go_ret2
                            exact ⟨by first | rfl | (simp [az, ay] <;> rfl) | (simp [*, az, ay] <;> rfl), by repeat (first | (with_reducible first | exact HB.out | apply aH | apply aG | apply aI | refine aJ ?_ jO.out) | exact HB.out)⟩
              · rw [if_neg c13] at H
                exact absurd H (by simp)
            · rw [if_neg c12] at H
              exact absurd H (by simp)
          · rw [if_neg c11] at H
            exact absurd H (by simp)
  · rw [if_neg c4] at H
    have iB : (t899 == 0) = false := beq_eq_false_iff_ne.mpr c4
    have ja : (t899 != 0) = true := bne_iff_ne.mpr c4
    simp only [Option.some.injEq, Prod.mk.injEq] at H
    obtain ⟨rfl, rfl⟩ := H
    go_enter Try.func40, Try.ntmps40
    go_wp2_with (first | ((with_reducible refine bK (N := 2) rfl ?_); refine dA ?hg (N := 2) ?hd (cs := #[.int .i64 aX, .int .i64 aY, .int .i64 ae, .int .i64 aT, .slice bH aM.length bC, .slice bE aU.length bD]) (t := 43) ?hr ?_; (case hd => rfl); (case hg => rfl); (case hr => first | (go_simp; done) | (go_simp; rfl)); intro bi hg w69 hbox hb; have n0_ := aC.mk (ah (by repeat (first | (with_reducible first | exact HB.out | apply aH | apply aG | apply aI) | exact HB.out)) hb); have n1_ := aC.mk (hbox); have n2_ := aC.mk ((by rw [hg]; exact (aZ (by repeat (first | (with_reducible first | exact HB.out | apply aH | apply aG | apply aI) | exact HB.out))) : w.heap.size ≤ bi)); have n3_ := aC.mk ((by rw [hg]; exact (aZ (by repeat (first | (with_reducible first | exact HB.out | apply aH | apply aG | apply aI) | exact HB.out))) : w.heap.size ≤ bi)); clear HB; have HB := n0_; have bF := n1_; have GW898 := n2_; have jO := n3_; clear n0_ n1_ n2_ n3_; clear hb hbox hg; have hcz70_0 : w69.cell? ⟨bi, 0, none⟩ = some (.int .i64 aX) := (aD bF.out 0).trans rfl; have hcz70_1 : w69.cell? ⟨bi, 1, none⟩ = some (.int .i64 aY) := (aD bF.out 1).trans rfl; have hcz70_2 : w69.cell? ⟨bi, 2, none⟩ = some (.int .i64 ae) := (aD bF.out 2).trans rfl; have hcz70_3 : w69.cell? ⟨bi, 3, none⟩ = some (.int .i64 aT) := (aD bF.out 3).trans rfl; have hcz70_4 : w69.cell? ⟨bi, 4, none⟩ = some (.slice bH aM.length bC) := (aD bF.out 4).trans rfl; have hcz70_5 : w69.cell? ⟨bi, 5, none⟩ = some (.slice bE aU.length bD) := (aD bF.out 5).trans rfl; have hfz70_0 := aA bF.out 0; have hfz70_1 := aA bF.out 1; have hfz70_2 := aA bF.out 2; have hfz70_3 := aA bF.out 3; have hfz70_4 := aA bF.out 4; have hfz70_5 := aA bF.out 5) | ((with_reducible refine dG (f := 75) rfl ?_); refine gW (some 16) rfl rfl Try.func75 (by kernel_rfl) rfl #[.agg #[.int .i64 aX, .int .i64 aY, .int .i64 ae, .int .i64 aT, .slice bH aM.length bC, .slice bE aU.length bD]] rfl (by (try simp only [List.map_toArray, List.map_cons, List.map_nil]); first | done | rfl | (simp only [List.length_drop, List.length_take]; rfl)) ?_; (with_reducible refine (bV.calls k aX aY ae aT _ _ aM _ _ aU t899 _ ?dD ?dC ?dJ ?dI A3.out).mono ?_); (case dD => repeat (first | exact (Kd.ak dY.out HB.out) | (with_reducible refine Kd.bS ?_ _) | (with_reducible refine Kd.bR ?_ _) | (with_reducible refine Kd.bW ?_))); (case dC => exact eX.out); (case dJ => repeat (first | exact (Kd.ak dV.out HB.out) | (with_reducible refine Kd.bS ?_ _) | (with_reducible refine Kd.bR ?_ _) | (with_reducible refine Kd.bW ?_))); (case dI => exact fA.out); rintro e w71 ⟨rfl, hb⟩; refine ⟨_, rfl, ?_⟩; have n0_ := aC.mk (av (g := bi) (o := .cells #[.int .i64 aX, .int .i64 aY, .int .i64 ae, .int .i64 aT, .slice bH aM.length bC, .slice bE aU.length bD] 43 (0, 0)) (by (with_reducible repeat (first | refine ag ?_ _ | refine af ?_ | refine aW ?_ _)); exact bF.out) hb); have n1_ := aC.mk (ah (by repeat (first | (with_reducible first | exact HB.out | apply aH | apply aG | apply aI | refine aJ ?_ jO.out) | exact HB.out)) hb); clear bF; clear HB; have bF := n0_; have HB := n1_; clear n0_ n1_; (try clear hb); (try clear hb2); (try clear hk); (try clear hi)))
    go_ret2
    exact ⟨by first | rfl | (simp [az, ay] <;> rfl) | (simp [*, az, ay] <;> rfl), by repeat (first | (with_reducible first | exact HB.out | apply aH | apply aG | apply aI | refine aJ ?_ jO.out) | exact HB.out)⟩
end Go.Proofs.Ytkaefgmgcghhiaa.X
end

section
namespace Go.Proofs.Ytkaefgmgcghhiaa.X
open Go.RowKit Go.Proofs.YtkaefgmgcghhiaaW.PrintWords Go.Proofs.YtkaefgmgcghhiaaW.PrintLast Go.Proofs.YtkaefgmgcghhiaaW.PrintMore
attribute [local go_sem] eP eH fQ fP d9 dZ eO eG   -- for this text's walks alone
set_option linter.unusedVariables false
set_option linter.unusedSimpArgs false
def cK.l0 : Nat → List Int → List (List Int) → Int → Int → Int → Int → Int → List Int → List Int → Option (List Int × Bool × Int)
  | 0, _, _, _, _, _, _, _, _, _ => none
  | k + 1, x6, x7, x9, x916000, x916001, x916002, x916003, x916004, x916005 => if x9 < (x6.length : Int) then (if 0 ≤ x9 then (if 0 ≤ (rd x6 x9) then (if (rd x6 x9) < (x916005.length : Int) then (if (rd x916005 (rd x6 x9)) = 1 then (if x9 < (x7.length : Int) then (some (jX x7 x9, true, 0)) else (none)) else (cK.l0 k x6 x7 (wrap64 (x9 + 1)) x916000 x916001 x916002 x916003 x916004 x916005)) else (none)) else (none)) else (none)) else (some (([] : List Int), false, 0))
def cK.f (k : Nat) (aX : Int) (aY : Int) (ae : Int) (aT : Int) (aM : List Int) (aU : List Int) : Option (List Int × Bool × Int) := (bV.f k aX aY ae aT aM aU).bind fun t916 => (if t916 = 0 then ((au.f k aX aY ae aT aM aU).bind fun bt917 => (cK.l0 k bt917.1 bt917.2.1 0 aX aY ae aT aM aU)) else (some (([] : List Int), false, t916)))
set_option maxHeartbeats 8000000 in
set_option maxRecDepth 100000 in
theorem cK.calls (k : Nat) (aX : Int) (aY : Int) (ae : Int) (aT : Int) (bH : Option Addr) (bC : Nat) (aM : List Int) (bE : Option Addr) (bD : Nat) (aU : List Int) (r1 : List Int) (r2 : Bool) (r3 : Int) (w : World) (eQ : Kd.C (Kd.int .i64) w bH aM.length aM) (eu : aM.length ≤ bC) (fD : Kd.C (Kd.int .i64) w bE aU.length aU) (fG : aU.length ≤ bD) (h : cK.f k aX aY ae aT aM aU = some (r1, r2, r3)) :
    Calls Try.prog 41 #[.agg #[.int .i64 aX, .int .i64 aY, .int .i64 ae, .int .i64 aT, .slice bH aM.length bC, .slice bE aU.length bD]] w fun e w' => ∃ v0_ : Value, e = .returned (.tuple #[v0_, .bool r2, .int .i64 r3]) ∧ Kd.V (Kd.int .i64) 3 w' w.heap.size (fun k_ => (w.heap.size ≤ k_)) v0_ r1 ∧ Below w.heap.size w w' := by
  have hu43 := Try.underlying43
  have dY := aC.mk eQ
  have eX := aC.mk eu
  clear eQ eu
  have dV := aC.mk fD
  have fA := aC.mk fG
  clear fD fG
  have HB := aC.mk (Below.refl w.heap.size w)
  have H : ((bV.f k aX aY ae aT aM aU).bind fun t916 => (if t916 = 0 then ((au.f k aX aY ae aT aM aU).bind fun bt917 => (cK.l0 k bt917.1 bt917.2.1 0 aX aY ae aT aM aU)) else (some (([] : List Int), false, t916)))) = some (r1, r2, r3) := h
  clear h
  replace H := Option.bind_eq_some_iff.mp H
  obtain ⟨t916, A20, H⟩ := H
  replace H : (if t916 = 0 then ((au.f k aX aY ae aT aM aU).bind fun bt917 => (cK.l0 k bt917.1 bt917.2.1 0 aX aY ae aT aM aU)) else (some (([] : List Int), false, t916))) = some (r1, r2, r3) := H
  have A2 := aC.mk A20
  clear A20
  by_cases c3 : t916 = 0
  · rw [if_pos c3] at H
    have lL : (t916 == 0) = true := beq_iff_eq.mpr c3
    have c3b1 : (t916 != 0) = false := bne_eq_false_iff_eq.mpr c3
    clear c3
    replace H := Option.bind_eq_some_iff.mp H
    obtain ⟨⟨t917, t920, t923⟩, A40, H⟩ := H
    replace H : (cK.l0 k t917 t920 0 aX aY ae aT aM aU) = some (r1, r2, r3) := H
    have A4 := aC.mk A40
    clear A40
    have H' := aC.mk H
    clear H
    go_enter Try.func41, Try.ntmps41
    go_wp2_with (first | ((with_reducible refine bK (N := 1) rfl ?_); refine dA ?hg (N := 1) ?hd (cs := #[.int .i64 aX, .int .i64 aY, .int .i64 ae, .int .i64 aT, .slice bH aM.length bC, .slice bE aU.length bD]) (t := 43) ?hr ?_; (case hd => rfl); (case hg => rfl); (case hr => first | (go_simp; done) | (go_simp; rfl)); intro bn hg w5 hbox hb; have n0_ := aC.mk (ah (by repeat (first | (with_reducible first | exact HB.out | apply aH | apply aG | apply aI) | exact HB.out)) hb); have n1_ := aC.mk (hbox); have n2_ := aC.mk ((by rw [hg]; exact (aZ (by repeat (first | (with_reducible first | exact HB.out | apply aH | apply aG | apply aI) | exact HB.out))) : w.heap.size ≤ bn)); have n3_ := aC.mk ((by rw [hg]; exact (aZ (by repeat (first | (with_reducible first | exact HB.out | apply aH | apply aG | apply aI) | exact HB.out))) : w.heap.size ≤ bn)); clear HB; have HB := n0_; have bP := n1_; have GW915 := n2_; have iQ := n3_; clear n0_ n1_ n2_ n3_; clear hb hbox hg; have iO : w5.cell? ⟨bn, 0, none⟩ = some (.int .i64 aX) := (aD bP.out 0).trans rfl; have iN : w5.cell? ⟨bn, 1, none⟩ = some (.int .i64 aY) := (aD bP.out 1).trans rfl; have iM : w5.cell? ⟨bn, 2, none⟩ = some (.int .i64 ae) := (aD bP.out 2).trans rfl; have iL : w5.cell? ⟨bn, 3, none⟩ = some (.int .i64 aT) := (aD bP.out 3).trans rfl; have iK : w5.cell? ⟨bn, 4, none⟩ = some (.slice bH aM.length bC) := (aD bP.out 4).trans rfl; have iJ : w5.cell? ⟨bn, 5, none⟩ = some (.slice bE aU.length bD) := (aD bP.out 5).trans rfl; have iI := aA bP.out 0; have iH := aA bP.out 1; have iG := aA bP.out 2; have iF := aA bP.out 3; have iE := aA bP.out 4; have iD := aA bP.out 5) | (go_at_call 75; (with_reducible refine (bV.calls k aX aY ae aT _ _ aM _ _ aU t916 _ ?dD ?dC ?dJ ?dI A2.out).mono ?_); (case dD => repeat (first | exact (Kd.ak dY.out HB.out) | (with_reducible refine Kd.bS ?_ _) | (with_reducible refine Kd.bR ?_ _) | (with_reducible refine Kd.bW ?_))); (case dC => exact eX.out); (case dJ => repeat (first | exact (Kd.ak dV.out HB.out) | (with_reducible refine Kd.bS ?_ _) | (with_reducible refine Kd.bR ?_ _) | (with_reducible refine Kd.bW ?_))); (case dI => exact fA.out); rintro e w7 ⟨rfl, hb⟩; have n0_ := aC.mk (av (g := bn) (o := .cells #[.int .i64 aX, .int .i64 aY, .int .i64 ae, .int .i64 aT, .slice bH aM.length bC, .slice bE aU.length bD] 43 (0, 0)) (by (with_reducible repeat (first | refine ag ?_ _ | refine af ?_ | refine aW ?_ _)); exact bP.out) hb); have n1_ := aC.mk (ah (by repeat (first | (with_reducible first | exact HB.out | apply aH | apply aG | apply aI | refine aJ ?_ iQ.out) | exact HB.out)) hb); clear bP; clear HB; have bP := n0_; have HB := n1_; clear n0_ n1_; (try clear hb); (try clear hb2); (try clear hk); (try clear hi); have hcz8_0 : w7.cell? ⟨bn, 0, none⟩ = some (.int .i64 aX) := (aD bP.out 0).trans rfl; have hcz8_1 : w7.cell? ⟨bn, 1, none⟩ = some (.int .i64 aY) := (aD bP.out 1).trans rfl; have hcz8_2 : w7.cell? ⟨bn, 2, none⟩ = some (.int .i64 ae) := (aD bP.out 2).trans rfl; have hcz8_3 : w7.cell? ⟨bn, 3, none⟩ = some (.int .i64 aT) := (aD bP.out 3).trans rfl; have hcz8_4 : w7.cell? ⟨bn, 4, none⟩ = some (.slice bH aM.length bC) := (aD bP.out 4).trans rfl; have hcz8_5 : w7.cell? ⟨bn, 5, none⟩ = some (.slice bE aU.length bD) := (aD bP.out 5).trans rfl; have hfz8_0 := aA bP.out 0; have hfz8_1 := aA bP.out 1; have hfz8_2 := aA bP.out 2; have hfz8_3 := aA bP.out 3; have hfz8_4 := aA bP.out 4; have hfz8_5 := aA bP.out 5) | (go_at_call 76; (with_reducible refine (au.calls k aX aY ae aT _ _ aM _ _ aU t917 t920 t923 _ ?dD ?dC ?dJ ?dI A4.out).mono ?_); (case dD => repeat (first | exact (Kd.ak dY.out HB.out) | (with_reducible refine Kd.bS ?_ _) | (with_reducible refine Kd.bR ?_ _) | (with_reducible refine Kd.bW ?_))); (case dC => exact eX.out); (case dJ => repeat (first | exact (Kd.ak dV.out HB.out) | (with_reducible refine Kd.bS ?_ _) | (with_reducible refine Kd.bR ?_ _) | (with_reducible refine Kd.bW ?_))); (case dI => exact fA.out); rintro e w9 ⟨v918, v921, rfl, ho0, ho1, hb⟩; have n0_ := aC.mk (Kd.dn (Kd.jQ (M := fun k_ => (w.heap.size ≤ k_)) (Kd.dB (ok' := fun k_ => True) ho0 (fun _ hk_ => trivial)) (aZ (by repeat (first | (with_reducible first | exact HB.out | apply aH | apply aG | apply aI | refine aJ ?_ iQ.out) | exact HB.out))) (fun k_ h_ => h_)) (aZ (by repeat (first | (with_reducible first | exact HB.out | apply aH | apply aG | apply aI | refine aJ ?_ iQ.out) | exact HB.out)))); have n1_ := aC.mk (Kd.N_lower (Kd.kK (ok' := fun k_ => (w.heap.size ≤ k_) ∧ some k_ ≠ (v918 : Value).ownBlock ∧ k_ ≠ bn) ho1 (fun k_ hk_ => ⟨(Nat.le_trans (aZ (by repeat (first | (with_reducible first | exact HB.out | apply aH | apply aG | apply aI | refine aJ ?_ iQ.out) | exact HB.out))) hk_.1), hk_.2, (Kd.freshB (g := bn) (o := .cells #[.int .i64 aX, .int .i64 aY, .int .i64 ae, .int .i64 aT, .slice bH aM.length bC, .slice bE aU.length bD] 43 (0, 0)) (by (with_reducible repeat (first | refine ag ?_ _ | refine af ?_ | refine aW ?_ _)); exact bP.out) k_ hk_.1)⟩)) (aZ (by repeat (first | (with_reducible first | exact HB.out | apply aH | apply aG | apply aI | refine aJ ?_ iQ.out) | exact HB.out)))); have n2_ := aC.mk (av (g := bn) (o := .cells #[.int .i64 aX, .int .i64 aY, .int .i64 ae, .int .i64 aT, .slice bH aM.length bC, .slice bE aU.length bD] 43 (0, 0)) (by (with_reducible repeat (first | refine ag ?_ _ | refine af ?_ | refine aW ?_ _)); exact bP.out) hb); have n3_ := aC.mk (ah (by repeat (first | (with_reducible first | exact HB.out | apply aH | apply aG | apply aI | refine aJ ?_ iQ.out) | exact HB.out)) hb); clear bP; clear HB; have HO919 := n0_; have HO922 := n1_; have bP := n2_; have HB := n3_; clear n0_ n1_ n2_ n3_; (try clear hb); (try clear hb2); (try clear hk); (try clear hi); (try clear ho0); (try clear ho1)))
    repeat (go_quiet (first | ((with_reducible refine bK (N := 1) rfl ?_); refine dA ?hg (N := 1) ?hd (cs := #[.int .i64 aX, .int .i64 aY, .int .i64 ae, .int .i64 aT, .slice bH aM.length bC, .slice bE aU.length bD]) (t := 43) ?hr ?_; (case hd => rfl); (case hg => rfl); (case hr => first | (go_simp; done) | (go_simp; rfl)); intro bn hg w5 hbox hb; have n0_ := aC.mk (ah (by repeat (first | (with_reducible first | exact HB.out | apply aH | apply aG | apply aI) | exact HB.out)) hb); have n1_ := aC.mk (hbox); have n2_ := aC.mk ((by rw [hg]; exact (aZ (by repeat (first | (with_reducible first | exact HB.out | apply aH | apply aG | apply aI) | exact HB.out))) : w.heap.size ≤ bn)); have n3_ := aC.mk ((by rw [hg]; exact (aZ (by repeat (first | (with_reducible first | exact HB.out | apply aH | apply aG | apply aI) | exact HB.out))) : w.heap.size ≤ bn)); clear HB; have HB := n0_; have bP := n1_; have GW915 := n2_; have iQ := n3_; clear n0_ n1_ n2_ n3_; clear hb hbox hg; have iO : w5.cell? ⟨bn, 0, none⟩ = some (.int .i64 aX) := (aD bP.out 0).trans rfl; have iN : w5.cell? ⟨bn, 1, none⟩ = some (.int .i64 aY) := (aD bP.out 1).trans rfl; have iM : w5.cell? ⟨bn, 2, none⟩ = some (.int .i64 ae) := (aD bP.out 2).trans rfl; have iL : w5.cell? ⟨bn, 3, none⟩ = some (.int .i64 aT) := (aD bP.out 3).trans rfl; have iK : w5.cell? ⟨bn, 4, none⟩ = some (.slice bH aM.length bC) := (aD bP.out 4).trans rfl; have iJ : w5.cell? ⟨bn, 5, none⟩ = some (.slice bE aU.length bD) := (aD bP.out 5).trans rfl; have iI := aA bP.out 0; have iH := aA bP.out 1; have iG := aA bP.out 2; have iF := aA bP.out 3; have iE := aA bP.out 4; have iD := aA bP.out 5) | (go_at_call 75; (with_reducible refine (bV.calls k aX aY ae aT _ _ aM _ _ aU t916 _ ?dD ?dC ?dJ ?dI A2.out).mono ?_); (case dD => repeat (first | exact (Kd.ak dY.out HB.out) | (with_reducible refine Kd.bS ?_ _) | (with_reducible refine Kd.bR ?_ _) | (with_reducible refine Kd.bW ?_))); (case dC => exact eX.out); (case dJ => repeat (first | exact (Kd.ak dV.out HB.out) | (with_reducible refine Kd.bS ?_ _) | (with_reducible refine Kd.bR ?_ _) | (with_reducible refine Kd.bW ?_))); (case dI => exact fA.out); rintro e w7 ⟨rfl, hb⟩; have n0_ := aC.mk (av (g := bn) (o := .cells #[.int .i64 aX, .int .i64 aY, .int .i64 ae, .int .i64 aT, .slice bH aM.length bC, .slice bE aU.length bD] 43 (0, 0)) (by (with_reducible repeat (first | refine ag ?_ _ | refine af ?_ | refine aW ?_ _)); exact bP.out) hb); have n1_ := aC.mk (ah (by repeat (first | (with_reducible first | exact HB.out | apply aH | apply aG | apply aI | refine aJ ?_ iQ.out) | exact HB.out)) hb); clear bP; clear HB; have bP := n0_; have HB := n1_; clear n0_ n1_; (try clear hb); (try clear hb2); (try clear hk); (try clear hi); have hcz8_0 : w7.cell? ⟨bn, 0, none⟩ = some (.int .i64 aX) := (aD bP.out 0).trans rfl; have hcz8_1 : w7.cell? ⟨bn, 1, none⟩ = some (.int .i64 aY) := (aD bP.out 1).trans rfl; have hcz8_2 : w7.cell? ⟨bn, 2, none⟩ = some (.int .i64 ae) := (aD bP.out 2).trans rfl; have hcz8_3 : w7.cell? ⟨bn, 3, none⟩ = some (.int .i64 aT) := (aD bP.out 3).trans rfl; have hcz8_4 : w7.cell? ⟨bn, 4, none⟩ = some (.slice bH aM.length bC) := (aD bP.out 4).trans rfl; have hcz8_5 : w7.cell? ⟨bn, 5, none⟩ = some (.slice bE aU.length bD) := (aD bP.out 5).trans rfl; have hfz8_0 := aA bP.out 0; have hfz8_1 := aA bP.out 1; have hfz8_2 := aA bP.out 2; have hfz8_3 := aA bP.out 3; have hfz8_4 := aA bP.out 4; have hfz8_5 := aA bP.out 5) | (go_at_call 76; (with_reducible refine (au.calls k aX aY ae aT _ _ aM _ _ aU t917 t920 t923 _ ?dD ?dC ?dJ ?dI A4.out).mono ?_); (case dD => repeat (first | exact (Kd.ak dY.out HB.out) | (with_reducible refine Kd.bS ?_ _) | (with_reducible refine Kd.bR ?_ _) | (with_reducible refine Kd.bW ?_))); (case dC => exact eX.out); (case dJ => repeat (first | exact (Kd.ak dV.out HB.out) | (with_reducible refine Kd.bS ?_ _) | (with_reducible refine Kd.bR ?_ _) | (with_reducible refine Kd.bW ?_))); (case dI => exact fA.out); rintro e w9 ⟨v918, v921, rfl, ho0, ho1, hb⟩; have n0_ := aC.mk (Kd.dn (Kd.jQ (M := fun k_ => (w.heap.size ≤ k_)) (Kd.dB (ok' := fun k_ => True) ho0 (fun _ hk_ => trivial)) (aZ (by repeat (first | (with_reducible first | exact HB.out | apply aH | apply aG | apply aI | refine aJ ?_ iQ.out) | exact HB.out))) (fun k_ h_ => h_)) (aZ (by repeat (first | (with_reducible first | exact HB.out | apply aH | apply aG | apply aI | refine aJ ?_ iQ.out) | exact HB.out)))); have n1_ := aC.mk (Kd.N_lower (Kd.kK (ok' := fun k_ => (w.heap.size ≤ k_) ∧ some k_ ≠ (v918 : Value).ownBlock ∧ k_ ≠ bn) ho1 (fun k_ hk_ => ⟨(Nat.le_trans (aZ (by repeat (first | (with_reducible first | exact HB.out | apply aH | apply aG | apply aI | refine aJ ?_ iQ.out) | exact HB.out))) hk_.1), hk_.2, (Kd.freshB (g := bn) (o := .cells #[.int .i64 aX, .int .i64 aY, .int .i64 ae, .int .i64 aT, .slice bH aM.length bC, .slice bE aU.length bD] 43 (0, 0)) (by (with_reducible repeat (first | refine ag ?_ _ | refine af ?_ | refine aW ?_ _)); exact bP.out) k_ hk_.1)⟩)) (aZ (by repeat (first | (with_reducible first | exact HB.out | apply aH | apply aG | apply aI | refine aJ ?_ iQ.out) | exact HB.out)))); have n2_ := aC.mk (av (g := bn) (o := .cells #[.int .i64 aX, .int .i64 aY, .int .i64 ae, .int .i64 aT, .slice bH aM.length bC, .slice bE aU.length bD] 43 (0, 0)) (by (with_reducible repeat (first | refine ag ?_ _ | refine af ?_ | refine aW ?_ _)); exact bP.out) hb); have n3_ := aC.mk (ah (by repeat (first | (with_reducible first | exact HB.out | apply aH | apply aG | apply aI | refine aJ ?_ iQ.out) | exact HB.out)) hb); clear bP; clear HB; have HO919 := n0_; have HO922 := n1_; have bP := n2_; have HB := n3_; clear n0_ n1_ n2_ n3_; (try clear hb); (try clear hb2); (try clear hk); (try clear hi); (try clear ho0); (try clear ho1))); try go_wp2_with (first | ((with_reducible refine bK (N := 1) rfl ?_); refine dA ?hg (N := 1) ?hd (cs := #[.int .i64 aX, .int .i64 aY, .int .i64 ae, .int .i64 aT, .slice bH aM.length bC, .slice bE aU.length bD]) (t := 43) ?hr ?_; (case hd => rfl); (case hg => rfl); (case hr => first | (go_simp; done) | (go_simp; rfl)); intro bn hg w5 hbox hb; have n0_ := aC.mk (ah (by repeat (first | (with_reducible first | exact HB.out | apply aH | apply aG | apply aI) | exact HB.out)) hb); have n1_ := aC.mk (hbox); have n2_ := aC.mk ((by rw [hg]; exact (aZ (by repeat (first | (with_reducible first | exact HB.out | apply aH | apply aG | apply aI) | exact HB.out))) : w.heap.size ≤ bn)); have n3_ := aC.mk ((by rw [hg]; exact (aZ (by repeat (first | (with_reducible first | exact HB.out | apply aH | apply aG | apply aI) | exact HB.out))) : w.heap.size ≤ bn)); clear HB; have HB := n0_; have bP := n1_; have GW915 := n2_; have iQ := n3_; clear n0_ n1_ n2_ n3_; clear hb hbox hg; have iO : w5.cell? ⟨bn, 0, none⟩ = some (.int .i64 aX) := (aD bP.out 0).trans rfl; have iN : w5.cell? ⟨bn, 1, none⟩ = some (.int .i64 aY) := (aD bP.out 1).trans rfl; have iM : w5.cell? ⟨bn, 2, none⟩ = some (.int .i64 ae) := (aD bP.out 2).trans rfl; have iL : w5.cell? ⟨bn, 3, none⟩ = some (.int .i64 aT) := (aD bP.out 3).trans rfl; have iK : w5.cell? ⟨bn, 4, none⟩ = some (.slice bH aM.length bC) := (aD bP.out 4).trans rfl; have iJ : w5.cell? ⟨bn, 5, none⟩ = some (.slice bE aU.length bD) := (aD bP.out 5).trans rfl; have iI := aA bP.out 0; have iH := aA bP.out 1; have iG := aA bP.out 2; have iF := aA bP.out 3; have iE := aA bP.out 4; have iD := aA bP.out 5) | (go_at_call 75; (with_reducible refine (bV.calls k aX aY ae aT _ _ aM _ _ aU t916 _ ?dD ?dC ?dJ ?dI A2.out).mono ?_); (case dD => repeat (first | exact (Kd.ak dY.out HB.out) | (with_reducible refine Kd.bS ?_ _) | (with_reducible refine Kd.bR ?_ _) | (with_reducible refine Kd.bW ?_))); (case dC => exact eX.out); (case dJ => repeat (first | exact (Kd.ak dV.out HB.out) | (with_reducible refine Kd.bS ?_ _) | (with_reducible refine Kd.bR ?_ _) | (with_reducible refine Kd.bW ?_))); (case dI => exact fA.out); rintro e w7 ⟨rfl, hb⟩; have n0_ := aC.mk (av (g := bn) (o := .cells #[.int .i64 aX, .int .i64 aY, .int .i64 ae, .int .i64 aT, .slice bH aM.length bC, .slice bE aU.length bD] 43 (0, 0)) (by (with_reducible repeat (first | refine ag ?_ _ | refine af ?_ | refine aW ?_ _)); exact bP.out) hb); have n1_ := aC.mk (ah (by repeat (first | (with_reducible first | exact HB.out | apply aH | apply aG | apply aI | refine aJ ?_ iQ.out) | exact HB.out)) hb); clear bP; clear HB; have bP := n0_; have HB := n1_; clear n0_ n1_; (try clear hb); (try clear hb2); (try clear hk); (try clear hi); have hcz8_0 : w7.cell? ⟨bn, 0, none⟩ = some (.int .i64 aX) := (aD bP.out 0).trans rfl; have hcz8_1 : w7.cell? ⟨bn, 1, none⟩ = some (.int .i64 aY) := (aD bP.out 1).trans rfl; have hcz8_2 : w7.cell? ⟨bn, 2, none⟩ = some (.int .i64 ae) := (aD bP.out 2).trans rfl; have hcz8_3 : w7.cell? ⟨bn, 3, none⟩ = some (.int .i64 aT) := (aD bP.out 3).trans rfl; have hcz8_4 : w7.cell? ⟨bn, 4, none⟩ = some (.slice bH aM.length bC) := (aD bP.out 4).trans rfl; have hcz8_5 : w7.cell? ⟨bn, 5, none⟩ = some (.slice bE aU.length bD) := (aD bP.out 5).trans rfl; have hfz8_0 := aA bP.out 0; have hfz8_1 := aA bP.out 1; have hfz8_2 := aA bP.out 2; have hfz8_3 := aA bP.out 3; have hfz8_4 := aA bP.out 4; have hfz8_5 := aA bP.out 5) | (go_at_call 76; (with_reducible refine (au.calls k aX aY ae aT _ _ aM _ _ aU t917 t920 t923 _ ?dD ?dC ?dJ ?dI A4.out).mono ?_); (case dD => repeat (first | exact (Kd.ak dY.out HB.out) | (with_reducible refine Kd.bS ?_ _) | (with_reducible refine Kd.bR ?_ _) | (with_reducible refine Kd.bW ?_))); (case dC => exact eX.out); (case dJ => repeat (first | exact (Kd.ak dV.out HB.out) | (with_reducible refine Kd.bS ?_ _) | (with_reducible refine Kd.bR ?_ _) | (with_reducible refine Kd.bW ?_))); (case dI => exact fA.out); rintro e w9 ⟨v918, v921, rfl, ho0, ho1, hb⟩; have n0_ := aC.mk (Kd.dn (Kd.jQ (M := fun k_ => (w.heap.size ≤ k_)) (Kd.dB (ok' := fun k_ => True) ho0 (fun _ hk_ => trivial)) (aZ (by repeat (first | (with_reducible first | exact HB.out | apply aH | apply aG | apply aI | refine aJ ?_ iQ.out) | exact HB.out))) (fun k_ h_ => h_)) (aZ (by repeat (first | (with_reducible first | exact HB.out | apply aH | apply aG | apply aI | refine aJ ?_ iQ.out) | exact HB.out)))); have n1_ := aC.mk (Kd.N_lower (Kd.kK (ok' := fun k_ => (w.heap.size ≤ k_) ∧ some k_ ≠ (v918 : Value).ownBlock ∧ k_ ≠ bn) ho1 (fun k_ hk_ => ⟨(Nat.le_trans (aZ (by repeat (first | (with_reducible first | exact HB.out | apply aH | apply aG | apply aI | refine aJ ?_ iQ.out) | exact HB.out))) hk_.1), hk_.2, (Kd.freshB (g := bn) (o := .cells #[.int .i64 aX, .int .i64 aY, .int .i64 ae, .int .i64 aT, .slice bH aM.length bC, .slice bE aU.length bD] 43 (0, 0)) (by (with_reducible repeat (first | refine ag ?_ _ | refine af ?_ | refine aW ?_ _)); exact bP.out) k_ hk_.1)⟩)) (aZ (by repeat (first | (with_reducible first | exact HB.out | apply aH | apply aG | apply aI | refine aJ ?_ iQ.out) | exact HB.out)))); have n2_ := aC.mk (av (g := bn) (o := .cells #[.int .i64 aX, .int .i64 aY, .int .i64 ae, .int .i64 aT, .slice bH aM.length bC, .slice bE aU.length bD] 43 (0, 0)) (by (with_reducible repeat (first | refine ag ?_ _ | refine af ?_ | refine aW ?_ _)); exact bP.out) hb); have n3_ := aC.mk (ah (by repeat (first | (with_reducible first | exact HB.out | apply aH | apply aG | apply aI | refine aJ ?_ iQ.out) | exact HB.out)) hb); clear bP; clear HB; have HO919 := n0_; have HO922 := n1_; have bP := n2_; have HB := n3_; clear n0_ n1_ n2_ n3_; (try clear hb); (try clear hb2); (try clear hk); (try clear hi); (try clear ho0); (try clear ho1))))
    go_loopg [9] k (fun kq v9 w' => ∃ (ik : Int), v9 = .int .i64 ik ∧ aC (cK.l0 kq t917 t920 ik aX aY ae aT aM aU = some (r1, r2, r3)) ∧ aC (kq ≤ k) ∧ aC (Kd.R (Kd.int .i64) 3 w' w.heap.size (fun k_ => (w.heap.size ≤ k_)) v918 t917) ∧ aC (Kd.N (Kd.slice 3 (Kd.int .i64)) 22 w' w.heap.size (fun k_ => (w.heap.size ≤ k_) ∧ some k_ ≠ (v918 : Value).ownBlock ∧ k_ ≠ bn) v921 t920) ∧ aC (w'.heap[bn]? = some (.cells #[.int .i64 aX, .int .i64 aY, .int .i64 ae, .int .i64 aT, (.slice bH aM.length bC), (.slice bE aU.length bD)] 43 (0, 0))) ∧ aC (Below w.heap.size w w'))
    case atStart => exact ⟨(0), (by first | rfl | (simp; done) | (simp [*]; done)), H', ⟨Nat.le_refl _⟩, ⟨by (with_reducible repeat (first | apply Kd.bB | apply Kd.ax | apply Kd.bJ)); exact Kd.dB HO919.out (fun _ hk => hk.1)⟩, ⟨by (with_reducible repeat (first | apply Kd.df | apply Kd.dX | apply Kd.fB)); exact HO922.out⟩, ⟨by (with_reducible repeat (first | refine ag ?_ _ | refine af ?_ | refine aW ?_ _)); exact bP.out⟩, ⟨by repeat (first | (with_reducible first | exact HB.out | apply aH | apply aG | apply aI | refine aJ ?_ iQ.out) | exact HB.out)⟩⟩
    case round =>
      clear H'
      try clear p2
      try clear c3
      try clear lL
      try clear c3b1
      try clear c4
      try clear iO
      try clear iN
      try clear iM
      try clear iL
      try clear iK
      try clear iJ
      try clear hcz8_0
      try clear hcz8_1
      try clear hcz8_2
      try clear hcz8_3
      try clear hcz8_4
      try clear hcz8_5
      try clear iI
      try clear iH
      try clear iG
      try clear iF
      try clear iE
      try clear iD
      try clear hfz8_0
      try clear hfz8_1
      try clear hfz8_2
      try clear hfz8_3
      try clear hfz8_4
      try clear hfz8_5
      obtain ⟨ik, rfl, HA, HK1, HO_6, HO_7, bP, HB⟩ := hrel
      cases gk with
      | zero => exact absurd HA.out (by simp [cK.l0])
      | succ k1 =>
        have H := HA.out
        clear HA
        simp only [cK.l0] at H
        by_cases c10 : ik < (t917.length : Int)
        · rw [if_pos c10] at H
          have c10b0 : decide (ik < (t917.length : Int)) = true := decide_eq_true c10
          clear c10
          by_cases c11 : 0 ≤ ik
          · rw [if_pos c11] at H
            have c11b0 : decide (0 ≤ ik) = true := decide_eq_true c11
            clear c11
            by_cases c12 : 0 ≤ (rd t917 ik)
            · rw [if_pos c12] at H
              have c12b0 : decide (0 ≤ (rd t917 ik)) = true := decide_eq_true c12
              clear c12
              by_cases c13 : (rd t917 ik) < (aU.length : Int)
              · rw [if_pos c13] at H
                have c13b0 : decide ((rd t917 ik) < (aU.length : Int)) = true := decide_eq_true c13
                clear c13
                by_cases c14 : (rd aU (rd t917 ik)) = 1
                · rw [if_pos c14] at H
                  have jg : ((rd aU (rd t917 ik)) == 1) = true := beq_iff_eq.mpr c14
                  have c14b1 : ((rd aU (rd t917 ik)) != 1) = false := bne_eq_false_iff_eq.mpr c14
                  clear c14
                  by_cases c15 : ik < (t920.length : Int)
                  · rw [if_pos c15] at H
                    have c15b0 : decide (ik < (t920.length : Int)) = true := decide_eq_true c15
                    clear c15
                    simp only [Option.some.injEq, Prod.mk.injEq] at H
                    obtain ⟨rfl, rfl, rfl⟩ := H
                    obtain ⟨Ao16, co16, eo16⟩ := Kd.bu HO_6.out
                    subst eo16
                    have kZ : wr.cell? ⟨bn, 0, none⟩ = some (.int .i64 aX) := (aD bP.out 0).trans rfl
                    have kY : wr.cell? ⟨bn, 1, none⟩ = some (.int .i64 aY) := (aD bP.out 1).trans rfl
                    have kX : wr.cell? ⟨bn, 2, none⟩ = some (.int .i64 ae) := (aD bP.out 2).trans rfl
                    have kW : wr.cell? ⟨bn, 3, none⟩ = some (.int .i64 aT) := (aD bP.out 3).trans rfl
                    have kV : wr.cell? ⟨bn, 4, none⟩ = some (.slice bH aM.length bC) := (aD bP.out 4).trans rfl
                    have kU : wr.cell? ⟨bn, 5, none⟩ = some (.slice bE aU.length bD) := (aD bP.out 5).trans rfl
                    have kT := aA bP.out 0
                    have kS := aA bP.out 1
                    have kR := aA bP.out 2
                    have kQ := aA bP.out 3
                    have kP := aA bP.out 4
                    have kN := aA bP.out 5
                    have p924 : 0 ≤ (ik : Int) := of_decide_eq_true (by first | (with_reducible assumption) | assumption)
                    have q924 : ik < (t917.length : Int) := of_decide_eq_true (by first | (with_reducible assumption) | assumption)
                    obtain ⟨ad924, e924, hx924_0⟩ := Kd.cz (Kd.bX HO_6.out).2.2 ik p924 q924
                    cases e924
                    replace p924 := eq_true p924
                    replace q924 := eq_true q924
                    have p925 : 0 ≤ ((rd t917 ik) : Int) := of_decide_eq_true (by first | (with_reducible assumption) | assumption)
                    have q925 : (rd t917 ik) < (aU.length : Int) := of_decide_eq_true (by first | (with_reducible assumption) | assumption)
                    obtain ⟨ad925, e925, hx925_0⟩ := Kd.cz dV.out (rd t917 ik) p925 q925
                    cases e925
                    replace hx925_0 := (HB.out.cell (World.block_lt_of_cell? w _ hx925_0)).trans hx925_0
                    replace p925 := eq_true p925
                    replace q925 := eq_true q925
                    obtain ⟨Ao18, co18, eo18⟩ := Kd.N_slice HO_7.out
                    subst eo18
                    have p926 : 0 ≤ (ik : Int) := of_decide_eq_true (by first | (with_reducible assumption) | assumption)
                    have q926 : ik < (t920.length : Int) := of_decide_eq_true (by first | (with_reducible assumption) | assumption)
                    obtain ⟨ad926, A926_0, c926_0, e926, hx926_0, hl926_0, hi926_0⟩ := at_L1 (Kd.N_reads' HO_7.out).2.2 ik p926 q926
                    cases e926
                    obtain ⟨ce926, hce926, hMe926, hcc926⟩ := Kd.N_get HO_7.out [] ik p926 (by first | exact q926 | exact of_decide_eq_true (by first | (with_reducible assumption) | assumption) | (have e_ := (Kd.N_reads' HO_7.out).1; omega))
                    obtain ⟨ua926_0, uc926_0, rfl, ul926_0, ge926_0⟩ := Kd.FK_slice_open hMe926
                    have hv926_0 := hcc926 0 _ rfl
                    rw [Nat.add_zero, show ((Kd.slice 3 (Kd.int .i64))).sz = 1 from rfl, Nat.mul_one] at hv926_0
                    replace hv926_0 := Option.some.inj (hv926_0.symm.trans hx926_0)
                    injection hv926_0 with hva_ hvn_ hvc_
                    rw [hva_] at ge926_0
                    rw [hvc_] at ul926_0
                    have HL926_0 := aC.mk (show Kd.V (Kd.int .i64) 3 _ w.heap.size _ _ (jX t920 ik) from Kd.V_mk ul926_0 ge926_0)
                    clear hva_ hvn_ hvc_ ge926_0 ul926_0
                    clear hcc926 hce926
                    have HR926_0 := aC.mk hi926_0
                    have HC926_0 := aC.mk hl926_0
                    clear hi926_0 hl926_0
                    replace p926 := eq_true p926
                    replace q926 := eq_true q926
                    go_wp2
                    repeat (go_quiet (fail); try go_wp2)
                    go_ret3
                    exact ⟨_, by first | rfl | (simp [az, ay] <;> rfl) | (simp [*, az, ay] <;> rfl), by (with_reducible repeat (first | apply Kd.V_alloc | apply Kd.V_drewN | apply Kd.V_drew)); exact Kd.V_mono HL926_0.out (fun _ hk => hk.1.1), by repeat (first | (with_reducible first | exact HB.out | apply aH | apply aG | apply aI | refine aJ ?_ iQ.out) | exact HB.out)⟩
                  · rw [if_neg c15] at H
                    exact absurd H (by simp)
                · rw [if_neg c14] at H
                  have jg : ((rd aU (rd t917 ik)) == 1) = false := beq_eq_false_iff_ne.mpr c14
                  have c14b1 : ((rd aU (rd t917 ik)) != 1) = true := bne_iff_ne.mpr c14
                  have H' := aC.mk H
                  clear H
                  obtain ⟨Ao19, co19, eo19⟩ := Kd.bu HO_6.out
                  subst eo19
                  have hcz20_0 : wr.cell? ⟨bn, 0, none⟩ = some (.int .i64 aX) := (aD bP.out 0).trans rfl
                  have hcz20_1 : wr.cell? ⟨bn, 1, none⟩ = some (.int .i64 aY) := (aD bP.out 1).trans rfl
                  have hcz20_2 : wr.cell? ⟨bn, 2, none⟩ = some (.int .i64 ae) := (aD bP.out 2).trans rfl
                  have hcz20_3 : wr.cell? ⟨bn, 3, none⟩ = some (.int .i64 aT) := (aD bP.out 3).trans rfl
                  have hcz20_4 : wr.cell? ⟨bn, 4, none⟩ = some (.slice bH aM.length bC) := (aD bP.out 4).trans rfl
                  have hcz20_5 : wr.cell? ⟨bn, 5, none⟩ = some (.slice bE aU.length bD) := (aD bP.out 5).trans rfl
                  have hfz20_0 := aA bP.out 0
                  have hfz20_1 := aA bP.out 1
                  have hfz20_2 := aA bP.out 2
                  have hfz20_3 := aA bP.out 3
                  have hfz20_4 := aA bP.out 4
                  have hfz20_5 := aA bP.out 5
                  have p924 : 0 ≤ (ik : Int) := of_decide_eq_true (by first | (with_reducible assumption) | assumption)
                  have q924 : ik < (t917.length : Int) := of_decide_eq_true (by first | (with_reducible assumption) | assumption)
                  obtain ⟨ad924, e924, hx924_0⟩ := Kd.cz (Kd.bX HO_6.out).2.2 ik p924 q924
                  cases e924
                  replace p924 := eq_true p924
                  replace q924 := eq_true q924
                  have p925 : 0 ≤ ((rd t917 ik) : Int) := of_decide_eq_true (by first | (with_reducible assumption) | assumption)
                  have q925 : (rd t917 ik) < (aU.length : Int) := of_decide_eq_true (by first | (with_reducible assumption) | assumption)
                  obtain ⟨ad925, e925, hx925_0⟩ := Kd.cz dV.out (rd t917 ik) p925 q925
                  cases e925
                  replace hx925_0 := (HB.out.cell (World.block_lt_of_cell? w _ hx925_0)).trans hx925_0
                  replace p925 := eq_true p925
                  replace q925 := eq_true q925
                  go_wp2
                  repeat (go_quiet (fail); try go_wp2)
                  go_roundg k1
                  case measure => have := HK1.out; omega
                  case rel => exact ⟨(wrap64 (ik + 1)), (by first | rfl | (simp; done) | (simp [*]; done)), H', ⟨by have := HK1.out; omega⟩, ⟨by (with_reducible repeat (first | apply Kd.bB | apply Kd.ax | apply Kd.bJ)); exact HO_6.out⟩, ⟨by (with_reducible repeat (first | apply Kd.df | apply Kd.dX | apply Kd.fB)); exact HO_7.out⟩, ⟨by (with_reducible repeat (first | refine ag ?_ _ | refine af ?_ | refine aW ?_ _)); exact bP.out⟩, ⟨by repeat (first | (with_reducible first | exact HB.out | apply aH | apply aG | apply aI | refine aJ ?_ iQ.out) | exact HB.out)⟩⟩
              · rw [if_neg c13] at H
                exact absurd H (by simp)
            · rw [if_neg c12] at H
              exact absurd H (by simp)
          · rw [if_neg c11] at H
            exact absurd H (by simp)
        · rw [if_neg c10] at H
          have c10b0 : decide (ik < (t917.length : Int)) = false := decide_eq_false c10
          clear c10
          simp only [Option.some.injEq, Prod.mk.injEq] at H
          obtain ⟨rfl, rfl, rfl⟩ := H
          obtain ⟨Ao21, co21, eo21⟩ := Kd.bu HO_6.out
          subst eo21
          go_wp2
          repeat (go_quiet (fail); try go_wp2)
          go_ret3
          exact ⟨_, by first | rfl | (simp [az, ay] <;> rfl) | (simp [*, az, ay] <;> rfl), Kd.R_V (by first | exact Kd.jq (Kd.int .i64) 3 _ w.heap.size _ | exact Kd.jq _ _ _ _ _ | exact Kd.N_nil _ _ _ _ _ | exact Kd.V_nil _ _ _ _ _ | exact Kd.Q_nil _ _ _ _ _ | exact Kd.S_nil _ _ _ _ _), by repeat (first | (with_reducible first | exact HB.out | apply aH | apply aG | apply aI | refine aJ ?_ iQ.out) | exact HB.out)⟩
  · rw [if_neg c3] at H
    have lL : (t916 == 0) = false := beq_eq_false_iff_ne.mpr c3
    have c3b1 : (t916 != 0) = true := bne_iff_ne.mpr c3
    simp only [Option.some.injEq, Prod.mk.injEq] at H
    obtain ⟨rfl, rfl, rfl⟩ := H
    go_enter Try.func41, Try.ntmps41
    go_wp2_with (first | ((with_reducible refine bK (N := 1) rfl ?_); refine dA ?hg (N := 1) ?hd (cs := #[.int .i64 aX, .int .i64 aY, .int .i64 ae, .int .i64 aT, .slice bH aM.length bC, .slice bE aU.length bD]) (t := 43) ?hr ?_; (case hd => rfl); (case hg => rfl); (case hr => first | (go_simp; done) | (go_simp; rfl)); intro bn hg w22 hbox hb; have n0_ := aC.mk (ah (by repeat (first | (with_reducible first | exact HB.out | apply aH | apply aG | apply aI) | exact HB.out)) hb); have n1_ := aC.mk (hbox); have n2_ := aC.mk ((by rw [hg]; exact (aZ (by repeat (first | (with_reducible first | exact HB.out | apply aH | apply aG | apply aI) | exact HB.out))) : w.heap.size ≤ bn)); have n3_ := aC.mk ((by rw [hg]; exact (aZ (by repeat (first | (with_reducible first | exact HB.out | apply aH | apply aG | apply aI) | exact HB.out))) : w.heap.size ≤ bn)); clear HB; have HB := n0_; have bP := n1_; have GW915 := n2_; have iQ := n3_; clear n0_ n1_ n2_ n3_; clear hb hbox hg; have hcz23_0 : w22.cell? ⟨bn, 0, none⟩ = some (.int .i64 aX) := (aD bP.out 0).trans rfl; have hcz23_1 : w22.cell? ⟨bn, 1, none⟩ = some (.int .i64 aY) := (aD bP.out 1).trans rfl; have hcz23_2 : w22.cell? ⟨bn, 2, none⟩ = some (.int .i64 ae) := (aD bP.out 2).trans rfl; have hcz23_3 : w22.cell? ⟨bn, 3, none⟩ = some (.int .i64 aT) := (aD bP.out 3).trans rfl; have hcz23_4 : w22.cell? ⟨bn, 4, none⟩ = some (.slice bH aM.length bC) := (aD bP.out 4).trans rfl; have hcz23_5 : w22.cell? ⟨bn, 5, none⟩ = some (.slice bE aU.length bD) := (aD bP.out 5).trans rfl; have hfz23_0 := aA bP.out 0; have hfz23_1 := aA bP.out 1; have hfz23_2 := aA bP.out 2; have hfz23_3 := aA bP.out 3; have hfz23_4 := aA bP.out 4; have hfz23_5 := aA bP.out 5) | (go_at_call 75; (with_reducible refine (bV.calls k aX aY ae aT _ _ aM _ _ aU t916 _ ?dD ?dC ?dJ ?dI A2.out).mono ?_); (case dD => repeat (first | exact (Kd.ak dY.out HB.out) | (with_reducible refine Kd.bS ?_ _) | (with_reducible refine Kd.bR ?_ _) | (with_reducible refine Kd.bW ?_))); (case dC => exact eX.out); (case dJ => repeat (first | exact (Kd.ak dV.out HB.out) | (with_reducible refine Kd.bS ?_ _) | (with_reducible refine Kd.bR ?_ _) | (with_reducible refine Kd.bW ?_))); (case dI => exact fA.out); rintro e w24 ⟨rfl, hb⟩; have n0_ := aC.mk (av (g := bn) (o := .cells #[.int .i64 aX, .int .i64 aY, .int .i64 ae, .int .i64 aT, .slice bH aM.length bC, .slice bE aU.length bD] 43 (0, 0)) (by (with_reducible repeat (first | refine ag ?_ _ | refine af ?_ | refine aW ?_ _)); exact bP.out) hb); have n1_ := aC.mk (ah (by repeat (first | (with_reducible first | exact HB.out | apply aH | apply aG | apply aI | refine aJ ?_ iQ.out) | exact HB.out)) hb); clear bP; clear HB; have bP := n0_; have HB := n1_; clear n0_ n1_; (try clear hb); (try clear hb2); (try clear hk); (try clear hi)))
    repeat (go_quiet (first | ((with_reducible refine bK (N := 1) rfl ?_); refine dA ?hg (N := 1) ?hd (cs := #[.int .i64 aX, .int .i64 aY, .int .i64 ae, .int .i64 aT, .slice bH aM.length bC, .slice bE aU.length bD]) (t := 43) ?hr ?_; (case hd => rfl); (case hg => rfl); (case hr => first | (go_simp; done) | (go_simp; rfl)); intro bn hg w22 hbox hb; have n0_ := aC.mk (ah (by repeat (first | (with_reducible first | exact HB.out | apply aH | apply aG | apply aI) | exact HB.out)) hb); have n1_ := aC.mk (hbox); have n2_ := aC.mk ((by rw [hg]; exact (aZ (by repeat (first | (with_reducible first | exact HB.out | apply aH | apply aG | apply aI) | exact HB.out))) : w.heap.size ≤ bn)); have n3_ := aC.mk ((by rw [hg]; exact (aZ (by repeat (first | (with_reducible first | exact HB.out | apply aH | apply aG | apply aI) | exact HB.out))) : w.heap.size ≤ bn)); clear HB; have HB := n0_; have bP := n1_; have GW915 := n2_; have iQ := n3_; clear n0_ n1_ n2_ n3_; clear hb hbox hg; have hcz23_0 : w22.cell? ⟨bn, 0, none⟩ = some (.int .i64 aX) := (aD bP.out 0).trans rfl; have hcz23_1 : w22.cell? ⟨bn, 1, none⟩ = some (.int .i64 aY) := (aD bP.out 1).trans rfl; have hcz23_2 : w22.cell? ⟨bn, 2, none⟩ = some (.int .i64 ae) := (aD bP.out 2).trans rfl; have hcz23_3 : w22.cell? ⟨bn, 3, none⟩ = some (.int .i64 aT) := (aD bP.out 3).trans rfl; have hcz23_4 : w22.cell? ⟨bn, 4, none⟩ = some (.slice bH aM.length bC) := (aD bP.out 4).trans rfl; have hcz23_5 : w22.cell? ⟨bn, 5, none⟩ = some (.slice bE aU.length bD) := (aD bP.out 5).trans rfl; have hfz23_0 := aA bP.out 0; have hfz23_1 := aA bP.out 1; have hfz23_2 := aA bP.out 2; have hfz23_3 := aA bP.out 3; have hfz23_4 := aA bP.out 4; have hfz23_5 := aA bP.out 5) | (go_at_call 75; (with_reducible refine (bV.calls k aX aY ae aT _ _ aM _ _ aU t916 _ ?dD ?dC ?dJ ?dI A2.out).mono ?_); (case dD => repeat (first | exact (Kd.ak dY.out HB.out) | (with_reducible refine Kd.bS ?_ _) | (with_reducible refine Kd.bR ?_ _) | (with_reducible refine Kd.bW ?_))); (case dC => exact eX.out); (case dJ => repeat (first | exact (Kd.ak dV.out HB.out) | (with_reducible refine Kd.bS ?_ _) | (with_reducible refine Kd.bR ?_ _) | (with_reducible refine Kd.bW ?_))); (case dI => exact fA.out); rintro e w24 ⟨rfl, hb⟩; have n0_ := aC.mk (av (g := bn) (o := .cells #[.int .i64 aX, .int .i64 aY, .int .i64 ae, .int .i64 aT, .slice bH aM.length bC, .slice bE aU.length bD] 43 (0, 0)) (by (with_reducible repeat (first | refine ag ?_ _ | refine af ?_ | refine aW ?_ _)); exact bP.out) hb); have n1_ := aC.mk (ah (by repeat (first | (with_reducible first | exact HB.out | apply aH | apply aG | apply aI | refine aJ ?_ iQ.out) | exact HB.out)) hb); clear bP; clear HB; have bP := n0_; have HB := n1_; clear n0_ n1_; (try clear hb); (try clear hb2); (try clear hk); (try clear hi))); try go_wp2_with (first | ((with_reducible refine bK (N := 1) rfl ?_); refine dA ?hg (N := 1) ?hd (cs := #[.int .i64 aX, .int .i64 aY, .int .i64 ae, .int .i64 aT, .slice bH aM.length bC, .slice bE aU.length bD]) (t := 43) ?hr ?_; (case hd => rfl); (case hg => rfl); (case hr => first | (go_simp; done) | (go_simp; rfl)); intro bn hg w22 hbox hb; have n0_ := aC.mk (ah (by repeat (first | (with_reducible first | exact HB.out | apply aH | apply aG | apply aI) | exact HB.out)) hb); have n1_ := aC.mk (hbox); have n2_ := aC.mk ((by rw [hg]; exact (aZ (by repeat (first | (with_reducible first | exact HB.out | apply aH | apply aG | apply aI) | exact HB.out))) : w.heap.size ≤ bn)); have n3_ := aC.mk ((by rw [hg]; exact (aZ (by repeat (first | (with_reducible first | exact HB.out | apply aH | apply aG | apply aI) | exact HB.out))) : w.heap.size ≤ bn)); clear HB; have HB := n0_; have bP := n1_; have GW915 := n2_; have iQ := n3_; clear n0_ n1_ n2_ n3_; clear hb hbox hg; have hcz23_0 : w22.cell? ⟨bn, 0, none⟩ = some (.int .i64 aX) := (aD bP.out 0).trans rfl; have hcz23_1 : w22.cell? ⟨bn, 1, none⟩ = some (.int .i64 aY) := (aD bP.out 1).trans rfl; have hcz23_2 : w22.cell? ⟨bn, 2, none⟩ = some (.int .i64 ae) := (aD bP.out 2).trans rfl; have hcz23_3 : w22.cell? ⟨bn, 3, none⟩ = some (.int .i64 aT) := (aD bP.out 3).trans rfl; have hcz23_4 : w22.cell? ⟨bn, 4, none⟩ = some (.slice bH aM.length bC) := (aD bP.out 4).trans rfl; have hcz23_5 : w22.cell? ⟨bn, 5, none⟩ = some (.slice bE aU.length bD) := (aD bP.out 5).trans rfl; have hfz23_0 := aA bP.out 0; have hfz23_1 := aA bP.out 1; have hfz23_2 := aA bP.out 2; have hfz23_3 := aA bP.out 3; have hfz23_4 := aA bP.out 4; have hfz23_5 := aA bP.out 5) | (go_at_call 75; (with_reducible refine (bV.calls k aX aY ae aT _ _ aM _ _ aU t916 _ ?dD ?dC ?dJ ?dI A2.out).mono ?_); (case dD => repeat (first | exact (Kd.ak dY.out HB.out) | (with_reducible refine Kd.bS ?_ _) | (with_reducible refine Kd.bR ?_ _) | (with_reducible refine Kd.bW ?_))); (case dC => exact eX.out); (case dJ => repeat (first | exact (Kd.ak dV.out HB.out) | (with_reducible refine Kd.bS ?_ _) | (with_reducible refine Kd.bR ?_ _) | (with_reducible refine Kd.bW ?_))); (case dI => exact fA.out); rintro e w24 ⟨rfl, hb⟩; have n0_ := aC.mk (av (g := bn) (o := .cells #[.int .i64 aX, .int .i64 aY, .int .i64 ae, .int .i64 aT, .slice bH aM.length bC, .slice bE aU.length bD] 43 (0, 0)) (by (with_reducible repeat (first | refine ag ?_ _ | refine af ?_ | refine aW ?_ _)); exact bP.out) hb); have n1_ := aC.mk (ah (by repeat (first | (with_reducible first | exact HB.out | apply aH | apply aG | apply aI | refine aJ ?_ iQ.out) | exact HB.out)) hb); clear bP; clear HB; have bP := n0_; have HB := n1_; clear n0_ n1_; (try clear hb); (try clear hb2); (try clear hk); (try clear hi))))
    go_ret3
    exact ⟨_, by first | rfl | (simp [az, ay] <;> rfl) | (simp [*, az, ay] <;> rfl), Kd.R_V (by first | exact Kd.jq (Kd.int .i64) 3 _ w.heap.size _ | exact Kd.jq _ _ _ _ _ | exact Kd.N_nil _ _ _ _ _ | exact Kd.V_nil _ _ _ _ _ | exact Kd.Q_nil _ _ _ _ _ | exact Kd.S_nil _ _ _ _ _), by repeat (first | (with_reducible first | exact HB.out | apply aH | apply aG | apply aI | refine aJ ?_ iQ.out) | exact HB.out)⟩
end Go.Proofs.Ytkaefgmgcghhiaa.X
end

section
namespace Go.Proofs.Ytkaefgmgcghhiaa.X
open Go.RowKit Go.Proofs.YtkaefgmgcghhiaaW.PrintWords Go.Proofs.YtkaefgmgcghhiaaW.PrintLast Go.Proofs.YtkaefgmgcghhiaaW.PrintMore
attribute [local go_sem] eP eH fQ fP d9 dZ eO eG   -- for this text's walks alone
set_option linter.unusedVariables false
set_option linter.unusedSimpArgs false
mutual
def aa.l0 : Nat → List Bool → Int → Int → Int → Int → Int → List Int → List Int → Option (Bool × Int)
  | 0, _, _, _, _, _, _, _, _ => none
  | k + 1, x5, x6, jl, gp, jk, gZ, iX, jG => if x6 < (wrap64 (2 * gZ)) then (aa.l1 k x5 x6 0 jl gp jk gZ iX jG) else (some (true, 0))
def aa.l1 : Nat → List Bool → Int → Int → Int → Int → Int → Int → List Int → List Int → Option (Bool × Int)
  | 0, _, _, _, _, _, _, _, _, _ => none
  | k + 1, x5, x6, x7, jl, gp, jk, gZ, iX, jG => if x7 < gZ then (if x6 ≥ gZ then (if 0 ≤ x7 then (if x7 < (x5.length : Int) then (if rdOf false x5 x7 = true then (if x7 < (jG.length : Int) then (if (rd jG x7) = 1 then (some (false, 0)) else (aa.l1 k x5 x6 (wrap64 (x7 + 1)) jl gp jk gZ iX jG)) else (none)) else (aa.l1 k x5 x6 (wrap64 (x7 + 1)) jl gp jk gZ iX jG)) else (none)) else (none)) else (aa.l1 k x5 x6 (wrap64 (x7 + 1)) jl gp jk gZ iX jG)) else (if 0 ≤ gZ then (if (gZ : Int).toNat ≤ 281474976710656 then (aa.l2 k x5 x6 (List.replicate (gZ : Int).toNat false) 0 jl gp jk gZ iX jG) else (none)) else (none))
def aa.l2 : Nat → List Bool → Int → List Bool → Int → Int → Int → Int → Int → List Int → List Int → Option (Bool × Int)
  | 0, _, _, _, _, _, _, _, _, _, _ => none
  | k + 1, x5, x6, x8, x9, jl, gp, jk, gZ, iX, jG => if x9 < gZ then (aa.l3 k x5 x6 x8 x9 0 jl gp jk gZ iX jG) else (aa.l0 k x8 (wrap64 (x6 + 1)) jl gp jk gZ iX jG)
def aa.l3 : Nat → List Bool → Int → List Bool → Int → Int → Int → Int → Int → Int → List Int → List Int → Option (Bool × Int)
  | 0, _, _, _, _, _, _, _, _, _, _, _ => none
  | k + 1, x5, x6, x8, x9, x10, jl, gp, jk, gZ, iX, jG => if x10 < gp then (if 0 ≤ x9 then (if x9 < (x5.length : Int) then (if rdOf false x5 x9 = true then (if 0 ≤ (wrap64 ((wrap64 (x9 * gp)) + x10)) then (if (wrap64 ((wrap64 (x9 * gp)) + x10)) < (iX.length : Int) then (if 0 ≤ (rd iX (wrap64 ((wrap64 (x9 * gp)) + x10))) then (if (rd iX (wrap64 ((wrap64 (x9 * gp)) + x10))) < (x8.length : Int) then (aa.l3 k x5 x6 (x8.set ((rd iX (wrap64 ((wrap64 (x9 * gp)) + x10))) : Int).toNat true) x9 (wrap64 (x10 + 1)) jl gp jk gZ iX jG) else (none)) else (none)) else (none)) else (none)) else (aa.l2 k x5 x6 x8 (wrap64 (x9 + 1)) jl gp jk gZ iX jG)) else (none)) else (none)) else (aa.l2 k x5 x6 x8 (wrap64 (x9 + 1)) jl gp jk gZ iX jG)
end
def aa.f (k : Nat) (aX : Int) (aY : Int) (ae : Int) (aT : Int) (aM : List Int) (aU : List Int) : Option (Bool × Int) := (bV.f k aX aY ae aT aM aU).bind fun t942 => (if t942 = 0 then (if 0 ≤ aT then (if (aT : Int).toNat ≤ 281474976710656 then ((some (List.replicate (aT : Int).toNat false : List Bool)).bind fun y943 => (if 0 < (y943.length : Int) then (aa.l0 k (y943.set (0 : Int).toNat true) 0 aX aY ae aT aM aU) else (none))) else (none)) else (none)) else (some (false, t942)))
set_option maxHeartbeats 8000000 in
set_option maxRecDepth 100000 in
theorem aa.calls (k : Nat) (aX : Int) (aY : Int) (ae : Int) (aT : Int) (bH : Option Addr) (bC : Nat) (aM : List Int) (bE : Option Addr) (bD : Nat) (aU : List Int) (r1 : Bool) (r2 : Int) (w : World) (eQ : Kd.C (Kd.int .i64) w bH aM.length aM) (eu : aM.length ≤ bC) (fD : Kd.C (Kd.int .i64) w bE aU.length aU) (fG : aU.length ≤ bD) (h : aa.f k aX aY ae aT aM aU = some (r1, r2)) :
    Calls Try.prog 43 #[.agg #[.int .i64 aX, .int .i64 aY, .int .i64 ae, .int .i64 aT, .slice bH aM.length bC, .slice bE aU.length bD]] w fun e w' => e = .returned (.tuple #[.bool r1, .int .i64 r2]) ∧ Below w.heap.size w w' := by
  have hu43 := Try.underlying43
  have dY := aC.mk eQ
  have eX := aC.mk eu
  clear eQ eu
  have dV := aC.mk fD
  have fA := aC.mk fG
  clear fD fG
  have HB := aC.mk (Below.refl w.heap.size w)
  have H : ((bV.f k aX aY ae aT aM aU).bind fun t942 => (if t942 = 0 then (if 0 ≤ aT then (if (aT : Int).toNat ≤ 281474976710656 then ((some (List.replicate (aT : Int).toNat false : List Bool)).bind fun y943 => (if 0 < (y943.length : Int) then (aa.l0 k (y943.set (0 : Int).toNat true) 0 aX aY ae aT aM aU) else (none))) else (none)) else (none)) else (some (false, t942)))) = some (r1, r2) := h
  clear h
  replace H := Option.bind_eq_some_iff.mp H
  obtain ⟨t942, A20, H⟩ := H
  replace H : (if t942 = 0 then (if 0 ≤ aT then (if (aT : Int).toNat ≤ 281474976710656 then ((some (List.replicate (aT : Int).toNat false : List Bool)).bind fun y943 => (if 0 < (y943.length : Int) then (aa.l0 k (y943.set (0 : Int).toNat true) 0 aX aY ae aT aM aU) else (none))) else (none)) else (none)) else (some (false, t942))) = some (r1, r2) := H
  have A2 := aC.mk A20
  clear A20
  by_cases c3 : t942 = 0
  · rw [if_pos c3] at H
    have lL : (t942 == 0) = true := beq_iff_eq.mpr c3
    have c3b1 : (t942 != 0) = false := bne_eq_false_iff_eq.mpr c3
    clear c3
    by_cases c4 : 0 ≤ aT
    · rw [if_pos c4] at H
      have iB := eq_true c4
      have ja : decide (0 ≤ aT) = true := decide_eq_true c4
      clear c4
      by_cases c5 : (aT : Int).toNat ≤ 281474976710656
      · rw [if_pos c5] at H
        have c5b0 := eq_true c5
        have c5b1 : decide ((aT : Int).toNat ≤ 281474976710656) = true := decide_eq_true c5
        clear c5
        obtain ⟨y943, hy943⟩ : ∃ y_ : List Bool, y_ = (List.replicate (aT : Int).toNat false) := ⟨_, rfl⟩
        replace H : (if 0 < (y943.length : Int) then (aa.l0 k (y943.set (0 : Int).toNat true) 0 aX aY ae aT aM aU) else (none)) = some (r1, r2) := by first | (rw [hy943]; with_reducible exact H) | (have H2_ := (Option.bind_some _ _).symm.trans H; rw [hy943]; with_reducible exact H2_) | (have H2_ := (Option.bind_some _ _).symm.trans H; with_reducible exact H2_) | with_reducible exact H | (rw [hy943]; exact H) | exact H
        have Ny943 := aC.mk hy943
        clear hy943
        by_cases c6 : 0 < (y943.length : Int)
        · rw [if_pos c6] at H
          have c6b0 : decide (0 < (y943.length : Int)) = true := decide_eq_true c6
          have c6b1 : decide (0 < y943.length) = true := decide_eq_true (by omega)
          clear c6
          obtain ⟨y946, hy946⟩ : ∃ y_ : List Bool, y_ = (y943.set (0 : Int).toNat true) := ⟨_, rfl⟩
          replace H : (aa.l0 k y946 0 aX aY ae aT aM aU) = some (r1, r2) := by first | (rw [hy946]; with_reducible exact H) | (have H2_ := (Option.bind_some _ _).symm.trans H; rw [hy946]; with_reducible exact H2_) | (have H2_ := (Option.bind_some _ _).symm.trans H; with_reducible exact H2_) | with_reducible exact H | (rw [hy946]; exact H) | exact H
          have Ny946 := aC.mk hy946
          clear hy946
          have H' := aC.mk H
          clear H
          go_enter Try.func43, Try.ntmps43
          go_wp2_with (first | ((with_reducible refine bK (N := 1) rfl ?_); refine dA ?hg (N := 1) ?hd (cs := #[.int .i64 aX, .int .i64 aY, .int .i64 ae, .int .i64 aT, .slice bH aM.length bC, .slice bE aU.length bD]) (t := 43) ?hr ?_; (case hd => rfl); (case hg => rfl); (case hr => first | (go_simp; done) | (go_simp; rfl)); intro bf hg w8 hbox hb; have n0_ := aC.mk (ah (by repeat (first | (with_reducible first | exact HB.out | apply aH | apply aG | apply aI) | exact HB.out)) hb); have n1_ := aC.mk (hbox); have n2_ := aC.mk ((by rw [hg]; exact (aZ (by repeat (first | (with_reducible first | exact HB.out | apply aH | apply aG | apply aI) | exact HB.out))) : w.heap.size ≤ bf)); have n3_ := aC.mk ((by rw [hg]; exact (aZ (by repeat (first | (with_reducible first | exact HB.out | apply aH | apply aG | apply aI) | exact HB.out))) : w.heap.size ≤ bf)); clear HB; have HB := n0_; have bG := n1_; have GW941 := n2_; have kL := n3_; clear n0_ n1_ n2_ n3_; clear hb hbox hg; have kJ : w8.cell? ⟨bf, 0, none⟩ = some (.int .i64 aX) := (aD bG.out 0).trans rfl; have kI : w8.cell? ⟨bf, 1, none⟩ = some (.int .i64 aY) := (aD bG.out 1).trans rfl; have kH : w8.cell? ⟨bf, 2, none⟩ = some (.int .i64 ae) := (aD bG.out 2).trans rfl; have kG : w8.cell? ⟨bf, 3, none⟩ = some (.int .i64 aT) := (aD bG.out 3).trans rfl; have kF : w8.cell? ⟨bf, 4, none⟩ = some (.slice bH aM.length bC) := (aD bG.out 4).trans rfl; have kE : w8.cell? ⟨bf, 5, none⟩ = some (.slice bE aU.length bD) := (aD bG.out 5).trans rfl; have kD := aA bG.out 0; have kC := aA bG.out 1; have jy := aA bG.out 2; have jw := aA bG.out 3; have jv := aA bG.out 4; have jr := aA bG.out 5) | ((with_reducible refine dG (f := 75) rfl ?_); refine gW (some 12) rfl rfl Try.func75 (by kernel_rfl) rfl #[.agg #[.int .i64 aX, .int .i64 aY, .int .i64 ae, .int .i64 aT, .slice bH aM.length bC, .slice bE aU.length bD]] rfl (by (try simp only [List.map_toArray, List.map_cons, List.map_nil]); first | done | rfl | (simp only [List.length_drop, List.length_take]; rfl)) ?_; (with_reducible refine (bV.calls k aX aY ae aT _ _ aM _ _ aU t942 _ ?dD ?dC ?dJ ?dI A2.out).mono ?_); (case dD => repeat (first | exact (Kd.ak dY.out HB.out) | (with_reducible refine Kd.bS ?_ _) | (with_reducible refine Kd.bR ?_ _) | (with_reducible refine Kd.bW ?_))); (case dC => exact eX.out); (case dJ => repeat (first | exact (Kd.ak dV.out HB.out) | (with_reducible refine Kd.bS ?_ _) | (with_reducible refine Kd.bR ?_ _) | (with_reducible refine Kd.bW ?_))); (case dI => exact fA.out); rintro e w10 ⟨rfl, hb⟩; refine ⟨_, rfl, ?_⟩; have n0_ := aC.mk (av (g := bf) (o := .cells #[.int .i64 aX, .int .i64 aY, .int .i64 ae, .int .i64 aT, .slice bH aM.length bC, .slice bE aU.length bD] 43 (0, 0)) (by (with_reducible repeat (first | refine ag ?_ _ | refine af ?_ | refine aW ?_ _)); exact bG.out) hb); have n1_ := aC.mk (ah (by repeat (first | (with_reducible first | exact HB.out | apply aH | apply aG | apply aI | refine aJ ?_ kL.out) | exact HB.out)) hb); clear bG; clear HB; have bG := n0_; have HB := n1_; clear n0_ n1_; (try clear hb); (try clear hb2); (try clear hk); (try clear hi); have gL : w10.cell? ⟨bf, 0, none⟩ = some (.int .i64 aX) := (aD bG.out 0).trans rfl; have gK : w10.cell? ⟨bf, 1, none⟩ = some (.int .i64 aY) := (aD bG.out 1).trans rfl; have gJ : w10.cell? ⟨bf, 2, none⟩ = some (.int .i64 ae) := (aD bG.out 2).trans rfl; have gI : w10.cell? ⟨bf, 3, none⟩ = some (.int .i64 aT) := (aD bG.out 3).trans rfl; have gH : w10.cell? ⟨bf, 4, none⟩ = some (.slice bH aM.length bC) := (aD bG.out 4).trans rfl; have gG : w10.cell? ⟨bf, 5, none⟩ = some (.slice bE aU.length bD) := (aD bG.out 5).trans rfl; have gF := aA bG.out 0; have gD := aA bG.out 1; have gB := aA bG.out 2; have fu := aA bG.out 3; have fq := aA bG.out 4; have fo := aA bG.out 5) | ((with_reducible refine bK (N := 18) rfl ?_); refine Kd.R_make Kd.bool _ 4 rfl (N := 18) rfl 95 _ _ rfl aT rfl rfl Try.underlying95 (.bool false) 1 info4 rfl (by decide) (by omega) false (ok := fun _ => True) (okp := fun _ => True) rfl (fun _ hk => hk) trivial (of_decide_eq_true (by first | (with_reducible assumption) | assumption)) (Nat.le_trans (Nat.mul_le_mul_right _ (of_decide_eq_true (by first | (with_reducible assumption) | assumption) : aT.toNat ≤ 281474976710656)) (by omega)) (Below.refl _ _) (Nat.le_refl _) ?_; intro v944 w12 ho13 hb hg_ hnew_; clear hg_ hnew_; (first | rw [← Ny943.out] at ho13 | (simp only [Int.reduceToNat] at ho13; rw [← Ny943.out] at ho13)); have n0_ := aC.mk (Kd.dn ho13 (aZ (by repeat (first | (with_reducible first | exact HB.out | apply aH | apply aG | apply aI | refine aJ ?_ kL.out) | exact HB.out)))); have n1_ := aC.mk (av (g := bf) (o := .cells #[.int .i64 aX, .int .i64 aY, .int .i64 ae, .int .i64 aT, .slice bH aM.length bC, .slice bE aU.length bD] 43 (0, 0)) (by (with_reducible repeat (first | refine ag ?_ _ | refine af ?_ | refine aW ?_ _)); exact bG.out) hb); have n2_ := aC.mk (ah (by repeat (first | (with_reducible first | exact HB.out | apply aH | apply aG | apply aI | refine aJ ?_ kL.out) | exact HB.out)) hb); clear bG; clear HB; have HO945 := n0_; have bG := n1_; have HB := n2_; clear n0_ n1_ n2_; clear hb ho13; have p7 : 0 ≤ (0 : Int) := (by omega); have q7 : (0 : Int) < ((y943.length : Int) : Int) := of_decide_eq_true (by first | (with_reducible assumption) | assumption); have qi7 : (0 < y943.length) = True := eq_true (by omega); obtain ⟨go7, co7, eo7, gb7, gl7, cl7, HG7⟩ := Kd.R_form HO945.out (by omega); (first | cases eo7 | (injection eo7 with ea_ en_ ec_; (first | subst ea_ | (injection ea_ with ea_; subst ea_)); subst ec_; clear en_)); have GB7 := aC.mk gb7; have GG7 := aC.mk HG7; clear gb7 gl7 HG7; obtain ⟨hx7_0, hf7_0⟩ := Kd.fT false HO945.out (0 : Int) p7 q7; (try rw [show ((0 : Int)).toNat = 0 from rfl] at hx7_0); (try simp only [Nat.reduceMul, Nat.zero_mul, Nat.zero_add, Nat.reduceAdd] at hx7_0); (try rw [show ((0 : Int)).toNat = 0 from rfl] at hf7_0); (try simp only [Nat.reduceMul, Nat.zero_mul, Nat.zero_add, Nat.reduceAdd] at hf7_0); replace p7 := eq_true p7; replace q7 := eq_true q7; obtain ⟨lQ, lN⟩ := Kd.fT false HO945.out (0 : Int) (by omega) (of_decide_eq_true (by first | (with_reducible assumption) | assumption)); (try simp only [Int.reduceToNat, Int.toNat_zero, Int.toNat_ofNat, Nat.reduceMul, Nat.zero_mul, Nat.zero_add] at lQ lN); (try rw [show ((0 : Int)).toNat = 0 from rfl] at lQ); (try rw [show ((0 : Int)).toNat = 0 from rfl] at lN); have HP14 := Kd.lM HO945.out (0 : Int) true) | ((with_reducible refine dW (t := 4) (p := 20) rfl ?_); refine gz (t := 4) (p := 20) (v := ?vo_w15) (w1 := (w12.setCell ⟨go7, (0 : Int).toNat, none⟩ (.bool true))) ?hg ?ho ?hn ?hr ?_; (case ho => rfl); (case hg => rfl); (case hn => rfl); (case hr => first | (go_simp; done) | (go_simp; rfl)); intro w15 hw; have hg : w12.grownBy w15 (some go7) := (by rw [hw]; exact HP14.2); have hp_ : Kd.R Kd.bool 4 w15 w.heap.size (fun _ => True) (.slice (some ⟨go7, 0, none⟩) y943.length co7) y946 := (by rw [hw, Ny946.out]; exact HP14.1); clear HP14; have n0_ := aC.mk (cZ (g := bf) (o := .cells #[.int .i64 aX, .int .i64 aY, .int .i64 ae, .int .i64 aT, .slice bH aM.length bC, .slice bE aU.length bD] 43 (0, 0)) (by (with_reducible repeat (first | refine ag ?_ _ | refine af ?_ | refine aW ?_ _)); exact bG.out) hg (Kd.jL HO945.out bG.out (by decide))); have n1_ := aC.mk (hp_); have n2_ := aC.mk ((by rw [hw]; exact aJ (HB.out) GB7.out : Below w.heap.size w w15)); clear bG; clear HO945; clear HB; have bG := n0_; have HO945 := n1_; have HB := n2_; clear n0_ n1_ n2_; clear hg hw hp_))
          go_loopg [5, 6] k (fun kq v5 v6 w' => ∃ (fH : List Bool) (x6_1 : Int), v6 = .int .i64 x6_1 ∧ aC (aa.l0 kq fH x6_1 aX aY ae aT aM aU = some (r1, r2)) ∧ aC (kq ≤ k) ∧ aC (Kd.R Kd.bool 4 w' w.heap.size (fun _ => True) v5 fH) ∧ aC (w'.heap[bf]? = some (.cells #[.int .i64 aX, .int .i64 aY, .int .i64 ae, .int .i64 aT, (.slice bH aM.length bC), (.slice bE aU.length bD)] 43 (0, 0))) ∧ aC (Below w.heap.size w w'))
          case atStart => exact ⟨(y946), (0), (by first | rfl | (simp; done) | (simp [*]; done)), H', ⟨Nat.le_refl _⟩, ⟨by (with_reducible repeat (first | apply Kd.bB | apply Kd.ax | apply Kd.bJ)); exact HO945.out⟩, ⟨by (with_reducible repeat (first | refine ag ?_ _ | refine af ?_ | refine aW ?_ _)); exact bG.out⟩, ⟨by repeat (first | (with_reducible first | exact HB.out | apply aH | apply aG | apply aI | refine aJ ?_ kL.out) | exact HB.out)⟩⟩
          case round =>
            clear H'
            try clear p2
            try clear c3
            try clear lL
            try clear c3b1
            try clear c4
            try clear iB
            try clear ja
            try clear c5
            try clear c5b0
            try clear c5b1
            try clear c6
            try clear c6b0
            try clear c6b1
            try clear c7
            try clear p7
            try clear q7
            try clear hx7
            try clear qi7
            try clear hf7
            try clear gL
            try clear gK
            try clear gJ
            try clear gI
            try clear gH
            try clear gG
            try clear kJ
            try clear kI
            try clear kH
            try clear kG
            try clear kF
            try clear kE
            try clear gF
            try clear gD
            try clear gB
            try clear fu
            try clear fq
            try clear fo
            try clear kD
            try clear kC
            try clear jy
            try clear jw
            try clear jv
            try clear jr
            try clear hx7_0
            try clear p7
            try clear q7
            obtain ⟨fH, x6_1, rfl, HA, HK1, HO_5, bG, HB⟩ := hrel
            cases gk with
            | zero => exact absurd HA.out (by simp [aa.l0])
            | succ k1 =>
              have H := HA.out
              clear HA
              simp only [aa.l0] at H
              by_cases c16 : x6_1 < (wrap64 (2 * aT))
              · rw [if_pos c16] at H
                have c16b0 : decide (x6_1 < (wrap64 (2 * aT))) = true := decide_eq_true c16
                clear c16
                have H' := aC.mk H
                clear H
                have kZ : wr.cell? ⟨bf, 0, none⟩ = some (.int .i64 aX) := (aD bG.out 0).trans rfl
                have kY : wr.cell? ⟨bf, 1, none⟩ = some (.int .i64 aY) := (aD bG.out 1).trans rfl
                have kX : wr.cell? ⟨bf, 2, none⟩ = some (.int .i64 ae) := (aD bG.out 2).trans rfl
                have kW : wr.cell? ⟨bf, 3, none⟩ = some (.int .i64 aT) := (aD bG.out 3).trans rfl
                have kV : wr.cell? ⟨bf, 4, none⟩ = some (.slice bH aM.length bC) := (aD bG.out 4).trans rfl
                have kU : wr.cell? ⟨bf, 5, none⟩ = some (.slice bE aU.length bD) := (aD bG.out 5).trans rfl
                have kT := aA bG.out 0
                have kS := aA bG.out 1
                have kR := aA bG.out 2
                have kQ := aA bG.out 3
                have kP := aA bG.out 4
                have kN := aA bG.out 5
                go_wp2
                go_loopg [7] k1 (fun kq v7 w' => ∃ (dQ : Int), v7 = .int .i64 dQ ∧ aC (aa.l1 kq fH x6_1 dQ aX aY ae aT aM aU = some (r1, r2)) ∧ aC (kq ≤ k1) ∧ aC (Kd.R Kd.bool 4 w' w.heap.size (fun _ => True) u5 fH) ∧ aC (w'.heap[bf]? = some (.cells #[.int .i64 aX, .int .i64 aY, .int .i64 ae, .int .i64 aT, (.slice bH aM.length bC), (.slice bE aU.length bD)] 43 (0, 0))) ∧ aC (Below w.heap.size w w'))
                case atStart => exact ⟨(0), (by first | rfl | (simp; done) | (simp [*]; done)), H', ⟨Nat.le_refl _⟩, ⟨by (with_reducible repeat (first | apply Kd.bB | apply Kd.ax | apply Kd.bJ)); exact HO_5.out⟩, ⟨by (with_reducible repeat (first | refine ag ?_ _ | refine af ?_ | refine aW ?_ _)); exact bG.out⟩, ⟨by repeat (first | (with_reducible first | exact HB.out | apply aH | apply aG | apply aI | refine aJ ?_ kL.out) | exact HB.out)⟩⟩
                case round =>
                  clear H'
                  try clear c1
                  try clear p2
                  try clear c3
                  try clear lL
                  try clear c3b1
                  try clear c4
                  try clear iB
                  try clear ja
                  try clear c5
                  try clear c5b0
                  try clear c5b1
                  try clear c6
                  try clear c6b0
                  try clear c6b1
                  try clear p6
                  try clear c7
                  try clear p7
                  try clear q7
                  try clear hx7
                  try clear qi7
                  try clear hf7
                  try clear c16
                  try clear c16b0
                  try clear gL
                  try clear gK
                  try clear gJ
                  try clear gI
                  try clear gH
                  try clear gG
                  try clear kZ
                  try clear kY
                  try clear kX
                  try clear kW
                  try clear kV
                  try clear kU
                  try clear kJ
                  try clear kI
                  try clear kH
                  try clear kG
                  try clear kF
                  try clear kE
                  try clear gF
                  try clear gD
                  try clear gB
                  try clear fu
                  try clear fq
                  try clear fo
                  try clear kT
                  try clear kS
                  try clear kR
                  try clear kQ
                  try clear kP
                  try clear kN
                  try clear kD
                  try clear kC
                  try clear jy
                  try clear jw
                  try clear jv
                  try clear jr
                  try clear hx7_0
                  try clear p2
                  try clear p7
                  try clear q7
                  obtain ⟨dQ, rfl, HA, HK2, HO_5, bG, HB⟩ := hrel
                  cases gk with
                  | zero => exact absurd HA.out (by simp [aa.l1])
                  | succ k2 =>
                    have H := HA.out
                    clear HA
                    simp only [aa.l1] at H
                    by_cases c18 : dQ < aT
                    · rw [if_pos c18] at H
                      have c18b0 : decide (dQ < aT) = true := decide_eq_true c18
                      clear c18
                      by_cases c19 : x6_1 ≥ aT
                      · rw [if_pos c19] at H
                        have c19b0 : decide (aT ≤ x6_1) = true := decide_eq_true c19
                        clear c19
                        by_cases c20 : 0 ≤ dQ
                        · rw [if_pos c20] at H
                          have jf : decide (0 ≤ dQ) = true := decide_eq_true c20
                          clear c20
                          by_cases c21 : dQ < (fH.length : Int)
                          · rw [if_pos c21] at H
                            have c21b0 : decide (dQ < (fH.length : Int)) = true := decide_eq_true c21
                            clear c21
                            obtain ⟨bq22, hbq22⟩ : ∃ b_ : Bool, b_ = (rdOf false fH dQ) := ⟨_, rfl⟩
                            replace H : (if bq22 = true then (if dQ < (aU.length : Int) then (if (rd aU dQ) = 1 then (some (false, 0)) else (aa.l1 k2 fH x6_1 (wrap64 (dQ + 1)) aX aY ae aT aM aU)) else (none)) else (aa.l1 k2 fH x6_1 (wrap64 (dQ + 1)) aX aY ae aT aM aU)) = some (r1, r2) := by rw [← hbq22] at H; exact H
                            have Nbq22 := aC.mk hbq22
                            clear hbq22
                            by_cases c23 : bq22 = true
                            · subst c23
                              have H1 : (if dQ < (aU.length : Int) then (if (rd aU dQ) = 1 then (some (false, 0)) else (aa.l1 k2 fH x6_1 (wrap64 (dQ + 1)) aX aY ae aT aM aU)) else (none)) = some (r1, r2) := by rw [if_pos rfl] at H; exact H
                              clear H
                              have H := H1
                              clear H1
                              by_cases c24 : dQ < (aU.length : Int)
                              · rw [if_pos c24] at H
                                have c24b0 : decide (dQ < (aU.length : Int)) = true := decide_eq_true c24
                                clear c24
                                by_cases c25 : (rd aU dQ) = 1
                                · rw [if_pos c25] at H
                                  have jZ : ((rd aU dQ) == 1) = true := beq_iff_eq.mpr c25
                                  have c25b1 : ((rd aU dQ) != 1) = false := bne_eq_false_iff_eq.mpr c25
                                  clear c25
                                  simp only [Option.some.injEq, Prod.mk.injEq] at H
                                  obtain ⟨rfl, rfl⟩ := H
                                  have hcz26_0 : wr.cell? ⟨bf, 0, none⟩ = some (.int .i64 aX) := (aD bG.out 0).trans rfl
                                  have hcz26_1 : wr.cell? ⟨bf, 1, none⟩ = some (.int .i64 aY) := (aD bG.out 1).trans rfl
                                  have hcz26_2 : wr.cell? ⟨bf, 2, none⟩ = some (.int .i64 ae) := (aD bG.out 2).trans rfl
                                  have hcz26_3 : wr.cell? ⟨bf, 3, none⟩ = some (.int .i64 aT) := (aD bG.out 3).trans rfl
                                  have hcz26_4 : wr.cell? ⟨bf, 4, none⟩ = some (.slice bH aM.length bC) := (aD bG.out 4).trans rfl
                                  have hcz26_5 : wr.cell? ⟨bf, 5, none⟩ = some (.slice bE aU.length bD) := (aD bG.out 5).trans rfl
                                  have hfz26_0 := aA bG.out 0
                                  have hfz26_1 := aA bG.out 1
                                  have hfz26_2 := aA bG.out 2
                                  have hfz26_3 := aA bG.out 3
                                  have hfz26_4 := aA bG.out 4
                                  have hfz26_5 := aA bG.out 5
                                  obtain ⟨Ao27, co27, eo27⟩ := Kd.bu HO_5.out
                                  subst eo27
                                  have p947 : 0 ≤ (dQ : Int) := of_decide_eq_true (by first | (with_reducible assumption) | assumption)
                                  have q947 : dQ < (fH.length : Int) := of_decide_eq_true (by first | (with_reducible assumption) | assumption)
                                  obtain ⟨ad947, e947, hx947_0⟩ := Kd.at_bool (Kd.bX HO_5.out).2.2 dQ p947 q947
                                  (try rw [← Nbq22.out] at hx947_0)
                                  cases e947
                                  replace p947 := eq_true p947
                                  replace q947 := eq_true q947
                                  have p948 : 0 ≤ (dQ : Int) := of_decide_eq_true (by first | (with_reducible assumption) | assumption)
                                  have q948 : dQ < (aU.length : Int) := of_decide_eq_true (by first | (with_reducible assumption) | assumption)
                                  obtain ⟨ad948, e948, hx948_0⟩ := Kd.cz dV.out dQ p948 q948
                                  cases e948
                                  replace hx948_0 := (HB.out.cell (World.block_lt_of_cell? w _ hx948_0)).trans hx948_0
                                  replace p948 := eq_true p948
                                  replace q948 := eq_true q948
                                  go_wp2
                                  go_ret2
                                  exact ⟨by first | rfl | (simp [az, ay] <;> rfl) | (simp [*, az, ay] <;> rfl), by repeat (first | (with_reducible first | exact HB.out | apply aH | apply aG | apply aI | refine aJ ?_ kL.out) | exact HB.out)⟩
                                · rw [if_neg c25] at H
                                  have jZ : ((rd aU dQ) == 1) = false := beq_eq_false_iff_ne.mpr c25
                                  have c25b1 : ((rd aU dQ) != 1) = true := bne_iff_ne.mpr c25
                                  have H' := aC.mk H
                                  clear H
                                  have hcz28_0 : wr.cell? ⟨bf, 0, none⟩ = some (.int .i64 aX) := (aD bG.out 0).trans rfl
                                  have hcz28_1 : wr.cell? ⟨bf, 1, none⟩ = some (.int .i64 aY) := (aD bG.out 1).trans rfl
                                  have hcz28_2 : wr.cell? ⟨bf, 2, none⟩ = some (.int .i64 ae) := (aD bG.out 2).trans rfl
                                  have hcz28_3 : wr.cell? ⟨bf, 3, none⟩ = some (.int .i64 aT) := (aD bG.out 3).trans rfl
                                  have hcz28_4 : wr.cell? ⟨bf, 4, none⟩ = some (.slice bH aM.length bC) := (aD bG.out 4).trans rfl
                                  have hcz28_5 : wr.cell? ⟨bf, 5, none⟩ = some (.slice bE aU.length bD) := (aD bG.out 5).trans rfl
                                  have hfz28_0 := aA bG.out 0
                                  have hfz28_1 := aA bG.out 1
                                  have hfz28_2 := aA bG.out 2
                                  have hfz28_3 := aA bG.out 3
                                  have hfz28_4 := aA bG.out 4
                                  have hfz28_5 := aA bG.out 5
                                  obtain ⟨Ao29, co29, eo29⟩ := Kd.bu HO_5.out
                                  subst eo29
                                  have p947 : 0 ≤ (dQ : Int) := of_decide_eq_true (by first | (with_reducible assumption) | assumption)
                                  have q947 : dQ < (fH.length : Int) := of_decide_eq_true (by first | (with_reducible assumption) | assumption)
                                  obtain ⟨ad947, e947, hx947_0⟩ := Kd.at_bool (Kd.bX HO_5.out).2.2 dQ p947 q947
                                  (try rw [← Nbq22.out] at hx947_0)
                                  cases e947
                                  replace p947 := eq_true p947
                                  replace q947 := eq_true q947
                                  have p948 : 0 ≤ (dQ : Int) := of_decide_eq_true (by first | (with_reducible assumption) | assumption)
                                  have q948 : dQ < (aU.length : Int) := of_decide_eq_true (by first | (with_reducible assumption) | assumption)
                                  obtain ⟨ad948, e948, hx948_0⟩ := Kd.cz dV.out dQ p948 q948
                                  cases e948
                                  replace hx948_0 := (HB.out.cell (World.block_lt_of_cell? w _ hx948_0)).trans hx948_0
                                  replace p948 := eq_true p948
                                  replace q948 := eq_true q948
                                  go_wp2
                                  go_roundg k2
                                  case measure => have := HK1.out; have := HK2.out; omega
                                  case rel => exact ⟨(wrap64 (dQ + 1)), (by first | rfl | (simp; done) | (simp [*]; done)), H', ⟨by have := HK1.out; have := HK2.out; omega⟩, ⟨by (with_reducible repeat (first | apply Kd.bB | apply Kd.ax | apply Kd.bJ)); exact HO_5.out⟩, ⟨by (with_reducible repeat (first | refine ag ?_ _ | refine af ?_ | refine aW ?_ _)); exact bG.out⟩, ⟨by repeat (first | (with_reducible first | exact HB.out | apply aH | apply aG | apply aI | refine aJ ?_ kL.out) | exact HB.out)⟩⟩
                              · rw [if_neg c24] at H
                                exact absurd H (by simp)
                            · replace c23 := Bool.eq_false_iff.mpr c23
                              subst c23
                              have H1 : (aa.l1 k2 fH x6_1 (wrap64 (dQ + 1)) aX aY ae aT aM aU) = some (r1, r2) := by rw [if_neg (show ¬ (false = true) by decide)] at H; exact H
                              clear H
                              have H := H1
                              clear H1
                              have H' := aC.mk H
                              clear H
                              have hcz30_0 : wr.cell? ⟨bf, 0, none⟩ = some (.int .i64 aX) := (aD bG.out 0).trans rfl
                              have hcz30_1 : wr.cell? ⟨bf, 1, none⟩ = some (.int .i64 aY) := (aD bG.out 1).trans rfl
                              have hcz30_2 : wr.cell? ⟨bf, 2, none⟩ = some (.int .i64 ae) := (aD bG.out 2).trans rfl
                              have hcz30_3 : wr.cell? ⟨bf, 3, none⟩ = some (.int .i64 aT) := (aD bG.out 3).trans rfl
                              have hcz30_4 : wr.cell? ⟨bf, 4, none⟩ = some (.slice bH aM.length bC) := (aD bG.out 4).trans rfl
                              have hcz30_5 : wr.cell? ⟨bf, 5, none⟩ = some (.slice bE aU.length bD) := (aD bG.out 5).trans rfl
                              have hfz30_0 := aA bG.out 0
                              have hfz30_1 := aA bG.out 1
                              have hfz30_2 := aA bG.out 2
                              have hfz30_3 := aA bG.out 3
                              have hfz30_4 := aA bG.out 4
                              have hfz30_5 := aA bG.out 5
                              obtain ⟨Ao31, co31, eo31⟩ := Kd.bu HO_5.out
                              subst eo31
                              have p947 : 0 ≤ (dQ : Int) := of_decide_eq_true (by first | (with_reducible assumption) | assumption)
                              have q947 : dQ < (fH.length : Int) := of_decide_eq_true (by first | (with_reducible assumption) | assumption)
                              obtain ⟨ad947, e947, hx947_0⟩ := Kd.at_bool (Kd.bX HO_5.out).2.2 dQ p947 q947
                              (try rw [← Nbq22.out] at hx947_0)
                              cases e947
                              replace p947 := eq_true p947
                              replace q947 := eq_true q947
                              go_wp2
                              go_roundg k2
                              case measure => have := HK1.out; have := HK2.out; omega
                              case rel => exact ⟨(wrap64 (dQ + 1)), (by first | rfl | (simp; done) | (simp [*]; done)), H', ⟨by have := HK1.out; have := HK2.out; omega⟩, ⟨by (with_reducible repeat (first | apply Kd.bB | apply Kd.ax | apply Kd.bJ)); exact HO_5.out⟩, ⟨by (with_reducible repeat (first | refine ag ?_ _ | refine af ?_ | refine aW ?_ _)); exact bG.out⟩, ⟨by repeat (first | (with_reducible first | exact HB.out | apply aH | apply aG | apply aI | refine aJ ?_ kL.out) | exact HB.out)⟩⟩
                          · rw [if_neg c21] at H
                            exact absurd H (by simp)
                        · rw [if_neg c20] at H
                          exact absurd H (by simp)
                      · rw [if_neg c19] at H
                        have c19b0 : decide (aT ≤ x6_1) = false := decide_eq_false c19
                        clear c19
                        have H' := aC.mk H
                        clear H
                        have hcz32_0 : wr.cell? ⟨bf, 0, none⟩ = some (.int .i64 aX) := (aD bG.out 0).trans rfl
                        have hcz32_1 : wr.cell? ⟨bf, 1, none⟩ = some (.int .i64 aY) := (aD bG.out 1).trans rfl
                        have hcz32_2 : wr.cell? ⟨bf, 2, none⟩ = some (.int .i64 ae) := (aD bG.out 2).trans rfl
                        have hcz32_3 : wr.cell? ⟨bf, 3, none⟩ = some (.int .i64 aT) := (aD bG.out 3).trans rfl
                        have hcz32_4 : wr.cell? ⟨bf, 4, none⟩ = some (.slice bH aM.length bC) := (aD bG.out 4).trans rfl
                        have hcz32_5 : wr.cell? ⟨bf, 5, none⟩ = some (.slice bE aU.length bD) := (aD bG.out 5).trans rfl
                        have hfz32_0 := aA bG.out 0
                        have hfz32_1 := aA bG.out 1
                        have hfz32_2 := aA bG.out 2
                        have hfz32_3 := aA bG.out 3
                        have hfz32_4 := aA bG.out 4
                        have hfz32_5 := aA bG.out 5
                        go_wp2
                        go_roundg k2
                        case measure => have := HK1.out; have := HK2.out; omega
                        case rel => exact ⟨(wrap64 (dQ + 1)), (by first | rfl | (simp; done) | (simp [*]; done)), H', ⟨by have := HK1.out; have := HK2.out; omega⟩, ⟨by (with_reducible repeat (first | apply Kd.bB | apply Kd.ax | apply Kd.bJ)); exact HO_5.out⟩, ⟨by (with_reducible repeat (first | refine ag ?_ _ | refine af ?_ | refine aW ?_ _)); exact bG.out⟩, ⟨by repeat (first | (with_reducible first | exact HB.out | apply aH | apply aG | apply aI | refine aJ ?_ kL.out) | exact HB.out)⟩⟩
                    · rw [if_neg c18] at H
                      have c18b0 : decide (dQ < aT) = false := decide_eq_false c18
                      clear c18
                      by_cases c33 : 0 ≤ aT
                      · rw [if_pos c33] at H
                        have c33b0 := eq_true c33
                        have c33b1 : decide (0 ≤ aT) = true := decide_eq_true c33
                        clear c33
                        by_cases c34 : (aT : Int).toNat ≤ 281474976710656
                        · rw [if_pos c34] at H
                          have c34b0 := eq_true c34
                          have c34b1 : decide ((aT : Int).toNat ≤ 281474976710656) = true := decide_eq_true c34
                          clear c34
                          obtain ⟨y949, hy949⟩ : ∃ y_ : List Bool, y_ = (List.replicate (aT : Int).toNat false) := ⟨_, rfl⟩
                          replace H : (aa.l2 k2 fH x6_1 y949 0 aX aY ae aT aM aU) = some (r1, r2) := by first | (rw [hy949]; with_reducible exact H) | (have H2_ := (Option.bind_some _ _).symm.trans H; rw [hy949]; with_reducible exact H2_) | (have H2_ := (Option.bind_some _ _).symm.trans H; with_reducible exact H2_) | with_reducible exact H | (rw [hy949]; exact H) | exact H
                          have Ny949 := aC.mk hy949
                          clear hy949
                          have H' := aC.mk H
                          clear H
                          have hcz35_0 : wr.cell? ⟨bf, 0, none⟩ = some (.int .i64 aX) := (aD bG.out 0).trans rfl
                          have hcz35_1 : wr.cell? ⟨bf, 1, none⟩ = some (.int .i64 aY) := (aD bG.out 1).trans rfl
                          have hcz35_2 : wr.cell? ⟨bf, 2, none⟩ = some (.int .i64 ae) := (aD bG.out 2).trans rfl
                          have hcz35_3 : wr.cell? ⟨bf, 3, none⟩ = some (.int .i64 aT) := (aD bG.out 3).trans rfl
                          have hcz35_4 : wr.cell? ⟨bf, 4, none⟩ = some (.slice bH aM.length bC) := (aD bG.out 4).trans rfl
                          have hcz35_5 : wr.cell? ⟨bf, 5, none⟩ = some (.slice bE aU.length bD) := (aD bG.out 5).trans rfl
                          have hfz35_0 := aA bG.out 0
                          have hfz35_1 := aA bG.out 1
                          have hfz35_2 := aA bG.out 2
                          have hfz35_3 := aA bG.out 3
                          have hfz35_4 := aA bG.out 4
                          have hfz35_5 := aA bG.out 5
                          go_wp2_with (first | ((with_reducible refine bK (N := 54) rfl ?_); refine Kd.R_make Kd.bool _ 4 rfl (N := 54) rfl 95 _ _ rfl aT rfl rfl Try.underlying95 (.bool false) 1 info4 rfl (by decide) (by omega) false (ok := fun _ => True) (okp := fun _ => True) rfl (fun _ hk => hk) trivial (of_decide_eq_true (by first | (with_reducible assumption) | assumption)) (Nat.le_trans (Nat.mul_le_mul_right _ (of_decide_eq_true (by first | (with_reducible assumption) | assumption) : aT.toNat ≤ 281474976710656)) (by omega)) (Below.refl _ _) (Nat.le_refl _) ?_; intro v950 w36 ho37 hb hg_ hnew_; clear hg_ hnew_; (first | rw [← Ny949.out] at ho37 | (simp only [Int.reduceToNat] at ho37; rw [← Ny949.out] at ho37)); have n0_ := aC.mk (Kd.ic (by (with_reducible repeat (first | apply Kd.bB | apply Kd.ax | apply Kd.bJ)); exact HO_5.out) (Kd.gX ho37) hb); have n1_ := aC.mk (Kd.dn (Kd.l8 ho37 (Kd.jD (by (with_reducible repeat (first | apply Kd.bB | apply Kd.ax | apply Kd.bJ)); exact HO_5.out))) (aZ (by repeat (first | (with_reducible first | exact HB.out | apply aH | apply aG | apply aI | refine aJ ?_ kL.out) | exact HB.out)))); have n2_ := aC.mk (av (g := bf) (o := .cells #[.int .i64 aX, .int .i64 aY, .int .i64 ae, .int .i64 aT, .slice bH aM.length bC, .slice bE aU.length bD] 43 (0, 0)) (by (with_reducible repeat (first | refine ag ?_ _ | refine af ?_ | refine aW ?_ _)); exact bG.out) hb); have n3_ := aC.mk (ah (by repeat (first | (with_reducible first | exact HB.out | apply aH | apply aG | apply aI | refine aJ ?_ kL.out) | exact HB.out)) hb); clear HO_5; clear bG; clear HB; have HO_5 := n0_; have HO951 := n1_; have bG := n2_; have HB := n3_; clear n0_ n1_ n2_ n3_; clear hb ho37))
                          go_loopg [9] k2 (fun kq v9 w' => ∃ (jH : List Bool) (dP : Int), v9 = .int .i64 dP ∧ aC (aa.l2 kq fH x6_1 jH dP aX aY ae aT aM aU = some (r1, r2)) ∧ aC (kq ≤ k2) ∧ aC (Kd.R Kd.bool 4 w' w.heap.size (fun k_ => some k_ ≠ (v950 : Value).ownBlock) u5 fH) ∧ aC (Kd.R Kd.bool 4 w' w.heap.size (fun k_ => some k_ ≠ (u5 : Value).ownBlock) v950 jH) ∧ aC (w'.heap[bf]? = some (.cells #[.int .i64 aX, .int .i64 aY, .int .i64 ae, .int .i64 aT, (.slice bH aM.length bC), (.slice bE aU.length bD)] 43 (0, 0))) ∧ aC (Below w.heap.size w w'))
                          case atStart => exact ⟨(y949), (0), (by first | rfl | (simp; done) | (simp [*]; done)), H', ⟨Nat.le_refl _⟩, ⟨by (with_reducible repeat (first | apply Kd.bB | apply Kd.ax | apply Kd.bJ)); exact Kd.dB HO_5.out (fun _ hk => hk.2)⟩, ⟨by (with_reducible repeat (first | apply Kd.bB | apply Kd.ax | apply Kd.bJ)); exact Kd.dB HO951.out (fun _ hk => hk.2)⟩, ⟨by (with_reducible repeat (first | refine ag ?_ _ | refine af ?_ | refine aW ?_ _)); exact bG.out⟩, ⟨by repeat (first | (with_reducible first | exact HB.out | apply aH | apply aG | apply aI | refine aJ ?_ kL.out) | exact HB.out)⟩⟩
                          case round =>
                            clear H'
                            try clear c1
                            try clear c2
                            try clear p2
                            try clear q2
                            try clear c3
                            try clear lL
                            try clear c3b1
                            try clear c4
                            try clear iB
                            try clear ja
                            try clear c5
                            try clear c5b0
                            try clear c5b1
                            try clear c6
                            try clear c6b0
                            try clear c6b1
                            try clear p6
                            try clear c7
                            try clear p7
                            try clear q7
                            try clear hx7
                            try clear qi7
                            try clear hf7
                            try clear p9
                            try clear q9
                            try clear hx9
                            try clear c16
                            try clear c16b0
                            try clear c18
                            try clear c18b0
                            try clear c19
                            try clear c19b0
                            try clear c20
                            try clear jf
                            try clear c21
                            try clear c21b0
                            try clear q22
                            try clear c23
                            try clear c24
                            try clear c24b0
                            try clear c25
                            try clear jZ
                            try clear c25b1
                            try clear c33
                            try clear c33b0
                            try clear c33b1
                            try clear c34
                            try clear c34b0
                            try clear c34b1
                            try clear gL
                            try clear gK
                            try clear gJ
                            try clear gI
                            try clear gH
                            try clear gG
                            try clear kZ
                            try clear kY
                            try clear kX
                            try clear kW
                            try clear kV
                            try clear kU
                            try clear hcz26_0
                            try clear hcz26_1
                            try clear hcz26_2
                            try clear hcz26_3
                            try clear hcz26_4
                            try clear hcz26_5
                            try clear hcz28_0
                            try clear hcz28_1
                            try clear hcz28_2
                            try clear hcz28_3
                            try clear hcz28_4
                            try clear hcz28_5
                            try clear hcz30_0
                            try clear hcz30_1
                            try clear hcz30_2
                            try clear hcz30_3
                            try clear hcz30_4
                            try clear hcz30_5
                            try clear hcz32_0
                            try clear hcz32_1
                            try clear hcz32_2
                            try clear hcz32_3
                            try clear hcz32_4
                            try clear hcz32_5
                            try clear hcz35_0
                            try clear hcz35_1
                            try clear hcz35_2
                            try clear hcz35_3
                            try clear hcz35_4
                            try clear hcz35_5
                            try clear kJ
                            try clear kI
                            try clear kH
                            try clear kG
                            try clear kF
                            try clear kE
                            try clear gF
                            try clear gD
                            try clear gB
                            try clear fu
                            try clear fq
                            try clear fo
                            try clear kT
                            try clear kS
                            try clear kR
                            try clear kQ
                            try clear kP
                            try clear kN
                            try clear hfz26_0
                            try clear hfz26_1
                            try clear hfz26_2
                            try clear hfz26_3
                            try clear hfz26_4
                            try clear hfz26_5
                            try clear hfz28_0
                            try clear hfz28_1
                            try clear hfz28_2
                            try clear hfz28_3
                            try clear hfz28_4
                            try clear hfz28_5
                            try clear hfz30_0
                            try clear hfz30_1
                            try clear hfz30_2
                            try clear hfz30_3
                            try clear hfz30_4
                            try clear hfz30_5
                            try clear hfz32_0
                            try clear hfz32_1
                            try clear hfz32_2
                            try clear hfz32_3
                            try clear hfz32_4
                            try clear hfz32_5
                            try clear hfz35_0
                            try clear hfz35_1
                            try clear hfz35_2
                            try clear hfz35_3
                            try clear hfz35_4
                            try clear hfz35_5
                            try clear kD
                            try clear kC
                            try clear jy
                            try clear jw
                            try clear jv
                            try clear jr
                            try clear hx7_0
                            try clear hx947_0
                            try clear hx948_0
                            try clear p2
                            try clear p6
                            try clear p7
                            try clear p947
                            try clear p948
                            try clear q7
                            try clear q947
                            try clear q948
                            obtain ⟨jH, dP, rfl, HA, HK3, HO_5, HO_8, bG, HB⟩ := hrel
                            cases gk with
                            | zero => exact absurd HA.out (by simp [aa.l2])
                            | succ k3 =>
                              have H := HA.out
                              clear HA
                              simp only [aa.l2] at H
                              by_cases c38 : dP < aT
                              · rw [if_pos c38] at H
                                have c38b0 : decide (dP < aT) = true := decide_eq_true c38
                                clear c38
                                have H' := aC.mk H
                                clear H
                                have hcz39_0 : wr.cell? ⟨bf, 0, none⟩ = some (.int .i64 aX) := (aD bG.out 0).trans rfl
                                have hcz39_1 : wr.cell? ⟨bf, 1, none⟩ = some (.int .i64 aY) := (aD bG.out 1).trans rfl
                                have hcz39_2 : wr.cell? ⟨bf, 2, none⟩ = some (.int .i64 ae) := (aD bG.out 2).trans rfl
                                have hcz39_3 : wr.cell? ⟨bf, 3, none⟩ = some (.int .i64 aT) := (aD bG.out 3).trans rfl
                                have hcz39_4 : wr.cell? ⟨bf, 4, none⟩ = some (.slice bH aM.length bC) := (aD bG.out 4).trans rfl
                                have hcz39_5 : wr.cell? ⟨bf, 5, none⟩ = some (.slice bE aU.length bD) := (aD bG.out 5).trans rfl
                                have hfz39_0 := aA bG.out 0
                                have hfz39_1 := aA bG.out 1
                                have hfz39_2 := aA bG.out 2
                                have hfz39_3 := aA bG.out 3
                                have hfz39_4 := aA bG.out 4
                                have hfz39_5 := aA bG.out 5
                                go_wp2
                                go_loopg [10] k3 (fun kq v10 w' => ∃ (x8_4 : List Bool) (jb : Int), v10 = .int .i64 jb ∧ aC (aa.l3 kq fH x6_1 x8_4 dP jb aX aY ae aT aM aU = some (r1, r2)) ∧ aC (kq ≤ k3) ∧ aC (Kd.R Kd.bool 4 w' w.heap.size (fun k_ => some k_ ≠ (v950 : Value).ownBlock) u5 fH) ∧ aC (Kd.R Kd.bool 4 w' w.heap.size (fun k_ => some k_ ≠ (u5 : Value).ownBlock) v950 x8_4) ∧ aC (w'.heap[bf]? = some (.cells #[.int .i64 aX, .int .i64 aY, .int .i64 ae, .int .i64 aT, (.slice bH aM.length bC), (.slice bE aU.length bD)] 43 (0, 0))) ∧ aC (Below w.heap.size w w'))
                                case atStart => exact ⟨(jH), (0), (by first | rfl | (simp; done) | (simp [*]; done)), H', ⟨Nat.le_refl _⟩, ⟨by (with_reducible repeat (first | apply Kd.bB | apply Kd.ax | apply Kd.bJ)); exact HO_5.out⟩, ⟨by (with_reducible repeat (first | apply Kd.bB | apply Kd.ax | apply Kd.bJ)); exact HO_8.out⟩, ⟨by (with_reducible repeat (first | refine ag ?_ _ | refine af ?_ | refine aW ?_ _)); exact bG.out⟩, ⟨by repeat (first | (with_reducible first | exact HB.out | apply aH | apply aG | apply aI | refine aJ ?_ kL.out) | exact HB.out)⟩⟩
                                case round =>
                                  clear H'
                                  try clear c1
                                  try clear c2
                                  try clear p2
                                  try clear q2
                                  try clear c3
                                  try clear lL
                                  try clear c3b1
                                  try clear c4
                                  try clear iB
                                  try clear ja
                                  try clear c5
                                  try clear c5b0
                                  try clear c5b1
                                  try clear c6
                                  try clear c6b0
                                  try clear c6b1
                                  try clear p6
                                  try clear c7
                                  try clear p7
                                  try clear q7
                                  try clear hx7
                                  try clear qi7
                                  try clear hf7
                                  try clear p9
                                  try clear q9
                                  try clear hx9
                                  try clear c16
                                  try clear c16b0
                                  try clear c18
                                  try clear c18b0
                                  try clear c19
                                  try clear c19b0
                                  try clear c20
                                  try clear jf
                                  try clear c21
                                  try clear c21b0
                                  try clear q22
                                  try clear c23
                                  try clear c24
                                  try clear c24b0
                                  try clear c25
                                  try clear jZ
                                  try clear c25b1
                                  try clear c33
                                  try clear c33b0
                                  try clear c33b1
                                  try clear c34
                                  try clear c34b0
                                  try clear c34b1
                                  try clear c38
                                  try clear c38b0
                                  try clear gL
                                  try clear gK
                                  try clear gJ
                                  try clear gI
                                  try clear gH
                                  try clear gG
                                  try clear kZ
                                  try clear kY
                                  try clear kX
                                  try clear kW
                                  try clear kV
                                  try clear kU
                                  try clear hcz26_0
                                  try clear hcz26_1
                                  try clear hcz26_2
                                  try clear hcz26_3
                                  try clear hcz26_4
                                  try clear hcz26_5
                                  try clear hcz28_0
                                  try clear hcz28_1
                                  try clear hcz28_2
                                  try clear hcz28_3
                                  try clear hcz28_4
                                  try clear hcz28_5
                                  try clear hcz30_0
                                  try clear hcz30_1
                                  try clear hcz30_2
                                  try clear hcz30_3
                                  try clear hcz30_4
                                  try clear hcz30_5
                                  try clear hcz32_0
                                  try clear hcz32_1
                                  try clear hcz32_2
                                  try clear hcz32_3
                                  try clear hcz32_4
                                  try clear hcz32_5
                                  try clear hcz35_0
                                  try clear hcz35_1
                                  try clear hcz35_2
                                  try clear hcz35_3
                                  try clear hcz35_4
                                  try clear hcz35_5
                                  try clear hcz39_0
                                  try clear hcz39_1
                                  try clear hcz39_2
                                  try clear hcz39_3
                                  try clear hcz39_4
                                  try clear hcz39_5
                                  try clear kJ
                                  try clear kI
                                  try clear kH
                                  try clear kG
                                  try clear kF
                                  try clear kE
                                  try clear gF
                                  try clear gD
                                  try clear gB
                                  try clear fu
                                  try clear fq
                                  try clear fo
                                  try clear kT
                                  try clear kS
                                  try clear kR
                                  try clear kQ
                                  try clear kP
                                  try clear kN
                                  try clear hfz26_0
                                  try clear hfz26_1
                                  try clear hfz26_2
                                  try clear hfz26_3
                                  try clear hfz26_4
                                  try clear hfz26_5
                                  try clear hfz28_0
                                  try clear hfz28_1
                                  try clear hfz28_2
                                  try clear hfz28_3
                                  try clear hfz28_4
                                  try clear hfz28_5
                                  try clear hfz30_0
                                  try clear hfz30_1
                                  try clear hfz30_2
                                  try clear hfz30_3
                                  try clear hfz30_4
                                  try clear hfz30_5
                                  try clear hfz32_0
                                  try clear hfz32_1
                                  try clear hfz32_2
                                  try clear hfz32_3
                                  try clear hfz32_4
                                  try clear hfz32_5
                                  try clear hfz35_0
                                  try clear hfz35_1
                                  try clear hfz35_2
                                  try clear hfz35_3
                                  try clear hfz35_4
                                  try clear hfz35_5
                                  try clear hfz39_0
                                  try clear hfz39_1
                                  try clear hfz39_2
                                  try clear hfz39_3
                                  try clear hfz39_4
                                  try clear hfz39_5
                                  try clear kD
                                  try clear kC
                                  try clear jy
                                  try clear jw
                                  try clear jv
                                  try clear jr
                                  try clear hx7_0
                                  try clear hx947_0
                                  try clear hx948_0
                                  try clear p2
                                  try clear p6
                                  try clear p7
                                  try clear p9
                                  try clear p947
                                  try clear p948
                                  try clear q2
                                  try clear q22
                                  try clear q7
                                  try clear q9
                                  try clear q947
                                  try clear q948
                                  obtain ⟨x8_4, jb, rfl, HA, HK4, HO_5, HO_8, bG, HB⟩ := hrel
                                  cases gk with
                                  | zero => exact absurd HA.out (by simp [aa.l3])
                                  | succ k4 =>
                                    have H := HA.out
                                    clear HA
                                    simp only [aa.l3] at H
                                    by_cases c40 : jb < aY
                                    · rw [if_pos c40] at H
                                      have c40b0 : decide (jb < aY) = true := decide_eq_true c40
                                      clear c40
                                      by_cases c41 : 0 ≤ dP
                                      · rw [if_pos c41] at H
                                        have c41b0 : decide (0 ≤ dP) = true := decide_eq_true c41
                                        clear c41
                                        by_cases c42 : dP < (fH.length : Int)
                                        · rw [if_pos c42] at H
                                          have c42b0 : decide (dP < (fH.length : Int)) = true := decide_eq_true c42
                                          clear c42
                                          obtain ⟨bq43, hbq43⟩ : ∃ b_ : Bool, b_ = (rdOf false fH dP) := ⟨_, rfl⟩
                                          replace H : (if bq43 = true then (if 0 ≤ (wrap64 ((wrap64 (dP * aY)) + jb)) then (if (wrap64 ((wrap64 (dP * aY)) + jb)) < (aM.length : Int) then (if 0 ≤ (rd aM (wrap64 ((wrap64 (dP * aY)) + jb))) then (if (rd aM (wrap64 ((wrap64 (dP * aY)) + jb))) < (x8_4.length : Int) then (aa.l3 k4 fH x6_1 (x8_4.set ((rd aM (wrap64 ((wrap64 (dP * aY)) + jb))) : Int).toNat true) dP (wrap64 (jb + 1)) aX aY ae aT aM aU) else (none)) else (none)) else (none)) else (none)) else (aa.l2 k4 fH x6_1 x8_4 (wrap64 (dP + 1)) aX aY ae aT aM aU)) = some (r1, r2) := by rw [← hbq43] at H; exact H
                                          have Nbq43 := aC.mk hbq43
                                          clear hbq43
                                          by_cases c44 : bq43 = true
                                          · subst c44
                                            have H1 : (if 0 ≤ (wrap64 ((wrap64 (dP * aY)) + jb)) then (if (wrap64 ((wrap64 (dP * aY)) + jb)) < (aM.length : Int) then (if 0 ≤ (rd aM (wrap64 ((wrap64 (dP * aY)) + jb))) then (if (rd aM (wrap64 ((wrap64 (dP * aY)) + jb))) < (x8_4.length : Int) then (aa.l3 k4 fH x6_1 (x8_4.set ((rd aM (wrap64 ((wrap64 (dP * aY)) + jb))) : Int).toNat true) dP (wrap64 (jb + 1)) aX aY ae aT aM aU) else (none)) else (none)) else (none)) else (none)) = some (r1, r2) := by rw [if_pos rfl] at H; exact H
                                            clear H
                                            have H := H1
                                            clear H1
                                            obtain ⟨ji45, hji45⟩ : ∃ j_ : Int, (wrap64 ((wrap64 (dP * aY)) + jb)) = j_ := ⟨_, rfl⟩
                                            replace H : (if 0 ≤ (ji45) then (if (ji45) < (aM.length : Int) then (if 0 ≤ (rd aM (ji45)) then (if (rd aM (ji45)) < (x8_4.length : Int) then (aa.l3 k4 fH x6_1 (x8_4.set ((rd aM (ji45)) : Int).toNat true) dP (wrap64 (jb + 1)) aX aY ae aT aM aU) else (none)) else (none)) else (none)) else (none)) = some (r1, r2) := by first | (rw [hji45] at H; exact H) | (simp only [hji45] at H ⊢; exact H)
                                            have hji45w : (IntKind.i64.wrap ((wrap64 (dP * aY)) + jb)) = ji45 := (bT _).trans hji45
                                            by_cases c46 : 0 ≤ (ji45)
                                            · rw [if_pos c46] at H
                                              have c46b0 : decide (0 ≤ (ji45)) = true := decide_eq_true c46
                                              clear c46
                                              by_cases c47 : (ji45) < (aM.length : Int)
                                              · rw [if_pos c47] at H
                                                have c47b0 : decide ((ji45) < (aM.length : Int)) = true := decide_eq_true c47
                                                clear c47
                                                by_cases c48 : 0 ≤ (rd aM (ji45))
                                                · rw [if_pos c48] at H
                                                  have c48b0 : decide (0 ≤ (rd aM (ji45))) = true := decide_eq_true c48
                                                  clear c48
                                                  by_cases c49 : (rd aM (ji45)) < (x8_4.length : Int)
                                                  · rw [if_pos c49] at H
                                                    have c49b0 : decide ((rd aM (ji45)) < (x8_4.length : Int)) = true := decide_eq_true c49
                                                    clear c49
                                                    obtain ⟨y954, hy954⟩ : ∃ y_ : List Bool, y_ = (x8_4.set ((rd aM (ji45)) : Int).toNat true) := ⟨_, rfl⟩
                                                    replace H : (aa.l3 k4 fH x6_1 y954 dP (wrap64 (jb + 1)) aX aY ae aT aM aU) = some (r1, r2) := by first | (rw [hy954]; with_reducible exact H) | (have H2_ := (Option.bind_some _ _).symm.trans H; rw [hy954]; with_reducible exact H2_) | (have H2_ := (Option.bind_some _ _).symm.trans H; with_reducible exact H2_) | with_reducible exact H | (rw [hy954]; exact H) | exact H
                                                    have Ny954 := aC.mk hy954
                                                    clear hy954
                                                    have H' := aC.mk H
                                                    clear H
                                                    have hcz51_0 : wr.cell? ⟨bf, 0, none⟩ = some (.int .i64 aX) := (aD bG.out 0).trans rfl
                                                    have hcz51_1 : wr.cell? ⟨bf, 1, none⟩ = some (.int .i64 aY) := (aD bG.out 1).trans rfl
                                                    have hcz51_2 : wr.cell? ⟨bf, 2, none⟩ = some (.int .i64 ae) := (aD bG.out 2).trans rfl
                                                    have hcz51_3 : wr.cell? ⟨bf, 3, none⟩ = some (.int .i64 aT) := (aD bG.out 3).trans rfl
                                                    have hcz51_4 : wr.cell? ⟨bf, 4, none⟩ = some (.slice bH aM.length bC) := (aD bG.out 4).trans rfl
                                                    have hcz51_5 : wr.cell? ⟨bf, 5, none⟩ = some (.slice bE aU.length bD) := (aD bG.out 5).trans rfl
                                                    have hfz51_0 := aA bG.out 0
                                                    have hfz51_1 := aA bG.out 1
                                                    have hfz51_2 := aA bG.out 2
                                                    have hfz51_3 := aA bG.out 3
                                                    have hfz51_4 := aA bG.out 4
                                                    have hfz51_5 := aA bG.out 5
                                                    obtain ⟨Ao52, co52, eo52⟩ := Kd.bu HO_5.out
                                                    subst eo52
                                                    have p952 : 0 ≤ (dP : Int) := of_decide_eq_true (by first | (with_reducible assumption) | assumption)
                                                    have q952 : dP < (fH.length : Int) := of_decide_eq_true (by first | (with_reducible assumption) | assumption)
                                                    obtain ⟨ad952, e952, hx952_0⟩ := Kd.at_bool (Kd.bX HO_5.out).2.2 dP p952 q952
                                                    (try rw [← Nbq43.out] at hx952_0)
                                                    cases e952
                                                    replace p952 := eq_true p952
                                                    replace q952 := eq_true q952
                                                    have p953 : 0 ≤ ((ji45) : Int) := of_decide_eq_true (by first | (with_reducible assumption) | assumption)
                                                    have q953 : (ji45) < (aM.length : Int) := of_decide_eq_true (by first | (with_reducible assumption) | assumption)
                                                    obtain ⟨ad953, e953, hx953_0⟩ := Kd.cz dY.out (ji45) p953 q953
                                                    cases e953
                                                    replace hx953_0 := (HB.out.cell (World.block_lt_of_cell? w _ hx953_0)).trans hx953_0
                                                    replace p953 := eq_true p953
                                                    replace q953 := eq_true q953
                                                    have p50 : 0 ≤ ((rd aM (ji45)) : Int) := of_decide_eq_true (by first | (with_reducible assumption) | assumption)
                                                    have q50 : ((rd aM (ji45)) : Int) < ((x8_4.length : Int) : Int) := of_decide_eq_true (by first | (with_reducible assumption) | assumption)
                                                    obtain ⟨go50, co50, eo50, gb50, gl50, cl50, HG50⟩ := Kd.R_form HO_8.out (by omega)
                                                    (first | cases eo50 | (injection eo50 with ea_ en_ ec_; (first | subst ea_ | (injection ea_ with ea_; subst ea_)); subst ec_; clear en_))
                                                    have GB50 := aC.mk gb50
                                                    have GG50 := aC.mk HG50
                                                    clear gb50 gl50 HG50
                                                    obtain ⟨hx50_0, hf50_0⟩ := Kd.fT false HO_8.out ((rd aM (ji45)) : Int) p50 q50
                                                    replace p50 := eq_true p50
                                                    replace q50 := eq_true q50
                                                    have HP53 := Kd.lM HO_8.out ((rd aM (ji45)) : Int) true
                                                    go_wp2_with (first | ((with_reducible refine dW (t := 4) (p := 84) rfl ?_); refine gz (t := 4) (p := 84) (v := ?vo_w54) (w1 := (wr.setCell ⟨go50, ((rd aM (ji45)) : Int).toNat, none⟩ (.bool true))) ?hg ?ho ?hn ?hr ?_; (case ho => rfl); (case hg => rfl); (case hn => rfl); (case hr => first | (go_simp; done) | (go_simp; rfl)); intro w54 hw; have hg : wr.grownBy w54 (some go50) := (by rw [hw]; exact HP53.2); have hp_ : Kd.R Kd.bool 4 w54 w.heap.size (fun k_ => some k_ ≠ (.slice (some ad952) fH.length co52 : Value).ownBlock) (.slice (some ⟨go50, 0, none⟩) x8_4.length co50) y954 := (by rw [hw, Ny954.out]; exact HP53.1); clear HP53; have n0_ := aC.mk (Kd.R_after (v := (.slice (some ⟨go50, 0, none⟩) x8_4.length co50)) (v1 := (.slice (some ⟨go50, 0, none⟩) x8_4.length co50)) (ok := (fun _ => True)) (by (with_reducible repeat (first | apply Kd.bB | apply Kd.ax | apply Kd.bJ)); exact Kd.dB HO_5.out (fun _ hk => ⟨trivial, hk⟩)) hg (.inl rfl)); have n1_ := aC.mk (hp_); have n2_ := aC.mk (cZ (g := bf) (o := .cells #[.int .i64 aX, .int .i64 aY, .int .i64 ae, .int .i64 aT, .slice (some ad953) aM.length bC, .slice bE aU.length bD] 43 (0, 0)) (by (with_reducible repeat (first | refine ag ?_ _ | refine af ?_ | refine aW ?_ _)); exact bG.out) hg (Kd.jL HO_8.out bG.out (by decide))); have n3_ := aC.mk ((by rw [hw]; exact aJ (HB.out) GB50.out : Below w.heap.size w w54)); clear HO_5; clear HO_8; clear bG; clear HB; have HO_5 := n0_; have HO_8 := n1_; have bG := n2_; have HB := n3_; clear n0_ n1_ n2_ n3_; clear hg hw hp_))
                                                    go_roundg k4
                                                    case measure => have := HK1.out; have := HK2.out; have := HK3.out; have := HK4.out; omega
                                                    case rel => exact ⟨(y954), (wrap64 (jb + 1)), (by first | rfl | (simp; done) | (simp [*]; done)), H', ⟨by have := HK1.out; have := HK2.out; have := HK3.out; have := HK4.out; omega⟩, ⟨by (with_reducible repeat (first | apply Kd.bB | apply Kd.ax | apply Kd.bJ)); exact Kd.dB HO_5.out (fun _ hk => hk.2)⟩, ⟨by (with_reducible repeat (first | apply Kd.bB | apply Kd.ax | apply Kd.bJ)); exact HO_8.out⟩, ⟨by (with_reducible repeat (first | refine ag ?_ _ | refine af ?_ | refine aW ?_ _)); exact bG.out⟩, ⟨by repeat (first | (with_reducible first | exact HB.out | apply aH | apply aG | apply aI | refine aJ ?_ kL.out) | exact HB.out)⟩⟩
                                                  · rw [if_neg c49] at H
                                                    exact absurd H (by simp)
                                                · rw [if_neg c48] at H
                                                  exact absurd H (by simp)
                                              · rw [if_neg c47] at H
                                                exact absurd H (by simp)
                                            · rw [if_neg c46] at H
                                              exact absurd H (by simp)
                                          · replace c44 := Bool.eq_false_iff.mpr c44
                                            subst c44
                                            have H1 : (aa.l2 k4 fH x6_1 x8_4 (wrap64 (dP + 1)) aX aY ae aT aM aU) = some (r1, r2) := by rw [if_neg (show ¬ (false = true) by decide)] at H; exact H
                                            clear H
                                            have H := H1
                                            clear H1
                                            have H' := aC.mk H
                                            clear H
                                            have hcz55_0 : wr.cell? ⟨bf, 0, none⟩ = some (.int .i64 aX) := (aD bG.out 0).trans rfl
                                            have hcz55_1 : wr.cell? ⟨bf, 1, none⟩ = some (.int .i64 aY) := (aD bG.out 1).trans rfl
                                            have hcz55_2 : wr.cell? ⟨bf, 2, none⟩ = some (.int .i64 ae) := (aD bG.out 2).trans rfl
                                            have hcz55_3 : wr.cell? ⟨bf, 3, none⟩ = some (.int .i64 aT) := (aD bG.out 3).trans rfl
                                            have hcz55_4 : wr.cell? ⟨bf, 4, none⟩ = some (.slice bH aM.length bC) := (aD bG.out 4).trans rfl
                                            have hcz55_5 : wr.cell? ⟨bf, 5, none⟩ = some (.slice bE aU.length bD) := (aD bG.out 5).trans rfl
                                            have hfz55_0 := aA bG.out 0
                                            have hfz55_1 := aA bG.out 1
                                            have hfz55_2 := aA bG.out 2
                                            have hfz55_3 := aA bG.out 3
                                            have hfz55_4 := aA bG.out 4
                                            have hfz55_5 := aA bG.out 5
                                            obtain ⟨Ao56, co56, eo56⟩ := Kd.bu HO_5.out
                                            subst eo56
                                            have p952 : 0 ≤ (dP : Int) := of_decide_eq_true (by first | (with_reducible assumption) | assumption)
                                            have q952 : dP < (fH.length : Int) := of_decide_eq_true (by first | (with_reducible assumption) | assumption)
                                            obtain ⟨ad952, e952, hx952_0⟩ := Kd.at_bool (Kd.bX HO_5.out).2.2 dP p952 q952
                                            (try rw [← Nbq43.out] at hx952_0)
                                            cases e952
                                            replace p952 := eq_true p952
                                            replace q952 := eq_true q952
                                            go_wp2
                                            go_roundg k4
                                            case measure => have := HK1.out; have := HK2.out; have := HK3.out; have := HK4.out; omega
                                            case rel => exact ⟨(x8_4), (wrap64 (dP + 1)), (by first | rfl | (simp; done) | (simp [*]; done)), H', ⟨by have := HK1.out; have := HK2.out; have := HK3.out; have := HK4.out; omega⟩, ⟨by (with_reducible repeat (first | apply Kd.bB | apply Kd.ax | apply Kd.bJ)); exact HO_5.out⟩, ⟨by (with_reducible repeat (first | apply Kd.bB | apply Kd.ax | apply Kd.bJ)); exact HO_8.out⟩, ⟨by (with_reducible repeat (first | refine ag ?_ _ | refine af ?_ | refine aW ?_ _)); exact bG.out⟩, ⟨by repeat (first | (with_reducible first | exact HB.out | apply aH | apply aG | apply aI | refine aJ ?_ kL.out) | exact HB.out)⟩⟩
                                        · rw [if_neg c42] at H
                                          exact absurd H (by simp)
                                      · rw [if_neg c41] at H
                                        exact absurd H (by simp)
                                    · rw [if_neg c40] at H
                                      have c40b0 : decide (jb < aY) = false := decide_eq_false c40
                                      clear c40
                                      have H' := aC.mk H
                                      clear H
                                      have hcz57_0 : wr.cell? ⟨bf, 0, none⟩ = some (.int .i64 aX) := (aD bG.out 0).trans rfl
                                      have hcz57_1 : wr.cell? ⟨bf, 1, none⟩ = some (.int .i64 aY) := (aD bG.out 1).trans rfl
                                      have hcz57_2 : wr.cell? ⟨bf, 2, none⟩ = some (.int .i64 ae) := (aD bG.out 2).trans rfl
                                      have hcz57_3 : wr.cell? ⟨bf, 3, none⟩ = some (.int .i64 aT) := (aD bG.out 3).trans rfl
                                      have hcz57_4 : wr.cell? ⟨bf, 4, none⟩ = some (.slice bH aM.length bC) := (aD bG.out 4).trans rfl
                                      have hcz57_5 : wr.cell? ⟨bf, 5, none⟩ = some (.slice bE aU.length bD) := (aD bG.out 5).trans rfl
                                      have hfz57_0 := aA bG.out 0
                                      have hfz57_1 := aA bG.out 1
                                      have hfz57_2 := aA bG.out 2
                                      have hfz57_3 := aA bG.out 3
                                      have hfz57_4 := aA bG.out 4
                                      have hfz57_5 := aA bG.out 5
                                      go_wp2
                                      go_roundg k4
                                      case measure => have := HK1.out; have := HK2.out; have := HK3.out; have := HK4.out; omega
                                      case rel => exact ⟨(x8_4), (wrap64 (dP + 1)), (by first | rfl | (simp; done) | (simp [*]; done)), H', ⟨by have := HK1.out; have := HK2.out; have := HK3.out; have := HK4.out; omega⟩, ⟨by (with_reducible repeat (first | apply Kd.bB | apply Kd.ax | apply Kd.bJ)); exact HO_5.out⟩, ⟨by (with_reducible repeat (first | apply Kd.bB | apply Kd.ax | apply Kd.bJ)); exact HO_8.out⟩, ⟨by (with_reducible repeat (first | refine ag ?_ _ | refine af ?_ | refine aW ?_ _)); exact bG.out⟩, ⟨by repeat (first | (with_reducible first | exact HB.out | apply aH | apply aG | apply aI | refine aJ ?_ kL.out) | exact HB.out)⟩⟩
                              · rw [if_neg c38] at H
                                have c38b0 : decide (dP < aT) = false := decide_eq_false c38
                                clear c38
                                have H' := aC.mk H
                                clear H
                                have hcz58_0 : wr.cell? ⟨bf, 0, none⟩ = some (.int .i64 aX) := (aD bG.out 0).trans rfl
                                have hcz58_1 : wr.cell? ⟨bf, 1, none⟩ = some (.int .i64 aY) := (aD bG.out 1).trans rfl
                                have hcz58_2 : wr.cell? ⟨bf, 2, none⟩ = some (.int .i64 ae) := (aD bG.out 2).trans rfl
                                have hcz58_3 : wr.cell? ⟨bf, 3, none⟩ = some (.int .i64 aT) := (aD bG.out 3).trans rfl
                                have hcz58_4 : wr.cell? ⟨bf, 4, none⟩ = some (.slice bH aM.length bC) := (aD bG.out 4).trans rfl
                                have hcz58_5 : wr.cell? ⟨bf, 5, none⟩ = some (.slice bE aU.length bD) := (aD bG.out 5).trans rfl
                                have hfz58_0 := aA bG.out 0
                                have hfz58_1 := aA bG.out 1
                                have hfz58_2 := aA bG.out 2
                                have hfz58_3 := aA bG.out 3
                                have hfz58_4 := aA bG.out 4
                                have hfz58_5 := aA bG.out 5
                                go_wp2
                                go_roundg k3
                                case measure => have := HK1.out; have := HK2.out; have := HK3.out; omega
                                case rel => exact ⟨(jH), (wrap64 (x6_1 + 1)), (by first | rfl | (simp; done) | (simp [*]; done)), H', ⟨by have := HK1.out; have := HK2.out; have := HK3.out; omega⟩, ⟨by (with_reducible repeat (first | apply Kd.bB | apply Kd.ax | apply Kd.bJ)); exact Kd.dB HO_8.out (fun _ hk => trivial)⟩, ⟨by (with_reducible repeat (first | refine ag ?_ _ | refine af ?_ | refine aW ?_ _)); exact bG.out⟩, ⟨by repeat (first | (with_reducible first | exact HB.out | apply aH | apply aG | apply aI | refine aJ ?_ kL.out) | exact HB.out)⟩⟩
                        · rw [if_neg c34] at H
                          exact absurd H (by simp)
                      · rw [if_neg c33] at H
                        exact absurd H (by simp)
              · rw [if_neg c16] at H
                have c16b0 : decide (x6_1 < (wrap64 (2 * aT))) = false := decide_eq_false c16
                clear c16
                simp only [Option.some.injEq, Prod.mk.injEq] at H
                obtain ⟨rfl, rfl⟩ := H
                have hcz59_0 : wr.cell? ⟨bf, 0, none⟩ = some (.int .i64 aX) := (aD bG.out 0).trans rfl
                have hcz59_1 : wr.cell? ⟨bf, 1, none⟩ = some (.int .i64 aY) := (aD bG.out 1).trans rfl
                have hcz59_2 : wr.cell? ⟨bf, 2, none⟩ = some (.int .i64 ae) := (aD bG.out 2).trans rfl
                have hcz59_3 : wr.cell? ⟨bf, 3, none⟩ = some (.int .i64 aT) := (aD bG.out 3).trans rfl
                have hcz59_4 : wr.cell? ⟨bf, 4, none⟩ = some (.slice bH aM.length bC) := (aD bG.out 4).trans rfl
                have hcz59_5 : wr.cell? ⟨bf, 5, none⟩ = some (.slice bE aU.length bD) := (aD bG.out 5).trans rfl
                have hfz59_0 := aA bG.out 0
                have hfz59_1 := aA bG.out 1
                have hfz59_2 := aA bG.out 2
                have hfz59_3 := aA bG.out 3
                have hfz59_4 := aA bG.out 4
                have hfz59_5 := aA bG.out 5
                go_wp2
                go_ret2
                exact ⟨by first | rfl | (simp [az, ay] <;> rfl) | (simp [*, az, ay] <;> rfl), by repeat (first | (with_reducible first | exact HB.out | apply aH | apply aG | apply aI | refine aJ ?_ kL.out) | exact HB.out)⟩
        · rw [if_neg c6] at H
          exact absurd H (by simp)
      · rw [if_neg c5] at H
        exact absurd H (by simp)
    · rw [if_neg c4] at H
      exact absurd H (by simp)
  · rw [if_neg c3] at H
    have lL : (t942 == 0) = false := beq_eq_false_iff_ne.mpr c3
    have c3b1 : (t942 != 0) = true := bne_iff_ne.mpr c3
    simp only [Option.some.injEq, Prod.mk.injEq] at H
    obtain ⟨rfl, rfl⟩ := H
    go_enter Try.func43, Try.ntmps43
    go_wp2_with (first | ((with_reducible refine bK (N := 1) rfl ?_); refine dA ?hg (N := 1) ?hd (cs := #[.int .i64 aX, .int .i64 aY, .int .i64 ae, .int .i64 aT, .slice bH aM.length bC, .slice bE aU.length bD]) (t := 43) ?hr ?_; (case hd => rfl); (case hg => rfl); (case hr => first | (go_simp; done) | (go_simp; rfl)); intro bf hg w60 hbox hb; have n0_ := aC.mk (ah (by repeat (first | (with_reducible first | exact HB.out | apply aH | apply aG | apply aI) | exact HB.out)) hb); have n1_ := aC.mk (hbox); have n2_ := aC.mk ((by rw [hg]; exact (aZ (by repeat (first | (with_reducible first | exact HB.out | apply aH | apply aG | apply aI) | exact HB.out))) : w.heap.size ≤ bf)); have n3_ := aC.mk ((by rw [hg]; exact (aZ (by repeat (first | (with_reducible first | exact HB.out | apply aH | apply aG | apply aI) | exact HB.out))) : w.heap.size ≤ bf)); clear HB; have HB := n0_; have bG := n1_; have GW941 := n2_; have kL := n3_; clear n0_ n1_ n2_ n3_; clear hb hbox hg; have hcz61_0 : w60.cell? ⟨bf, 0, none⟩ = some (.int .i64 aX) := (aD bG.out 0).trans rfl; have hcz61_1 : w60.cell? ⟨bf, 1, none⟩ = some (.int .i64 aY) := (aD bG.out 1).trans rfl; have hcz61_2 : w60.cell? ⟨bf, 2, none⟩ = some (.int .i64 ae) := (aD bG.out 2).trans rfl; have hcz61_3 : w60.cell? ⟨bf, 3, none⟩ = some (.int .i64 aT) := (aD bG.out 3).trans rfl; have hcz61_4 : w60.cell? ⟨bf, 4, none⟩ = some (.slice bH aM.length bC) := (aD bG.out 4).trans rfl; have hcz61_5 : w60.cell? ⟨bf, 5, none⟩ = some (.slice bE aU.length bD) := (aD bG.out 5).trans rfl; have hfz61_0 := aA bG.out 0; have hfz61_1 := aA bG.out 1; have hfz61_2 := aA bG.out 2; have hfz61_3 := aA bG.out 3; have hfz61_4 := aA bG.out 4; have hfz61_5 := aA bG.out 5) | ((with_reducible refine dG (f := 75) rfl ?_); refine gW (some 12) rfl rfl Try.func75 (by kernel_rfl) rfl #[.agg #[.int .i64 aX, .int .i64 aY, .int .i64 ae, .int .i64 aT, .slice bH aM.length bC, .slice bE aU.length bD]] rfl (by (try simp only [List.map_toArray, List.map_cons, List.map_nil]); first | done | rfl | (simp only [List.length_drop, List.length_take]; rfl)) ?_; (with_reducible refine (bV.calls k aX aY ae aT _ _ aM _ _ aU t942 _ ?dD ?dC ?dJ ?dI A2.out).mono ?_); (case dD => repeat (first | exact (Kd.ak dY.out HB.out) | (with_reducible refine Kd.bS ?_ _) | (with_reducible refine Kd.bR ?_ _) | (with_reducible refine Kd.bW ?_))); (case dC => exact eX.out); (case dJ => repeat (first | exact (Kd.ak dV.out HB.out) | (with_reducible refine Kd.bS ?_ _) | (with_reducible refine Kd.bR ?_ _) | (with_reducible refine Kd.bW ?_))); (case dI => exact fA.out); rintro e w62 ⟨rfl, hb⟩; refine ⟨_, rfl, ?_⟩; have n0_ := aC.mk (av (g := bf) (o := .cells #[.int .i64 aX, .int .i64 aY, .int .i64 ae, .int .i64 aT, .slice bH aM.length bC, .slice bE aU.length bD] 43 (0, 0)) (by (with_reducible repeat (first | refine ag ?_ _ | refine af ?_ | refine aW ?_ _)); exact bG.out) hb); have n1_ := aC.mk (ah (by repeat (first | (with_reducible first | exact HB.out | apply aH | apply aG | apply aI | refine aJ ?_ kL.out) | exact HB.out)) hb); clear bG; clear HB; have bG := n0_; have HB := n1_; clear n0_ n1_; (try clear hb); (try clear hb2); (try clear hk); (try clear hi)))
    go_ret2
    exact ⟨by first | rfl | (simp [az, ay] <;> rfl) | (simp [*, az, ay] <;> rfl), by repeat (first | (with_reducible first | exact HB.out | apply aH | apply aG | apply aI | refine aJ ?_ kL.out) | exact HB.out)⟩
end Go.Proofs.Ytkaefgmgcghhiaa.X
end
