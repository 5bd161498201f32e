/- Texts of the statement SampleSays, one behind the other: Go functions as Lean functions, the machine's calls, the plain law. -/
import Derived.Test.YtocejofjmmoeaaaMSampleSays4
import Derived.Test.YtocejofjmmoeaaaMSampleSays5
import Derived.Test.YtocejofjmmoeaaaMSampleSays13
import Derived.Test.YtocejofjmmoeaaaMSampleSays16
import Derived.Test.YtocejofjmmoeaaaMSampleSays17
import Derived.Test.YtocejofjmmoeaaaMSampleSays19
set_option linter.unusedVariables false
set_option linter.unusedSimpArgs false
section
namespace Go.Proofs.Ytocejofjmmoeaaa.X
open Go.RowKit Go.Proofs.YtocejofjmmoeaaaW.PrintWords Go.Proofs.YtocejofjmmoeaaaW.PrintLast Go.Proofs.YtocejofjmmoeaaaW.PrintMore
attribute [local go_sem] eZ eu fV fU eP eO fF fE   -- for this text's walks alone
set_option linter.unusedVariables false
set_option linter.unusedSimpArgs false
mutual
noncomputable def bA.l0 : Nat → Int → Int → Int → List Int → List Int → Option (Int × Int × Int × Int × List Int × List Int × Int)
  | 0, _, _, _, _, _ => none
  | k + 1, x8, x211000, lY, x211002, x211003 => if x8 < lY then (bA.l1 k x8 false 0 x211000 lY x211002 x211003) else ((bM.f k x211000 lY x211002 x211003).bind fun bt211 => (some (bt211.1, bt211.2.1, bt211.2.2.1, bt211.2.2.2.1, bt211.2.2.2.2.1, bt211.2.2.2.2.2.1, bt211.2.2.2.2.2.2)))
noncomputable def bA.l1 : Nat → Int → Bool → Int → Int → Int → List Int → List Int → Option (Int × Int × Int × Int × List Int × List Int × Int)
  | 0, _, _, _, _, _, _, _ => none
  | k + 1, x8, x9, x10, x211000, lY, x211002, x211003 => if x10 < x8 then (bA.j2 k x8 x9 x10 (!x9) x211000 lY x211002 x211003) else (bA.j2 k x8 x9 x10 false x211000 lY x211002 x211003)
noncomputable def bA.j2 : Nat → Int → Bool → Int → Bool → Int → Int → List Int → List Int → Option (Int × Int × Int × Int × List Int × List Int × Int)
  | 0, _, _, _, _, _, _, _, _ => none
  | k + 1, x8, x9, x10, x34, x211000, lY, x211002, x211003 => if x34 = true then ((iC.f x211000 lY x211002 x211003 x10 x8).bind fun bt222 => (if bt222.2.2.2.2.1 = true then (bA.l1 k x8 true (wrap64 (x10 + 1)) bt222.1 bt222.2.1 bt222.2.2.1 bt222.2.2.2.1) else (bA.l1 k x8 x9 (wrap64 (x10 + 1)) x211000 lY x211002 x211003))) else (if x9 = true then (bA.l0 k x8 x211000 lY x211002 x211003) else (bA.l0 k (wrap64 (x8 + 1)) x211000 lY x211002 x211003))
end
noncomputable def bA.f (k : Nat) (a0 : Int) (l1 : List (S57)) : Option (Int × Int × Int × Int × List Int × List Int × Int) := (gK.f a0 l1).bind fun bt201 => (if bt201.2.2.2.2 = 0 then (bA.l0 k 1 bt201.1 bt201.2.1 bt201.2.2.1 bt201.2.2.2.1) else (some (0, 0, 0, 0, ([] : List Int), ([] : List Int), bt201.2.2.2.2)))
set_option maxHeartbeats 8000000 in
set_option maxRecDepth 100000 in
theorem bA.calls (k : Nat) (a0 : Int) (A1 : Option Addr) (c1 : Nat) (l1 : List (S57)) (r1 : Int) (r2 : Int) (r3 : Int) (r4 : Int) (r5 : List Int) (r6 : List Int) (r7 : Int) (w : World) (hr1 : Kd.C k57 w A1 l1.length l1) (hc1 : l1.length ≤ c1) (h : bA.f k a0 l1 = some (r1, r2, r3, r4, r5, r6, r7)) :
    Calls Try.prog 25 #[.int .i64 a0, .slice A1 l1.length c1] w fun e w' => ∃ v4_ v5_ : Value, e = .returned (.tuple #[.agg #[.int .i64 r1, .int .i64 r2, .int .i64 r3, .int .i64 r4, v4_, v5_], .int .i64 r7]) ∧ Kd.R (Kd.int .i64) 3 w' w.heap.size (fun k_ => some k_ ≠ (v5_ : Value).ownBlock) v4_ r5 ∧ Kd.R (Kd.int .i64) 3 w' w.heap.size (fun k_ => some k_ ≠ (v4_ : Value).ownBlock) v5_ r6 ∧ Below w.heap.size w w' := by
  have hu50 := Try.underlying50
  have hu34 := Try.underlying34
  have HR1 := aA.mk hr1
  have HC1 := aA.mk hc1
  clear hr1 hc1
  have HB := aA.mk (Below.refl w.heap.size w)
  have H : ((gK.f a0 l1).bind fun bt201 => (if bt201.2.2.2.2 = 0 then (bA.l0 k 1 bt201.1 bt201.2.1 bt201.2.2.1 bt201.2.2.2.1) else (some (0, 0, 0, 0, ([] : List Int), ([] : List Int), bt201.2.2.2.2)))) = some (r1, r2, r3, r4, r5, r6, r7) := h
  clear h
  replace H := Option.bind_eq_some_iff.mp H
  obtain ⟨⟨t201, t202, t203, t206, t209⟩, A30, H⟩ := H
  replace H : (if t209 = 0 then (bA.l0 k 1 t201 t202 t203 t206) else (some (0, 0, 0, 0, ([] : List Int), ([] : List Int), t209))) = some (r1, r2, r3, r4, r5, r6, r7) := H
  have A3 := aA.mk A30
  clear A30
  by_cases c4 : t209 = 0
  · rw [if_pos c4] at H
    have gz : (t209 == 0) = true := beq_iff_eq.mpr c4
    have c4b1 : (t209 != 0) = false := bne_eq_false_iff_eq.mpr c4
    clear c4
    have H' := aA.mk H
    clear H
    go_enter Try.func25, Try.ntmps25
    go_wp2_with (first | ((with_reducible refine bT (N := 4) rfl ?_); refine dD ?hg (N := 4) ?hd (cs := #[.int .i64 0, .int .i64 0, .int .i64 0, .int .i64 0, .slice none 0 0, .slice none 0 0]) (t := 50) ?hr ?_; (case hd => rfl); (case hg => rfl); (case hr => first | (go_simp; done) | (go_simp; rfl)); intro eU hg w5 hbox hb; have n0_ := aA.mk (aW (by repeat (first | (with_reducible first | exact HB.out | apply aH | apply aG | apply aI) | exact HB.out)) hb); have n1_ := aA.mk (hbox); have n2_ := aA.mk ((by rw [hg]; exact (aY (by repeat (first | (with_reducible first | exact HB.out | apply aH | apply aG | apply aI) | exact HB.out))) : w.heap.size ≤ eU)); have n3_ := aA.mk ((by rw [hg]; exact (aY (by repeat (first | (with_reducible first | exact HB.out | apply aH | apply aG | apply aI) | exact HB.out))) : w.heap.size ≤ eU)); clear HB; have HB := n0_; have dQ := n1_; have GW200 := n2_; have gL := n3_; clear n0_ n1_ n2_ n3_; clear hb hbox hg) | ((with_reducible refine bC (f := 17) rfl ?_); refine dV (some 17) rfl rfl Try.func17 (by kernel_rfl) rfl #[.int .i64 a0, .slice A1 l1.length c1] rfl (by (try simp only [List.map_toArray, List.map_cons, List.map_nil]); first | done | rfl | (simp only [List.length_drop, List.length_take]; rfl)) ?_; (with_reducible refine (gK.calls a0 _ _ l1 t201 t202 t203 t206 t209 _ ?dB ?dA A3.out).mono ?_); (case dB => repeat (first | exact (Kd.aX HR1.out HB.out) | (with_reducible refine Kd.bE ?_ _) | (with_reducible refine Kd.bD ?_ _) | (with_reducible refine Kd.bS ?_))); (case dA => exact HC1.out); rintro e w6 ⟨v204, v207, rfl, ho0, ho1, hb⟩; refine ⟨_, rfl, ?_⟩; have n0_ := aA.mk (Kd.gI ho0 (aY (by repeat (first | (with_reducible first | exact HB.out | apply aH | apply aG | apply aI | refine aN ?_ gL.out) | exact HB.out)))); have n1_ := aA.mk (Kd.gI ho1 (aY (by repeat (first | (with_reducible first | exact HB.out | apply aH | apply aG | apply aI | refine aN ?_ gL.out) | exact HB.out)))); have n2_ := aA.mk (bH (g := eU) (o := .cells #[.int .i64 0, .int .i64 0, .int .i64 0, .int .i64 0, .slice none 0 0, .slice none 0 0] 50 (0, 0)) (by (with_reducible repeat (first | refine aM ?_ _ | refine aQ ?_ | refine aJ ?_ _)); exact dQ.out) hb); have n3_ := aA.mk (aW (by repeat (first | (with_reducible first | exact HB.out | apply aH | apply aG | apply aI | refine aN ?_ gL.out) | exact HB.out)) hb); clear dQ; clear HB; have HO205 := n0_; have HO208 := n1_; have dQ := n2_; have HB := n3_; clear n0_ n1_ n2_ n3_; (try clear hb); (try clear hb2); (try clear hk); (try clear hi); (try clear ho0); (try clear ho1)) | ((with_reducible refine bT (N := 6) rfl ?_); refine dD ?hg (N := 6) ?hd (cs := #[.int .i64 0, .int .i64 0, .slice none 0 0, .slice none 0 0]) (t := 34) ?hr ?_; (case hd => rfl); (case hg => rfl); (case hr => first | (go_simp; done) | (go_simp; rfl)); intro dY hg w7 hbox hb; have n0_ := aA.mk (Kd.iD (by (with_reducible repeat (first | apply Kd.ai | apply Kd.ah | apply Kd.ax)); exact HO205.out) hb); have n1_ := aA.mk (Kd.iD (by (with_reducible repeat (first | apply Kd.ai | apply Kd.ah | apply Kd.ax)); exact HO208.out) hb); have n2_ := aA.mk (bH (g := eU) (o := .cells #[.int .i64 0, .int .i64 0, .int .i64 0, .int .i64 0, .slice none 0 0, .slice none 0 0] 50 (0, 0)) (by (with_reducible repeat (first | refine aM ?_ _ | refine aQ ?_ | refine aJ ?_ _)); exact dQ.out) hb); have n3_ := aA.mk (aW (by repeat (first | (with_reducible first | exact HB.out | apply aH | apply aG | apply aI | refine aN ?_ gL.out) | exact HB.out)) hb); have n4_ := aA.mk (hbox); have n5_ := aA.mk ((by rw [hg]; exact (aY (by repeat (first | (with_reducible first | exact HB.out | apply aH | apply aG | apply aI | refine aN ?_ gL.out) | exact HB.out))) : w.heap.size ≤ dY)); have n6_ := aA.mk ((by rw [hg]; exact (aY (by repeat (first | (with_reducible first | exact HB.out | apply aH | apply aG | apply aI | refine aN ?_ gL.out) | exact HB.out))) : w.heap.size ≤ dY)); have n7_ := aA.mk ((by rw [hg]; exact Nat.ne_of_lt (dM (g := eU) (o := .cells #[.int .i64 0, .int .i64 0, .int .i64 0, .int .i64 0, .slice none 0 0, .slice none 0 0] 50 (0, 0)) (by (with_reducible repeat (first | refine aM ?_ _ | refine aQ ?_ | refine aJ ?_ _)); exact dQ.out)) : eU ≠ dY)); have n8_ := aA.mk ((by rw [hg]; exact Nat.ne_of_gt (dM (g := eU) (o := .cells #[.int .i64 0, .int .i64 0, .int .i64 0, .int .i64 0, .slice none 0 0, .slice none 0 0] 50 (0, 0)) (by (with_reducible repeat (first | refine aM ?_ _ | refine aQ ?_ | refine aJ ?_ _)); exact dQ.out)) : dY ≠ eU)); clear HO205; clear HO208; clear dQ; clear HB; have HO205 := n0_; have HO208 := n1_; have dQ := n2_; have HB := n3_; have dE := n4_; have GW210 := n5_; have jL := n6_; have fP := n7_; have NB210_200 := n8_; clear n0_ n1_ n2_ n3_ n4_ n5_ n6_ n7_ n8_; clear hb hbox hg; have hnb8 := NB210_200.out; have hnc8 := fP.out; have jF : w7.cell? ⟨dY, 0, none⟩ = some (.int .i64 0) := (aD dE.out 0).trans rfl; have jE : w7.cell? ⟨dY, 1, none⟩ = some (.int .i64 0) := (aD dE.out 1).trans rfl; have jD : w7.cell? ⟨dY, 2, none⟩ = some (.slice none 0 0) := (aD dE.out 2).trans rfl; have jC : w7.cell? ⟨dY, 3, none⟩ = some (.slice none 0 0) := (aD dE.out 3).trans rfl; have jB := aC dE.out 0; have jA := aC dE.out 1; have iy := aC dE.out 2; have iw := aC dE.out 3; obtain ⟨Ao10, co10, eo10⟩ := Kd.cB HO205.out; subst eo10; obtain ⟨Ao11, co11, eo11⟩ := Kd.cB HO208.out; subst eo11))
    go_loopg [8] k (fun kq v8 w' => ∃ (fq : Int) (jy : Int) (iK : Int) (x211002_1 : List Int) (x211003_1 : List Int) (iB : Value) (iA : Value), v8 = .int .i64 fq ∧ aA (bA.l0 kq fq jy iK x211002_1 x211003_1 = some (r1, r2, r3, r4, r5, r6, r7)) ∧ aA (kq ≤ k) ∧ aA (Kd.R (Kd.int .i64) 3 w' w.heap.size (fun k_ => some k_ ≠ (iA : Value).ownBlock) iB x211002_1) ∧ aA (Kd.R (Kd.int .i64) 3 w' w.heap.size (fun k_ => some k_ ≠ (iB : Value).ownBlock) iA x211003_1) ∧ aA (w'.heap[eU]? = some (.cells #[.int .i64 0, .int .i64 0, .int .i64 0, .int .i64 0, (.slice none 0 0), (.slice none 0 0)] 50 (0, 0))) ∧ aA (w'.heap[dY]? = some (.cells #[.int .i64 jy, .int .i64 iK, iB, iA] 34 (0, 0))) ∧ aA (Below w.heap.size w w'))
    case atStart => exact ⟨(1), (t201), (t202), (t203), (t206), (.slice Ao10 t203.length co10), (.slice Ao11 t206.length co11), (by first | rfl | (simp; done) | (simp [*]; done)), H', ⟨Nat.le_refl _⟩, ⟨by (with_reducible repeat (first | apply Kd.ai | apply Kd.ah | apply Kd.ax)); exact Kd.bV (Kd.bg (p := ⟨dY, 3, none⟩) (Kd.bg (p := ⟨dY, 2, none⟩) (Kd.bg (p := ⟨dY, 1, none⟩) (Kd.bg (p := ⟨dY, 0, none⟩) (Kd.eY HO205.out dE.out (by decide)) (fun _ hk => hk.2) (.int .i64 t201)) (fun _ hk => hk.2) (.int .i64 t202)) (fun _ hk => hk.2) (.slice Ao10 t203.length co10)) (fun _ hk => hk.2) (.slice Ao11 t206.length co11)) (fun _ hk => hk.1)⟩, ⟨by (with_reducible repeat (first | apply Kd.ai | apply Kd.ah | apply Kd.ax)); exact Kd.bV (Kd.bg (p := ⟨dY, 3, none⟩) (Kd.bg (p := ⟨dY, 2, none⟩) (Kd.bg (p := ⟨dY, 1, none⟩) (Kd.bg (p := ⟨dY, 0, none⟩) (Kd.eY HO208.out dE.out (by decide)) (fun _ hk => hk.2) (.int .i64 t201)) (fun _ hk => hk.2) (.int .i64 t202)) (fun _ hk => hk.2) (.slice Ao10 t203.length co10)) (fun _ hk => hk.2) (.slice Ao11 t206.length co11)) (fun _ hk => hk.1)⟩, ⟨by (with_reducible repeat (first | refine aM ?_ _ | refine aQ ?_ | refine aJ ?_ _)); refine bX ?_ fP.out _; (with_reducible repeat (first | refine aM ?_ _ | refine aQ ?_ | refine aJ ?_ _)); refine bX ?_ fP.out _; (with_reducible repeat (first | refine aM ?_ _ | refine aQ ?_ | refine aJ ?_ _)); refine bX ?_ fP.out _; (with_reducible repeat (first | refine aM ?_ _ | refine aQ ?_ | refine aJ ?_ _)); refine bX ?_ fP.out _; (with_reducible repeat (first | refine aM ?_ _ | refine aQ ?_ | refine aJ ?_ _)); exact dQ.out⟩, ⟨by (with_reducible repeat (first | refine aM ?_ _ | refine aQ ?_ | refine aJ ?_ _)); refine bU (cs := #[.int .i64 t201, .int .i64 t202, .slice Ao10 t203.length co10, .slice none 0 0]) ?_ 3 _ rfl; (with_reducible repeat (first | refine aM ?_ _ | refine aQ ?_ | refine aJ ?_ _)); refine bU (cs := #[.int .i64 t201, .int .i64 t202, .slice none 0 0, .slice none 0 0]) ?_ 2 _ rfl; (with_reducible repeat (first | refine aM ?_ _ | refine aQ ?_ | refine aJ ?_ _)); refine bU (cs := #[.int .i64 t201, .int .i64 0, .slice none 0 0, .slice none 0 0]) ?_ 1 _ rfl; (with_reducible repeat (first | refine aM ?_ _ | refine aQ ?_ | refine aJ ?_ _)); refine bU (cs := #[.int .i64 0, .int .i64 0, .slice none 0 0, .slice none 0 0]) ?_ 0 _ rfl; (with_reducible repeat (first | refine aM ?_ _ | refine aQ ?_ | refine aJ ?_ _)); exact dE.out⟩, ⟨by repeat (first | (with_reducible first | exact HB.out | apply aH | apply aG | apply aI | refine aN ?_ gL.out | refine aN ?_ jL.out) | exact HB.out)⟩⟩
    case round =>
      clear H'
      try clear c1
      try clear c2
      try clear p2
      try clear c4
      try clear gz
      try clear c4b1
      try clear c8
      try clear jF
      try clear jE
      try clear jD
      try clear jC
      try clear jB
      try clear jA
      try clear iy
      try clear iw
      obtain ⟨fq, jy, iK, x211002_1, x211003_1, iB, iA, rfl, HA, HK1, HO_211002, HO_211003, dQ, dE, HB⟩ := hrel
      cases gk with
      | zero => exact absurd HA.out (by simp [bA.l0])
      | succ k1 =>
        have H := HA.out
        clear HA
        simp only [bA.l0] at H
        by_cases c12 : fq < iK
        · rw [if_pos c12] at H
          have c12b0 : decide (fq < iK) = true := decide_eq_true c12
          clear c12
          have H' := aA.mk H
          clear H
          have hnb13 := NB210_200.out
          have hnc13 := fP.out
          have hcz14_0 : wr.cell? ⟨dY, 0, none⟩ = some (.int .i64 jy) := (aD dE.out 0).trans rfl
          have hcz14_1 : wr.cell? ⟨dY, 1, none⟩ = some (.int .i64 iK) := (aD dE.out 1).trans rfl
          have hcz14_2 : wr.cell? ⟨dY, 2, none⟩ = some (iB) := (aD dE.out 2).trans rfl
          have hcz14_3 : wr.cell? ⟨dY, 3, none⟩ = some (iA) := (aD dE.out 3).trans rfl
          have hfz14_0 := aC dE.out 0
          have hfz14_1 := aC dE.out 1
          have hfz14_2 := aC dE.out 2
          have hfz14_3 := aC dE.out 3
          go_wp2
          go_loopg [9, 10] k1 (fun kq v9 v10 w' => ∃ (x9_2 : Bool) (lN : Int) (dP : Int) (dK : Int) (dJ : List Int) (dI : List Int) (iB : Value) (iA : Value), v9 = .bool x9_2 ∧ v10 = .int .i64 lN ∧ aA (bA.l1 kq fq x9_2 lN dP dK dJ dI = some (r1, r2, r3, r4, r5, r6, r7)) ∧ aA (kq ≤ k1) ∧ aA (Kd.R (Kd.int .i64) 3 w' w.heap.size (fun k_ => some k_ ≠ (iA : Value).ownBlock) iB dJ) ∧ aA (Kd.R (Kd.int .i64) 3 w' w.heap.size (fun k_ => some k_ ≠ (iB : Value).ownBlock) iA dI) ∧ aA (w'.heap[eU]? = some (.cells #[.int .i64 0, .int .i64 0, .int .i64 0, .int .i64 0, (.slice none 0 0), (.slice none 0 0)] 50 (0, 0))) ∧ aA (w'.heap[dY]? = some (.cells #[.int .i64 dP, .int .i64 dK, iB, iA] 34 (0, 0))) ∧ aA (Below w.heap.size w w'))
          case atStart => exact ⟨(false), (0), (jy), (iK), (x211002_1), (x211003_1), (iB), (iA), (by first | rfl | (simp; done) | (simp [*]; done)), (by first | rfl | (simp; done) | (simp [*]; done)), H', ⟨Nat.le_refl _⟩, ⟨by (with_reducible repeat (first | apply Kd.ai | apply Kd.ah | apply Kd.ax)); exact HO_211002.out⟩, ⟨by (with_reducible repeat (first | apply Kd.ai | apply Kd.ah | apply Kd.ax)); exact HO_211003.out⟩, ⟨by (with_reducible repeat (first | refine aM ?_ _ | refine aQ ?_ | refine aJ ?_ _)); exact dQ.out⟩, ⟨by (with_reducible repeat (first | refine aM ?_ _ | refine aQ ?_ | refine aJ ?_ _)); exact dE.out⟩, ⟨by repeat (first | (with_reducible first | exact HB.out | apply aH | apply aG | apply aI | refine aN ?_ gL.out | refine aN ?_ jL.out) | exact HB.out)⟩⟩
          case round =>
            clear H'
            try clear c1
            try clear c2
            try clear p2
            try clear c4
            try clear gz
            try clear c4b1
            try clear c8
            try clear c12
            try clear c12b0
            try clear c13
            try clear hcz14_0
            try clear hcz14_1
            try clear hcz14_2
            try clear hcz14_3
            try clear jF
            try clear jE
            try clear jD
            try clear jC
            try clear hfz14_0
            try clear hfz14_1
            try clear hfz14_2
            try clear hfz14_3
            try clear jB
            try clear jA
            try clear iy
            try clear iw
            try clear p2
            obtain ⟨x9_2, lN, dP, dK, dJ, dI, iB, iA, rfl, rfl, HA, HK2, HO_211002, HO_211003, dQ, dE, HB⟩ := hrel
            cases gk with
            | zero => exact absurd HA.out (by simp [bA.l1])
            | succ k2 =>
              have H := HA.out
              clear HA
              simp only [bA.l1] at H
              have HC15 := aA.mk H
              clear H
              go_upto_region 8 with (fail)
              go_cut [34] (fun v34 wc => ∃ (kq : Nat) (x34_14 : Bool), v34 = .bool x34_14 ∧ aA (bA.j2 kq fq x9_2 lN x34_14 dP dK dJ dI = some (r1, r2, r3, r4, r5, r6, r7)) ∧ aA (kq ≤ k2) ∧ aA (Kd.R (Kd.int .i64) 3 wc w.heap.size (fun k_ => some k_ ≠ (iA : Value).ownBlock) iB dJ) ∧ aA (Kd.R (Kd.int .i64) 3 wc w.heap.size (fun k_ => some k_ ≠ (iB : Value).ownBlock) iA dI) ∧ aA (wc.heap[eU]? = some (.cells #[.int .i64 0, .int .i64 0, .int .i64 0, .int .i64 0, (.slice none 0 0), (.slice none 0 0)] 50 (0, 0))) ∧ aA (wc.heap[dY]? = some (.cells #[.int .i64 dP, .int .i64 dK, iB, iA] 34 (0, 0))) ∧ aA (Below w.heap.size w wc))
              case first =>
                have H := HC15.out
                clear HC15
                by_cases c16 : lN < fq
                · rw [if_pos c16] at H
                  have c16b0 : decide (lN < fq) = true := decide_eq_true c16
                  clear c16
                  (first | rw [c16b0] | (simp only [aj, av]; rw [c16b0]) | skip)
                  have H' := aA.mk H
                  clear H
                  go_wp2
                  go_meet
                  case rel => exact ⟨_, (!x9_2), (by first | rfl | (simp; done) | (simp [*]; done)), H', ⟨by have := HK1.out; have := HK2.out; first | omega | exact Nat.le_refl _⟩, ⟨by (with_reducible repeat (first | apply Kd.ai | apply Kd.ah | apply Kd.ax)); exact HO_211002.out⟩, ⟨by (with_reducible repeat (first | apply Kd.ai | apply Kd.ah | apply Kd.ax)); exact HO_211003.out⟩, ⟨by (with_reducible repeat (first | refine aM ?_ _ | refine aQ ?_ | refine aJ ?_ _)); exact dQ.out⟩, ⟨by (with_reducible repeat (first | refine aM ?_ _ | refine aQ ?_ | refine aJ ?_ _)); exact dE.out⟩, ⟨by repeat (first | (with_reducible first | exact HB.out | apply aH | apply aG | apply aI | refine aN ?_ gL.out | refine aN ?_ jL.out) | exact HB.out)⟩⟩
                · rw [if_neg c16] at H
                  have c16b0 : decide (lN < fq) = false := decide_eq_false c16
                  clear c16
                  (first | rw [c16b0] | (simp only [aj, av]; rw [c16b0]) | skip)
                  have H' := aA.mk H
                  clear H
                  go_wp2
                  go_meet
                  case rel => exact ⟨_, (false), (by first | rfl | (simp; done) | (simp [*]; done)), H', ⟨by have := HK1.out; have := HK2.out; first | omega | exact Nat.le_refl _⟩, ⟨by (with_reducible repeat (first | apply Kd.ai | apply Kd.ah | apply Kd.ax)); exact HO_211002.out⟩, ⟨by (with_reducible repeat (first | apply Kd.ai | apply Kd.ah | apply Kd.ax)); exact HO_211003.out⟩, ⟨by (with_reducible repeat (first | refine aM ?_ _ | refine aQ ?_ | refine aJ ?_ _)); exact dQ.out⟩, ⟨by (with_reducible repeat (first | refine aM ?_ _ | refine aQ ?_ | refine aJ ?_ _)); exact dE.out⟩, ⟨by repeat (first | (with_reducible first | exact HB.out | apply aH | apply aG | apply aI | refine aN ?_ gL.out | refine aN ?_ jL.out) | exact HB.out)⟩⟩
              case rest =>
                clear HC15
                try clear c1
                try clear c2
                try clear p2
                try clear c4
                try clear gz
                try clear c4b1
                try clear c8
                try clear c12
                try clear c12b0
                try clear c13
                try clear c16
                try clear c16b0
                try clear hcz14_0
                try clear hcz14_1
                try clear hcz14_2
                try clear hcz14_3
                try clear jF
                try clear jE
                try clear jD
                try clear jC
                try clear hfz14_0
                try clear hfz14_1
                try clear hfz14_2
                try clear hfz14_3
                try clear jB
                try clear jA
                try clear iy
                try clear iw
                try clear p2
                obtain ⟨kq, x34_14, rfl, HA, HJ14, HO_211002, HO_211003, dQ, dE, HB⟩ := hcut
                cases kq with
                | zero => exact absurd HA.out (by simp [bA.j2])
                | succ kj14 =>
                  have H := HA.out
                  clear HA
                  simp only [bA.j2] at H
                  by_cases c17 : x34_14 = true
                  · subst c17
                    have H1 : ((iC.f dP dK dJ dI lN fq).bind fun bt222 => (if bt222.2.2.2.2.1 = true then (bA.l1 kj14 fq true (wrap64 (lN + 1)) bt222.1 bt222.2.1 bt222.2.2.1 bt222.2.2.2.1) else (bA.l1 kj14 fq x9_2 (wrap64 (lN + 1)) dP dK dJ dI))) = some (r1, r2, r3, r4, r5, r6, r7) := by rw [if_pos rfl] at H; exact H
                    clear H
                    have H := H1
                    clear H1
                    replace H := Option.bind_eq_some_iff.mp H
                    obtain ⟨⟨t222, t223, t224, t227, t230, t231⟩, A180, H⟩ := H
                    replace H : (if t230 = true then (bA.l1 kj14 fq true (wrap64 (lN + 1)) t222 t223 t224 t227) else (bA.l1 kj14 fq x9_2 (wrap64 (lN + 1)) dP dK dJ dI)) = some (r1, r2, r3, r4, r5, r6, r7) := H
                    have A18 := aA.mk A180
                    clear A180
                    by_cases c19 : t230 = true
                    · subst c19
                      have H1 : (bA.l1 kj14 fq true (wrap64 (lN + 1)) t222 t223 t224 t227) = some (r1, r2, r3, r4, r5, r6, r7) := by rw [if_pos rfl] at H; exact H
                      clear H
                      have H := H1
                      clear H1
                      have H' := aA.mk H
                      clear H
                      have hnb20 := NB210_200.out
                      have hnc20 := fP.out
                      have hcz21_0 : wc.cell? ⟨dY, 0, none⟩ = some (.int .i64 dP) := (aD dE.out 0).trans rfl
                      have hcz21_1 : wc.cell? ⟨dY, 1, none⟩ = some (.int .i64 dK) := (aD dE.out 1).trans rfl
                      have hcz21_2 : wc.cell? ⟨dY, 2, none⟩ = some (iB) := (aD dE.out 2).trans rfl
                      have hcz21_3 : wc.cell? ⟨dY, 3, none⟩ = some (iA) := (aD dE.out 3).trans rfl
                      have hfz21_0 := aC dE.out 0
                      have hfz21_1 := aC dE.out 1
                      have hfz21_2 := aC dE.out 2
                      have hfz21_3 := aC dE.out 3
                      obtain ⟨Ao22, co22, eo22⟩ := Kd.cB HO_211002.out
                      subst eo22
                      obtain ⟨Ao23, co23, eo23⟩ := Kd.cB HO_211003.out
                      subst eo23
                      go_wp2_with (first | ((with_reducible refine bC (f := 23) rfl ?_); refine dV (some 41) rfl rfl Try.func23 (by kernel_rfl) rfl #[.agg #[.int .i64 dP, .int .i64 dK, .slice Ao22 dJ.length co22, .slice Ao23 dI.length co23], .int .i64 lN, .int .i64 fq] rfl (by (try simp only [List.map_toArray, List.map_cons, List.map_nil]); first | done | rfl | (simp only [List.length_drop, List.length_take]; rfl)) ?_; (with_reducible refine (iC.calls dP dK _ _ dJ _ _ dI lN fq t222 t223 t224 t227 true t231 _ ?dB ?dA ?di ?dh A18.out).mono ?_); (case dB => repeat (first | exact (Kd.dw HO_211002.out).2.2 | (with_reducible refine Kd.bE ?_ _) | (with_reducible refine Kd.bD ?_ _) | (with_reducible refine Kd.bS ?_))); (case dA => exact (Kd.dw HO_211002.out).2.1); (case di => repeat (first | exact (Kd.dw HO_211003.out).2.2 | (with_reducible refine Kd.bE ?_ _) | (with_reducible refine Kd.bD ?_ _) | (with_reducible refine Kd.bS ?_))); (case dh => exact (Kd.dw HO_211003.out).2.1); rintro e w24 ⟨v225, v228, rfl, ho0, ho1, hb⟩; refine ⟨_, rfl, ?_⟩; have n0_ := aA.mk (Kd.bV (Kd.jG (Kd.jG (Kd.R_old (by (with_reducible repeat (first | apply Kd.ai | apply Kd.ah | apply Kd.ax)); exact HO_211002.out) hb) (Kd.iJ ho0)) (Kd.iJ ho1)) (fun _ h_ => h_.1)); have n1_ := aA.mk (Kd.bV (Kd.jG (Kd.jG (Kd.R_old (by (with_reducible repeat (first | apply Kd.ai | apply Kd.ah | apply Kd.ax)); exact HO_211003.out) hb) (Kd.iJ ho0)) (Kd.iJ ho1)) (fun _ h_ => h_.1)); have n2_ := aA.mk (Kd.gI (Kd.iW (Kd.iW ho0 (Kd.j6 (by (with_reducible repeat (first | apply Kd.ai | apply Kd.ah | apply Kd.ax)); exact HO_211002.out))) (Kd.j6 (by (with_reducible repeat (first | apply Kd.ai | apply Kd.ah | apply Kd.ax)); exact HO_211003.out))) (aY (by repeat (first | (with_reducible first | exact HB.out | apply aH | apply aG | apply aI | refine aN ?_ gL.out | refine aN ?_ jL.out) | exact HB.out)))); have n3_ := aA.mk (Kd.gI (Kd.iW (Kd.iW ho1 (Kd.j6 (by (with_reducible repeat (first | apply Kd.ai | apply Kd.ah | apply Kd.ax)); exact HO_211002.out))) (Kd.j6 (by (with_reducible repeat (first | apply Kd.ai | apply Kd.ah | apply Kd.ax)); exact HO_211003.out))) (aY (by repeat (first | (with_reducible first | exact HB.out | apply aH | apply aG | apply aI | refine aN ?_ gL.out | refine aN ?_ jL.out) | exact HB.out)))); have n4_ := aA.mk (bH (g := eU) (o := .cells #[.int .i64 0, .int .i64 0, .int .i64 0, .int .i64 0, .slice none 0 0, .slice none 0 0] 50 (0, 0)) (by (with_reducible repeat (first | refine aM ?_ _ | refine aQ ?_ | refine aJ ?_ _)); exact dQ.out) hb); have n5_ := aA.mk (bH (g := dY) (o := .cells #[.int .i64 dP, .int .i64 dK, .slice Ao22 dJ.length co22, .slice Ao23 dI.length co23] 34 (0, 0)) (by (with_reducible repeat (first | refine aM ?_ _ | refine aQ ?_ | refine aJ ?_ _)); exact dE.out) hb); have n6_ := aA.mk (aW (by repeat (first | (with_reducible first | exact HB.out | apply aH | apply aG | apply aI | refine aN ?_ gL.out | refine aN ?_ jL.out) | exact HB.out)) hb); clear HO_211002; clear HO_211003; clear dQ; clear dE; clear HB; have HO_211002 := n0_; have HO_211003 := n1_; have HO226 := n2_; have HO229 := n3_; have dQ := n4_; have dE := n5_; have HB := n6_; clear n0_ n1_ n2_ n3_ n4_ n5_ n6_; (try clear hb); (try clear hb2); (try clear hk); (try clear hi); (try clear ho0); (try clear ho1)) | ((with_reducible refine bT (N := 11) rfl ?_); refine dD ?hg (N := 11) ?hd (cs := #[.int .i64 0, .int .i64 0, .slice none 0 0, .slice none 0 0]) (t := 34) ?hr ?_; (case hd => rfl); (case hg => rfl); (case hr => first | (go_simp; done) | (go_simp; rfl)); intro gN hg w25 hbox hb; have n0_ := aA.mk (Kd.iD (by (with_reducible repeat (first | apply Kd.ai | apply Kd.ah | apply Kd.ax)); exact HO_211002.out) hb); have n1_ := aA.mk (Kd.iD (by (with_reducible repeat (first | apply Kd.ai | apply Kd.ah | apply Kd.ax)); exact HO_211003.out) hb); have n2_ := aA.mk (Kd.iD (by (with_reducible repeat (first | apply Kd.ai | apply Kd.ah | apply Kd.ax)); exact HO226.out) hb); have n3_ := aA.mk (Kd.iD (by (with_reducible repeat (first | apply Kd.ai | apply Kd.ah | apply Kd.ax)); exact HO229.out) hb); have n4_ := aA.mk (bH (g := eU) (o := .cells #[.int .i64 0, .int .i64 0, .int .i64 0, .int .i64 0, .slice none 0 0, .slice none 0 0] 50 (0, 0)) (by (with_reducible repeat (first | refine aM ?_ _ | refine aQ ?_ | refine aJ ?_ _)); exact dQ.out) hb); have n5_ := aA.mk (bH (g := dY) (o := .cells #[.int .i64 dP, .int .i64 dK, .slice Ao22 dJ.length co22, .slice Ao23 dI.length co23] 34 (0, 0)) (by (with_reducible repeat (first | refine aM ?_ _ | refine aQ ?_ | refine aJ ?_ _)); exact dE.out) hb); have n6_ := aA.mk (aW (by repeat (first | (with_reducible first | exact HB.out | apply aH | apply aG | apply aI | refine aN ?_ gL.out | refine aN ?_ jL.out) | exact HB.out)) hb); have n7_ := aA.mk (hbox); have n8_ := aA.mk ((by rw [hg]; exact (aY (by repeat (first | (with_reducible first | exact HB.out | apply aH | apply aG | apply aI | refine aN ?_ gL.out | refine aN ?_ jL.out) | exact HB.out))) : w.heap.size ≤ gN)); have n9_ := aA.mk ((by rw [hg]; exact (aY (by repeat (first | (with_reducible first | exact HB.out | apply aH | apply aG | apply aI | refine aN ?_ gL.out | refine aN ?_ jL.out) | exact HB.out))) : w.heap.size ≤ gN)); have n10_ := aA.mk ((by rw [hg]; exact Nat.ne_of_lt (dM (g := eU) (o := .cells #[.int .i64 0, .int .i64 0, .int .i64 0, .int .i64 0, .slice none 0 0, .slice none 0 0] 50 (0, 0)) (by (with_reducible repeat (first | refine aM ?_ _ | refine aQ ?_ | refine aJ ?_ _)); exact dQ.out)) : eU ≠ gN)); have n11_ := aA.mk ((by rw [hg]; exact Nat.ne_of_gt (dM (g := eU) (o := .cells #[.int .i64 0, .int .i64 0, .int .i64 0, .int .i64 0, .slice none 0 0, .slice none 0 0] 50 (0, 0)) (by (with_reducible repeat (first | refine aM ?_ _ | refine aQ ?_ | refine aJ ?_ _)); exact dQ.out)) : gN ≠ eU)); have n12_ := aA.mk ((by rw [hg]; exact Nat.ne_of_lt (dM (g := dY) (o := .cells #[.int .i64 dP, .int .i64 dK, .slice Ao22 dJ.length co22, .slice Ao23 dI.length co23] 34 (0, 0)) (by (with_reducible repeat (first | refine aM ?_ _ | refine aQ ?_ | refine aJ ?_ _)); exact dE.out)) : dY ≠ gN)); have n13_ := aA.mk ((by rw [hg]; exact Nat.ne_of_gt (dM (g := dY) (o := .cells #[.int .i64 dP, .int .i64 dK, .slice Ao22 dJ.length co22, .slice Ao23 dI.length co23] 34 (0, 0)) (by (with_reducible repeat (first | refine aM ?_ _ | refine aQ ?_ | refine aJ ?_ _)); exact dE.out)) : gN ≠ dY)); clear HO_211002; clear HO_211003; clear HO226; clear HO229; clear dQ; clear dE; clear HB; have HO_211002 := n0_; have HO_211003 := n1_; have HO226 := n2_; have HO229 := n3_; have dQ := n4_; have dE := n5_; have HB := n6_; have kY := n7_; have GW232 := n8_; have GE232 := n9_; have jI := n10_; have NB232_200 := n11_; have jH := n12_; have NB232_210 := n13_; clear n0_ n1_ n2_ n3_ n4_ n5_ n6_ n7_ n8_ n9_ n10_ n11_ n12_ n13_; clear hb hbox hg; have hnb26 := NB232_200.out; have hnc26 := jI.out; have hnb27 := NB232_210.out; have hnc27 := jH.out; have hcz28_0 : w25.cell? ⟨gN, 0, none⟩ = some (.int .i64 0) := (aD kY.out 0).trans rfl; have hcz28_1 : w25.cell? ⟨gN, 1, none⟩ = some (.int .i64 0) := (aD kY.out 1).trans rfl; have hcz28_2 : w25.cell? ⟨gN, 2, none⟩ = some (.slice none 0 0) := (aD kY.out 2).trans rfl; have hcz28_3 : w25.cell? ⟨gN, 3, none⟩ = some (.slice none 0 0) := (aD kY.out 3).trans rfl; have hfz28_0 := aC kY.out 0; have hfz28_1 := aC kY.out 1; have hfz28_2 := aC kY.out 2; have hfz28_3 := aC kY.out 3; obtain ⟨Ao29, co29, eo29⟩ := Kd.cB HO226.out; subst eo29; obtain ⟨Ao30, co30, eo30⟩ := Kd.cB HO229.out; subst eo30; have hcz31_0 : w25.cell? ⟨dY, 0, none⟩ = some (.int .i64 dP) := (aD dE.out 0).trans rfl; have hcz31_1 : w25.cell? ⟨dY, 1, none⟩ = some (.int .i64 dK) := (aD dE.out 1).trans rfl; have hcz31_2 : w25.cell? ⟨dY, 2, none⟩ = some (.slice Ao22 dJ.length co22) := (aD dE.out 2).trans rfl; have hcz31_3 : w25.cell? ⟨dY, 3, none⟩ = some (.slice Ao23 dI.length co23) := (aD dE.out 3).trans rfl; have hfz31_0 := aC dE.out 0; have hfz31_1 := aC dE.out 1; have hfz31_2 := aC dE.out 2; have hfz31_3 := aC dE.out 3))
                      go_roundg kj14
                      case measure => have := HK1.out; have := HK2.out; have := HJ14.out; omega
                      case rel => exact ⟨(true), (wrap64 (lN + 1)), (t222), (t223), (t224), (t227), (.slice Ao29 t224.length co29), (.slice Ao30 t227.length co30), (by first | rfl | (simp; done) | (simp [*]; done)), (by first | rfl | (simp; done) | (simp [*]; done)), H', ⟨by have := HK1.out; have := HK2.out; have := HJ14.out; omega⟩, ⟨by (with_reducible repeat (first | apply Kd.ai | apply Kd.ah | apply Kd.ax)); exact Kd.bV (Kd.bg (p := ⟨dY, 3, none⟩) (Kd.bg (p := ⟨dY, 2, none⟩) (Kd.bg (p := ⟨dY, 1, none⟩) (Kd.bg (p := ⟨dY, 0, none⟩) (Kd.bg (p := ⟨gN, 3, none⟩) (Kd.bg (p := ⟨gN, 2, none⟩) (Kd.bg (p := ⟨gN, 1, none⟩) (Kd.bg (p := ⟨gN, 0, none⟩) (Kd.eY (Kd.eY HO226.out kY.out (by decide)) dE.out (by decide)) (fun _ hk => hk.1.2) (.int .i64 t222)) (fun _ hk => hk.1.2) (.int .i64 t223)) (fun _ hk => hk.1.2) (.slice Ao29 t224.length co29)) (fun _ hk => hk.1.2) (.slice Ao30 t227.length co30)) (fun _ hk => hk.2) (.int .i64 t222)) (fun _ hk => hk.2) (.int .i64 t223)) (fun _ hk => hk.2) (.slice Ao29 t224.length co29)) (fun _ hk => hk.2) (.slice Ao30 t227.length co30)) (fun _ hk => hk.1.1.1.1)⟩, ⟨by (with_reducible repeat (first | apply Kd.ai | apply Kd.ah | apply Kd.ax)); exact Kd.bV (Kd.bg (p := ⟨dY, 3, none⟩) (Kd.bg (p := ⟨dY, 2, none⟩) (Kd.bg (p := ⟨dY, 1, none⟩) (Kd.bg (p := ⟨dY, 0, none⟩) (Kd.bg (p := ⟨gN, 3, none⟩) (Kd.bg (p := ⟨gN, 2, none⟩) (Kd.bg (p := ⟨gN, 1, none⟩) (Kd.bg (p := ⟨gN, 0, none⟩) (Kd.eY (Kd.eY HO229.out kY.out (by decide)) dE.out (by decide)) (fun _ hk => hk.1.2) (.int .i64 t222)) (fun _ hk => hk.1.2) (.int .i64 t223)) (fun _ hk => hk.1.2) (.slice Ao29 t224.length co29)) (fun _ hk => hk.1.2) (.slice Ao30 t227.length co30)) (fun _ hk => hk.2) (.int .i64 t222)) (fun _ hk => hk.2) (.int .i64 t223)) (fun _ hk => hk.2) (.slice Ao29 t224.length co29)) (fun _ hk => hk.2) (.slice Ao30 t227.length co30)) (fun _ hk => hk.1.1.1.1)⟩, ⟨by (with_reducible repeat (first | refine aM ?_ _ | refine aQ ?_ | refine aJ ?_ _)); refine bX ?_ fP.out _; (with_reducible repeat (first | refine aM ?_ _ | refine aQ ?_ | refine aJ ?_ _)); refine bX ?_ fP.out _; (with_reducible repeat (first | refine aM ?_ _ | refine aQ ?_ | refine aJ ?_ _)); refine bX ?_ fP.out _; (with_reducible repeat (first | refine aM ?_ _ | refine aQ ?_ | refine aJ ?_ _)); refine bX ?_ fP.out _; (with_reducible repeat (first | refine aM ?_ _ | refine aQ ?_ | refine aJ ?_ _)); refine bX ?_ jI.out _; (with_reducible repeat (first | refine aM ?_ _ | refine aQ ?_ | refine aJ ?_ _)); refine bX ?_ jI.out _; (with_reducible repeat (first | refine aM ?_ _ | refine aQ ?_ | refine aJ ?_ _)); refine bX ?_ jI.out _; (with_reducible repeat (first | refine aM ?_ _ | refine aQ ?_ | refine aJ ?_ _)); refine bX ?_ jI.out _; (with_reducible repeat (first | refine aM ?_ _ | refine aQ ?_ | refine aJ ?_ _)); exact dQ.out⟩, ⟨by (with_reducible repeat (first | refine aM ?_ _ | refine aQ ?_ | refine aJ ?_ _)); refine bU (cs := #[.int .i64 t222, .int .i64 t223, .slice Ao29 t224.length co29, .slice Ao23 dI.length co23]) ?_ 3 _ rfl; (with_reducible repeat (first | refine aM ?_ _ | refine aQ ?_ | refine aJ ?_ _)); refine bU (cs := #[.int .i64 t222, .int .i64 t223, .slice Ao22 dJ.length co22, .slice Ao23 dI.length co23]) ?_ 2 _ rfl; (with_reducible repeat (first | refine aM ?_ _ | refine aQ ?_ | refine aJ ?_ _)); refine bU (cs := #[.int .i64 t222, .int .i64 dK, .slice Ao22 dJ.length co22, .slice Ao23 dI.length co23]) ?_ 1 _ rfl; (with_reducible repeat (first | refine aM ?_ _ | refine aQ ?_ | refine aJ ?_ _)); refine bU (cs := #[.int .i64 dP, .int .i64 dK, .slice Ao22 dJ.length co22, .slice Ao23 dI.length co23]) ?_ 0 _ rfl; (with_reducible repeat (first | refine aM ?_ _ | refine aQ ?_ | refine aJ ?_ _)); refine bX ?_ jH.out _; (with_reducible repeat (first | refine aM ?_ _ | refine aQ ?_ | refine aJ ?_ _)); refine bX ?_ jH.out _; (with_reducible repeat (first | refine aM ?_ _ | refine aQ ?_ | refine aJ ?_ _)); refine bX ?_ jH.out _; (with_reducible repeat (first | refine aM ?_ _ | refine aQ ?_ | refine aJ ?_ _)); refine bX ?_ jH.out _; (with_reducible repeat (first | refine aM ?_ _ | refine aQ ?_ | refine aJ ?_ _)); exact dE.out⟩, ⟨by repeat (first | (with_reducible first | exact HB.out | apply aH | apply aG | apply aI | refine aN ?_ gL.out | refine aN ?_ jL.out | refine aN ?_ GE232.out) | exact HB.out)⟩⟩
                    · replace c19 := Bool.eq_false_iff.mpr c19
                      subst c19
                      have H1 : (bA.l1 kj14 fq x9_2 (wrap64 (lN + 1)) dP dK dJ dI) = some (r1, r2, r3, r4, r5, r6, r7) := by rw [if_neg (show ¬ (false = true) by decide)] at H; exact H
                      clear H
                      have H := H1
                      clear H1
                      have H' := aA.mk H
                      clear H
                      have hnb32 := NB210_200.out
                      have hnc32 := fP.out
                      have hcz33_0 : wc.cell? ⟨dY, 0, none⟩ = some (.int .i64 dP) := (aD dE.out 0).trans rfl
                      have hcz33_1 : wc.cell? ⟨dY, 1, none⟩ = some (.int .i64 dK) := (aD dE.out 1).trans rfl
                      have hcz33_2 : wc.cell? ⟨dY, 2, none⟩ = some (iB) := (aD dE.out 2).trans rfl
                      have hcz33_3 : wc.cell? ⟨dY, 3, none⟩ = some (iA) := (aD dE.out 3).trans rfl
                      have hfz33_0 := aC dE.out 0
                      have hfz33_1 := aC dE.out 1
                      have hfz33_2 := aC dE.out 2
                      have hfz33_3 := aC dE.out 3
                      obtain ⟨Ao34, co34, eo34⟩ := Kd.cB HO_211002.out
                      subst eo34
                      obtain ⟨Ao35, co35, eo35⟩ := Kd.cB HO_211003.out
                      subst eo35
                      go_wp2_with (first | ((with_reducible refine bC (f := 23) rfl ?_); refine dV (some 41) rfl rfl Try.func23 (by kernel_rfl) rfl #[.agg #[.int .i64 dP, .int .i64 dK, .slice Ao34 dJ.length co34, .slice Ao35 dI.length co35], .int .i64 lN, .int .i64 fq] rfl (by (try simp only [List.map_toArray, List.map_cons, List.map_nil]); first | done | rfl | (simp only [List.length_drop, List.length_take]; rfl)) ?_; (with_reducible refine (iC.calls dP dK _ _ dJ _ _ dI lN fq t222 t223 t224 t227 false t231 _ ?dB ?dA ?di ?dh A18.out).mono ?_); (case dB => repeat (first | exact (Kd.dw HO_211002.out).2.2 | (with_reducible refine Kd.bE ?_ _) | (with_reducible refine Kd.bD ?_ _) | (with_reducible refine Kd.bS ?_))); (case dA => exact (Kd.dw HO_211002.out).2.1); (case di => repeat (first | exact (Kd.dw HO_211003.out).2.2 | (with_reducible refine Kd.bE ?_ _) | (with_reducible refine Kd.bD ?_ _) | (with_reducible refine Kd.bS ?_))); (case dh => exact (Kd.dw HO_211003.out).2.1); rintro e w36 ⟨v225, v228, rfl, ho0, ho1, hb⟩; refine ⟨_, rfl, ?_⟩; have n0_ := aA.mk (Kd.bV (Kd.jG (Kd.jG (Kd.R_old (by (with_reducible repeat (first | apply Kd.ai | apply Kd.ah | apply Kd.ax)); exact HO_211002.out) hb) (Kd.iJ ho0)) (Kd.iJ ho1)) (fun _ h_ => h_.1)); have n1_ := aA.mk (Kd.bV (Kd.jG (Kd.jG (Kd.R_old (by (with_reducible repeat (first | apply Kd.ai | apply Kd.ah | apply Kd.ax)); exact HO_211003.out) hb) (Kd.iJ ho0)) (Kd.iJ ho1)) (fun _ h_ => h_.1)); have n2_ := aA.mk (Kd.gI (Kd.iW (Kd.iW ho0 (Kd.j6 (by (with_reducible repeat (first | apply Kd.ai | apply Kd.ah | apply Kd.ax)); exact HO_211002.out))) (Kd.j6 (by (with_reducible repeat (first | apply Kd.ai | apply Kd.ah | apply Kd.ax)); exact HO_211003.out))) (aY (by repeat (first | (with_reducible first | exact HB.out | apply aH | apply aG | apply aI | refine aN ?_ gL.out | refine aN ?_ jL.out) | exact HB.out)))); have n3_ := aA.mk (Kd.gI (Kd.iW (Kd.iW ho1 (Kd.j6 (by (with_reducible repeat (first | apply Kd.ai | apply Kd.ah | apply Kd.ax)); exact HO_211002.out))) (Kd.j6 (by (with_reducible repeat (first | apply Kd.ai | apply Kd.ah | apply Kd.ax)); exact HO_211003.out))) (aY (by repeat (first | (with_reducible first | exact HB.out | apply aH | apply aG | apply aI | refine aN ?_ gL.out | refine aN ?_ jL.out) | exact HB.out)))); have n4_ := aA.mk (bH (g := eU) (o := .cells #[.int .i64 0, .int .i64 0, .int .i64 0, .int .i64 0, .slice none 0 0, .slice none 0 0] 50 (0, 0)) (by (with_reducible repeat (first | refine aM ?_ _ | refine aQ ?_ | refine aJ ?_ _)); exact dQ.out) hb); have n5_ := aA.mk (bH (g := dY) (o := .cells #[.int .i64 dP, .int .i64 dK, .slice Ao34 dJ.length co34, .slice Ao35 dI.length co35] 34 (0, 0)) (by (with_reducible repeat (first | refine aM ?_ _ | refine aQ ?_ | refine aJ ?_ _)); exact dE.out) hb); have n6_ := aA.mk (aW (by repeat (first | (with_reducible first | exact HB.out | apply aH | apply aG | apply aI | refine aN ?_ gL.out | refine aN ?_ jL.out) | exact HB.out)) hb); clear HO_211002; clear HO_211003; clear dQ; clear dE; clear HB; have HO_211002 := n0_; have HO_211003 := n1_; have HO226 := n2_; have HO229 := n3_; have dQ := n4_; have dE := n5_; have HB := n6_; clear n0_ n1_ n2_ n3_ n4_ n5_ n6_; (try clear hb); (try clear hb2); (try clear hk); (try clear hi); (try clear ho0); (try clear ho1)) | ((with_reducible refine bT (N := 11) rfl ?_); refine dD ?hg (N := 11) ?hd (cs := #[.int .i64 0, .int .i64 0, .slice none 0 0, .slice none 0 0]) (t := 34) ?hr ?_; (case hd => rfl); (case hg => rfl); (case hr => first | (go_simp; done) | (go_simp; rfl)); intro gN hg w37 hbox hb; have n0_ := aA.mk (Kd.iD (by (with_reducible repeat (first | apply Kd.ai | apply Kd.ah | apply Kd.ax)); exact HO_211002.out) hb); have n1_ := aA.mk (Kd.iD (by (with_reducible repeat (first | apply Kd.ai | apply Kd.ah | apply Kd.ax)); exact HO_211003.out) hb); have n2_ := aA.mk (Kd.iD (by (with_reducible repeat (first | apply Kd.ai | apply Kd.ah | apply Kd.ax)); exact HO226.out) hb); have n3_ := aA.mk (Kd.iD (by (with_reducible repeat (first | apply Kd.ai | apply Kd.ah | apply Kd.ax)); exact HO229.out) hb); have n4_ := aA.mk (bH (g := eU) (o := .cells #[.int .i64 0, .int .i64 0, .int .i64 0, .int .i64 0, .slice none 0 0, .slice none 0 0] 50 (0, 0)) (by (with_reducible repeat (first | refine aM ?_ _ | refine aQ ?_ | refine aJ ?_ _)); exact dQ.out) hb); have n5_ := aA.mk (bH (g := dY) (o := .cells #[.int .i64 dP, .int .i64 dK, .slice Ao34 dJ.length co34, .slice Ao35 dI.length co35] 34 (0, 0)) (by (with_reducible repeat (first | refine aM ?_ _ | refine aQ ?_ | refine aJ ?_ _)); exact dE.out) hb); have n6_ := aA.mk (aW (by repeat (first | (with_reducible first | exact HB.out | apply aH | apply aG | apply aI | refine aN ?_ gL.out | refine aN ?_ jL.out) | exact HB.out)) hb); have n7_ := aA.mk (hbox); have n8_ := aA.mk ((by rw [hg]; exact (aY (by repeat (first | (with_reducible first | exact HB.out | apply aH | apply aG | apply aI | refine aN ?_ gL.out | refine aN ?_ jL.out) | exact HB.out))) : w.heap.size ≤ gN)); have n9_ := aA.mk ((by rw [hg]; exact (aY (by repeat (first | (with_reducible first | exact HB.out | apply aH | apply aG | apply aI | refine aN ?_ gL.out | refine aN ?_ jL.out) | exact HB.out))) : w.heap.size ≤ gN)); have n10_ := aA.mk ((by rw [hg]; exact Nat.ne_of_lt (dM (g := eU) (o := .cells #[.int .i64 0, .int .i64 0, .int .i64 0, .int .i64 0, .slice none 0 0, .slice none 0 0] 50 (0, 0)) (by (with_reducible repeat (first | refine aM ?_ _ | refine aQ ?_ | refine aJ ?_ _)); exact dQ.out)) : eU ≠ gN)); have n11_ := aA.mk ((by rw [hg]; exact Nat.ne_of_gt (dM (g := eU) (o := .cells #[.int .i64 0, .int .i64 0, .int .i64 0, .int .i64 0, .slice none 0 0, .slice none 0 0] 50 (0, 0)) (by (with_reducible repeat (first | refine aM ?_ _ | refine aQ ?_ | refine aJ ?_ _)); exact dQ.out)) : gN ≠ eU)); have n12_ := aA.mk ((by rw [hg]; exact Nat.ne_of_lt (dM (g := dY) (o := .cells #[.int .i64 dP, .int .i64 dK, .slice Ao34 dJ.length co34, .slice Ao35 dI.length co35] 34 (0, 0)) (by (with_reducible repeat (first | refine aM ?_ _ | refine aQ ?_ | refine aJ ?_ _)); exact dE.out)) : dY ≠ gN)); have n13_ := aA.mk ((by rw [hg]; exact Nat.ne_of_gt (dM (g := dY) (o := .cells #[.int .i64 dP, .int .i64 dK, .slice Ao34 dJ.length co34, .slice Ao35 dI.length co35] 34 (0, 0)) (by (with_reducible repeat (first | refine aM ?_ _ | refine aQ ?_ | refine aJ ?_ _)); exact dE.out)) : gN ≠ dY)); clear HO_211002; clear HO_211003; clear HO226; clear HO229; clear dQ; clear dE; clear HB; have HO_211002 := n0_; have HO_211003 := n1_; have HO226 := n2_; have HO229 := n3_; have dQ := n4_; have dE := n5_; have HB := n6_; have kY := n7_; have GW232 := n8_; have GE232 := n9_; have jI := n10_; have NB232_200 := n11_; have jH := n12_; have NB232_210 := n13_; clear n0_ n1_ n2_ n3_ n4_ n5_ n6_ n7_ n8_ n9_ n10_ n11_ n12_ n13_; clear hb hbox hg; have hnb38 := NB232_200.out; have hnc38 := jI.out; have hnb39 := NB232_210.out; have hnc39 := jH.out; have hcz40_0 : w37.cell? ⟨gN, 0, none⟩ = some (.int .i64 0) := (aD kY.out 0).trans rfl; have hcz40_1 : w37.cell? ⟨gN, 1, none⟩ = some (.int .i64 0) := (aD kY.out 1).trans rfl; have hcz40_2 : w37.cell? ⟨gN, 2, none⟩ = some (.slice none 0 0) := (aD kY.out 2).trans rfl; have hcz40_3 : w37.cell? ⟨gN, 3, none⟩ = some (.slice none 0 0) := (aD kY.out 3).trans rfl; have hfz40_0 := aC kY.out 0; have hfz40_1 := aC kY.out 1; have hfz40_2 := aC kY.out 2; have hfz40_3 := aC kY.out 3; obtain ⟨Ao41, co41, eo41⟩ := Kd.cB HO226.out; subst eo41; obtain ⟨Ao42, co42, eo42⟩ := Kd.cB HO229.out; subst eo42))
                      go_roundg kj14
                      case measure => have := HK1.out; have := HK2.out; have := HJ14.out; omega
                      case rel => exact ⟨(x9_2), (wrap64 (lN + 1)), (dP), (dK), (dJ), (dI), (.slice Ao34 dJ.length co34), (.slice Ao35 dI.length co35), (by first | rfl | (simp; done) | (simp [*]; done)), (by first | rfl | (simp; done) | (simp [*]; done)), H', ⟨by have := HK1.out; have := HK2.out; have := HJ14.out; omega⟩, ⟨by (with_reducible repeat (first | apply Kd.ai | apply Kd.ah | apply Kd.ax)); exact Kd.bV (Kd.bg (p := ⟨gN, 3, none⟩) (Kd.bg (p := ⟨gN, 2, none⟩) (Kd.bg (p := ⟨gN, 1, none⟩) (Kd.bg (p := ⟨gN, 0, none⟩) (Kd.eY HO_211002.out kY.out (by decide)) (fun _ hk => hk.2) (.int .i64 t222)) (fun _ hk => hk.2) (.int .i64 t223)) (fun _ hk => hk.2) (.slice Ao41 t224.length co41)) (fun _ hk => hk.2) (.slice Ao42 t227.length co42)) (fun _ hk => hk.1.1.1)⟩, ⟨by (with_reducible repeat (first | apply Kd.ai | apply Kd.ah | apply Kd.ax)); exact Kd.bV (Kd.bg (p := ⟨gN, 3, none⟩) (Kd.bg (p := ⟨gN, 2, none⟩) (Kd.bg (p := ⟨gN, 1, none⟩) (Kd.bg (p := ⟨gN, 0, none⟩) (Kd.eY HO_211003.out kY.out (by decide)) (fun _ hk => hk.2) (.int .i64 t222)) (fun _ hk => hk.2) (.int .i64 t223)) (fun _ hk => hk.2) (.slice Ao41 t224.length co41)) (fun _ hk => hk.2) (.slice Ao42 t227.length co42)) (fun _ hk => hk.1.1.1)⟩, ⟨by (with_reducible repeat (first | refine aM ?_ _ | refine aQ ?_ | refine aJ ?_ _)); refine bX ?_ jI.out _; (with_reducible repeat (first | refine aM ?_ _ | refine aQ ?_ | refine aJ ?_ _)); refine bX ?_ jI.out _; (with_reducible repeat (first | refine aM ?_ _ | refine aQ ?_ | refine aJ ?_ _)); refine bX ?_ jI.out _; (with_reducible repeat (first | refine aM ?_ _ | refine aQ ?_ | refine aJ ?_ _)); refine bX ?_ jI.out _; (with_reducible repeat (first | refine aM ?_ _ | refine aQ ?_ | refine aJ ?_ _)); exact dQ.out⟩, ⟨by (with_reducible repeat (first | refine aM ?_ _ | refine aQ ?_ | refine aJ ?_ _)); refine bX ?_ jH.out _; (with_reducible repeat (first | refine aM ?_ _ | refine aQ ?_ | refine aJ ?_ _)); refine bX ?_ jH.out _; (with_reducible repeat (first | refine aM ?_ _ | refine aQ ?_ | refine aJ ?_ _)); refine bX ?_ jH.out _; (with_reducible repeat (first | refine aM ?_ _ | refine aQ ?_ | refine aJ ?_ _)); refine bX ?_ jH.out _; (with_reducible repeat (first | refine aM ?_ _ | refine aQ ?_ | refine aJ ?_ _)); exact dE.out⟩, ⟨by repeat (first | (with_reducible first | exact HB.out | apply aH | apply aG | apply aI | refine aN ?_ gL.out | refine aN ?_ jL.out | refine aN ?_ GE232.out) | exact HB.out)⟩⟩
                  · replace c17 := Bool.eq_false_iff.mpr c17
                    subst c17
                    have H1 : (if x9_2 = true then (bA.l0 kj14 fq dP dK dJ dI) else (bA.l0 kj14 (wrap64 (fq + 1)) dP dK dJ dI)) = some (r1, r2, r3, r4, r5, r6, r7) := by rw [if_neg (show ¬ (false = true) by decide)] at H; exact H
                    clear H
                    have H := H1
                    clear H1
                    by_cases c43 : x9_2 = true
                    · subst c43
                      have H1 : (bA.l0 kj14 fq dP dK dJ dI) = some (r1, r2, r3, r4, r5, r6, r7) := by rw [if_pos rfl] at H; exact H
                      clear H
                      have H := H1
                      clear H1
                      have H' := aA.mk H
                      clear H
                      go_wp2
                      go_roundg kj14
                      case measure => have := HK1.out; have := HK2.out; have := HJ14.out; omega
                      case rel => exact ⟨(fq), (dP), (dK), (dJ), (dI), (iB), (iA), (by first | rfl | (simp; done) | (simp [*]; done)), H', ⟨by have := HK1.out; have := HK2.out; have := HJ14.out; omega⟩, ⟨by (with_reducible repeat (first | apply Kd.ai | apply Kd.ah | apply Kd.ax)); exact HO_211002.out⟩, ⟨by (with_reducible repeat (first | apply Kd.ai | apply Kd.ah | apply Kd.ax)); exact HO_211003.out⟩, ⟨by (with_reducible repeat (first | refine aM ?_ _ | refine aQ ?_ | refine aJ ?_ _)); exact dQ.out⟩, ⟨by (with_reducible repeat (first | refine aM ?_ _ | refine aQ ?_ | refine aJ ?_ _)); exact dE.out⟩, ⟨by repeat (first | (with_reducible first | exact HB.out | apply aH | apply aG | apply aI | refine aN ?_ gL.out | refine aN ?_ jL.out) | exact HB.out)⟩⟩
                    · replace c43 := Bool.eq_false_iff.mpr c43
                      subst c43
                      have H1 : (bA.l0 kj14 (wrap64 (fq + 1)) dP dK dJ dI) = some (r1, r2, r3, r4, r5, r6, r7) := by rw [if_neg (show ¬ (false = true) by decide)] at H; exact H
                      clear H
                      have H := H1
                      clear H1
                      have H' := aA.mk H
                      clear H
                      go_wp2
                      go_roundg kj14
                      case measure => have := HK1.out; have := HK2.out; have := HJ14.out; omega
                      case rel => exact ⟨(wrap64 (fq + 1)), (dP), (dK), (dJ), (dI), (iB), (iA), (by first | rfl | (simp; done) | (simp [*]; done)), H', ⟨by have := HK1.out; have := HK2.out; have := HJ14.out; omega⟩, ⟨by (with_reducible repeat (first | apply Kd.ai | apply Kd.ah | apply Kd.ax)); exact HO_211002.out⟩, ⟨by (with_reducible repeat (first | apply Kd.ai | apply Kd.ah | apply Kd.ax)); exact HO_211003.out⟩, ⟨by (with_reducible repeat (first | refine aM ?_ _ | refine aQ ?_ | refine aJ ?_ _)); exact dQ.out⟩, ⟨by (with_reducible repeat (first | refine aM ?_ _ | refine aQ ?_ | refine aJ ?_ _)); exact dE.out⟩, ⟨by repeat (first | (with_reducible first | exact HB.out | apply aH | apply aG | apply aI | refine aN ?_ gL.out | refine aN ?_ jL.out) | exact HB.out)⟩⟩
        · rw [if_neg c12] at H
          have c12b0 : decide (fq < iK) = false := decide_eq_false c12
          clear c12
          replace H := Option.bind_eq_some_iff.mp H
          obtain ⟨⟨t211, t212, t213, t214, t215, t218, t221⟩, A440, H⟩ := H
          replace H : (some (t211, t212, t213, t214, t215, t218, t221)) = some (r1, r2, r3, r4, r5, r6, r7) := H
          have A44 := aA.mk A440
          clear A440
          simp only [Option.some.injEq, Prod.mk.injEq] at H
          obtain ⟨rfl, rfl, rfl, rfl, rfl, rfl, rfl⟩ := H
          have hnb45 := NB210_200.out
          have hnc45 := fP.out
          have hcz46_0 : wr.cell? ⟨dY, 0, none⟩ = some (.int .i64 jy) := (aD dE.out 0).trans rfl
          have hcz46_1 : wr.cell? ⟨dY, 1, none⟩ = some (.int .i64 iK) := (aD dE.out 1).trans rfl
          have hcz46_2 : wr.cell? ⟨dY, 2, none⟩ = some (iB) := (aD dE.out 2).trans rfl
          have hcz46_3 : wr.cell? ⟨dY, 3, none⟩ = some (iA) := (aD dE.out 3).trans rfl
          have hfz46_0 := aC dE.out 0
          have hfz46_1 := aC dE.out 1
          have hfz46_2 := aC dE.out 2
          have hfz46_3 := aC dE.out 3
          obtain ⟨Ao47, co47, eo47⟩ := Kd.cB HO_211002.out
          subst eo47
          obtain ⟨Ao48, co48, eo48⟩ := Kd.cB HO_211003.out
          subst eo48
          go_wp2_with (first | ((with_reducible refine bC (f := 50) rfl ?_); refine dV (some 52) rfl rfl Try.func50 (by kernel_rfl) rfl #[.agg #[.int .i64 jy, .int .i64 iK, .slice Ao47 x211002_1.length co47, .slice Ao48 x211003_1.length co48]] rfl (by (try simp only [List.map_toArray, List.map_cons, List.map_nil]); first | done | rfl | (simp only [List.length_drop, List.length_take]; rfl)) ?_; (with_reducible refine (bM.calls k1 jy iK _ _ x211002_1 _ _ x211003_1 t211 t212 t213 t214 t215 t218 t221 _ ?dB ?dA ?di ?dh A44.out).mono ?_); (case dB => repeat (first | exact (Kd.dw HO_211002.out).2.2 | (with_reducible refine Kd.bE ?_ _) | (with_reducible refine Kd.bD ?_ _) | (with_reducible refine Kd.bS ?_))); (case dA => exact (Kd.dw HO_211002.out).2.1); (case di => repeat (first | exact (Kd.dw HO_211003.out).2.2 | (with_reducible refine Kd.bE ?_ _) | (with_reducible refine Kd.bD ?_ _) | (with_reducible refine Kd.bS ?_))); (case dh => exact (Kd.dw HO_211003.out).2.1); rintro e w49 ⟨v216, v219, rfl, ho0, ho1, hb⟩; refine ⟨_, rfl, ?_⟩; have n0_ := aA.mk (Kd.bV (Kd.jG (Kd.jG (Kd.R_old (by (with_reducible repeat (first | apply Kd.ai | apply Kd.ah | apply Kd.ax)); exact HO_211002.out) hb) (Kd.iJ ho0)) (Kd.iJ ho1)) (fun _ h_ => h_.1)); have n1_ := aA.mk (Kd.bV (Kd.jG (Kd.jG (Kd.R_old (by (with_reducible repeat (first | apply Kd.ai | apply Kd.ah | apply Kd.ax)); exact HO_211003.out) hb) (Kd.iJ ho0)) (Kd.iJ ho1)) (fun _ h_ => h_.1)); have n2_ := aA.mk (Kd.gI (Kd.iW (Kd.iW ho0 (Kd.j6 (by (with_reducible repeat (first | apply Kd.ai | apply Kd.ah | apply Kd.ax)); exact HO_211002.out))) (Kd.j6 (by (with_reducible repeat (first | apply Kd.ai | apply Kd.ah | apply Kd.ax)); exact HO_211003.out))) (aY (by repeat (first | (with_reducible first | exact HB.out | apply aH | apply aG | apply aI | refine aN ?_ gL.out | refine aN ?_ jL.out) | exact HB.out)))); have n3_ := aA.mk (Kd.gI (Kd.iW (Kd.iW ho1 (Kd.j6 (by (with_reducible repeat (first | apply Kd.ai | apply Kd.ah | apply Kd.ax)); exact HO_211002.out))) (Kd.j6 (by (with_reducible repeat (first | apply Kd.ai | apply Kd.ah | apply Kd.ax)); exact HO_211003.out))) (aY (by repeat (first | (with_reducible first | exact HB.out | apply aH | apply aG | apply aI | refine aN ?_ gL.out | refine aN ?_ jL.out) | exact HB.out)))); have n4_ := aA.mk (bH (g := eU) (o := .cells #[.int .i64 0, .int .i64 0, .int .i64 0, .int .i64 0, .slice none 0 0, .slice none 0 0] 50 (0, 0)) (by (with_reducible repeat (first | refine aM ?_ _ | refine aQ ?_ | refine aJ ?_ _)); exact dQ.out) hb); have n5_ := aA.mk (bH (g := dY) (o := .cells #[.int .i64 jy, .int .i64 iK, .slice Ao47 x211002_1.length co47, .slice Ao48 x211003_1.length co48] 34 (0, 0)) (by (with_reducible repeat (first | refine aM ?_ _ | refine aQ ?_ | refine aJ ?_ _)); exact dE.out) hb); have n6_ := aA.mk (aW (by repeat (first | (with_reducible first | exact HB.out | apply aH | apply aG | apply aI | refine aN ?_ gL.out | refine aN ?_ jL.out) | exact HB.out)) hb); clear HO_211002; clear HO_211003; clear dQ; clear dE; clear HB; have HO_211002 := n0_; have HO_211003 := n1_; have HO217 := n2_; have HO220 := n3_; have dQ := n4_; have dE := n5_; have HB := n6_; clear n0_ n1_ n2_ n3_ n4_ n5_ n6_; (try clear hb); (try clear hb2); (try clear hk); (try clear hi); (try clear ho0); (try clear ho1); have hcz50_0 : w49.cell? ⟨eU, 0, none⟩ = some (.int .i64 0) := (aD dQ.out 0).trans rfl; have hcz50_1 : w49.cell? ⟨eU, 1, none⟩ = some (.int .i64 0) := (aD dQ.out 1).trans rfl; have hcz50_2 : w49.cell? ⟨eU, 2, none⟩ = some (.int .i64 0) := (aD dQ.out 2).trans rfl; have hcz50_3 : w49.cell? ⟨eU, 3, none⟩ = some (.int .i64 0) := (aD dQ.out 3).trans rfl; have hcz50_4 : w49.cell? ⟨eU, 4, none⟩ = some (.slice none 0 0) := (aD dQ.out 4).trans rfl; have hcz50_5 : w49.cell? ⟨eU, 5, none⟩ = some (.slice none 0 0) := (aD dQ.out 5).trans rfl; have hfz50_0 := aC dQ.out 0; have hfz50_1 := aC dQ.out 1; have hfz50_2 := aC dQ.out 2; have hfz50_3 := aC dQ.out 3; have hfz50_4 := aC dQ.out 4; have hfz50_5 := aC dQ.out 5; obtain ⟨Ao51, co51, eo51⟩ := Kd.cB HO217.out; subst eo51; obtain ⟨Ao52, co52, eo52⟩ := Kd.cB HO220.out; subst eo52))
          refine bodyPost_ret (iV rfl _ _ eU 50 #[.int .i64 t211, .int .i64 t212, .int .i64 t213, .int .i64 t214, .slice Ao51 t215.length co51, .slice Ao52 t218.length co52] (0, 0) _ rfl (by (with_reducible repeat (first | refine aM ?_ _ | refine aQ ?_ | refine aJ ?_ _)); refine bU (cs := #[.int .i64 t211, .int .i64 t212, .int .i64 t213, .int .i64 t214, .slice Ao51 t215.length co51, .slice none 0 0]) ?_ 5 _ rfl; (with_reducible repeat (first | refine aM ?_ _ | refine aQ ?_ | refine aJ ?_ _)); refine bU (cs := #[.int .i64 t211, .int .i64 t212, .int .i64 t213, .int .i64 t214, .slice none 0 0, .slice none 0 0]) ?_ 4 _ rfl; (with_reducible repeat (first | refine aM ?_ _ | refine aQ ?_ | refine aJ ?_ _)); refine bU (cs := #[.int .i64 t211, .int .i64 t212, .int .i64 t213, .int .i64 0, .slice none 0 0, .slice none 0 0]) ?_ 3 _ rfl; (with_reducible repeat (first | refine aM ?_ _ | refine aQ ?_ | refine aJ ?_ _)); refine bU (cs := #[.int .i64 t211, .int .i64 t212, .int .i64 0, .int .i64 0, .slice none 0 0, .slice none 0 0]) ?_ 2 _ rfl; (with_reducible repeat (first | refine aM ?_ _ | refine aQ ?_ | refine aJ ?_ _)); refine bU (cs := #[.int .i64 t211, .int .i64 0, .int .i64 0, .int .i64 0, .slice none 0 0, .slice none 0 0]) ?_ 1 _ rfl; (with_reducible repeat (first | refine aM ?_ _ | refine aQ ?_ | refine aJ ?_ _)); refine bU (cs := #[.int .i64 0, .int .i64 0, .int .i64 0, .int .i64 0, .slice none 0 0, .slice none 0 0]) ?_ 0 _ rfl; (with_reducible repeat (first | refine aM ?_ _ | refine aQ ?_ | refine aJ ?_ _)); exact dQ.out) Try.underlying50 rfl (by kernel_rfl)) rfl ?_
          exact ⟨_, _, by first | rfl | (simp [ag, af] <;> rfl) | (simp [*, ag, af] <;> rfl), by (with_reducible repeat (first | apply Kd.ai | apply Kd.ah | apply Kd.ax)); exact Kd.bV (Kd.bg (p := ⟨eU, 5, none⟩) (Kd.bg (p := ⟨eU, 4, none⟩) (Kd.bg (p := ⟨eU, 3, none⟩) (Kd.bg (p := ⟨eU, 2, none⟩) (Kd.bg (p := ⟨eU, 1, none⟩) (Kd.bg (p := ⟨eU, 0, none⟩) (Kd.eY HO217.out dQ.out (by decide)) (fun _ hk => hk.2) (.int .i64 t211)) (fun _ hk => hk.2) (.int .i64 t212)) (fun _ hk => hk.2) (.int .i64 t213)) (fun _ hk => hk.2) (.int .i64 t214)) (fun _ hk => hk.2) (.slice Ao51 t215.length co51)) (fun _ hk => hk.2) (.slice Ao52 t218.length co52)) (fun _ hk => hk.1.1.1), by (with_reducible repeat (first | apply Kd.ai | apply Kd.ah | apply Kd.ax)); exact Kd.bV (Kd.bg (p := ⟨eU, 5, none⟩) (Kd.bg (p := ⟨eU, 4, none⟩) (Kd.bg (p := ⟨eU, 3, none⟩) (Kd.bg (p := ⟨eU, 2, none⟩) (Kd.bg (p := ⟨eU, 1, none⟩) (Kd.bg (p := ⟨eU, 0, none⟩) (Kd.eY HO220.out dQ.out (by decide)) (fun _ hk => hk.2) (.int .i64 t211)) (fun _ hk => hk.2) (.int .i64 t212)) (fun _ hk => hk.2) (.int .i64 t213)) (fun _ hk => hk.2) (.int .i64 t214)) (fun _ hk => hk.2) (.slice Ao51 t215.length co51)) (fun _ hk => hk.2) (.slice Ao52 t218.length co52)) (fun _ hk => hk.1.1.1), by repeat (first | (with_reducible first | exact HB.out | apply aH | apply aG | apply aI | refine aN ?_ gL.out | refine aN ?_ jL.out) | exact HB.out)⟩
  · rw [if_neg c4] at H
    have gz : (t209 == 0) = false := beq_eq_false_iff_ne.mpr c4
    have c4b1 : (t209 != 0) = true := bne_iff_ne.mpr c4
    simp only [Option.some.injEq, Prod.mk.injEq] at H
    obtain ⟨rfl, rfl, rfl, rfl, rfl, rfl, rfl⟩ := H
    go_enter Try.func25, Try.ntmps25
    go_wp2_with (first | ((with_reducible refine bT (N := 4) rfl ?_); refine dD ?hg (N := 4) ?hd (cs := #[.int .i64 0, .int .i64 0, .int .i64 0, .int .i64 0, .slice none 0 0, .slice none 0 0]) (t := 50) ?hr ?_; (case hd => rfl); (case hg => rfl); (case hr => first | (go_simp; done) | (go_simp; rfl)); intro eU hg w53 hbox hb; have n0_ := aA.mk (aW (by repeat (first | (with_reducible first | exact HB.out | apply aH | apply aG | apply aI) | exact HB.out)) hb); have n1_ := aA.mk (hbox); have n2_ := aA.mk ((by rw [hg]; exact (aY (by repeat (first | (with_reducible first | exact HB.out | apply aH | apply aG | apply aI) | exact HB.out))) : w.heap.size ≤ eU)); have n3_ := aA.mk ((by rw [hg]; exact (aY (by repeat (first | (with_reducible first | exact HB.out | apply aH | apply aG | apply aI) | exact HB.out))) : w.heap.size ≤ eU)); clear HB; have HB := n0_; have dQ := n1_; have GW200 := n2_; have gL := n3_; clear n0_ n1_ n2_ n3_; clear hb hbox hg) | ((with_reducible refine bC (f := 17) rfl ?_); refine dV (some 17) rfl rfl Try.func17 (by kernel_rfl) rfl #[.int .i64 a0, .slice A1 l1.length c1] rfl (by (try simp only [List.map_toArray, List.map_cons, List.map_nil]); first | done | rfl | (simp only [List.length_drop, List.length_take]; rfl)) ?_; (with_reducible refine (gK.calls a0 _ _ l1 t201 t202 t203 t206 t209 _ ?dB ?dA A3.out).mono ?_); (case dB => repeat (first | exact (Kd.aX HR1.out HB.out) | (with_reducible refine Kd.bE ?_ _) | (with_reducible refine Kd.bD ?_ _) | (with_reducible refine Kd.bS ?_))); (case dA => exact HC1.out); rintro e w54 ⟨v204, v207, rfl, ho0, ho1, hb⟩; refine ⟨_, rfl, ?_⟩; have n0_ := aA.mk (Kd.gI ho0 (aY (by repeat (first | (with_reducible first | exact HB.out | apply aH | apply aG | apply aI | refine aN ?_ gL.out) | exact HB.out)))); have n1_ := aA.mk (Kd.gI ho1 (aY (by repeat (first | (with_reducible first | exact HB.out | apply aH | apply aG | apply aI | refine aN ?_ gL.out) | exact HB.out)))); have n2_ := aA.mk (bH (g := eU) (o := .cells #[.int .i64 0, .int .i64 0, .int .i64 0, .int .i64 0, .slice none 0 0, .slice none 0 0] 50 (0, 0)) (by (with_reducible repeat (first | refine aM ?_ _ | refine aQ ?_ | refine aJ ?_ _)); exact dQ.out) hb); have n3_ := aA.mk (aW (by repeat (first | (with_reducible first | exact HB.out | apply aH | apply aG | apply aI | refine aN ?_ gL.out) | exact HB.out)) hb); clear dQ; clear HB; have HO205 := n0_; have HO208 := n1_; have dQ := n2_; have HB := n3_; clear n0_ n1_ n2_ n3_; (try clear hb); (try clear hb2); (try clear hk); (try clear hi); (try clear ho0); (try clear ho1)) | ((with_reducible refine bT (N := 6) rfl ?_); refine dD ?hg (N := 6) ?hd (cs := #[.int .i64 0, .int .i64 0, .slice none 0 0, .slice none 0 0]) (t := 34) ?hr ?_; (case hd => rfl); (case hg => rfl); (case hr => first | (go_simp; done) | (go_simp; rfl)); intro dY hg w55 hbox hb; have n0_ := aA.mk (Kd.iD (by (with_reducible repeat (first | apply Kd.ai | apply Kd.ah | apply Kd.ax)); exact HO205.out) hb); have n1_ := aA.mk (Kd.iD (by (with_reducible repeat (first | apply Kd.ai | apply Kd.ah | apply Kd.ax)); exact HO208.out) hb); have n2_ := aA.mk (bH (g := eU) (o := .cells #[.int .i64 0, .int .i64 0, .int .i64 0, .int .i64 0, .slice none 0 0, .slice none 0 0] 50 (0, 0)) (by (with_reducible repeat (first | refine aM ?_ _ | refine aQ ?_ | refine aJ ?_ _)); exact dQ.out) hb); have n3_ := aA.mk (aW (by repeat (first | (with_reducible first | exact HB.out | apply aH | apply aG | apply aI | refine aN ?_ gL.out) | exact HB.out)) hb); have n4_ := aA.mk (hbox); have n5_ := aA.mk ((by rw [hg]; exact (aY (by repeat (first | (with_reducible first | exact HB.out | apply aH | apply aG | apply aI | refine aN ?_ gL.out) | exact HB.out))) : w.heap.size ≤ dY)); have n6_ := aA.mk ((by rw [hg]; exact (aY (by repeat (first | (with_reducible first | exact HB.out | apply aH | apply aG | apply aI | refine aN ?_ gL.out) | exact HB.out))) : w.heap.size ≤ dY)); have n7_ := aA.mk ((by rw [hg]; exact Nat.ne_of_lt (dM (g := eU) (o := .cells #[.int .i64 0, .int .i64 0, .int .i64 0, .int .i64 0, .slice none 0 0, .slice none 0 0] 50 (0, 0)) (by (with_reducible repeat (first | refine aM ?_ _ | refine aQ ?_ | refine aJ ?_ _)); exact dQ.out)) : eU ≠ dY)); have n8_ := aA.mk ((by rw [hg]; exact Nat.ne_of_gt (dM (g := eU) (o := .cells #[.int .i64 0, .int .i64 0, .int .i64 0, .int .i64 0, .slice none 0 0, .slice none 0 0] 50 (0, 0)) (by (with_reducible repeat (first | refine aM ?_ _ | refine aQ ?_ | refine aJ ?_ _)); exact dQ.out)) : dY ≠ eU)); clear HO205; clear HO208; clear dQ; clear HB; have HO205 := n0_; have HO208 := n1_; have dQ := n2_; have HB := n3_; have dE := n4_; have GW210 := n5_; have jL := n6_; have fP := n7_; have NB210_200 := n8_; clear n0_ n1_ n2_ n3_ n4_ n5_ n6_ n7_ n8_; clear hb hbox hg; have hnb56 := NB210_200.out; have hnc56 := fP.out; have hcz57_0 : w55.cell? ⟨dY, 0, none⟩ = some (.int .i64 0) := (aD dE.out 0).trans rfl; have hcz57_1 : w55.cell? ⟨dY, 1, none⟩ = some (.int .i64 0) := (aD dE.out 1).trans rfl; have hcz57_2 : w55.cell? ⟨dY, 2, none⟩ = some (.slice none 0 0) := (aD dE.out 2).trans rfl; have hcz57_3 : w55.cell? ⟨dY, 3, none⟩ = some (.slice none 0 0) := (aD dE.out 3).trans rfl; have hfz57_0 := aC dE.out 0; have hfz57_1 := aC dE.out 1; have hfz57_2 := aC dE.out 2; have hfz57_3 := aC dE.out 3; obtain ⟨Ao58, co58, eo58⟩ := Kd.cB HO205.out; subst eo58; obtain ⟨Ao59, co59, eo59⟩ := Kd.cB HO208.out; subst eo59; have hcz60_0 : w55.cell? ⟨eU, 0, none⟩ = some (.int .i64 0) := (aD dQ.out 0).trans rfl; have hcz60_1 : w55.cell? ⟨eU, 1, none⟩ = some (.int .i64 0) := (aD dQ.out 1).trans rfl; have hcz60_2 : w55.cell? ⟨eU, 2, none⟩ = some (.int .i64 0) := (aD dQ.out 2).trans rfl; have hcz60_3 : w55.cell? ⟨eU, 3, none⟩ = some (.int .i64 0) := (aD dQ.out 3).trans rfl; have hcz60_4 : w55.cell? ⟨eU, 4, none⟩ = some (.slice none 0 0) := (aD dQ.out 4).trans rfl; have hcz60_5 : w55.cell? ⟨eU, 5, none⟩ = some (.slice none 0 0) := (aD dQ.out 5).trans rfl; have hfz60_0 := aC dQ.out 0; have hfz60_1 := aC dQ.out 1; have hfz60_2 := aC dQ.out 2; have hfz60_3 := aC dQ.out 3; have hfz60_4 := aC dQ.out 4; have hfz60_5 := aC dQ.out 5))
    refine bodyPost_ret (iV rfl _ _ eU 50 #[.int .i64 0, .int .i64 0, .int .i64 0, .int .i64 0, .slice none 0 0, .slice none 0 0] (0, 0) _ rfl (by (with_reducible repeat (first | refine aM ?_ _ | refine aQ ?_ | refine aJ ?_ _)); refine bU (cs := #[.int .i64 0, .int .i64 0, .int .i64 0, .int .i64 0, .slice none 0 0, .slice none 0 0]) ?_ 5 _ rfl; (with_reducible repeat (first | refine aM ?_ _ | refine aQ ?_ | refine aJ ?_ _)); refine bU (cs := #[.int .i64 0, .int .i64 0, .int .i64 0, .int .i64 0, .slice none 0 0, .slice none 0 0]) ?_ 4 _ rfl; (with_reducible repeat (first | refine aM ?_ _ | refine aQ ?_ | refine aJ ?_ _)); refine bU (cs := #[.int .i64 0, .int .i64 0, .int .i64 0, .int .i64 0, .slice none 0 0, .slice none 0 0]) ?_ 3 _ rfl; (with_reducible repeat (first | refine aM ?_ _ | refine aQ ?_ | refine aJ ?_ _)); refine bU (cs := #[.int .i64 0, .int .i64 0, .int .i64 0, .int .i64 0, .slice none 0 0, .slice none 0 0]) ?_ 2 _ rfl; (with_reducible repeat (first | refine aM ?_ _ | refine aQ ?_ | refine aJ ?_ _)); refine bU (cs := #[.int .i64 0, .int .i64 0, .int .i64 0, .int .i64 0, .slice none 0 0, .slice none 0 0]) ?_ 1 _ rfl; (with_reducible repeat (first | refine aM ?_ _ | refine aQ ?_ | refine aJ ?_ _)); refine bU (cs := #[.int .i64 0, .int .i64 0, .int .i64 0, .int .i64 0, .slice none 0 0, .slice none 0 0]) ?_ 0 _ rfl; (with_reducible repeat (first | refine aM ?_ _ | refine aQ ?_ | refine aJ ?_ _)); refine bX ?_ fP.out _; (with_reducible repeat (first | refine aM ?_ _ | refine aQ ?_ | refine aJ ?_ _)); refine bX ?_ fP.out _; (with_reducible repeat (first | refine aM ?_ _ | refine aQ ?_ | refine aJ ?_ _)); refine bX ?_ fP.out _; (with_reducible repeat (first | refine aM ?_ _ | refine aQ ?_ | refine aJ ?_ _)); refine bX ?_ fP.out _; (with_reducible repeat (first | refine aM ?_ _ | refine aQ ?_ | refine aJ ?_ _)); exact dQ.out) Try.underlying50 rfl (by kernel_rfl)) rfl ?_
    exact ⟨_, _, by first | rfl | (simp [ag, af] <;> rfl) | (simp [*, ag, af] <;> rfl), by first | exact Kd.R_nil _ _ _ _ _ | exact Kd.N_nil _ _ _ _ _ | exact Kd.V_nil _ _ _ _ _ | exact Kd.Q_nil _ _ _ _ _ | exact Kd.S_nil _ _ _ _ _, by first | exact Kd.R_nil _ _ _ _ _ | exact Kd.N_nil _ _ _ _ _ | exact Kd.V_nil _ _ _ _ _ | exact Kd.Q_nil _ _ _ _ _ | exact Kd.S_nil _ _ _ _ _, by repeat (first | (with_reducible first | exact HB.out | apply aH | apply aG | apply aI | refine aN ?_ gL.out | refine aN ?_ jL.out) | exact HB.out)⟩
end Go.Proofs.Ytocejofjmmoeaaa.X
end

section
namespace Go.Proofs.Ytocejofjmmoeaaa.X
open Go.RowKit Go.Proofs.YtocejofjmmoeaaaW.PrintWords Go.Proofs.YtocejofjmmoeaaaW.PrintLast Go.Proofs.YtocejofjmmoeaaaW.PrintMore
open Go.Proofs.Ytocejofjmmoeaaa Go.Proofs.Ytocejofjmmoeaaa.Sp
def exL : List S57 := [⟨[], 0⟩, ⟨[0], 1⟩, ⟨[0, 0], 0⟩, ⟨[0, 0, 0], 1⟩]
theorem ex_pref : prefF 1 exL = (1, 4, [1, 2, 3, -1], [0, 1, 0, 1], 0) := by decide
theorem ex_right : rightF (1 : Nat) (4 : Nat) [1, 2, 3, -1] [0, 1, 0, 1] = 0 := by decide
theorem ex_rightP : RightP 4 1 [1, 2, 3, -1] [0, 1, 0, 1] := by
  obtain ⟨n, k, h1, h2, h3⟩ := rightF_zero ex_right
  have e1 : n = 4 := by omega
  have e2 : k = 1 := by omega
  subst e1 e2
  exact h3
theorem ex_no : mergeF 1 4 [1, 2, 3, -1] [0, 1, 0, 1] 0 1 = mzero 0 := by
  have h := mergeF_n (n := 4) (k := 1) (s := 0) (t := 1) ex_right (by decide) (by decide)
  exact h.trans (mergeN_no ex_rightP (by decide) (by decide) ⟨0, 1, by decide, by decide, .base, by decide, by decide⟩)
def exW : Nat → Nat := fun a => if a = 2 then 0 else if a = 3 then 1 else a
theorem gW : ∀ a, rootW exW a = exW a := fun a => by
  by_cases h2 : a = 2
  · subst h2
    rw [iT (by decide)]
    exact jT (by decide)
  · by_cases h3 : a = 3
    · subst h3
      rw [iT (by decide)]
      exact jT (by decide)
    · have e : exW a = a := by unfold exW; rw [if_neg h2, if_neg h3]
      rw [e]
      exact jT (by rw [e]; exact Nat.lt_irrefl _)
theorem ex_inv : JInv 4 1 (dOf 1 [1, 2, 3, -1]) (oOf [0, 1, 0, 1]) 0 2 exW (fun a _ => if a = 0 then 1 else 2) (fun a => if a = 0 then 0 else 1) [] where
  dn := fun s hs => by
    unfold exW
    split
    · omega
    · split <;> omega
  so := fun a ha => by
    rw [gW]
    have h02 : Tog 4 1 (dOf 1 [1, 2, 3, -1]) 0 2 0 2 := .base
    have h13 := Tog.step (x := 0) h02 (by decide) (by decide) (by decide) (by decide) (by decide)
    have e : a = 0 ∨ a = 1 ∨ a = 2 ∨ a = 3 := by omega
    rcases e with rfl | rfl | rfl | rfl
    · exact .refl _
    · exact .refl _
    · exact .symm h02
    · exact .symm h13
  qs := fun p hp => by cases hp
  nx := fun r hr h x hx => by
    rw [gW] at h
    have e : r = 0 ∨ r = 1 := by
      have e : r = 0 ∨ r = 1 ∨ r = 2 ∨ r = 3 := by omega
      rcases e with rfl | rfl | rfl | rfl
      · exact .inl rfl
      · exact .inr rfl
      · exact absurd h (by decide)
      · exact absurd h (by decide)
    have ex : x = 0 := by omega
    subst ex
    rcases e with rfl | rfl
    · exact .inr ⟨0, by decide, by rw [gW]; decide, by decide, by decide⟩
    · exact .inr ⟨1, by decide, by rw [gW]; decide, by decide, by decide⟩
  ou := fun r hr h => by
    rw [gW] at h
    have e : r = 0 ∨ r = 1 := by
      have e : r = 0 ∨ r = 1 ∨ r = 2 ∨ r = 3 := by omega
      rcases e with rfl | rfl | rfl | rfl
      · exact .inl rfl
      · exact .inr rfl
      · exact absurd h (by decide)
      · exact absurd h (by decide)
    rcases e with rfl | rfl
    · refine .inr ⟨.inl rfl, ⟨0, by decide, by rw [gW]; decide, by decide⟩, fun m hm h2 => ?_⟩
      rw [gW] at h2
      revert h2
      have e : m = 0 ∨ m = 1 ∨ m = 2 ∨ m = 3 := by omega
      rcases e with rfl | rfl | rfl | rfl <;> decide
    · refine .inr ⟨.inr rfl, ⟨1, by decide, by rw [gW]; decide, by decide⟩, fun m hm h2 => ?_⟩
      rw [gW] at h2
      revert h2
      have e : m = 0 ∨ m = 1 ∨ m = 2 ∨ m = 3 := by omega
      rcases e with rfl | rfl | rfl | rfl <;> decide
  cl := fun a b ha hb h x hx h1 h2 => by
    have ex : x = 0 := by omega
    subst ex
    refine .cls ?_
    rw [gW, gW] at h ⊢
    revert h h1 h2
    have ea : a = 0 ∨ a = 1 ∨ a = 2 ∨ a = 3 := by omega
    have eb : b = 0 ∨ b = 1 ∨ b = 2 ∨ b = 3 := by omega
    rcases ea with rfl | rfl | rfl | rfl <;> rcases eb with rfl | rfl | rfl | rfl <;> decide
  st := .cls (by rw [gW, gW]; decide)
theorem ex_rts : rts 4 exW = [0, 1] := by
  have h : rts 4 exW = (List.range 4).filter fun a => decide (exW a = a) := List.filter_congr fun a _ => by rw [gW]
  rw [h]
  decide
theorem ex_pos : pos exW 0 = 0 ∧ pos exW 1 = 1 := by
  have h : ∀ m, rts m exW = (List.range m).filter fun a => decide (exW a = a) := fun m => List.filter_congr fun a _ => by rw [gW]
  unfold pos
  rw [h, h]
  decide
theorem ex_yes : mergeF 1 4 [1, 2, 3, -1] [0, 1, 0, 1] 0 2 = (1, 2, [1, 0], [0, 1], true, 0) := by
  have h := mergeF_n (n := 4) (k := 1) (s := 0) (t := 2) ex_right (by decide) (by decide)
  refine (h.trans (mergeN_yes ex_rightP (by decide) (by decide) ex_inv)).trans ?_
  unfold mres
  rw [ex_rts]
  have w0 : wayP exW (fun a _ => if a = 0 then 1 else 2) 0 0 = 1 := by
    unfold wayP
    rw [if_neg (by decide), gW]
    exact congrArg Int.ofNat ex_pos.2
  have w1 : wayP exW (fun a _ => if a = 0 then 1 else 2) 1 0 = 0 := by
    unfold wayP
    rw [if_neg (by decide), gW]
    exact congrArg Int.ofNat ex_pos.1
  have q : qnx 1 exW (fun a _ => if a = 0 then 1 else 2) [0, 1] = [1, 0] := by
    simp only [qnx, li, List.range_succ, List.range_zero, List.nil_append, List.map_cons, List.map_nil, List.cons_append]
    rw [w0, w1]
  rw [q]
  rfl
theorem ex_whole : bM.f 1000 1 2 [1, 0] [0, 1] = some (1, 1, 2, 2, [1, 0], [0, 1], 0) := by kernel_rfl
theorem ex_learn : bA.f 1011 1 exL = some (1, 1, 2, 2, [1, 0], [0, 1], 0) := by
  have h1 : iC.f 1 4 [1, 2, 3, -1] [0, 1, 0, 1] 0 1 = some (0, 0, [], [], false, 0) := congrArg some ex_no
  have h2 : iC.f 1 4 [1, 2, 3, -1] [0, 1, 0, 1] 0 2 = some (1, 2, [1, 0], [0, 1], true, 0) := congrArg some ex_yes
  have e1 : wrap64 (0 + 1) = 1 := by kernel_rfl
  have e2 : wrap64 (1 + 1) = 2 := by kernel_rfl
  unfold bA.f gK.f
  rw [ex_pref]
  simp only [Option.bind_some, if_true]
  rw [bA.l0, if_pos (by decide), bA.l1, if_pos (by decide), bA.j2, if_pos (by decide), h1, Option.bind_some, if_neg (by decide), e1,
    bA.l1, if_neg (by decide), bA.j2, if_neg (by decide), if_neg (by decide), e2,
    bA.l0, if_pos (by decide), bA.l1, if_pos (by decide), bA.j2, if_pos (by decide), h2, Option.bind_some, if_pos (by decide), e1,
    bA.l1, if_pos (by decide), bA.j2, if_neg (by decide), if_pos (by decide),
    bA.l0, if_neg (by decide), ex_whole]
  rfl
end Go.Proofs.Ytocejofjmmoeaaa.X
end

section
namespace Go.Proofs.Ytocejofjmmoeaaa.X
open Go.RowKit Go.Proofs.YtocejofjmmoeaaaW.PrintWords Go.Proofs.YtocejofjmmoeaaaW.PrintLast Go.Proofs.YtocejofjmmoeaaaW.PrintMore
open Go.Proofs.Ytocejofjmmoeaaa Go.Proofs.Ytocejofjmmoeaaa.Sp
theorem ex_read {W : World} {g a b c : Nat} (hg : W.heap[g]? = some (.cells #[.slice none 0 0, .int .i64 0, .slice (some ⟨a, 0, none⟩) 1 1, .int .i64 1, .slice (some ⟨b, 0, none⟩) 2 2, .int .i64 0, .slice (some ⟨c, 0, none⟩) 3 3, .int .i64 1] 57 (0, 0))) (ha : W.heap[a]? = some (.cells #[.int .i64 0] 3 (0, 0))) (hb : W.heap[b]? = some (.cells #[.int .i64 0, .int .i64 0] 3 (0, 0))) (hc : W.heap[c]? = some (.cells #[.int .i64 0, .int .i64 0, .int .i64 0] 3 (0, 0))) : Kd.C k57 W (some ⟨g, 0, none⟩) 4 exL := by
  have hcell : ∀ (j i : Nat) (u : Value), (#[.slice none 0 0, .int .i64 0, .slice (some ⟨a, 0, none⟩) 1 1, .int .i64 1, .slice (some ⟨b, 0, none⟩) 2 2, .int .i64 0, .slice (some ⟨c, 0, none⟩) 3 3, .int .i64 1] : Array Value)[j * 2 + i]? = some u → W.cell? ((⟨g, 0, none⟩ : Addr).add (j * 2 + i)) = some u := fun j i u hu => by
    rw [Addr.add_mid, Nat.zero_add]
    exact (aD hg _).trans hu
  refine ⟨rfl, by decide, fun _ => ⟨⟨g, 0, none⟩, rfl, fun j p hj => ?_⟩⟩
  match j with
  | 0 =>
    obtain rfl := Option.some.inj hj
    exact ⟨[.slice none 0 0, .int .i64 0], rfl, k57_mk W ⟨[], 0⟩ (Nat.le_refl _) (Kd.C_nil _ _), fun i u hu => hcell 0 i u (by
      match i with
      | 0 => exact hu
      | 1 => exact hu
      | i + 2 => exact absurd hu (by simp))⟩
  | 1 =>
    obtain rfl := Option.some.inj hj
    exact ⟨[.slice (some ⟨a, 0, none⟩) 1 1, .int .i64 1], rfl, k57_mk W ⟨[0], 1⟩ (c0 := 1) (Nat.le_refl _) (lit_C ha rfl rfl (by decide)), fun i u hu => hcell 1 i u (by
      match i with
      | 0 => exact hu
      | 1 => exact hu
      | i + 2 => exact absurd hu (by simp))⟩
  | 2 =>
    obtain rfl := Option.some.inj hj
    exact ⟨[.slice (some ⟨b, 0, none⟩) 2 2, .int .i64 0], rfl, k57_mk W ⟨[0, 0], 0⟩ (c0 := 2) (Nat.le_refl _) (lit_C hb rfl rfl (by decide)), fun i u hu => hcell 2 i u (by
      match i with
      | 0 => exact hu
      | 1 => exact hu
      | i + 2 => exact absurd hu (by simp))⟩
  | 3 =>
    obtain rfl := Option.some.inj hj
    exact ⟨[.slice (some ⟨c, 0, none⟩) 3 3, .int .i64 1], rfl, k57_mk W ⟨[0, 0, 0], 1⟩ (c0 := 3) (Nat.le_refl _) (lit_C hc rfl rfl (by decide)), fun i u hu => hcell 3 i u (by
      match i with
      | 0 => exact hu
      | 1 => exact hu
      | i + 2 => exact absurd hu (by simp))⟩
  | j + 4 => exact absurd hj (by simp [exL])
theorem al_size (w : World) (o : Obj) : (w.alloc o).heap.size = w.heap.size + 1 := Array.size_push _
theorem ex_lits (w : World) : Kd.C k57 ((((w.alloc (.cells #[.int .i64 0] 3)).alloc (.cells #[.int .i64 0, .int .i64 0] 3)).alloc (.cells #[.int .i64 0, .int .i64 0, .int .i64 0] 3)).alloc (.cells #[.slice none 0 0, .int .i64 0, .slice (some ⟨w.heap.size, 0, none⟩) 1 1, .int .i64 1, .slice (some ⟨w.heap.size + 1, 0, none⟩) 2 2, .int .i64 0, .slice (some ⟨w.heap.size + 1 + 1, 0, none⟩) 3 3, .int .i64 1] 57)) (some ⟨w.heap.size + 1 + 1 + 1, 0, none⟩) 4 exL ∧ Below w.heap.size w ((((w.alloc (.cells #[.int .i64 0] 3)).alloc (.cells #[.int .i64 0, .int .i64 0] 3)).alloc (.cells #[.int .i64 0, .int .i64 0, .int .i64 0] 3)).alloc (.cells #[.slice none 0 0, .int .i64 0, .slice (some ⟨w.heap.size, 0, none⟩) 1 1, .int .i64 1, .slice (some ⟨w.heap.size + 1, 0, none⟩) 2 2, .int .i64 0, .slice (some ⟨w.heap.size + 1 + 1, 0, none⟩) 3 3, .int .i64 1] 57)) := by
  have h1 := aJ (aJ (aJ (fH w (.cells #[.int .i64 0] 3)) (.cells #[.int .i64 0, .int .i64 0] 3)) (.cells #[.int .i64 0, .int .i64 0, .int .i64 0] 3)) (.cells #[.slice none 0 0, .int .i64 0, .slice (some ⟨w.heap.size, 0, none⟩) 1 1, .int .i64 1, .slice (some ⟨w.heap.size + 1, 0, none⟩) 2 2, .int .i64 0, .slice (some ⟨w.heap.size + 1 + 1, 0, none⟩) 3 3, .int .i64 1] 57)
  have h2 := aJ (aJ (fH (w.alloc (.cells #[.int .i64 0] 3)) (.cells #[.int .i64 0, .int .i64 0] 3)) (.cells #[.int .i64 0, .int .i64 0, .int .i64 0] 3)) (.cells #[.slice none 0 0, .int .i64 0, .slice (some ⟨w.heap.size, 0, none⟩) 1 1, .int .i64 1, .slice (some ⟨w.heap.size + 1, 0, none⟩) 2 2, .int .i64 0, .slice (some ⟨w.heap.size + 1 + 1, 0, none⟩) 3 3, .int .i64 1] 57)
  have h3 := aJ (fH ((w.alloc (.cells #[.int .i64 0] 3)).alloc (.cells #[.int .i64 0, .int .i64 0] 3)) (.cells #[.int .i64 0, .int .i64 0, .int .i64 0] 3)) (.cells #[.slice none 0 0, .int .i64 0, .slice (some ⟨w.heap.size, 0, none⟩) 1 1, .int .i64 1, .slice (some ⟨w.heap.size + 1, 0, none⟩) 2 2, .int .i64 0, .slice (some ⟨w.heap.size + 1 + 1, 0, none⟩) 3 3, .int .i64 1] 57)
  have h4 := fH (((w.alloc (.cells #[.int .i64 0] 3)).alloc (.cells #[.int .i64 0, .int .i64 0] 3)).alloc (.cells #[.int .i64 0, .int .i64 0, .int .i64 0] 3)) (.cells #[.slice none 0 0, .int .i64 0, .slice (some ⟨w.heap.size, 0, none⟩) 1 1, .int .i64 1, .slice (some ⟨w.heap.size + 1, 0, none⟩) 2 2, .int .i64 0, .slice (some ⟨w.heap.size + 1 + 1, 0, none⟩) 3 3, .int .i64 1] 57)
  rw [al_size] at h2
  rw [al_size, al_size] at h3
  rw [al_size, al_size, al_size] at h4
  exact ⟨ex_read h4 h1 h2 h3, aH (aH (aH (aH (Below.refl _ _) _) _) _) _⟩
set_option maxHeartbeats 16000000 in
set_option maxRecDepth 100000 in
theorem live_walk (w : World) : Calls Try.prog 13 #[] w fun e w' => e = .returned (.bool true) ∧ Below w.heap.size w w' := by
  have hu34 := Try.underlying34
  have hu32 := Try.underlying32
  have hu50 := Try.underlying50
  have hu57 := Try.underlying57
  have hu22 := Try.underlying22
  go_enter Try.func13, Try.ntmps13
  go_wp2_with (first
  | (go_at_call 34; have hb := aH (Below.refl w12.heap.size w12) (.cells #[.int .i64 0, .int .i64 1] 3); have hnw := lit_C (fH w12 (.cells #[.int .i64 0, .int .i64 1] 3)) (xs := [0, 1]) (n := 2) rfl rfl (by decide); have HC4g0 := aA.mk (And.intro (Kd.aX HC4f.out.1 hb) HC4f.out.2); have HC5g0 := aA.mk (And.intro (Kd.aX HC5f.out.1 hb) HC5f.out.2); have HK4g0 := aA.mk ((hb.block _ (dM HK4f.out)).trans HK4f.out); have HK2g0 := aA.mk ((hb.block _ (dM HK2f.out)).trans HK2f.out); have HBg0 := aA.mk (aW HBf.out hb); clear HC4f HC5f HK4f HK2f HBf; refine (same_calls A5 2 c5 [0, 1] (some ⟨w12.heap.size, 0, none⟩) 2 2 [0, 1] (w12.alloc (.cells #[.int .i64 0, .int .i64 1] 3)) HC5g0.out.1 HC5g0.out.2 hnw (by decide) (by decide)).mono ?_; clear hb hnw; rintro e w13 ⟨he, hd⟩; obtain rfl : e = .returned (.bool true) := he; have hb := hd.below; have HC4g := aA.mk (And.intro (Kd.aX HC4g0.out.1 hb) HC4g0.out.2); have HC5g := aA.mk (And.intro (Kd.aX HC5g0.out.1 hb) HC5g0.out.2); have HK4g := aA.mk ((hb.block _ (dM HK4g0.out)).trans HK4g0.out); have HK2g := aA.mk ((hb.block _ (dM HK2g0.out)).trans HK2g0.out); have HBg := aA.mk (aW HBg0.out hb); clear HC4g0 HC5g0 HK4g0 HK2g0 HBg0; clear hd hb)
  | (go_at_call 34; have hb := aH (Below.refl w11.heap.size w11) (.cells #[.int .i64 1, .int .i64 0] 3); have hnw := lit_C (fH w11 (.cells #[.int .i64 1, .int .i64 0] 3)) (xs := [1, 0]) (n := 2) rfl rfl (by decide); have HC4f0 := aA.mk (And.intro (Kd.aX HC4e.out.1 hb) HC4e.out.2); have HC5f0 := aA.mk (And.intro (Kd.aX HC5e.out.1 hb) HC5e.out.2); have HK4f0 := aA.mk ((hb.block _ (dM HK4e.out)).trans HK4e.out); have HK2f0 := aA.mk ((hb.block _ (dM HK2e.out)).trans HK2e.out); have HBf0 := aA.mk (aW HBe.out hb); clear HC4e HC5e HK4e HK2e HBe; refine (same_calls A4 2 c4 [1, 0] (some ⟨w11.heap.size, 0, none⟩) 2 2 [1, 0] (w11.alloc (.cells #[.int .i64 1, .int .i64 0] 3)) HC4f0.out.1 HC4f0.out.2 hnw (by decide) (by decide)).mono ?_; clear hb hnw; rintro e w12 ⟨he, hd⟩; obtain rfl : e = .returned (.bool true) := he; have hb := hd.below; have HC4f := aA.mk (And.intro (Kd.aX HC4f0.out.1 hb) HC4f0.out.2); have HC5f := aA.mk (And.intro (Kd.aX HC5f0.out.1 hb) HC5f0.out.2); have HK4f := aA.mk ((hb.block _ (dM HK4f0.out)).trans HK4f0.out); have HK2f := aA.mk ((hb.block _ (dM HK2f0.out)).trans HK2f0.out); have HBf := aA.mk (aW HBf0.out hb); clear HC4f0 HC5f0 HK4f0 HK2f0 HBf0; clear hd hb; have hq5 : w12.cell? ⟨g4, 5, none⟩ = some (.slice A5 2 c5) := (aD HK4f.out 5).trans rfl)
  | (go_at_call 16; refine (fM.calls 0 0 w10 rfl).mono ?_; rintro e w11 ⟨rfl, hd⟩; have hb := hd.below; have HC4e := aA.mk (And.intro (Kd.aX HC4d.out.1 hb) HC4d.out.2); have HC5e := aA.mk (And.intro (Kd.aX HC5d.out.1 hb) HC5d.out.2); have HK4e := aA.mk ((hb.block _ (dM HK4d.out)).trans HK4d.out); have HK2e := aA.mk ((hb.block _ (dM HK2d.out)).trans HK2d.out); have HBe := aA.mk (aW HBd.out hb); clear HC4d HC5d HK4d HK2d HBd; clear hd hb; have hq1 : w11.cell? ⟨g2, 1, none⟩ = some (.int .i64 4) := (aD HK2e.out 1).trans rfl; have hq3 : w11.cell? ⟨g4, 3, none⟩ = some (.int .i64 2) := (aD HK4e.out 3).trans rfl; have hq4 : w11.cell? ⟨g4, 4, none⟩ = some (.slice A4 2 c4) := (aD HK4e.out 4).trans rfl)
  | (go_at_call 16; refine (fM.calls 0 0 w9 rfl).mono ?_; rintro e w10 ⟨rfl, hd⟩; have hb := hd.below; have HC4d := aA.mk (And.intro (Kd.aX HC4c.out.1 hb) HC4c.out.2); have HC5d := aA.mk (And.intro (Kd.aX HC5c.out.1 hb) HC5c.out.2); have HK4d := aA.mk ((hb.block _ (dM HK4c.out)).trans HK4c.out); have HK2d := aA.mk ((hb.block _ (dM HK2c.out)).trans HK2c.out); have HBd := aA.mk (aW HBc.out hb); clear HC4c HC5c HK4c HK2c HBc; clear hd hb)
  | (go_at_call 16; have hb := aH (Below.refl w7.heap.size w7) (.cells #[.int .i64 0, .int .i64 0, .slice A6 0 c6, .slice A7 0 c7] 34); have HC4b := aA.mk (And.intro (Kd.aX HC4a.out.1 hb) HC4a.out.2); have HC5b := aA.mk (And.intro (Kd.aX HC5a.out.1 hb) HC5a.out.2); have HK4b := aA.mk ((hb.block _ (dM HK4a.out)).trans HK4a.out); have HK2b := aA.mk ((hb.block _ (dM HK2a.out)).trans HK2a.out); have HBb := aA.mk (aW HBa.out hb); clear HC4a HC5a HK4a HK2a HBa; clear hb; generalize w7.alloc (.cells #[.int .i64 0, .int .i64 0, .slice A6 0 c6, .slice A7 0 c7] 34) = w8 at HC4b HC5b HK4b HK2b HBb ⊢; refine (fM.calls 0 0 w8 rfl).mono ?_; rintro e w9 ⟨rfl, hd⟩; have hb := hd.below; have HC4c := aA.mk (And.intro (Kd.aX HC4b.out.1 hb) HC4b.out.2); have HC5c := aA.mk (And.intro (Kd.aX HC5b.out.1 hb) HC5b.out.2); have HK4c := aA.mk ((hb.block _ (dM HK4b.out)).trans HK4b.out); have HK2c := aA.mk ((hb.block _ (dM HK2b.out)).trans HK2b.out); have HBc := aA.mk (aW HBb.out hb); clear HC4b HC5b HK4b HK2b HBb; clear hd hb)
  | (go_at_call 23; refine (iC.calls 1 4 A2 c2 [1, 2, 3, -1] A3 c3 [0, 1, 0, 1] 0 1 0 0 [] [] false 0 (w6.alloc (.cells #[.int .i64 1, .int .i64 1, .int .i64 2, .int .i64 2, .slice A4 2 c4, .slice A5 2 c5] 50)) (Kd.aX HC2a.out.1 (aH (Below.refl _ _) _)) HC2a.out.2 (Kd.aX HC3a.out.1 (aH (Below.refl _ _) _)) HC3a.out.2 (congrArg some ex_no)).mono ?_; rintro e w7 ⟨v6, v7, rfl, hR6, hR7, hb⟩; obtain ⟨A6, c6, hv6⟩ := Kd.cB hR6; obtain ⟨A7, c7, hv7⟩ := Kd.cB hR7; subst hv6 hv7; have hbb := aW (aH (Below.refl w6.heap.size w6) (.cells #[.int .i64 1, .int .i64 1, .int .i64 2, .int .i64 2, .slice A4 2 c4, .slice A5 2 c5] 50)) hb; have HC4a := aA.mk (And.intro (Kd.aX HC4.out.1 hbb) HC4.out.2); have HC5a := aA.mk (And.intro (Kd.aX HC5.out.1 hbb) HC5.out.2); have HK4a := aA.mk ((hb.block _ (dM (fH w6 (.cells #[.int .i64 1, .int .i64 1, .int .i64 2, .int .i64 2, .slice A4 2 c4, .slice A5 2 c5] 50)))).trans (fH w6 _)); have HK2a := aA.mk ((hbb.block _ (dM HK2.out)).trans HK2.out); have HBa := aA.mk (aW (aH HB6.out (.cells #[.int .i64 1, .int .i64 1, .int .i64 2, .int .i64 2, .slice A4 2 c4, .slice A5 2 c5] 50)) hb); clear hR6 hR7 hb hbb HB6 HC4 HC5 HK2 HC2a HC3a; generalize w6.heap.size = g4 at HK4a ⊢; generalize w5.heap.size = g2 at HK2a ⊢)
  | ((with_reducible refine bT (N := 28) rfl ?_)
     refine wpList_load_row rfl 34 (.tmp 2) rfl w5.heap.size rfl 34 #[.int .i64 1, .int .i64 4, .slice A2 4 c2, .slice A3 4 c3] (0, 0) _ (aJ HK2.out _) Try.underlying34 rfl ?_ ?_
     (focus (rw [i34]; rfl)))
  | (go_at_call 25; refine (bA.calls 1011 1 (some ⟨gl, 0, none⟩) 4 exL 1 1 2 2 [1, 0] [0, 1] 0 (w5.alloc (.cells #[.int .i64 1, .int .i64 4, .slice A2 4 c2, .slice A3 4 c3] 34)) (Kd.aX HL5.out (aH (Below.refl _ _) _)) (by decide) ex_learn).mono ?_; rintro e w6 ⟨v4, v5, rfl, hR4, hR5, hb⟩; obtain ⟨A4, c4, hv4⟩ := Kd.cB hR4; obtain ⟨A5, c5, hv5⟩ := Kd.cB hR5; have hv4' : v4 = .slice A4 2 c4 := hv4; have hv5' : v5 = .slice A5 2 c5 := hv5; subst hv4' hv5'; have HC4 := aA.mk (row_C hR4); have HC5 := aA.mk (row_C hR5); have hbb := aW (aH (Below.refl w5.heap.size w5) (.cells #[.int .i64 1, .int .i64 4, .slice A2 4 c2, .slice A3 4 c3] 34)) hb; have HC2a := aA.mk (And.intro (Kd.aX HC2.out.1 hbb) HC2.out.2); have HC3a := aA.mk (And.intro (Kd.aX HC3.out.1 hbb) HC3.out.2); have hk2 : w6.heap[w5.heap.size]? = some (.cells #[.int .i64 1, .int .i64 4, .slice A2 4 c2, .slice A3 4 c3] 34 (0, 0)) := (hb.block _ (dM (fH w5 _))).trans (fH w5 _); have HK2 := aA.mk hk2; have HB6 := aA.mk (aW (aH HB5.out (.cells #[.int .i64 1, .int .i64 4, .slice A2 4 c2, .slice A3 4 c3] 34)) hb); clear hR4 hR5 hb hbb hk2 hv4 hv5 HL5 HB5 HC2 HC3)
  | (go_at_call 17; have hlit := ex_lits w; have HL := aA.mk hlit.1; have HB := aA.mk hlit.2; clear hlit; generalize w.heap.size + 1 + 1 + 1 = gl at HL ⊢; generalize ((((w.alloc (.cells #[.int .i64 0] 3)).alloc (.cells #[.int .i64 0, .int .i64 0] 3)).alloc (.cells #[.int .i64 0, .int .i64 0, .int .i64 0] 3)).alloc (.cells #[.slice none 0 0, .int .i64 0, .slice (some ⟨w.heap.size, 0, none⟩) 1 1, .int .i64 1, .slice (some ⟨w.heap.size + 1, 0, none⟩) 2 2, .int .i64 0, .slice (some ⟨w.heap.size + 1 + 1, 0, none⟩) 3 3, .int .i64 1] 57)) = w4 at HL HB ⊢; refine (gK.calls 1 (some ⟨gl, 0, none⟩) 4 exL 1 4 [1, 2, 3, -1] [0, 1, 0, 1] 0 w4 HL.out (by decide) (congrArg some ex_pref)).mono ?_; rintro e w5 ⟨v2, v3, rfl, hR2, hR3, hb⟩; obtain ⟨A2, c2, hv2⟩ := Kd.cB hR2; obtain ⟨A3, c3, hv3⟩ := Kd.cB hR3; have hv2' : v2 = .slice A2 4 c2 := hv2; have hv3' : v3 = .slice A3 4 c3 := hv3; subst hv2' hv3'; have HC2 := aA.mk (row_C hR2); have HC3 := aA.mk (row_C hR3); have HL5 := aA.mk (Kd.aX HL.out hb); have HB5 := aA.mk (aW HB.out hb); clear hR2 hR3 hb hv2 hv3 HL HB))
  go_ret
  exact ⟨rfl, HBg.out⟩
def fD.f : Option Bool := some true
theorem fD.calls (r1 : Bool) (w : World) (h : fD.f = some r1) : Calls Try.prog 13 #[] w fun e w' => e = .returned (.bool r1) ∧ Below w.heap.size w w' := by
  obtain rfl := Option.some.inj h
  exact live_walk w
end Go.Proofs.Ytocejofjmmoeaaa.X
end

section
namespace Go.Proofs.Ytocejofjmmoeaaa.X
open Go.RowKit Go.Proofs.YtocejofjmmoeaaaW.PrintWords Go.Proofs.YtocejofjmmoeaaaW.PrintLast Go.Proofs.YtocejofjmmoeaaaW.PrintMore
open Go.Proofs.Ytocejofjmmoeaaa Go.Proofs.Ytocejofjmmoeaaa.Sp
theorem Ev.const {α : Type} {g : Option α} {r : α} (h : g = some r) : Ev (fun _ => g) r := ⟨0, fun _ _ => h⟩
end Go.Proofs.Ytocejofjmmoeaaa.X
end

section
namespace Go.Proofs.Ytocejofjmmoeaaa.X
open Go.RowKit Go.Proofs.YtocejofjmmoeaaaW.PrintWords Go.Proofs.YtocejofjmmoeaaaW.PrintLast Go.Proofs.YtocejofjmmoeaaaW.PrintMore
open Go.Proofs.Ytocejofjmmoeaaa Go.Proofs.Ytocejofjmmoeaaa.Sp
theorem any_cons (p : Int → Bool) (a : Int) (l : List Int) : (a :: l).any p = (p a || l.any p) := rfl
theorem right_l1 (K N : Int) (nx out : List Int) (hl : out.length ≤ 1000000000) : ∀ (d i : Nat), i + d = out.length → Ev (fun k => aV.l1 k (i : Int) K N nx out) (if (out.drop i).any (outB 1) = true then 33 else 0) := by
  intro d
  induction d with
  | zero =>
    intro i h
    rw [List.drop_of_length_le (by omega)]
    exact Ev.step (fun k => by rw [aV.l1, if_neg (by omega)]) (Ev.now 0)
  | succ d ih =>
    intro i h
    have hi : i < out.length := by omega
    rw [List.drop_eq_getElem_cons hi, any_cons]
    by_cases h1 : out[i] < -1
    · rw [if_pos (by unfold outB; simp [h1])]
      exact Ev.step (fun k => by rw [aV.l1, if_pos (by omega), if_pos (by omega), iq hi, if_pos h1]) (Ev.now 33)
    · by_cases h2 : out[i] > 1
      · rw [if_pos (by unfold outB; simp [h2])]
        exact Ev.step (fun k => by rw [aV.l1, if_pos (by omega), if_pos (by omega), iq hi, if_neg h1, if_pos h2]) (Ev.now 33)
      · have e : outB 1 out[i] = false := by unfold outB; simp [h1, h2]
        rw [e, Bool.false_or]
        exact Ev.step (fun k => by rw [aV.l1, if_pos (by omega), if_pos (by omega), iq hi, if_neg h1, if_neg h2, w64s (by omega)]) (ih (i + 1) (by omega))
theorem right_l0 (K N : Int) (nx out : List Int) (hl : out.length ≤ 1000000000) (hn : nx.length ≤ 1000000000) : ∀ (d i : Nat), i + d = nx.length → Ev (fun k => aV.l0 k (i : Int) K N nx out) (if (nx.drop i).any (outB (N - 1)) = true then 32 else if out.any (outB 1) = true then 33 else 0) := by
  intro d
  induction d with
  | zero =>
    intro i h
    rw [List.drop_of_length_le (by omega), if_neg (by simp)]
    exact Ev.step (fun k => by rw [aV.l0, if_neg (by omega)]; rfl) ((right_l1 K N nx out hl out.length 0 (by omega)))
  | succ d ih =>
    intro i h
    have hi : i < nx.length := by omega
    rw [List.drop_eq_getElem_cons hi, any_cons]
    by_cases h1 : nx[i] < -1
    · rw [if_pos (by unfold outB; simp [h1])]
      exact Ev.step (fun k => by rw [aV.l0, if_pos (by omega), if_pos (by omega), iq hi, if_pos h1]) (Ev.now 32)
    · by_cases h2 : nx[i] ≥ N
      · rw [if_pos (by unfold outB; rw [decide_eq_true (show nx[i] > N - 1 by omega)]; simp)]
        exact Ev.step (fun k => by rw [aV.l0, if_pos (by omega), if_pos (by omega), iq hi, if_neg h1, if_pos h2]) (Ev.now 32)
      · have e : outB (N - 1) nx[i] = false := by unfold outB; rw [decide_eq_false h1, decide_eq_false (show ¬ nx[i] > N - 1 by omega)]; rfl
        rw [e, Bool.false_or]
        exact Ev.step (fun k => by rw [aV.l0, if_pos (by omega), if_pos (by omega), iq hi, if_neg h1, if_neg h2, w64s (by omega)]) (ih (i + 1) (by omega))
theorem right_ev (K N : Int) (nx out : List Int) : Ev (fun k => aV.f k K N nx out) (rightF K N nx out) := by
  unfold aV.f rightF
  by_cases h1 : K < 1
  · rw [if_pos (.inl h1)]
    exact Ev.congr (fun k => if_pos h1) (Ev.step (fun k => by rw [aV.j0, if_pos rfl]) (Ev.now 1))
  · refine Ev.congr (fun k => if_neg h1) ?_
    by_cases h2 : K > 64
    · rw [if_pos (.inr h2)]
      exact Ev.step (fun k => by rw [aV.j0, if_pos (decide_eq_true h2)]) (Ev.now 1)
    · rw [if_neg (by omega)]
      refine Ev.step (fun k => by rw [aV.j0, if_neg (by simp; omega)]) ?_
      by_cases h3 : N < 1
      · rw [if_pos (.inl h3)]
        exact Ev.congr (fun k => if_pos h3) (Ev.step (fun k => by rw [aV.j1, if_pos rfl]) (Ev.now 3))
      · refine Ev.congr (fun k => if_neg h3) ?_
        by_cases h4 : N > 65536
        · rw [if_pos (.inr h4)]
          exact Ev.step (fun k => by rw [aV.j1, if_pos (decide_eq_true h4)]) (Ev.now 3)
        · rw [if_neg (show ¬ (N < 1 ∨ N > 65536) by omega)]
          refine Ev.step (fun k => by rw [aV.j1, if_neg (by simp; omega)]) ?_
          obtain ⟨n, rfl⟩ : ∃ n : Nat, N = (n : Int) := ⟨N.toNat, by omega⟩
          obtain ⟨c, rfl⟩ : ∃ c : Nat, K = (c : Int) := ⟨K.toNat, by omega⟩
          have hnc : n * c ≤ 65536 * 64 := Nat.mul_le_mul (by omega) (by omega)
          have e : wrap64 ((n : Int) * (c : Int)) = ((n * c : Nat) : Int) := by rw [← Int.natCast_mul]; unfold wrap64; omega
          rw [e, ← Int.natCast_mul]
          by_cases h5 : (nx.length : Int) = ((n * c : Nat) : Int)
          · refine Ev.congr (fun k => if_pos h5) ?_
            by_cases h6 : (out.length : Int) = (n : Int)
            · rw [if_neg (by omega)]
              refine Ev.step (fun k => by rw [aV.j2, if_neg (by simp; omega)]) ?_
              exact right_l0 c n nx out (by omega) (by omega) nx.length 0 (by omega)
            · rw [if_pos (.inr h6)]
              exact Ev.step (fun k => by rw [aV.j2, if_pos (by simpa using h6)]) (Ev.now 31)
          · rw [if_pos (.inl h5)]
            exact Ev.congr (fun k => if_neg h5) (Ev.step (fun k => by rw [aV.j2, if_pos rfl]) (Ev.now 31))
/-- Where a word leads; none: it is not known. -/
def toS (d : Nat → Nat → Int) : Nat → List Int → Option Nat
  | s, [] => some s
  | s, x :: w => if d s x.toNat < 0 then none else toS d (d s x.toNat).toNat w
def sayS (d : Nat → Nat → Int) (o : Nat → Int) (w : List Int) : Int := match toS d 0 w with
  | none => -1
  | some s => o s
def sayF (K N : Int) (nx out w : List Int) : Int × Int := if rightF K N nx out ≠ 0 then (0, rightF K N nx out) else if wordErr K.toNat w ≠ 0 then (0, wordErr K.toNat w) else (sayS (dOf K.toNat nx) (oOf out) w, 0)
theorem at_idx {n k : Nat} (hn : n ≤ 65536) (hk : k ≤ 64) {a x : Nat} (ha : a < n) (hx : x < k) : wrap64 (wrap64 ((a : Int) * (k : Int)) + (x : Int)) = ((a * k + x : Nat) : Int) := by
  obtain ⟨B, I, h1, h2, h3, h4, _⟩ := idx_at (L := n * k) rfl hn hk ha hx
  rw [h3, h4, h2]
section
variable {n k : Nat} {nx out : List Int}
theorem says_l0 (hp : RightP n k nx out) (w : List Int) (hw : w.length ≤ 4096 ∧ ∀ x ∈ w, 0 ≤ x ∧ x < (k : Int)) : ∀ (d i s : Nat), i + d = w.length → s < n → Ev (fun q => dS.l0 q (s : Int) w (w.length : Int) (i : Int) (k : Int) (n : Int) nx out) ((match toS (dOf k nx) s (w.drop i) with | none => -1 | some s => oOf out s), 0) := by
  intro d
  induction d with
  | zero =>
    intro i s h hs
    rw [List.drop_of_length_le (by omega)]
    exact Ev.step (fun q => by rw [dS.l0, if_neg (by omega), if_pos (by omega), if_pos (by have := hp.ol; omega)]; rfl) (Ev.now _)
  | succ d ih =>
    intro i s h hs
    have hi : i < w.length := by omega
    obtain ⟨x, hx⟩ : ∃ x : Nat, w[i] = (x : Int) := ⟨w[i].toNat, by have := hw.2 _ (List.getElem_mem hi); omega⟩
    have hxk : x < k := by have := (hw.2 _ (List.getElem_mem hi)).2; omega
    have hlt := tab_lt hs hxk
    rw [List.drop_eq_getElem_cons hi, hx, toS, Int.toNat_natCast]
    have e := at_idx hp.nm hp.k64 hs hxk
    have hd : rd nx ((s * k + x : Nat) : Int) = dOf k nx s x := rfl
    have hnl := hp.nl
    obtain ⟨I, hI⟩ : ∃ I, s * k + x = I := ⟨_, rfl⟩
    rw [hI] at hlt e hd
    rw [← hnl] at hlt
    have c1 : (i : Int) < (w.length : Int) := by clear e; omega
    have c2 : (0 : Int) ≤ (i : Int) := by clear e; omega
    have c3 : (0 : Int) ≤ (I : Int) := by clear e; omega
    have c4 : (I : Int) < (nx.length : Int) := by clear e; omega
    have c5 : (0 : Int) ≤ (s : Int) := by clear e; omega
    have e3 := w64s (a := i) (by have := hw.1; clear e; omega)
    have hbb := hp.nb s x hs hxk
    have hb2 : ¬ dOf k nx s x < 0 → (dOf k nx s x).toNat < n := fun h => by clear e; omega
    by_cases hn : dOf k nx s x < 0
    · rw [if_pos hn]
      exact Ev.step (fun q => by rw [dS.l0, if_pos c1, if_pos c2, if_pos c1, iq hi, hx, e, if_pos c3, if_pos c4, hd, if_pos hn]) (Ev.now _)
    · rw [if_neg hn]
      refine Ev.step (fun q => by rw [dS.l0, if_pos c1, if_pos c2, if_pos c1, iq hi, hx, e, if_pos c3, if_pos c4, hd, if_neg hn, e3]) ?_
      have h2 := ih (i + 1) (dOf k nx s x).toNat (by clear e e3; omega) (hb2 hn)
      rw [Int.toNat_of_nonneg (by clear e e3; omega)] at h2
      exact h2
theorem rsays_l0 (hp : RightP n k nx out) (w : List Int) (hw : w.length ≤ 4096 ∧ ∀ x ∈ w, 0 ≤ x ∧ x < (k : Int)) : ∀ (d i s : Nat), i + d = w.length → s < n → Ev (fun q => bZ.l0 q w (s : Int) (i : Int) (k : Int) (n : Int) nx out) ((match toS (dOf k nx) s (w.drop i) with | none => -1 | some s => oOf out s), 0) := by
  intro d
  induction d with
  | zero =>
    intro i s h hs
    rw [List.drop_of_length_le (by omega)]
    exact Ev.step (fun q => by rw [bZ.l0, if_neg (by omega), if_neg (by omega), if_pos (by omega), if_pos (by have := hp.ol; omega)]; rfl) (Ev.now _)
  | succ d ih =>
    intro i s h hs
    have hi : i < w.length := by omega
    obtain ⟨x, hx⟩ : ∃ x : Nat, w[i] = (x : Int) := ⟨w[i].toNat, by have := hw.2 _ (List.getElem_mem hi); omega⟩
    have hxk : x < k := by have := (hw.2 _ (List.getElem_mem hi)).2; omega
    have hlt := tab_lt hs hxk
    rw [List.drop_eq_getElem_cons hi, hx, toS, Int.toNat_natCast]
    have e := at_idx hp.nm hp.k64 hs hxk
    have hd : rd nx ((s * k + x : Nat) : Int) = dOf k nx s x := rfl
    have hnl := hp.nl
    obtain ⟨I, hI⟩ : ∃ I, s * k + x = I := ⟨_, rfl⟩
    rw [hI] at hlt e hd
    rw [← hnl] at hlt
    have c1 : (i : Int) < (w.length : Int) := by clear e; omega
    have c2 : (0 : Int) ≤ (i : Int) := by clear e; omega
    have c3 : (0 : Int) ≤ (I : Int) := by clear e; omega
    have c4 : (I : Int) < (nx.length : Int) := by clear e; omega
    have c5 : (0 : Int) ≤ (s : Int) := by clear e; omega
    have e3 := w64s (a := i) (by have := hw.1; clear e; omega)
    have hbb := hp.nb s x hs hxk
    have hb2 : ¬ dOf k nx s x < 0 → (dOf k nx s x).toNat < n := fun h => by clear e; omega
    refine Ev.step (fun q => by rw [bZ.l0, if_pos c1, if_pos c5, if_pos c2, iq hi, hx, e, if_pos c3, if_pos c4, hd, e3]) ?_
    by_cases hn : dOf k nx s x < 0
    · rw [if_pos hn]
      have hge : ¬ dOf k nx s x ≥ 0 := by clear e e3; omega
      by_cases hi2 : ((i + 1 : Nat) : Int) < (w.length : Int)
      · exact Ev.step (fun q => by rw [bZ.l0, if_pos hi2, if_neg hge, if_pos hn]) (Ev.now _)
      · exact Ev.step (fun q => by rw [bZ.l0, if_neg hi2, if_pos hn]) (Ev.now _)
    · rw [if_neg hn]
      have h2 := ih (i + 1) (dOf k nx s x).toNat (by clear e e3; omega) (hb2 hn)
      rw [Int.toNat_of_nonneg (by clear e e3; omega)] at h2
      exact h2
end
theorem word_ev {K : Nat} (l : List Int) (h0 : 1 ≤ K) (h1 : K ≤ 64) : ∃ a, Ev (fun q => bY.f q l (K : Int)) (a, wordErr K l) := by
  obtain ⟨a, ha⟩ := word_is (l := l) h0 h1
  exact ⟨a, Ev.of (fun q => bY.mono l (K : Int) q) ha⟩
theorem wcheck_ev {K : Nat} (l : List Int) (h0 : 1 ≤ K) (h1 : K ≤ 64) : ∃ a, Ev (fun q => aZ.f q l (K : Int)) (a, wordErr K l) := by
  obtain ⟨a, ha⟩ := wcheck_f K l h0 h1 (l.length + 2) (Nat.le_refl _)
  exact ⟨a, Ev.of (fun q => aZ.mono l (K : Int) q) ha⟩
theorem says_ev (K N : Int) (nx out w : List Int) : Ev (fun q => dS.f q K N nx out w) (sayF K N nx out w) := by
  unfold dS.f sayF
  refine Ev.bind (Ev.const (r := rightF K N nx out) rfl) ?_
  by_cases h : rightF K N nx out = 0
  · rw [if_neg (by rw [h]; omega)]
    obtain ⟨n, k, rfl, rfl, hp⟩ := rightF_zero h
    refine Ev.congr (fun q => if_pos h) ?_
    obtain ⟨a, ha⟩ := word_ev w hp.k1 hp.k64
    refine Ev.bind ha ?_
    rw [Int.toNat_natCast]
    by_cases hw : wordErr k w = 0
    · rw [if_neg (by rw [hw]; omega)]
      refine Ev.congr (fun q => if_pos hw) ?_
      exact says_l0 hp w (kv hw) w.length 0 0 (by omega) hp.n1
    · rw [if_pos hw]
      exact Ev.congr (fun q => if_neg hw) (Ev.now _)
  · rw [if_pos h]
    exact Ev.congr (fun q => if_neg h) (Ev.now _)
theorem rsays_ev (K N : Int) (nx out w : List Int) : Ev (fun q => bZ.f q K N nx out w) (sayF K N nx out w) := by
  unfold bZ.f sayF
  refine Ev.bind (right_ev K N nx out) ?_
  by_cases h : rightF K N nx out = 0
  · rw [if_neg (by rw [h]; omega)]
    obtain ⟨n, k, rfl, rfl, hp⟩ := rightF_zero h
    refine Ev.congr (fun q => if_pos h) ?_
    obtain ⟨a, ha⟩ := wcheck_ev w hp.k1 hp.k64
    refine Ev.bind ha ?_
    rw [Int.toNat_natCast]
    by_cases hw : wordErr k w = 0
    · rw [if_neg (by rw [hw]; omega)]
      refine Ev.congr (fun q => if_pos hw) ?_
      exact rsays_l0 hp w (kv hw) w.length 0 0 (by omega) hp.n1
    · rw [if_pos hw]
      exact Ev.congr (fun q => if_neg hw) (Ev.now _)
  · rw [if_pos h]
    exact Ev.congr (fun q => if_neg h) (Ev.now _)
end Go.Proofs.Ytocejofjmmoeaaa.X
end

section
namespace Go.Proofs.Ytocejofjmmoeaaa.X
open Go.RowKit Go.Proofs.YtocejofjmmoeaaaW.PrintWords Go.Proofs.YtocejofjmmoeaaaW.PrintLast Go.Proofs.YtocejofjmmoeaaaW.PrintMore
attribute [local go_sem] eZ eu fV fU eP eO fF fE   -- for this text's walks alone
set_option linter.unusedVariables false
set_option linter.unusedSimpArgs false
def bJ.j0 : Nat → List Int → Bool → Int → Int → List Int → List Int → Option (Bool)
  | 0, _, _, _, _, _, _ => none
  | k + 1, x1, x15, x572000, x572001, x572002, x572003 => if x15 = true then ((fD.f).bind fun t573 => (some t573)) else ((dS.f k x572000 x572001 x572002 x572003 x1).bind fun bt574 => ((bZ.f k x572000 x572001 x572002 x572003 x1).bind fun bt576 => (if bt574.1 = bt576.1 then ((fM.f bt574.2).bind fun t578 => (if t578 = bt576.2 then ((fD.f).bind fun t579 => (some t579)) else (some false))) else (some false))))
def bJ.f (k : Nat) (aT : Int) (aU : Int) (aa : List Int) (ak : List Int) (l1 : List Int) : Option (Bool) := (fw.f aT aU aa ak).bind fun t572 => (if t572 = true then (bJ.j0 k l1 true aT aU aa ak) else (bJ.j0 k l1 (decide ((l1.length : Int) > 5000)) aT aU aa ak))
set_option maxHeartbeats 8000000 in
set_option maxRecDepth 100000 in
theorem bJ.calls (k : Nat) (aT : Int) (aU : Int) (bv : Option Addr) (bq : Nat) (aa : List Int) (bu : Option Addr) (bn : Nat) (ak : List Int) (A1 : Option Addr) (c1 : Nat) (l1 : List Int) (r : Bool) (w : World) (jv : Kd.C (Kd.int .i64) w bv aa.length aa) (kU : aa.length ≤ bq) (jr : Kd.C (Kd.int .i64) w bu ak.length ak) (kT : ak.length ≤ bn) (hr1 : Kd.C (Kd.int .i64) w A1 l1.length l1) (hc1 : l1.length ≤ c1) (h : bJ.f k aT aU aa ak l1 = some r) :
    Calls Try.prog 8 #[.agg #[.int .i64 aT, .int .i64 aU, .slice bv aa.length bq, .slice bu ak.length bn], .slice A1 l1.length c1] w fun e w' => e = .returned (.bool r) ∧ Below w.heap.size w w' := by
  have hu34 := Try.underlying34
  have gX := aA.mk jv
  have jV := aA.mk kU
  clear jv kU
  have gu := aA.mk jr
  have jU := aA.mk kT
  clear jr kT
  have HR1 := aA.mk hr1
  have HC1 := aA.mk hc1
  clear hr1 hc1
  have HB := aA.mk (Below.refl w.heap.size w)
  have H : ((fw.f aT aU aa ak).bind fun t572 => (if t572 = true then (bJ.j0 k l1 true aT aU aa ak) else (bJ.j0 k l1 (decide ((l1.length : Int) > 5000)) aT aU aa ak))) = some r := h
  clear h
  have HC3 := aA.mk H
  clear H
  go_enter Try.func8, Try.ntmps8
  go_upto_region 1 with (first | ((with_reducible refine bT (N := 2) rfl ?_); (try (refine lJ (by rfl) ?_; dsimp only)); refine dD ?hg (N := 2) ?hd (cs := #[.int .i64 aT, .int .i64 aU, .slice bv aa.length bq, .slice bu ak.length bn]) (t := 34) ?hr ?_; (case hd => rfl); (case hg => rfl); (case hr => first | (go_simp; done) | (go_simp; rfl)); intro fQ hg w4 hbox hb; have n0_ := aA.mk (aW (by repeat (first | (with_reducible first | exact HB.out | apply aH | apply aG | apply aI) | exact HB.out)) hb); have n1_ := aA.mk (hbox); have n2_ := aA.mk ((by rw [hg]; exact (aY (by repeat (first | (with_reducible first | exact HB.out | apply aH | apply aG | apply aI) | exact HB.out))) : w.heap.size ≤ fQ)); have n3_ := aA.mk ((by rw [hg]; exact (aY (by repeat (first | (with_reducible first | exact HB.out | apply aH | apply aG | apply aI) | exact HB.out))) : w.heap.size ≤ fQ)); clear HB; have HB := n0_; have dC := n1_; have GW571 := n2_; have GE571 := n3_; clear n0_ n1_ n2_ n3_; clear hb hbox hg))
  (try simp only [Act.put, List.setIfInBounds_toArray, List.set_cons_zero, List.set_cons_succ])
  go_cut [15] (fun v15 wc => ∃ (kq : Nat) (x15_2 : Bool), v15 = .bool x15_2 ∧ aA (bJ.j0 kq l1 x15_2 aT aU aa ak = some r) ∧ aA (kq ≤ k) ∧ aA (wc.heap[fQ]? = some (.cells #[.int .i64 aT, .int .i64 aU, (.slice bv aa.length bq), (.slice bu ak.length bn)] 34 (0, 0))) ∧ aA (Below w.heap.size w wc))
  case first =>
    have H := HC3.out
    clear HC3
    replace H := Option.bind_eq_some_iff.mp H
    obtain ⟨t572, A50, H⟩ := H
    replace H : (if t572 = true then (bJ.j0 k l1 true aT aU aa ak) else (bJ.j0 k l1 (decide ((l1.length : Int) > 5000)) aT aU aa ak)) = some r := H
    have A5 := aA.mk A50
    clear A50
    by_cases c6 : t572 = true
    · subst c6
      have H1 : (bJ.j0 k l1 true aT aU aa ak) = some r := by rw [if_pos rfl] at H; exact H
      clear H
      have H := H1
      clear H1
      have H' := aA.mk H
      clear H
      have hcz7_0 : w4.cell? ⟨fQ, 0, none⟩ = some (.int .i64 aT) := (aD dC.out 0).trans rfl
      have hcz7_1 : w4.cell? ⟨fQ, 1, none⟩ = some (.int .i64 aU) := (aD dC.out 1).trans rfl
      have hcz7_2 : w4.cell? ⟨fQ, 2, none⟩ = some (.slice bv aa.length bq) := (aD dC.out 2).trans rfl
      have hcz7_3 : w4.cell? ⟨fQ, 3, none⟩ = some (.slice bu ak.length bn) := (aD dC.out 3).trans rfl
      have hfz7_0 := aC dC.out 0
      have hfz7_1 := aC dC.out 1
      have hfz7_2 := aC dC.out 2
      have hfz7_3 := aC dC.out 3
      go_wp2_with (first | ((with_reducible refine bC (f := 21) rfl ?_); refine dV (some 10) rfl rfl Try.func21 (by kernel_rfl) rfl #[.agg #[.int .i64 aT, .int .i64 aU, .slice bv aa.length bq, .slice bu ak.length bn]] rfl (by (try simp only [List.map_toArray, List.map_cons, List.map_nil]); first | done | rfl | (simp only [List.length_drop, List.length_take]; rfl)) ?_; (with_reducible refine (fw.calls aT aU _ _ aa _ _ ak true _ ?dB ?dA ?di ?dh A5.out).mono ?_); (case dB => repeat (first | exact (Kd.aX gX.out HB.out) | (with_reducible refine Kd.bE ?_ _) | (with_reducible refine Kd.bD ?_ _) | (with_reducible refine Kd.bS ?_))); (case dA => exact jV.out); (case di => repeat (first | exact (Kd.aX gu.out HB.out) | (with_reducible refine Kd.bE ?_ _) | (with_reducible refine Kd.bD ?_ _) | (with_reducible refine Kd.bS ?_))); (case dh => exact jU.out); rintro e w8 ⟨rfl, hb⟩; refine ⟨_, rfl, ?_⟩; have n0_ := aA.mk (bH (g := fQ) (o := .cells #[.int .i64 aT, .int .i64 aU, .slice bv aa.length bq, .slice bu ak.length bn] 34 (0, 0)) (by (with_reducible repeat (first | refine aM ?_ _ | refine aQ ?_ | refine aJ ?_ _)); exact dC.out) hb); have n1_ := aA.mk (aW (by repeat (first | (with_reducible first | exact HB.out | apply aH | apply aG | apply aI | refine aN ?_ GE571.out) | exact HB.out)) hb); clear dC; clear HB; have dC := n0_; have HB := n1_; clear n0_ n1_; (try clear hb); (try clear hb2); (try clear hk); (try clear hi)))
      go_meet
      case rel => exact ⟨_, (true), (by first | rfl | (simp; done) | (simp [*]; done)), H', ⟨by first | omega | exact Nat.le_refl _⟩, ⟨by (with_reducible repeat (first | refine aM ?_ _ | refine aQ ?_ | refine aJ ?_ _)); exact dC.out⟩, ⟨by repeat (first | (with_reducible first | exact HB.out | apply aH | apply aG | apply aI | refine aN ?_ GE571.out) | exact HB.out)⟩⟩
    · replace c6 := Bool.eq_false_iff.mpr c6
      subst c6
      have H1 : (bJ.j0 k l1 (decide ((l1.length : Int) > 5000)) aT aU aa ak) = some r := by rw [if_neg (show ¬ (false = true) by decide)] at H; exact H
      clear H
      have H := H1
      clear H1
      have H' := aA.mk H
      clear H
      have jF : w4.cell? ⟨fQ, 0, none⟩ = some (.int .i64 aT) := (aD dC.out 0).trans rfl
      have jE : w4.cell? ⟨fQ, 1, none⟩ = some (.int .i64 aU) := (aD dC.out 1).trans rfl
      have jD : w4.cell? ⟨fQ, 2, none⟩ = some (.slice bv aa.length bq) := (aD dC.out 2).trans rfl
      have jC : w4.cell? ⟨fQ, 3, none⟩ = some (.slice bu ak.length bn) := (aD dC.out 3).trans rfl
      have jB := aC dC.out 0
      have jA := aC dC.out 1
      have iy := aC dC.out 2
      have iw := aC dC.out 3
      go_wp2_with (first | ((with_reducible refine bC (f := 21) rfl ?_); refine dV (some 10) rfl rfl Try.func21 (by kernel_rfl) rfl #[.agg #[.int .i64 aT, .int .i64 aU, .slice bv aa.length bq, .slice bu ak.length bn]] rfl (by (try simp only [List.map_toArray, List.map_cons, List.map_nil]); first | done | rfl | (simp only [List.length_drop, List.length_take]; rfl)) ?_; (with_reducible refine (fw.calls aT aU _ _ aa _ _ ak false _ ?dB ?dA ?di ?dh A5.out).mono ?_); (case dB => repeat (first | exact (Kd.aX gX.out HB.out) | (with_reducible refine Kd.bE ?_ _) | (with_reducible refine Kd.bD ?_ _) | (with_reducible refine Kd.bS ?_))); (case dA => exact jV.out); (case di => repeat (first | exact (Kd.aX gu.out HB.out) | (with_reducible refine Kd.bE ?_ _) | (with_reducible refine Kd.bD ?_ _) | (with_reducible refine Kd.bS ?_))); (case dh => exact jU.out); rintro e w10 ⟨rfl, hb⟩; refine ⟨_, rfl, ?_⟩; have n0_ := aA.mk (bH (g := fQ) (o := .cells #[.int .i64 aT, .int .i64 aU, .slice bv aa.length bq, .slice bu ak.length bn] 34 (0, 0)) (by (with_reducible repeat (first | refine aM ?_ _ | refine aQ ?_ | refine aJ ?_ _)); exact dC.out) hb); have n1_ := aA.mk (aW (by repeat (first | (with_reducible first | exact HB.out | apply aH | apply aG | apply aI | refine aN ?_ GE571.out) | exact HB.out)) hb); clear dC; clear HB; have dC := n0_; have HB := n1_; clear n0_ n1_; (try clear hb); (try clear hb2); (try clear hk); (try clear hi)))
      go_meet
      case rel => exact ⟨_, (decide ((l1.length : Int) > 5000)), (by first | rfl | (simp; done) | (simp [*]; done)), H', ⟨by first | omega | exact Nat.le_refl _⟩, ⟨by (with_reducible repeat (first | refine aM ?_ _ | refine aQ ?_ | refine aJ ?_ _)); exact dC.out⟩, ⟨by repeat (first | (with_reducible first | exact HB.out | apply aH | apply aG | apply aI | refine aN ?_ GE571.out) | exact HB.out)⟩⟩
  case rest =>
    clear HC3
    try clear c1
    try clear c2
    try clear p2
    try clear c6
    try clear c8
    try clear hcz7_0
    try clear hcz7_1
    try clear hcz7_2
    try clear hcz7_3
    try clear jF
    try clear jE
    try clear jD
    try clear jC
    try clear hfz7_0
    try clear hfz7_1
    try clear hfz7_2
    try clear hfz7_3
    try clear jB
    try clear jA
    try clear iy
    try clear iw
    obtain ⟨kq, x15_2, rfl, HA, HJ2, dC, HB⟩ := hcut
    cases kq with
    | zero => exact absurd HA.out (by simp [bJ.j0])
    | succ kj2 =>
      have H := HA.out
      clear HA
      simp only [bJ.j0] at H
      by_cases c11 : x15_2 = true
      · subst c11
        have H1 : ((fD.f).bind fun t573 => (some t573)) = some r := by rw [if_pos rfl] at H; exact H
        clear H
        have H := H1
        clear H1
        replace H := Option.bind_eq_some_iff.mp H
        obtain ⟨t573, A120, H⟩ := H
        replace H : (some t573) = some r := H
        have A12 := aA.mk A120
        clear A120
        obtain rfl := Option.some.inj H
        go_wp2_with (first | ((with_reducible refine bC (f := 13) rfl ?_); refine dV (some 16) rfl rfl Try.func13 (by kernel_rfl) rfl #[] rfl (by (try simp only [List.map_toArray, List.map_cons, List.map_nil]); first | done | rfl | (simp only [List.length_drop, List.length_take]; rfl)) ?_; (with_reducible refine (fD.calls  t573 _ A12.out).mono ?_); rintro e w13 ⟨rfl, hb⟩; refine ⟨_, rfl, ?_⟩; have n0_ := aA.mk (bH (g := fQ) (o := .cells #[.int .i64 aT, .int .i64 aU, .slice bv aa.length bq, .slice bu ak.length bn] 34 (0, 0)) (by (with_reducible repeat (first | refine aM ?_ _ | refine aQ ?_ | refine aJ ?_ _)); exact dC.out) hb); have n1_ := aA.mk (aW (by repeat (first | (with_reducible first | exact HB.out | apply aH | apply aG | apply aI | refine aN ?_ GE571.out) | exact HB.out)) hb); clear dC; clear HB; have dC := n0_; have HB := n1_; clear n0_ n1_; (try clear hb); (try clear hb2); (try clear hk); (try clear hi)))
        go_ret
        exact ⟨by first | rfl | (simp [ag, af] <;> rfl) | (simp [*, ag, af] <;> rfl), by repeat (first | (with_reducible first | exact HB.out | apply aH | apply aG | apply aI | refine aN ?_ GE571.out) | exact HB.out)⟩
      · replace c11 := Bool.eq_false_iff.mpr c11
        subst c11
        have H1 : ((dS.f kj2 aT aU aa ak l1).bind fun bt574 => ((bZ.f kj2 aT aU aa ak l1).bind fun bt576 => (if bt574.1 = bt576.1 then ((fM.f bt574.2).bind fun t578 => (if t578 = bt576.2 then ((fD.f).bind fun t579 => (some t579)) else (some false))) else (some false)))) = some r := by rw [if_neg (show ¬ (false = true) by decide)] at H; exact H
        clear H
        have H := H1
        clear H1
        replace H := Option.bind_eq_some_iff.mp H
        obtain ⟨⟨t574, t575⟩, A140, H⟩ := H
        replace H : ((bZ.f kj2 aT aU aa ak l1).bind fun bt576 => (if t574 = bt576.1 then ((fM.f t575).bind fun t578 => (if t578 = bt576.2 then ((fD.f).bind fun t579 => (some t579)) else (some false))) else (some false))) = some r := H
        have A14 := aA.mk A140
        clear A140
        replace H := Option.bind_eq_some_iff.mp H
        obtain ⟨⟨t576, t577⟩, A150, H⟩ := H
        replace H : (if t574 = t576 then ((fM.f t575).bind fun t578 => (if t578 = t577 then ((fD.f).bind fun t579 => (some t579)) else (some false))) else (some false)) = some r := H
        have A15 := aA.mk A150
        clear A150
        by_cases c16 : t574 = t576
        · rw [if_pos c16] at H
          have c16b0 : (t574 == t576) = true := beq_iff_eq.mpr c16
          have c16b1 : (t574 != t576) = false := bne_eq_false_iff_eq.mpr c16
          clear c16
          replace H := Option.bind_eq_some_iff.mp H
          obtain ⟨t578, A170, H⟩ := H
          replace H : (if t578 = t577 then ((fD.f).bind fun t579 => (some t579)) else (some false)) = some r := H
          have A17 := aA.mk A170
          clear A170
          by_cases c18 : t578 = t577
          · rw [if_pos c18] at H
            have c18b0 : (t578 == t577) = true := beq_iff_eq.mpr c18
            have c18b1 : (t578 != t577) = false := bne_eq_false_iff_eq.mpr c18
            clear c18
            replace H := Option.bind_eq_some_iff.mp H
            obtain ⟨t579, A190, H⟩ := H
            replace H : (some t579) = some r := H
            have A19 := aA.mk A190
            clear A190
            obtain rfl := Option.some.inj H
            have hcz20_0 : wc.cell? ⟨fQ, 0, none⟩ = some (.int .i64 aT) := (aD dC.out 0).trans rfl
            have hcz20_1 : wc.cell? ⟨fQ, 1, none⟩ = some (.int .i64 aU) := (aD dC.out 1).trans rfl
            have hcz20_2 : wc.cell? ⟨fQ, 2, none⟩ = some (.slice bv aa.length bq) := (aD dC.out 2).trans rfl
            have hcz20_3 : wc.cell? ⟨fQ, 3, none⟩ = some (.slice bu ak.length bn) := (aD dC.out 3).trans rfl
            have hfz20_0 := aC dC.out 0
            have hfz20_1 := aC dC.out 1
            have hfz20_2 := aC dC.out 2
            have hfz20_3 := aC dC.out 3
            go_wp2_with (first | ((with_reducible refine bC (f := 28) rfl ?_); refine dV (some 20) rfl rfl Try.func28 (by kernel_rfl) rfl #[.agg #[.int .i64 aT, .int .i64 aU, .slice bv aa.length bq, .slice bu ak.length bn], .slice A1 l1.length c1] rfl (by (try simp only [List.map_toArray, List.map_cons, List.map_nil]); first | done | rfl | (simp only [List.length_drop, List.length_take]; rfl)) ?_; (with_reducible refine (dS.calls kj2 aT aU _ _ aa _ _ ak _ _ l1 t574 t575 _ ?dB ?dA ?di ?dh ?side5 ?side6 A14.out).mono ?_); (case dB => repeat (first | exact (Kd.aX gX.out HB.out) | (with_reducible refine Kd.bE ?_ _) | (with_reducible refine Kd.bD ?_ _) | (with_reducible refine Kd.bS ?_))); (case dA => exact jV.out); (case di => repeat (first | exact (Kd.aX gu.out HB.out) | (with_reducible refine Kd.bE ?_ _) | (with_reducible refine Kd.bD ?_ _) | (with_reducible refine Kd.bS ?_))); (case dh => exact jU.out); (case side5 => repeat (first | exact (Kd.aX HR1.out HB.out) | (with_reducible refine Kd.bE ?_ _) | (with_reducible refine Kd.bD ?_ _) | (with_reducible refine Kd.bS ?_))); (case side6 => exact HC1.out); rintro e w21 ⟨rfl, hb⟩; refine ⟨_, rfl, ?_⟩; have n0_ := aA.mk (bH (g := fQ) (o := .cells #[.int .i64 aT, .int .i64 aU, .slice bv aa.length bq, .slice bu ak.length bn] 34 (0, 0)) (by (with_reducible repeat (first | refine aM ?_ _ | refine aQ ?_ | refine aJ ?_ _)); exact dC.out) hb); have n1_ := aA.mk (aW (by repeat (first | (with_reducible first | exact HB.out | apply aH | apply aG | apply aI | refine aN ?_ GE571.out) | exact HB.out)) hb); clear dC; clear HB; have dC := n0_; have HB := n1_; clear n0_ n1_; (try clear hb); (try clear hb2); (try clear hk); (try clear hi); have hcz22_0 : w21.cell? ⟨fQ, 0, none⟩ = some (.int .i64 aT) := (aD dC.out 0).trans rfl; have hcz22_1 : w21.cell? ⟨fQ, 1, none⟩ = some (.int .i64 aU) := (aD dC.out 1).trans rfl; have hcz22_2 : w21.cell? ⟨fQ, 2, none⟩ = some (.slice bv aa.length bq) := (aD dC.out 2).trans rfl; have hcz22_3 : w21.cell? ⟨fQ, 3, none⟩ = some (.slice bu ak.length bn) := (aD dC.out 3).trans rfl; have hfz22_0 := aC dC.out 0; have hfz22_1 := aC dC.out 1; have hfz22_2 := aC dC.out 2; have hfz22_3 := aC dC.out 3) | ((with_reducible refine bC (f := 29) rfl ?_); refine dV (some 26) rfl rfl Try.func29 (by kernel_rfl) rfl #[.agg #[.int .i64 aT, .int .i64 aU, .slice bv aa.length bq, .slice bu ak.length bn], .slice A1 l1.length c1] rfl (by (try simp only [List.map_toArray, List.map_cons, List.map_nil]); first | done | rfl | (simp only [List.length_drop, List.length_take]; rfl)) ?_; (with_reducible refine (bZ.calls kj2 aT aU _ _ aa _ _ ak _ _ l1 t576 t577 _ ?dB ?dA ?di ?dh ?side5 ?side6 A15.out).mono ?_); (case dB => repeat (first | exact (Kd.aX gX.out HB.out) | (with_reducible refine Kd.bE ?_ _) | (with_reducible refine Kd.bD ?_ _) | (with_reducible refine Kd.bS ?_))); (case dA => exact jV.out); (case di => repeat (first | exact (Kd.aX gu.out HB.out) | (with_reducible refine Kd.bE ?_ _) | (with_reducible refine Kd.bD ?_ _) | (with_reducible refine Kd.bS ?_))); (case dh => exact jU.out); (case side5 => repeat (first | exact (Kd.aX HR1.out HB.out) | (with_reducible refine Kd.bE ?_ _) | (with_reducible refine Kd.bD ?_ _) | (with_reducible refine Kd.bS ?_))); (case side6 => exact HC1.out); rintro e w23 ⟨rfl, hb⟩; refine ⟨_, rfl, ?_⟩; have n0_ := aA.mk (bH (g := fQ) (o := .cells #[.int .i64 aT, .int .i64 aU, .slice bv aa.length bq, .slice bu ak.length bn] 34 (0, 0)) (by (with_reducible repeat (first | refine aM ?_ _ | refine aQ ?_ | refine aJ ?_ _)); exact dC.out) hb); have n1_ := aA.mk (aW (by repeat (first | (with_reducible first | exact HB.out | apply aH | apply aG | apply aI | refine aN ?_ GE571.out) | exact HB.out)) hb); clear dC; clear HB; have dC := n0_; have HB := n1_; clear n0_ n1_; (try clear hb); (try clear hb2); (try clear hk); (try clear hi)) | (go_at_call 16; (with_reducible refine (fM.calls t575 t578 _ A17.out).mono ?_); rintro e w' ⟨rfl, ⟨nd, rfl⟩⟩) | (go_at_call 13; (with_reducible refine (fD.calls  t579 _ A19.out).mono ?_); rintro e w24 ⟨rfl, hb⟩; have n0_ := aA.mk (bH (g := fQ) (o := .cells #[.int .i64 aT, .int .i64 aU, .slice bv aa.length bq, .slice bu ak.length bn] 34 (0, 0)) (by (with_reducible repeat (first | refine aM ?_ _ | refine aQ ?_ | refine aJ ?_ _)); exact dC.out) hb); have n1_ := aA.mk (aW (by repeat (first | (with_reducible first | exact HB.out | apply aH | apply aG | apply aI | refine aN ?_ GE571.out) | exact HB.out)) hb); clear dC; clear HB; have dC := n0_; have HB := n1_; clear n0_ n1_; (try clear hb); (try clear hb2); (try clear hk); (try clear hi)))
            go_ret
            exact ⟨by first | rfl | (simp [ag, af] <;> rfl) | (simp [*, ag, af] <;> rfl), by repeat (first | (with_reducible first | exact HB.out | apply aH | apply aG | apply aI | refine aN ?_ GE571.out) | exact HB.out)⟩
          · rw [if_neg c18] at H
            have c18b0 : (t578 == t577) = false := beq_eq_false_iff_ne.mpr c18
            have c18b1 : (t578 != t577) = true := bne_iff_ne.mpr c18
            obtain rfl := Option.some.inj H
            have hcz25_0 : wc.cell? ⟨fQ, 0, none⟩ = some (.int .i64 aT) := (aD dC.out 0).trans rfl
            have hcz25_1 : wc.cell? ⟨fQ, 1, none⟩ = some (.int .i64 aU) := (aD dC.out 1).trans rfl
            have hcz25_2 : wc.cell? ⟨fQ, 2, none⟩ = some (.slice bv aa.length bq) := (aD dC.out 2).trans rfl
            have hcz25_3 : wc.cell? ⟨fQ, 3, none⟩ = some (.slice bu ak.length bn) := (aD dC.out 3).trans rfl
            have hfz25_0 := aC dC.out 0
            have hfz25_1 := aC dC.out 1
            have hfz25_2 := aC dC.out 2
            have hfz25_3 := aC dC.out 3
            go_wp2_with (first | ((with_reducible refine bC (f := 28) rfl ?_); refine dV (some 20) rfl rfl Try.func28 (by kernel_rfl) rfl #[.agg #[.int .i64 aT, .int .i64 aU, .slice bv aa.length bq, .slice bu ak.length bn], .slice A1 l1.length c1] rfl (by (try simp only [List.map_toArray, List.map_cons, List.map_nil]); first | done | rfl | (simp only [List.length_drop, List.length_take]; rfl)) ?_; (with_reducible refine (dS.calls kj2 aT aU _ _ aa _ _ ak _ _ l1 t574 t575 _ ?dB ?dA ?di ?dh ?side5 ?side6 A14.out).mono ?_); (case dB => repeat (first | exact (Kd.aX gX.out HB.out) | (with_reducible refine Kd.bE ?_ _) | (with_reducible refine Kd.bD ?_ _) | (with_reducible refine Kd.bS ?_))); (case dA => exact jV.out); (case di => repeat (first | exact (Kd.aX gu.out HB.out) | (with_reducible refine Kd.bE ?_ _) | (with_reducible refine Kd.bD ?_ _) | (with_reducible refine Kd.bS ?_))); (case dh => exact jU.out); (case side5 => repeat (first | exact (Kd.aX HR1.out HB.out) | (with_reducible refine Kd.bE ?_ _) | (with_reducible refine Kd.bD ?_ _) | (with_reducible refine Kd.bS ?_))); (case side6 => exact HC1.out); rintro e w26 ⟨rfl, hb⟩; refine ⟨_, rfl, ?_⟩; have n0_ := aA.mk (bH (g := fQ) (o := .cells #[.int .i64 aT, .int .i64 aU, .slice bv aa.length bq, .slice bu ak.length bn] 34 (0, 0)) (by (with_reducible repeat (first | refine aM ?_ _ | refine aQ ?_ | refine aJ ?_ _)); exact dC.out) hb); have n1_ := aA.mk (aW (by repeat (first | (with_reducible first | exact HB.out | apply aH | apply aG | apply aI | refine aN ?_ GE571.out) | exact HB.out)) hb); clear dC; clear HB; have dC := n0_; have HB := n1_; clear n0_ n1_; (try clear hb); (try clear hb2); (try clear hk); (try clear hi); have hcz27_0 : w26.cell? ⟨fQ, 0, none⟩ = some (.int .i64 aT) := (aD dC.out 0).trans rfl; have hcz27_1 : w26.cell? ⟨fQ, 1, none⟩ = some (.int .i64 aU) := (aD dC.out 1).trans rfl; have hcz27_2 : w26.cell? ⟨fQ, 2, none⟩ = some (.slice bv aa.length bq) := (aD dC.out 2).trans rfl; have hcz27_3 : w26.cell? ⟨fQ, 3, none⟩ = some (.slice bu ak.length bn) := (aD dC.out 3).trans rfl; have hfz27_0 := aC dC.out 0; have hfz27_1 := aC dC.out 1; have hfz27_2 := aC dC.out 2; have hfz27_3 := aC dC.out 3) | ((with_reducible refine bC (f := 29) rfl ?_); refine dV (some 26) rfl rfl Try.func29 (by kernel_rfl) rfl #[.agg #[.int .i64 aT, .int .i64 aU, .slice bv aa.length bq, .slice bu ak.length bn], .slice A1 l1.length c1] rfl (by (try simp only [List.map_toArray, List.map_cons, List.map_nil]); first | done | rfl | (simp only [List.length_drop, List.length_take]; rfl)) ?_; (with_reducible refine (bZ.calls kj2 aT aU _ _ aa _ _ ak _ _ l1 t576 t577 _ ?dB ?dA ?di ?dh ?side5 ?side6 A15.out).mono ?_); (case dB => repeat (first | exact (Kd.aX gX.out HB.out) | (with_reducible refine Kd.bE ?_ _) | (with_reducible refine Kd.bD ?_ _) | (with_reducible refine Kd.bS ?_))); (case dA => exact jV.out); (case di => repeat (first | exact (Kd.aX gu.out HB.out) | (with_reducible refine Kd.bE ?_ _) | (with_reducible refine Kd.bD ?_ _) | (with_reducible refine Kd.bS ?_))); (case dh => exact jU.out); (case side5 => repeat (first | exact (Kd.aX HR1.out HB.out) | (with_reducible refine Kd.bE ?_ _) | (with_reducible refine Kd.bD ?_ _) | (with_reducible refine Kd.bS ?_))); (case side6 => exact HC1.out); rintro e w28 ⟨rfl, hb⟩; refine ⟨_, rfl, ?_⟩; have n0_ := aA.mk (bH (g := fQ) (o := .cells #[.int .i64 aT, .int .i64 aU, .slice bv aa.length bq, .slice bu ak.length bn] 34 (0, 0)) (by (with_reducible repeat (first | refine aM ?_ _ | refine aQ ?_ | refine aJ ?_ _)); exact dC.out) hb); have n1_ := aA.mk (aW (by repeat (first | (with_reducible first | exact HB.out | apply aH | apply aG | apply aI | refine aN ?_ GE571.out) | exact HB.out)) hb); clear dC; clear HB; have dC := n0_; have HB := n1_; clear n0_ n1_; (try clear hb); (try clear hb2); (try clear hk); (try clear hi)) | (go_at_call 16; (with_reducible refine (fM.calls t575 t578 _ A17.out).mono ?_); rintro e w' ⟨rfl, ⟨nd, rfl⟩⟩))
            go_ret
            exact ⟨by first | rfl | (simp [ag, af] <;> rfl) | (simp [*, ag, af] <;> rfl), by repeat (first | (with_reducible first | exact HB.out | apply aH | apply aG | apply aI | refine aN ?_ GE571.out) | exact HB.out)⟩
        · rw [if_neg c16] at H
          have c16b0 : (t574 == t576) = false := beq_eq_false_iff_ne.mpr c16
          have c16b1 : (t574 != t576) = true := bne_iff_ne.mpr c16
          obtain rfl := Option.some.inj H
          have hcz29_0 : wc.cell? ⟨fQ, 0, none⟩ = some (.int .i64 aT) := (aD dC.out 0).trans rfl
          have hcz29_1 : wc.cell? ⟨fQ, 1, none⟩ = some (.int .i64 aU) := (aD dC.out 1).trans rfl
          have hcz29_2 : wc.cell? ⟨fQ, 2, none⟩ = some (.slice bv aa.length bq) := (aD dC.out 2).trans rfl
          have hcz29_3 : wc.cell? ⟨fQ, 3, none⟩ = some (.slice bu ak.length bn) := (aD dC.out 3).trans rfl
          have hfz29_0 := aC dC.out 0
          have hfz29_1 := aC dC.out 1
          have hfz29_2 := aC dC.out 2
          have hfz29_3 := aC dC.out 3
          go_wp2_with (first | ((with_reducible refine bC (f := 28) rfl ?_); refine dV (some 20) rfl rfl Try.func28 (by kernel_rfl) rfl #[.agg #[.int .i64 aT, .int .i64 aU, .slice bv aa.length bq, .slice bu ak.length bn], .slice A1 l1.length c1] rfl (by (try simp only [List.map_toArray, List.map_cons, List.map_nil]); first | done | rfl | (simp only [List.length_drop, List.length_take]; rfl)) ?_; (with_reducible refine (dS.calls kj2 aT aU _ _ aa _ _ ak _ _ l1 t574 t575 _ ?dB ?dA ?di ?dh ?side5 ?side6 A14.out).mono ?_); (case dB => repeat (first | exact (Kd.aX gX.out HB.out) | (with_reducible refine Kd.bE ?_ _) | (with_reducible refine Kd.bD ?_ _) | (with_reducible refine Kd.bS ?_))); (case dA => exact jV.out); (case di => repeat (first | exact (Kd.aX gu.out HB.out) | (with_reducible refine Kd.bE ?_ _) | (with_reducible refine Kd.bD ?_ _) | (with_reducible refine Kd.bS ?_))); (case dh => exact jU.out); (case side5 => repeat (first | exact (Kd.aX HR1.out HB.out) | (with_reducible refine Kd.bE ?_ _) | (with_reducible refine Kd.bD ?_ _) | (with_reducible refine Kd.bS ?_))); (case side6 => exact HC1.out); rintro e w30 ⟨rfl, hb⟩; refine ⟨_, rfl, ?_⟩; have n0_ := aA.mk (bH (g := fQ) (o := .cells #[.int .i64 aT, .int .i64 aU, .slice bv aa.length bq, .slice bu ak.length bn] 34 (0, 0)) (by (with_reducible repeat (first | refine aM ?_ _ | refine aQ ?_ | refine aJ ?_ _)); exact dC.out) hb); have n1_ := aA.mk (aW (by repeat (first | (with_reducible first | exact HB.out | apply aH | apply aG | apply aI | refine aN ?_ GE571.out) | exact HB.out)) hb); clear dC; clear HB; have dC := n0_; have HB := n1_; clear n0_ n1_; (try clear hb); (try clear hb2); (try clear hk); (try clear hi); have hcz31_0 : w30.cell? ⟨fQ, 0, none⟩ = some (.int .i64 aT) := (aD dC.out 0).trans rfl; have hcz31_1 : w30.cell? ⟨fQ, 1, none⟩ = some (.int .i64 aU) := (aD dC.out 1).trans rfl; have hcz31_2 : w30.cell? ⟨fQ, 2, none⟩ = some (.slice bv aa.length bq) := (aD dC.out 2).trans rfl; have hcz31_3 : w30.cell? ⟨fQ, 3, none⟩ = some (.slice bu ak.length bn) := (aD dC.out 3).trans rfl; have hfz31_0 := aC dC.out 0; have hfz31_1 := aC dC.out 1; have hfz31_2 := aC dC.out 2; have hfz31_3 := aC dC.out 3) | ((with_reducible refine bC (f := 29) rfl ?_); refine dV (some 26) rfl rfl Try.func29 (by kernel_rfl) rfl #[.agg #[.int .i64 aT, .int .i64 aU, .slice bv aa.length bq, .slice bu ak.length bn], .slice A1 l1.length c1] rfl (by (try simp only [List.map_toArray, List.map_cons, List.map_nil]); first | done | rfl | (simp only [List.length_drop, List.length_take]; rfl)) ?_; (with_reducible refine (bZ.calls kj2 aT aU _ _ aa _ _ ak _ _ l1 t576 t577 _ ?dB ?dA ?di ?dh ?side5 ?side6 A15.out).mono ?_); (case dB => repeat (first | exact (Kd.aX gX.out HB.out) | (with_reducible refine Kd.bE ?_ _) | (with_reducible refine Kd.bD ?_ _) | (with_reducible refine Kd.bS ?_))); (case dA => exact jV.out); (case di => repeat (first | exact (Kd.aX gu.out HB.out) | (with_reducible refine Kd.bE ?_ _) | (with_reducible refine Kd.bD ?_ _) | (with_reducible refine Kd.bS ?_))); (case dh => exact jU.out); (case side5 => repeat (first | exact (Kd.aX HR1.out HB.out) | (with_reducible refine Kd.bE ?_ _) | (with_reducible refine Kd.bD ?_ _) | (with_reducible refine Kd.bS ?_))); (case side6 => exact HC1.out); rintro e w32 ⟨rfl, hb⟩; refine ⟨_, rfl, ?_⟩; have n0_ := aA.mk (bH (g := fQ) (o := .cells #[.int .i64 aT, .int .i64 aU, .slice bv aa.length bq, .slice bu ak.length bn] 34 (0, 0)) (by (with_reducible repeat (first | refine aM ?_ _ | refine aQ ?_ | refine aJ ?_ _)); exact dC.out) hb); have n1_ := aA.mk (aW (by repeat (first | (with_reducible first | exact HB.out | apply aH | apply aG | apply aI | refine aN ?_ GE571.out) | exact HB.out)) hb); clear dC; clear HB; have dC := n0_; have HB := n1_; clear n0_ n1_; (try clear hb); (try clear hb2); (try clear hk); (try clear hi)))
          go_ret
          exact ⟨by first | rfl | (simp [ag, af] <;> rfl) | (simp [*, ag, af] <;> rfl), by repeat (first | (with_reducible first | exact HB.out | apply aH | apply aG | apply aI | refine aN ?_ GE571.out) | exact HB.out)⟩
end Go.Proofs.Ytocejofjmmoeaaa.X
end

section
namespace Go.Proofs.Ytocejofjmmoeaaa.X
open Go.RowKit Go.Proofs.YtocejofjmmoeaaaW.PrintWords Go.Proofs.YtocejofjmmoeaaaW.PrintLast Go.Proofs.YtocejofjmmoeaaaW.PrintMore
open Go.Proofs.Ytocejofjmmoeaaa Go.Proofs.Ytocejofjmmoeaaa.Sp
theorem sayslaw_ev (K N : Int) (nx out w : List Int) : Ev (fun q => bJ.f q K N nx out w) true := by
  unfold bJ.f
  obtain ⟨b, hb⟩ : ∃ b, fw.f K N nx out = some b := by
    unfold fw.f
    split
    · exact ⟨_, rfl⟩
    · split <;> exact ⟨_, rfl⟩
  refine Ev.bind (Ev.const hb) ?_
  have hj : ∀ c, Ev (fun q => bJ.j0 q w c K N nx out) true := fun c => by
    cases c with
    | true => exact Ev.step (fun q => by rw [bJ.j0, if_pos rfl]; rfl) (Ev.now true)
    | false =>
      refine Ev.step (fun q => by rw [bJ.j0, if_neg (by decide)]) ?_
      refine Ev.bind (says_ev K N nx out w) ?_
      refine Ev.bind (rsays_ev K N nx out w) ?_
      refine Ev.congr (fun q => ?_) (Ev.now true)
      rw [if_pos rfl]
      show (some (sayF K N nx out w).2).bind _ = _
      rw [Option.bind_some, if_pos rfl]
      rfl
  cases b with
  | true => exact Ev.congr (fun q => if_pos rfl) (hj _)
  | false => exact Ev.congr (fun q => if_neg (by decide)) (hj _)
theorem sayslaw_rounds (K N : Int) (nx out w : List Int) : ∃ q, bJ.f q K N nx out w = some true := (sayslaw_ev K N nx out w).rounds
end Go.Proofs.Ytocejofjmmoeaaa.X
end
