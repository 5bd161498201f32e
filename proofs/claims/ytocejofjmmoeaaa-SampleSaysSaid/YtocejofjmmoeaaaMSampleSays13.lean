/- Texts of the statement SampleSays, one behind the other: Go functions as Lean functions, the machine's calls, the plain law. -/
import Derived.Test.YtocejofjmmoeaaaMSampleSays4
import Derived.Test.YtocejofjmmoeaaaMSampleSays12
set_option linter.unusedVariables false
set_option linter.unusedSimpArgs false
section
namespace Go.Proofs.Ytocejofjmmoeaaa.X
open Go.RowKit Go.Proofs.YtocejofjmmoeaaaW.PrintWords Go.Proofs.YtocejofjmmoeaaaW.PrintLast Go.Proofs.YtocejofjmmoeaaaW.PrintMore
attribute [local go_sem] eZ eu fV fU eP eO fF fE   -- for this text's walks alone
set_option linter.unusedVariables false
set_option linter.unusedSimpArgs false
mutual
def bM.l0 : Nat → List Int → Int → Int → Int → Int → List Int → List Int → Int → Int → Int → Int → List Int → Option (Int × Int × Int × Int × List Int × List Int × Int)
  | 0, _, _, _, _, _, _, _, _, _, _, _, _ => none
  | k + 1, x15, x16, x17, x159000, kZ, x159002, x159003, x161000, l5, x161002, lZ, kD => if x17 < x16 then (if 0 ≤ x17 then (if x17 < (x15.length : Int) then (if (rd x15 x17) < 0 then (if kD.length < 17592186044416 then (bM.l0 k x15 x16 (wrap64 (x17 + 1)) x159000 kZ x159002 x159003 x161000 l5 x161002 (wrap64 (kZ + 1)) (kD ++ [kZ])) else (none)) else (if kD.length < 17592186044416 then (bM.l0 k x15 x16 (wrap64 (x17 + 1)) x159000 kZ x159002 x159003 x161000 l5 x161002 lZ (kD ++ [rd x15 x17])) else (none))) else (none)) else (none)) else (bM.l1 k x159003 (x159003.length : Int) 0 x159000 kZ x159002 x159003 x161000 l5 x161002 lZ kD ([] : List Int))
def bM.l1 : Nat → List Int → Int → Int → Int → Int → List Int → List Int → Int → Int → Int → Int → List Int → List Int → Option (Int × Int × Int × Int × List Int × List Int × Int)
  | 0, _, _, _, _, _, _, _, _, _, _, _, _, _ => none
  | k + 1, x37, x38, x39, x159000, kZ, x159002, x159003, x161000, l5, x161002, lZ, kD, x161005 => if x39 < x38 then (if 0 ≤ x39 then (if x39 < (x37.length : Int) then (if x161005.length < 17592186044416 then (bM.l1 k x37 x38 (wrap64 (x39 + 1)) x159000 kZ x159002 x159003 x161000 l5 x161002 lZ kD (x161005 ++ [mx (rd x37 x39) 0])) else (none)) else (none)) else (none)) else (if lZ > 1024 then (some (0, 0, 0, 0, ([] : List Int), ([] : List Int), 3)) else (if lZ > kZ then (if x161005.length < 17592186044416 then (bM.l2 k l5 0 x159000 kZ x159002 x159003 x161000 l5 x161002 lZ kD (x161005 ++ [0])) else (none)) else ((bL.f k x161000 l5 x161002 lZ kD x161005).bind fun bt189 => (some (bt189.1, bt189.2.1, bt189.2.2.1, bt189.2.2.2.1, bt189.2.2.2.2.1, bt189.2.2.2.2.2.1, bt189.2.2.2.2.2.2)))))
def bM.l2 : Nat → Int → Int → Int → Int → List Int → List Int → Int → Int → Int → Int → List Int → List Int → Option (Int × Int × Int × Int × List Int × List Int × Int)
  | 0, _, _, _, _, _, _, _, _, _, _, _, _ => none
  | k + 1, x66, x67, x159000, kZ, x159002, x159003, x161000, l5, x161002, lZ, kD, x161005 => if x67 < x66 then (if kD.length < 17592186044416 then (bM.l2 k x66 (wrap64 (x67 + 1)) x159000 kZ x159002 x159003 x161000 l5 x161002 lZ (kD ++ [kZ]) x161005) else (none)) else ((bL.f k x161000 l5 x161002 lZ kD x161005).bind fun bt178 => (some (bt178.1, bt178.2.1, bt178.2.2.1, bt178.2.2.2.1, bt178.2.2.2.2.1, bt178.2.2.2.2.2.1, bt178.2.2.2.2.2.2)))
end
def bM.f (k : Nat) (aT : Int) (aU : Int) (aa : List Int) (ak : List Int) : Option (Int × Int × Int × Int × List Int × List Int × Int) := bM.l0 k aa (aa.length : Int) 0 aT aU aa ak 1 aT 2 aU ([] : List Int)
def bM.T6 : Bool × List (List Nat × List Nat) := (true, [([], []), ([0], [0]), ([], []), ([2], [2]), ([3], [3]), ([1, 0, 1], [1]), ([0, 1, 2, 3, 4, 5], []), ([6, 4, 5, 0, 1, 2, 3, 4, 5], [4, 6])])
def bM.B6 : List Nat := [0, 1, 0, 4, 12, 3, 63, 127]
theorem bM.tab6 : rtab .any (opsOf Try.f50 6) = bM.T6 := by kernel_rfl
theorem bM.bits6 : waitsOk bM.T6.2 bM.B6 = true := by kernel_rfl
set_option maxHeartbeats 8000000 in
set_option maxRecDepth 100000 in
theorem bM.calls (k : Nat) (aT : Int) (aU : Int) (bv : Option Addr) (bq : Nat) (aa : List Int) (bu : Option Addr) (bn : Nat) (ak : List Int) (r1 : Int) (r2 : Int) (r3 : Int) (r4 : Int) (r5 : List Int) (r6 : List Int) (r7 : Int) (w : World) (jv : Kd.C (Kd.int .i64) w bv aa.length aa) (kU : aa.length ≤ bq) (jr : Kd.C (Kd.int .i64) w bu ak.length ak) (kT : ak.length ≤ bn) (h : bM.f k aT aU aa ak = some (r1, r2, r3, r4, r5, r6, r7)) :
    Calls Try.prog 50 #[.agg #[.int .i64 aT, .int .i64 aU, .slice bv aa.length bq, .slice bu ak.length bn]] w fun e w' => ∃ v4_ v5_ : Value, e = .returned (.tuple #[.agg #[.int .i64 r1, .int .i64 r2, .int .i64 r3, .int .i64 r4, v4_, v5_], .int .i64 r7]) ∧ Kd.R (Kd.int .i64) 3 w' w.heap.size (fun k_ => some k_ ≠ (v5_ : Value).ownBlock) v4_ r5 ∧ Kd.R (Kd.int .i64) 3 w' w.heap.size (fun k_ => some k_ ≠ (v4_ : Value).ownBlock) v5_ r6 ∧ Below w.heap.size w w' := by
  have hu34 := Try.underlying34
  have hu50 := Try.underlying50
  have gX := aA.mk jv
  have jV := aA.mk kU
  clear jv kU
  have gu := aA.mk jr
  have jU := aA.mk kT
  clear jr kT
  have HB := aA.mk (Below.refl w.heap.size w)
  have H : (bM.l0 k aa (aa.length : Int) 0 aT aU aa ak 1 aT 2 aU ([] : List Int)) = some (r1, r2, r3, r4, r5, r6, r7) := h
  clear h
  have H' := aA.mk H
  clear H
  go_enter Try.func50, Try.ntmps50
  go_wp2_with (first | ((with_reducible refine bT (N := 1) rfl ?_); refine dD ?hg (N := 1) ?hd (cs := #[.int .i64 aT, .int .i64 aU, .slice bv aa.length bq, .slice bu ak.length bn]) (t := 34) ?hr ?_; (case hd => rfl); (case hg => rfl); (case hr => first | (go_simp; done) | (go_simp; rfl)); intro fI hg w2 hbox hb; have n0_ := aA.mk (aW (by repeat (first | (with_reducible first | exact HB.out | apply aH | apply aG | apply aI) | exact HB.out)) hb); have n1_ := aA.mk (hbox); have n2_ := aA.mk ((by rw [hg]; exact (aY (by repeat (first | (with_reducible first | exact HB.out | apply aH | apply aG | apply aI) | exact HB.out))) : w.heap.size ≤ fI)); have n3_ := aA.mk ((by rw [hg]; exact (aY (by repeat (first | (with_reducible first | exact HB.out | apply aH | apply aG | apply aI) | exact HB.out))) : w.heap.size ≤ fI)); clear HB; have HB := n0_; have cK := n1_; have GW158 := n2_; have iF := n3_; clear n0_ n1_ n2_ n3_; clear hb hbox hg) | ((with_reducible refine bT (N := 2) rfl ?_); refine dD ?hg (N := 2) ?hd (cs := #[.int .i64 0, .int .i64 0, .int .i64 0, .int .i64 0, .slice none 0 0, .slice none 0 0]) (t := 50) ?hr ?_; (case hd => rfl); (case hg => rfl); (case hr => first | (go_simp; done) | (go_simp; rfl)); intro dz hg w3 hbox hb; have n0_ := aA.mk (bH (g := fI) (o := .cells #[.int .i64 aT, .int .i64 aU, .slice bv aa.length bq, .slice bu ak.length bn] 34 (0, 0)) (by (with_reducible repeat (first | refine aM ?_ _ | refine aQ ?_ | refine aJ ?_ _)); exact cK.out) hb); have n1_ := aA.mk (aW (by repeat (first | (with_reducible first | exact HB.out | apply aH | apply aG | apply aI | refine aN ?_ iF.out) | exact HB.out)) hb); have n2_ := aA.mk (hbox); have n3_ := aA.mk ((by rw [hg]; exact (aY (by repeat (first | (with_reducible first | exact HB.out | apply aH | apply aG | apply aI | refine aN ?_ iF.out) | exact HB.out))) : w.heap.size ≤ dz)); have n4_ := aA.mk ((by rw [hg]; exact (aY (by repeat (first | (with_reducible first | exact HB.out | apply aH | apply aG | apply aI | refine aN ?_ iF.out) | exact HB.out))) : w.heap.size ≤ dz)); have n5_ := aA.mk ((by rw [hg]; exact Nat.ne_of_lt (dM (g := fI) (o := .cells #[.int .i64 aT, .int .i64 aU, .slice bv aa.length bq, .slice bu ak.length bn] 34 (0, 0)) (by (with_reducible repeat (first | refine aM ?_ _ | refine aQ ?_ | refine aJ ?_ _)); exact cK.out)) : fI ≠ dz)); have n6_ := aA.mk ((by rw [hg]; exact Nat.ne_of_gt (dM (g := fI) (o := .cells #[.int .i64 aT, .int .i64 aU, .slice bv aa.length bq, .slice bu ak.length bn] 34 (0, 0)) (by (with_reducible repeat (first | refine aM ?_ _ | refine aQ ?_ | refine aJ ?_ _)); exact cK.out)) : dz ≠ fI)); clear cK; clear HB; have cK := n0_; have HB := n1_; have dF := n2_; have GW159 := n3_; have iU := n4_; have NB158_159 := n5_; have NB159_158 := n6_; clear n0_ n1_ n2_ n3_ n4_ n5_ n6_; clear hb hbox hg; have hnb4 := NB158_159.out; have hnc4 := NB159_158.out; have lI : w3.cell? ⟨fI, 0, none⟩ = some (.int .i64 aT) := (aD cK.out 0).trans rfl; have lH : w3.cell? ⟨fI, 1, none⟩ = some (.int .i64 aU) := (aD cK.out 1).trans rfl; have lG : w3.cell? ⟨fI, 2, none⟩ = some (.slice bv aa.length bq) := (aD cK.out 2).trans rfl; have lF : w3.cell? ⟨fI, 3, none⟩ = some (.slice bu ak.length bn) := (aD cK.out 3).trans rfl; have lD := aC cK.out 0; have lC := aC cK.out 1; have kz := aC cK.out 2; have ky := aC cK.out 3) | ((with_reducible refine bT (N := 4) rfl ?_); refine dD ?hg (N := 4) ?hd (cs := #[.int .i64 0, .int .i64 0, .int .i64 0, .int .i64 0, .slice none 0 0, .slice none 0 0]) (t := 50) ?hr ?_; (case hd => rfl); (case hg => rfl); (case hr => first | (go_simp; done) | (go_simp; rfl)); intro bW hg w6 hbox hb; have n0_ := aA.mk (bH (g := fI) (o := .cells #[.int .i64 aT, .int .i64 aU, .slice bv aa.length bq, .slice bu ak.length bn] 34 (0, 0)) (by (with_reducible repeat (first | refine aM ?_ _ | refine aQ ?_ | refine aJ ?_ _)); exact cK.out) hb); have n1_ := aA.mk (bH (g := dz) (o := .cells #[.int .i64 0, .int .i64 0, .int .i64 0, .int .i64 0, .slice none 0 0, .slice none 0 0] 50 (0, 0)) (by (with_reducible repeat (first | refine aM ?_ _ | refine aQ ?_ | refine aJ ?_ _)); exact dF.out) hb); have n2_ := aA.mk (aW (by repeat (first | (with_reducible first | exact HB.out | apply aH | apply aG | apply aI | refine aN ?_ iF.out | refine aN ?_ iU.out) | exact HB.out)) hb); have n3_ := aA.mk (hbox); have n4_ := aA.mk ((by rw [hg]; exact (aY (by repeat (first | (with_reducible first | exact HB.out | apply aH | apply aG | apply aI | refine aN ?_ iF.out | refine aN ?_ iU.out) | exact HB.out))) : w.heap.size ≤ bW)); have n5_ := aA.mk ((by rw [hg]; exact (aY (by repeat (first | (with_reducible first | exact HB.out | apply aH | apply aG | apply aI | refine aN ?_ iF.out | refine aN ?_ iU.out) | exact HB.out))) : w.heap.size ≤ bW)); have n6_ := aA.mk ((by rw [hg]; exact Nat.ne_of_lt (dM (g := fI) (o := .cells #[.int .i64 aT, .int .i64 aU, .slice bv aa.length bq, .slice bu ak.length bn] 34 (0, 0)) (by (with_reducible repeat (first | refine aM ?_ _ | refine aQ ?_ | refine aJ ?_ _)); exact cK.out)) : fI ≠ bW)); have n7_ := aA.mk ((by rw [hg]; exact Nat.ne_of_gt (dM (g := fI) (o := .cells #[.int .i64 aT, .int .i64 aU, .slice bv aa.length bq, .slice bu ak.length bn] 34 (0, 0)) (by (with_reducible repeat (first | refine aM ?_ _ | refine aQ ?_ | refine aJ ?_ _)); exact cK.out)) : bW ≠ fI)); have n8_ := aA.mk ((by rw [hg]; exact Nat.ne_of_lt (dM (g := dz) (o := .cells #[.int .i64 0, .int .i64 0, .int .i64 0, .int .i64 0, .slice none 0 0, .slice none 0 0] 50 (0, 0)) (by (with_reducible repeat (first | refine aM ?_ _ | refine aQ ?_ | refine aJ ?_ _)); exact dF.out)) : dz ≠ bW)); have n9_ := aA.mk ((by rw [hg]; exact Nat.ne_of_gt (dM (g := dz) (o := .cells #[.int .i64 0, .int .i64 0, .int .i64 0, .int .i64 0, .slice none 0 0, .slice none 0 0] 50 (0, 0)) (by (with_reducible repeat (first | refine aM ?_ _ | refine aQ ?_ | refine aJ ?_ _)); exact dF.out)) : bW ≠ dz)); clear cK; clear dF; clear HB; have cK := n0_; have dF := n1_; have HB := n2_; have ae := n3_; have GW160 := n4_; have jM := n5_; have dx := n6_; have jJ := n7_; have fB := n8_; have j5 := n9_; clear n0_ n1_ n2_ n3_ n4_ n5_ n6_ n7_ n8_ n9_; clear hb hbox hg; have hnb7 := jJ.out; have hnc7 := dx.out; have hnb8 := j5.out; have hnc8 := fB.out; have jF : w6.cell? ⟨bW, 0, none⟩ = some (.int .i64 0) := (aD ae.out 0).trans rfl; have jE : w6.cell? ⟨bW, 1, none⟩ = some (.int .i64 0) := (aD ae.out 1).trans rfl; have jD : w6.cell? ⟨bW, 2, none⟩ = some (.int .i64 0) := (aD ae.out 2).trans rfl; have jC : w6.cell? ⟨bW, 3, none⟩ = some (.int .i64 0) := (aD ae.out 3).trans rfl; have hcz9_4 : w6.cell? ⟨bW, 4, none⟩ = some (.slice none 0 0) := (aD ae.out 4).trans rfl; have hcz9_5 : w6.cell? ⟨bW, 5, none⟩ = some (.slice none 0 0) := (aD ae.out 5).trans rfl; have jB := aC ae.out 0; have jA := aC ae.out 1; have iy := aC ae.out 2; have iw := aC ae.out 3; have hfz9_4 := aC ae.out 4; have hfz9_5 := aC ae.out 5; have jl : w6.cell? ⟨fI, 0, none⟩ = some (.int .i64 aT) := (aD cK.out 0).trans rfl; have jk : w6.cell? ⟨fI, 1, none⟩ = some (.int .i64 aU) := (aD cK.out 1).trans rfl; have ji : w6.cell? ⟨fI, 2, none⟩ = some (.slice bv aa.length bq) := (aD cK.out 2).trans rfl; have jh : w6.cell? ⟨fI, 3, none⟩ = some (.slice bu ak.length bn) := (aD cK.out 3).trans rfl; have jg := aC cK.out 0; have jf := aC cK.out 1; have je := aC cK.out 2; have jd := aC cK.out 3))
  go_loopg [17] k (fun kq v17 w' => ∃ (eQ : Int) (bf : Int) (fo : List Int) (dW : Value), v17 = .int .i64 eQ ∧ aA (bM.l0 kq aa (aa.length : Int) eQ aT aU aa ak 1 aT 2 bf fo = some (r1, r2, r3, r4, r5, r6, r7)) ∧ aA (kq ≤ k) ∧ aA (Kd.R (Kd.int .i64) 3 w' w.heap.size (fun _ => True) dW fo) ∧ aA (w'.heap[fI]? = some (.cells #[.int .i64 aT, .int .i64 aU, (.slice bv aa.length bq), (.slice bu ak.length bn)] 34 (0, 0))) ∧ aA (w'.heap[dz]? = some (.cells #[.int .i64 0, .int .i64 0, .int .i64 0, .int .i64 0, (.slice none 0 0), (.slice none 0 0)] 50 (0, 0))) ∧ aA (w'.heap[bW]? = some (.cells #[.int .i64 1, .int .i64 aT, .int .i64 2, .int .i64 bf, dW, (.slice none 0 0)] 50 (0, 0))) ∧ aA (Below w.heap.size w w'))
  case atStart => exact ⟨(0), (aU), (([] : List Int)), (.slice none 0 0), (by first | rfl | (simp; done) | (simp [*]; done)), H', ⟨Nat.le_refl _⟩, ⟨by first | exact Kd.R_nil _ _ _ _ _ | exact Kd.N_nil _ _ _ _ _ | exact Kd.V_nil _ _ _ _ _ | exact Kd.Q_nil _ _ _ _ _ | exact Kd.S_nil _ _ _ _ _⟩, ⟨by (with_reducible repeat (first | refine aM ?_ _ | refine aQ ?_ | refine aJ ?_ _)); refine bX ?_ dx.out _; (with_reducible repeat (first | refine aM ?_ _ | refine aQ ?_ | refine aJ ?_ _)); refine bX ?_ dx.out _; (with_reducible repeat (first | refine aM ?_ _ | refine aQ ?_ | refine aJ ?_ _)); refine bX ?_ dx.out _; (with_reducible repeat (first | refine aM ?_ _ | refine aQ ?_ | refine aJ ?_ _)); refine bX ?_ dx.out _; (with_reducible repeat (first | refine aM ?_ _ | refine aQ ?_ | refine aJ ?_ _)); refine bX ?_ dx.out _; (with_reducible repeat (first | refine aM ?_ _ | refine aQ ?_ | refine aJ ?_ _)); refine bX ?_ dx.out _; (with_reducible repeat (first | refine aM ?_ _ | refine aQ ?_ | refine aJ ?_ _)); exact cK.out⟩, ⟨by (with_reducible repeat (first | refine aM ?_ _ | refine aQ ?_ | refine aJ ?_ _)); refine bX ?_ fB.out _; (with_reducible repeat (first | refine aM ?_ _ | refine aQ ?_ | refine aJ ?_ _)); refine bX ?_ fB.out _; (with_reducible repeat (first | refine aM ?_ _ | refine aQ ?_ | refine aJ ?_ _)); refine bX ?_ fB.out _; (with_reducible repeat (first | refine aM ?_ _ | refine aQ ?_ | refine aJ ?_ _)); refine bX ?_ fB.out _; (with_reducible repeat (first | refine aM ?_ _ | refine aQ ?_ | refine aJ ?_ _)); refine bX ?_ fB.out _; (with_reducible repeat (first | refine aM ?_ _ | refine aQ ?_ | refine aJ ?_ _)); refine bX ?_ fB.out _; (with_reducible repeat (first | refine aM ?_ _ | refine aQ ?_ | refine aJ ?_ _)); exact dF.out⟩, ⟨by (with_reducible repeat (first | refine aM ?_ _ | refine aQ ?_ | refine aJ ?_ _)); refine bU (cs := #[.int .i64 1, .int .i64 aT, .int .i64 2, .int .i64 aU, .slice none 0 0, .slice none 0 0]) ?_ 5 _ rfl; (with_reducible repeat (first | refine aM ?_ _ | refine aQ ?_ | refine aJ ?_ _)); refine bU (cs := #[.int .i64 1, .int .i64 aT, .int .i64 2, .int .i64 aU, .slice none 0 0, .slice none 0 0]) ?_ 4 _ rfl; (with_reducible repeat (first | refine aM ?_ _ | refine aQ ?_ | refine aJ ?_ _)); refine bU (cs := #[.int .i64 1, .int .i64 aT, .int .i64 2, .int .i64 0, .slice none 0 0, .slice none 0 0]) ?_ 3 _ rfl; (with_reducible repeat (first | refine aM ?_ _ | refine aQ ?_ | refine aJ ?_ _)); refine bU (cs := #[.int .i64 1, .int .i64 aT, .int .i64 0, .int .i64 0, .slice none 0 0, .slice none 0 0]) ?_ 2 _ rfl; (with_reducible repeat (first | refine aM ?_ _ | refine aQ ?_ | refine aJ ?_ _)); refine bU (cs := #[.int .i64 1, .int .i64 0, .int .i64 0, .int .i64 0, .slice none 0 0, .slice none 0 0]) ?_ 1 _ rfl; (with_reducible repeat (first | refine aM ?_ _ | refine aQ ?_ | refine aJ ?_ _)); refine bU (cs := #[.int .i64 0, .int .i64 0, .int .i64 0, .int .i64 0, .slice none 0 0, .slice none 0 0]) ?_ 0 _ rfl; (with_reducible repeat (first | refine aM ?_ _ | refine aQ ?_ | refine aJ ?_ _)); exact ae.out⟩, ⟨by repeat (first | (with_reducible first | exact HB.out | apply aH | apply aG | apply aI | refine aN ?_ iF.out | refine aN ?_ iU.out | refine aN ?_ jM.out) | exact HB.out)⟩⟩
  case round =>
    clear H'
    try clear p2
    try clear c4
    try clear c5
    try clear c7
    try clear c8
    try clear jl
    try clear jk
    try clear ji
    try clear jh
    try clear lI
    try clear lH
    try clear lG
    try clear lF
    try clear jF
    try clear jE
    try clear jD
    try clear jC
    try clear hcz9_4
    try clear hcz9_5
    try clear jg
    try clear jf
    try clear je
    try clear jd
    try clear lD
    try clear lC
    try clear kz
    try clear ky
    try clear jB
    try clear jA
    try clear iy
    try clear iw
    try clear hfz9_4
    try clear hfz9_5
    obtain ⟨eQ, bf, fo, dW, rfl, HA, HK1, HO_161004, cK, dF, ae, HB⟩ := hrel
    cases gk with
    | zero => exact absurd HA.out (by simp [bM.l0])
    | succ k1 =>
      have H := HA.out
      clear HA
      simp only [bM.l0] at H
      by_cases c11 : eQ < (aa.length : Int)
      · rw [if_pos c11] at H
        have c11b0 : decide (eQ < (aa.length : Int)) = true := decide_eq_true c11
        clear c11
        by_cases c12 : 0 ≤ eQ
        · rw [if_pos c12] at H
          have c12b0 : decide (0 ≤ eQ) = true := decide_eq_true c12
          clear c12
          by_cases c13 : eQ < (aa.length : Int)
          · rw [if_pos c13] at H
            have c13b0 : decide (eQ < (aa.length : Int)) = true := decide_eq_true c13
            clear c13
            by_cases c14 : (rd aa eQ) < 0
            · rw [if_pos c14] at H
              have kW : decide ((rd aa eQ) < 0) = true := decide_eq_true c14
              clear c14
              by_cases c15 : fo.length < 17592186044416
              · rw [if_pos c15] at H
                have LMc15 := aA.mk c15
                clear c15
                obtain ⟨y162, hy162⟩ : ∃ y_ : List Int, y_ = (fo ++ [aU]) := ⟨_, rfl⟩
                replace H : (bM.l0 k1 aa (aa.length : Int) (wrap64 (eQ + 1)) aT aU aa ak 1 aT 2 (wrap64 (aU + 1)) y162) = some (r1, r2, r3, r4, r5, r6, r7) := by first | (rw [hy162]; with_reducible exact H) | (have H2_ := (Option.bind_some _ _).symm.trans H; rw [hy162]; with_reducible exact H2_) | (have H2_ := (Option.bind_some _ _).symm.trans H; with_reducible exact H2_) | with_reducible exact H | (rw [hy162]; exact H) | exact H
                have Ny162 := aA.mk hy162
                clear hy162
                have H' := aA.mk H
                clear H
                have p161 : 0 ≤ (eQ : Int) := of_decide_eq_true (by first | (with_reducible assumption) | assumption)
                have q161 : eQ < (aa.length : Int) := of_decide_eq_true (by first | (with_reducible assumption) | assumption)
                obtain ⟨ad161, e161, hx161_0⟩ := Kd.dN gX.out eQ p161 q161
                cases e161
                replace hx161_0 := (HB.out.cell (World.block_lt_of_cell? w _ hx161_0)).trans hx161_0
                replace p161 := eq_true p161
                replace q161 := eq_true q161
                try go_wp2
                have n0_ := aA.mk (Kd.ax HO_161004.out)
                have n1_ := aA.mk (aQ cK.out)
                have n2_ := aA.mk (aQ dF.out)
                have n3_ := aA.mk (aQ ae.out)
                have n4_ := aA.mk (aI HB.out)
                clear HO_161004
                clear cK
                clear dF
                clear ae
                clear HB
                have HO_161004 := n0_
                have cK := n1_
                have dF := n2_
                have ae := n3_
                have HB := n4_
                clear n0_ n1_ n2_ n3_ n4_
                refine l7 (n := 8) (S := fun w' => w'.cell? ⟨fI, 0, none⟩ = some (.int .i64 aT) ∧ w'.cell? ⟨fI, 1, none⟩ = some (.int .i64 aU) ∧ w'.cell? ⟨fI, 2, none⟩ = some (.slice (some ad161) aa.length bq) ∧ w'.cell? ⟨fI, 3, none⟩ = some (.slice bu ak.length bn)) (ds := []) #[false, false, false, false, false, false, false, false] (by kernel_rfl) rfl rfl ⟨(aD cK.out 0).trans rfl, (aD cK.out 1).trans rfl, (aD cK.out 2).trans rfl, (aD cK.out 3).trans rfl⟩ (fun hHeld => ?_); refine iL bM.tab6 bM.bits6 (fun HT_ HW_ => ?_)
                generalize wr.drew = w16 at HO_161004 cK dF ae HB hHeld ⊢
                refine bR (i := 0) (N := some 23) (v := ?_) (a' := ?_) #[true, false, false, false, false, false, false, false] rfl rfl (bF HT_.out (by kernel_rfl)) (fun _ _ _ h => h) (Or.inl ⟨by rfl, ?_⟩) ?_ ?_
                rotate_left
                · intro w'
                  go_simp
                  with_reducible rfl
                rotate_left
                · simp only [Act.put, List.setIfInBounds_toArray, List.set_cons_zero, List.set_cons_succ, aj, av]
                  rfl
                refine bR (i := 2) (N := some 25) (v := ?_) (a' := ?_) #[true, false, true, false, false, false, false, false] rfl rfl (bF HT_.out (by kernel_rfl)) (fun _ _ _ h => h) (Or.inl ⟨by rfl, ?_⟩) ?_ ?_
                rotate_left
                · intro w'
                  go_simp
                  with_reducible rfl
                rotate_left
                · simp only [Act.put, List.setIfInBounds_toArray, List.set_cons_zero, List.set_cons_succ, aj, av]
                  rfl
                refine gD (i := 1) (N := some 24) (v := ?_) (a' := ?_) #[true, true, true, false, false, false, false, false] rfl rfl (df HT_.out HW_.out (by kernel_rfl)) (fun _ _ _ h => h) (Or.inl ⟨by rfl, ?_⟩) hHeld ?_ ?_
                rotate_left
                · rintro w' ⟨s0, s1, s2, s3⟩
                  go_simp
                  with_reducible rfl
                rotate_left
                · simp only [Act.put, List.setIfInBounds_toArray, List.set_cons_zero, List.set_cons_succ, aj, av]
                  rfl
                refine bR (i := 5) (N := some 6) (v := ?_) (a' := ?_) #[true, true, true, false, false, true, false, false] rfl rfl (bF HT_.out (by kernel_rfl)) (fun _ _ _ h => h) (Or.inl ⟨by rfl, ?_⟩) ?_ ?_
                rotate_left
                · intro w'
                  go_simp
                  with_reducible rfl
                rotate_left
                · simp only [Act.put, List.setIfInBounds_toArray, List.set_cons_zero, List.set_cons_succ, aj, av]
                  rfl
                refine gD (i := 3) (N := some 26) (v := ?_) (a' := ?_) #[true, true, true, true, false, true, false, false] rfl rfl (df HT_.out HW_.out (by kernel_rfl)) (fun _ _ _ h => h) (Or.inl ⟨by rfl, ?_⟩) hHeld ?_ ?_
                rotate_left
                · rintro w' ⟨s0, s1, s2, s3⟩
                  go_simp
                  with_reducible rfl
                rotate_left
                · simp only [Act.put, List.setIfInBounds_toArray, List.set_cons_zero, List.set_cons_succ, aj, av]
                  rfl
                refine bR (i := 4) (N := some 27) (v := ?_) (a' := ?_) #[true, true, true, true, true, true, false, false] rfl rfl (bF HT_.out (by kernel_rfl)) (fun _ _ _ h => h) (Or.inl ⟨by rfl, ?_⟩) ?_ ?_
                rotate_left
                · intro w'
                  go_simp
                  with_reducible rfl
                rotate_left
                · simp only [Act.put, List.setIfInBounds_toArray, List.set_cons_zero, List.set_cons_succ, aj, av]
                  rfl
                refine bR (i := 6) (N := some 28) (v := ?_) (a' := ?_) #[true, true, true, true, true, true, true, false] rfl rfl (bF HT_.out (by kernel_rfl)) (fun _ _ _ h => h) (Or.inl ⟨by rfl, ?_⟩) ?_ ?_
                rotate_left
                · intro w'
                  go_simp
                  with_reducible rfl
                rotate_left
                · simp only [Act.put, List.setIfInBounds_toArray, List.set_cons_zero, List.set_cons_succ, aj, av]
                  rfl
                refine one_ (i := 7) (N := none) #[true, true, true, true, true, true, true, true] rfl rfl (gU HT_.out (by kernel_rfl)) (by decide) (fun K hK => ?_)
                have hs17 : w16.cell? ⟨bW, 3, none⟩ = some (.int .i64 bf) := (aD ae.out 3).trans rfl
                have hfs17 := aC ae.out 3
                have hns17_0 := dx.out
                have hns17_1 := fB.out
                have hms17_0 := jJ.out
                have hms17_1 := j5.out
                refine skip_ (w1 := ?_) (by rfl) rfl ?_ ?_
                rotate_left
                · go_simp
                  rfl
                refine hK.out _ _ ⟨((cell_far (p := ⟨bW, _, none⟩) dx.out _).trans (hHeld.1)), ((cell_far (p := ⟨bW, _, none⟩) dx.out _).trans (hHeld.2.1)), ((cell_far (p := ⟨bW, _, none⟩) dx.out _).trans (hHeld.2.2.1)), ((cell_far (p := ⟨bW, _, none⟩) dx.out _).trans (hHeld.2.2.2))⟩ (fun hHeld => ?_)
                clear hK K
                refine done_ (ku HT_.out (by kernel_rfl)) ?_
                have hnb18 := jJ.out
                have hnc18 := dx.out
                have hnb19 := j5.out
                have hnc19 := fB.out
                have hcz20_0 : w16.cell? ⟨bW, 0, none⟩ = some (.int .i64 1) := (aD ae.out 0).trans rfl
                have hcz20_1 : w16.cell? ⟨bW, 1, none⟩ = some (.int .i64 aT) := (aD ae.out 1).trans rfl
                have hcz20_2 : w16.cell? ⟨bW, 2, none⟩ = some (.int .i64 2) := (aD ae.out 2).trans rfl
                have hcz20_3 : w16.cell? ⟨bW, 3, none⟩ = some (.int .i64 bf) := (aD ae.out 3).trans rfl
                have hcz20_4 : w16.cell? ⟨bW, 4, none⟩ = some (dW) := (aD ae.out 4).trans rfl
                have hcz20_5 : w16.cell? ⟨bW, 5, none⟩ = some (.slice none 0 0) := (aD ae.out 5).trans rfl
                have hfz20_0 := aC ae.out 0
                have hfz20_1 := aC ae.out 1
                have hfz20_2 := aC ae.out 2
                have hfz20_3 := aC ae.out 3
                have hfz20_4 := aC ae.out 4
                have hfz20_5 := aC ae.out 5
                try go_wp2_with (first | ((with_reducible refine eX (b := .append) (xs := #[.tmp 30, .tmp 32]) rfl ?_); at_builtin; refine Kd.iG (Kd.int .i64) (w0 := w) w.heap.size rfl (.tmp 30) (.tmp 32) 32 3 (.int .i64 0) 8 rfl Try.underlying32 info3 rfl (by decide) (by omega) dW fo aU [.int .i64 aU] (fun _ => True) (fun _ => False) rfl (by first | (go_simp; done) | (go_simp; rfl)) ?aP (fun _ hk => hk.elim) ?aF ?aO ?aB ?aS ?aL ?_; (case aP => exact rfl); (case aB => exact (by repeat (first | (with_reducible first | exact HB.out | apply aH | apply aG | apply aI | refine aN ?_ iF.out | refine aN ?_ iU.out | refine aN ?_ jM.out) | exact HB.out))); (case aF => exact (fun _ _ => trivial)); (case aO => exact (by (with_reducible repeat (first | apply Kd.ai | apply Kd.ah | apply Kd.ax)); exact Kd.bV (Kd.bg (p := ⟨bW, 3, none⟩) (Kd.eY HO_161004.out ae.out (by decide)) (fun _ hk => hk.2) (.int .i64 (wrap64 (aU + 1)))) (fun _ hk => trivial))); (case aS => exact (aY (by repeat (first | (with_reducible first | exact HB.out | apply aH | apply aG | apply aI | refine aN ?_ iF.out | refine aN ?_ iU.out | refine aN ?_ jM.out) | exact HB.out)))); (case aL => have := LMc15.out; omega); intro v163 w21 ho hb hg hat; rw [← Ny162.out] at ho; have n0_ := aA.mk (fA (g := fI) (o := .cells #[.int .i64 aT, .int .i64 aU, .slice (some ad161) aa.length bq, .slice bu ak.length bn] 34 (0, 0)) (by (with_reducible repeat (first | refine aM ?_ _ | refine aQ ?_ | refine aJ ?_ _)); refine bX ?_ dx.out _; (with_reducible repeat (first | refine aM ?_ _ | refine aQ ?_ | refine aJ ?_ _)); exact cK.out) hg (Kd.R_ne HO_161004.out cK.out (by decide))); have n1_ := aA.mk (fA (g := dz) (o := .cells #[.int .i64 0, .int .i64 0, .int .i64 0, .int .i64 0, .slice none 0 0, .slice none 0 0] 50 (0, 0)) (by (with_reducible repeat (first | refine aM ?_ _ | refine aQ ?_ | refine aJ ?_ _)); refine bX ?_ fB.out _; (with_reducible repeat (first | refine aM ?_ _ | refine aQ ?_ | refine aJ ?_ _)); exact dF.out) hg (Kd.R_ne HO_161004.out dF.out (by decide))); have n2_ := aA.mk (fA (g := bW) (o := .cells #[.int .i64 1, .int .i64 aT, .int .i64 2, .int .i64 (wrap64 (aU + 1)), dW, .slice none 0 0] 50 (0, 0)) (by (with_reducible repeat (first | refine aM ?_ _ | refine aQ ?_ | refine aJ ?_ _)); refine bU (cs := #[.int .i64 1, .int .i64 aT, .int .i64 2, .int .i64 bf, dW, .slice none 0 0]) ?_ 3 _ rfl; (with_reducible repeat (first | refine aM ?_ _ | refine aQ ?_ | refine aJ ?_ _)); exact ae.out) hg (Kd.R_ne HO_161004.out ae.out (by decide))); have n3_ := aA.mk (hb); have n4_ := aA.mk (ho); clear cK; clear dF; clear ae; clear HB; clear HO_161004; have cK := n0_; have dF := n1_; have ae := n2_; have HB := n3_; have HO164 := n4_; clear n0_ n1_ n2_ n3_ n4_; clear ho hb hg hat; obtain ⟨Ao22, co22, eo22⟩ := Kd.cB HO164.out; subst eo22; have hcz23_0 : w21.cell? ⟨bW, 0, none⟩ = some (.int .i64 1) := (aD ae.out 0).trans rfl; have hcz23_1 : w21.cell? ⟨bW, 1, none⟩ = some (.int .i64 aT) := (aD ae.out 1).trans rfl; have hcz23_2 : w21.cell? ⟨bW, 2, none⟩ = some (.int .i64 2) := (aD ae.out 2).trans rfl; have hcz23_3 : w21.cell? ⟨bW, 3, none⟩ = some (.int .i64 (wrap64 (aU + 1))) := (aD ae.out 3).trans rfl; have hcz23_4 : w21.cell? ⟨bW, 4, none⟩ = some (dW) := (aD ae.out 4).trans rfl; have hcz23_5 : w21.cell? ⟨bW, 5, none⟩ = some (.slice none 0 0) := (aD ae.out 5).trans rfl; have hfz23_0 := aC ae.out 0; have hfz23_1 := aC ae.out 1; have hfz23_2 := aC ae.out 2; have hfz23_3 := aC ae.out 3; have hfz23_4 := aC ae.out 4; have hfz23_5 := aC ae.out 5))
                go_roundg k1
                case measure => have := HK1.out; omega
                case rel => exact ⟨(wrap64 (eQ + 1)), (wrap64 (aU + 1)), (y162), (.slice Ao22 y162.length co22), (by first | rfl | (simp; done) | (simp [*]; done)), H', ⟨by have := HK1.out; omega⟩, ⟨by (with_reducible repeat (first | apply Kd.ai | apply Kd.ah | apply Kd.ax)); exact Kd.bV (Kd.bg (p := ⟨bW, 4, none⟩) (Kd.eY HO164.out ae.out (by decide)) (fun _ hk => hk.2) (.slice Ao22 y162.length co22)) (fun _ hk => trivial)⟩, ⟨by (with_reducible repeat (first | refine aM ?_ _ | refine aQ ?_ | refine aJ ?_ _)); refine bX ?_ dx.out _; (with_reducible repeat (first | refine aM ?_ _ | refine aQ ?_ | refine aJ ?_ _)); exact cK.out⟩, ⟨by (with_reducible repeat (first | refine aM ?_ _ | refine aQ ?_ | refine aJ ?_ _)); refine bX ?_ fB.out _; (with_reducible repeat (first | refine aM ?_ _ | refine aQ ?_ | refine aJ ?_ _)); exact dF.out⟩, ⟨by (with_reducible repeat (first | refine aM ?_ _ | refine aQ ?_ | refine aJ ?_ _)); refine bU (cs := #[.int .i64 1, .int .i64 aT, .int .i64 2, .int .i64 (wrap64 (aU + 1)), dW, .slice none 0 0]) ?_ 4 _ rfl; (with_reducible repeat (first | refine aM ?_ _ | refine aQ ?_ | refine aJ ?_ _)); exact ae.out⟩, ⟨by repeat (first | (with_reducible first | exact HB.out | apply aH | apply aG | apply aI | refine aN ?_ iF.out | refine aN ?_ iU.out | refine aN ?_ jM.out) | exact HB.out)⟩⟩
              · rw [if_neg c15] at H
                exact absurd H (by simp)
            · rw [if_neg c14] at H
              have kW : decide ((rd aa eQ) < 0) = false := decide_eq_false c14
              clear c14
              by_cases c24 : fo.length < 17592186044416
              · rw [if_pos c24] at H
                have LMc24 := aA.mk c24
                clear c24
                obtain ⟨y165, hy165⟩ : ∃ y_ : List Int, y_ = (fo ++ [rd aa eQ]) := ⟨_, rfl⟩
                replace H : (bM.l0 k1 aa (aa.length : Int) (wrap64 (eQ + 1)) aT aU aa ak 1 aT 2 bf y165) = some (r1, r2, r3, r4, r5, r6, r7) := by first | (rw [hy165]; with_reducible exact H) | (have H2_ := (Option.bind_some _ _).symm.trans H; rw [hy165]; with_reducible exact H2_) | (have H2_ := (Option.bind_some _ _).symm.trans H; with_reducible exact H2_) | with_reducible exact H | (rw [hy165]; exact H) | exact H
                have Ny165 := aA.mk hy165
                clear hy165
                have H' := aA.mk H
                clear H
                have p161 : 0 ≤ (eQ : Int) := of_decide_eq_true (by first | (with_reducible assumption) | assumption)
                have q161 : eQ < (aa.length : Int) := of_decide_eq_true (by first | (with_reducible assumption) | assumption)
                obtain ⟨ad161, e161, hx161_0⟩ := Kd.dN gX.out eQ p161 q161
                cases e161
                replace hx161_0 := (HB.out.cell (World.block_lt_of_cell? w _ hx161_0)).trans hx161_0
                replace p161 := eq_true p161
                replace q161 := eq_true q161
                have hnb25 := jJ.out
                have hnc25 := dx.out
                have hnb26 := j5.out
                have hnc26 := fB.out
                have hcz27_0 : wr.cell? ⟨bW, 0, none⟩ = some (.int .i64 1) := (aD ae.out 0).trans rfl
                have hcz27_1 : wr.cell? ⟨bW, 1, none⟩ = some (.int .i64 aT) := (aD ae.out 1).trans rfl
                have hcz27_2 : wr.cell? ⟨bW, 2, none⟩ = some (.int .i64 2) := (aD ae.out 2).trans rfl
                have hcz27_3 : wr.cell? ⟨bW, 3, none⟩ = some (.int .i64 bf) := (aD ae.out 3).trans rfl
                have hcz27_4 : wr.cell? ⟨bW, 4, none⟩ = some (dW) := (aD ae.out 4).trans rfl
                have hcz27_5 : wr.cell? ⟨bW, 5, none⟩ = some (.slice none 0 0) := (aD ae.out 5).trans rfl
                have hfz27_0 := aC ae.out 0
                have hfz27_1 := aC ae.out 1
                have hfz27_2 := aC ae.out 2
                have hfz27_3 := aC ae.out 3
                have hfz27_4 := aC ae.out 4
                have hfz27_5 := aC ae.out 5
                go_wp2_with (first | ((with_reducible refine eX (b := .append) (xs := #[.tmp 30, .tmp 32]) rfl ?_); at_builtin; refine Kd.iG (Kd.int .i64) (w0 := w) w.heap.size rfl (.tmp 30) (.tmp 32) 32 3 (.int .i64 0) 8 rfl Try.underlying32 info3 rfl (by decide) (by omega) dW fo (rd aa eQ) [.int .i64 (rd aa eQ)] (fun _ => True) (fun _ => False) rfl rfl ?aP (fun _ hk => hk.elim) ?aF ?aO ?aB ?aS ?aL ?_; (case aP => exact rfl); (case aB => exact (by repeat (first | (with_reducible first | exact HB.out | apply aH | apply aG | apply aI | refine aN ?_ iF.out | refine aN ?_ iU.out | refine aN ?_ jM.out) | exact HB.out))); (case aF => exact (fun _ _ => trivial)); (case aO => exact (by (with_reducible repeat (first | apply Kd.ai | apply Kd.ah | apply Kd.ax)); exact HO_161004.out)); (case aS => exact (aY (by repeat (first | (with_reducible first | exact HB.out | apply aH | apply aG | apply aI | refine aN ?_ iF.out | refine aN ?_ iU.out | refine aN ?_ jM.out) | exact HB.out)))); (case aL => have := LMc24.out; omega); intro v166 w28 ho hb hg hat; rw [← Ny165.out] at ho; have n0_ := aA.mk (fA (g := fI) (o := .cells #[.int .i64 aT, .int .i64 aU, .slice (some ad161) aa.length bq, .slice bu ak.length bn] 34 (0, 0)) (by (with_reducible repeat (first | refine aM ?_ _ | refine aQ ?_ | refine aJ ?_ _)); exact cK.out) hg (Kd.R_ne HO_161004.out cK.out (by decide))); have n1_ := aA.mk (fA (g := dz) (o := .cells #[.int .i64 0, .int .i64 0, .int .i64 0, .int .i64 0, .slice none 0 0, .slice none 0 0] 50 (0, 0)) (by (with_reducible repeat (first | refine aM ?_ _ | refine aQ ?_ | refine aJ ?_ _)); exact dF.out) hg (Kd.R_ne HO_161004.out dF.out (by decide))); have n2_ := aA.mk (fA (g := bW) (o := .cells #[.int .i64 1, .int .i64 aT, .int .i64 2, .int .i64 bf, dW, .slice none 0 0] 50 (0, 0)) (by (with_reducible repeat (first | refine aM ?_ _ | refine aQ ?_ | refine aJ ?_ _)); exact ae.out) hg (Kd.R_ne HO_161004.out ae.out (by decide))); have n3_ := aA.mk (hb); have n4_ := aA.mk (ho); clear cK; clear dF; clear ae; clear HB; clear HO_161004; have cK := n0_; have dF := n1_; have ae := n2_; have HB := n3_; have HO167 := n4_; clear n0_ n1_ n2_ n3_ n4_; clear ho hb hg hat; obtain ⟨Ao29, co29, eo29⟩ := Kd.cB HO167.out; subst eo29; have hcz30_0 : w28.cell? ⟨bW, 0, none⟩ = some (.int .i64 1) := (aD ae.out 0).trans rfl; have hcz30_1 : w28.cell? ⟨bW, 1, none⟩ = some (.int .i64 aT) := (aD ae.out 1).trans rfl; have hcz30_2 : w28.cell? ⟨bW, 2, none⟩ = some (.int .i64 2) := (aD ae.out 2).trans rfl; have hcz30_3 : w28.cell? ⟨bW, 3, none⟩ = some (.int .i64 bf) := (aD ae.out 3).trans rfl; have hcz30_4 : w28.cell? ⟨bW, 4, none⟩ = some (dW) := (aD ae.out 4).trans rfl; have hcz30_5 : w28.cell? ⟨bW, 5, none⟩ = some (.slice none 0 0) := (aD ae.out 5).trans rfl; have hfz30_0 := aC ae.out 0; have hfz30_1 := aC ae.out 1; have hfz30_2 := aC ae.out 2; have hfz30_3 := aC ae.out 3; have hfz30_4 := aC ae.out 4; have hfz30_5 := aC ae.out 5))
                go_roundg k1
                case measure => have := HK1.out; omega
                case rel => exact ⟨(wrap64 (eQ + 1)), (bf), (y165), (.slice Ao29 y165.length co29), (by first | rfl | (simp; done) | (simp [*]; done)), H', ⟨by have := HK1.out; omega⟩, ⟨by (with_reducible repeat (first | apply Kd.ai | apply Kd.ah | apply Kd.ax)); exact Kd.bV (Kd.bg (p := ⟨bW, 4, none⟩) (Kd.eY HO167.out ae.out (by decide)) (fun _ hk => hk.2) (.slice Ao29 y165.length co29)) (fun _ hk => trivial)⟩, ⟨by (with_reducible repeat (first | refine aM ?_ _ | refine aQ ?_ | refine aJ ?_ _)); refine bX ?_ dx.out _; (with_reducible repeat (first | refine aM ?_ _ | refine aQ ?_ | refine aJ ?_ _)); exact cK.out⟩, ⟨by (with_reducible repeat (first | refine aM ?_ _ | refine aQ ?_ | refine aJ ?_ _)); refine bX ?_ fB.out _; (with_reducible repeat (first | refine aM ?_ _ | refine aQ ?_ | refine aJ ?_ _)); exact dF.out⟩, ⟨by (with_reducible repeat (first | refine aM ?_ _ | refine aQ ?_ | refine aJ ?_ _)); refine bU (cs := #[.int .i64 1, .int .i64 aT, .int .i64 2, .int .i64 bf, dW, .slice none 0 0]) ?_ 4 _ rfl; (with_reducible repeat (first | refine aM ?_ _ | refine aQ ?_ | refine aJ ?_ _)); exact ae.out⟩, ⟨by repeat (first | (with_reducible first | exact HB.out | apply aH | apply aG | apply aI | refine aN ?_ iF.out | refine aN ?_ iU.out | refine aN ?_ jM.out) | exact HB.out)⟩⟩
              · rw [if_neg c24] at H
                exact absurd H (by simp)
          · rw [if_neg c13] at H
            exact absurd H (by simp)
        · rw [if_neg c12] at H
          exact absurd H (by simp)
      · rw [if_neg c11] at H
        have c11b0 : decide (eQ < (aa.length : Int)) = false := decide_eq_false c11
        clear c11
        have H' := aA.mk H
        clear H
        have hnb31 := NB158_159.out
        have hnc31 := NB159_158.out
        have hnb32 := dx.out
        have hnc32 := jJ.out
        have hcz33_0 : wr.cell? ⟨fI, 0, none⟩ = some (.int .i64 aT) := (aD cK.out 0).trans rfl
        have hcz33_1 : wr.cell? ⟨fI, 1, none⟩ = some (.int .i64 aU) := (aD cK.out 1).trans rfl
        have hcz33_2 : wr.cell? ⟨fI, 2, none⟩ = some (.slice bv aa.length bq) := (aD cK.out 2).trans rfl
        have hcz33_3 : wr.cell? ⟨fI, 3, none⟩ = some (.slice bu ak.length bn) := (aD cK.out 3).trans rfl
        have hfz33_0 := aC cK.out 0
        have hfz33_1 := aC cK.out 1
        have hfz33_2 := aC cK.out 2
        have hfz33_3 := aC cK.out 3
        go_wp2
        go_loopg [39] k1 (fun kq v39 w' => ∃ (lX : Int) (gY : List Int) (ik : Value), v39 = .int .i64 lX ∧ aA (bM.l1 kq ak (ak.length : Int) lX aT aU aa ak 1 aT 2 bf fo gY = some (r1, r2, r3, r4, r5, r6, r7)) ∧ aA (kq ≤ k1) ∧ aA (Kd.R (Kd.int .i64) 3 w' w.heap.size (fun k_ => some k_ ≠ (ik : Value).ownBlock) dW fo) ∧ aA (Kd.R (Kd.int .i64) 3 w' w.heap.size (fun k_ => some k_ ≠ (dW : Value).ownBlock) ik gY) ∧ aA (w'.heap[fI]? = some (.cells #[.int .i64 aT, .int .i64 aU, (.slice bv aa.length bq), (.slice bu ak.length bn)] 34 (0, 0))) ∧ aA (w'.heap[dz]? = some (.cells #[.int .i64 0, .int .i64 0, .int .i64 0, .int .i64 0, (.slice none 0 0), (.slice none 0 0)] 50 (0, 0))) ∧ aA (w'.heap[bW]? = some (.cells #[.int .i64 1, .int .i64 aT, .int .i64 2, .int .i64 bf, dW, ik] 50 (0, 0))) ∧ aA (Below w.heap.size w w'))
        case atStart => exact ⟨(0), (([] : List Int)), (.slice none 0 0), (by first | rfl | (simp; done) | (simp [*]; done)), H', ⟨Nat.le_refl _⟩, ⟨by (with_reducible repeat (first | apply Kd.ai | apply Kd.ah | apply Kd.ax)); exact Kd.bV HO_161004.out (fun _ hk => (by simp [Value.ownBlock]))⟩, ⟨by first | exact Kd.R_nil _ _ _ _ _ | exact Kd.N_nil _ _ _ _ _ | exact Kd.V_nil _ _ _ _ _ | exact Kd.Q_nil _ _ _ _ _ | exact Kd.S_nil _ _ _ _ _⟩, ⟨by (with_reducible repeat (first | refine aM ?_ _ | refine aQ ?_ | refine aJ ?_ _)); exact cK.out⟩, ⟨by (with_reducible repeat (first | refine aM ?_ _ | refine aQ ?_ | refine aJ ?_ _)); exact dF.out⟩, ⟨by (with_reducible repeat (first | refine aM ?_ _ | refine aQ ?_ | refine aJ ?_ _)); exact ae.out⟩, ⟨by repeat (first | (with_reducible first | exact HB.out | apply aH | apply aG | apply aI | refine aN ?_ iF.out | refine aN ?_ iU.out | refine aN ?_ jM.out) | exact HB.out)⟩⟩
        case round =>
          clear H'
          try clear c1
          try clear p1
          try clear q1
          try clear hx1
          try clear c2
          try clear p2
          try clear c3
          try clear c4
          try clear c5
          try clear p6
          try clear c7
          try clear c8
          try clear c11
          try clear c11b0
          try clear c12
          try clear c12b0
          try clear c13
          try clear c13b0
          try clear c14
          try clear kW
          try clear c15
          try clear p16
          try clear q16
          try clear hx16
          try clear c18
          try clear c19
          try clear c24
          try clear c25
          try clear c26
          try clear c31
          try clear c32
          try clear jl
          try clear jk
          try clear ji
          try clear jh
          try clear hcz20_0
          try clear hcz20_1
          try clear hcz20_2
          try clear hcz20_3
          try clear hcz20_4
          try clear hcz20_5
          try clear hcz23_0
          try clear hcz23_1
          try clear hcz23_2
          try clear hcz23_3
          try clear hcz23_4
          try clear hcz23_5
          try clear hcz27_0
          try clear hcz27_1
          try clear hcz27_2
          try clear hcz27_3
          try clear hcz27_4
          try clear hcz27_5
          try clear hcz30_0
          try clear hcz30_1
          try clear hcz30_2
          try clear hcz30_3
          try clear hcz30_4
          try clear hcz30_5
          try clear hcz33_0
          try clear hcz33_1
          try clear hcz33_2
          try clear hcz33_3
          try clear lI
          try clear lH
          try clear lG
          try clear lF
          try clear jF
          try clear jE
          try clear jD
          try clear jC
          try clear hcz9_4
          try clear hcz9_5
          try clear jg
          try clear jf
          try clear je
          try clear jd
          try clear hfz20_0
          try clear hfz20_1
          try clear hfz20_2
          try clear hfz20_3
          try clear hfz20_4
          try clear hfz20_5
          try clear hfz23_0
          try clear hfz23_1
          try clear hfz23_2
          try clear hfz23_3
          try clear hfz23_4
          try clear hfz23_5
          try clear hfz27_0
          try clear hfz27_1
          try clear hfz27_2
          try clear hfz27_3
          try clear hfz27_4
          try clear hfz27_5
          try clear hfz30_0
          try clear hfz30_1
          try clear hfz30_2
          try clear hfz30_3
          try clear hfz30_4
          try clear hfz30_5
          try clear hfz33_0
          try clear hfz33_1
          try clear hfz33_2
          try clear hfz33_3
          try clear lD
          try clear lC
          try clear kz
          try clear ky
          try clear jB
          try clear jA
          try clear iy
          try clear iw
          try clear hfz9_4
          try clear hfz9_5
          try clear hx161_0
          try clear p161
          try clear p2
          try clear q161
          obtain ⟨lX, gY, ik, rfl, HA, HK2, HO_161004, HO_161005, cK, dF, ae, HB⟩ := hrel
          cases gk with
          | zero => exact absurd HA.out (by simp [bM.l1])
          | succ k2 =>
            have H := HA.out
            clear HA
            simp only [bM.l1] at H
            by_cases c34 : lX < (ak.length : Int)
            · rw [if_pos c34] at H
              have c34b0 : decide (lX < (ak.length : Int)) = true := decide_eq_true c34
              clear c34
              by_cases c35 : 0 ≤ lX
              · rw [if_pos c35] at H
                have c35b0 : decide (0 ≤ lX) = true := decide_eq_true c35
                clear c35
                by_cases c36 : lX < (ak.length : Int)
                · rw [if_pos c36] at H
                  have c36b0 : decide (lX < (ak.length : Int)) = true := decide_eq_true c36
                  clear c36
                  obtain ⟨ji37, hji37⟩ : ∃ j_ : Int, (mx (rd ak lX) 0) = j_ := ⟨_, rfl⟩
                  replace H : (if gY.length < 17592186044416 then (bM.l1 k2 ak (ak.length : Int) (wrap64 (lX + 1)) aT aU aa ak 1 aT 2 bf fo (gY ++ [ji37])) else (none)) = some (r1, r2, r3, r4, r5, r6, r7) := by first | (rw [hji37] at H; exact H) | (simp only [hji37] at H ⊢; exact H)
                  have hji37_ : (if (rd ak lX) < 0 then 0 else (rd ak lX)) = ji37 := hji37
                  by_cases c38 : gY.length < 17592186044416
                  · rw [if_pos c38] at H
                    have LMc38 := aA.mk c38
                    clear c38
                    obtain ⟨y169, hy169⟩ : ∃ y_ : List Int, y_ = (gY ++ [ji37]) := ⟨_, rfl⟩
                    replace H : (bM.l1 k2 ak (ak.length : Int) (wrap64 (lX + 1)) aT aU aa ak 1 aT 2 bf fo y169) = some (r1, r2, r3, r4, r5, r6, r7) := by first | (rw [hy169]; with_reducible exact H) | (have H2_ := (Option.bind_some _ _).symm.trans H; rw [hy169]; with_reducible exact H2_) | (have H2_ := (Option.bind_some _ _).symm.trans H; with_reducible exact H2_) | with_reducible exact H | (rw [hy169]; exact H) | exact H
                    have Ny169 := aA.mk hy169
                    clear hy169
                    have H' := aA.mk H
                    clear H
                    have p168 : 0 ≤ (lX : Int) := of_decide_eq_true (by first | (with_reducible assumption) | assumption)
                    have q168 : lX < (ak.length : Int) := of_decide_eq_true (by first | (with_reducible assumption) | assumption)
                    obtain ⟨ad168, e168, hx168_0⟩ := Kd.dN gu.out lX p168 q168
                    cases e168
                    replace hx168_0 := (HB.out.cell (World.block_lt_of_cell? w _ hx168_0)).trans hx168_0
                    replace p168 := eq_true p168
                    replace q168 := eq_true q168
                    have hnb39 := jJ.out
                    have hnc39 := dx.out
                    have hnb40 := j5.out
                    have hnc40 := fB.out
                    have hcz41_0 : wr.cell? ⟨bW, 0, none⟩ = some (.int .i64 1) := (aD ae.out 0).trans rfl
                    have hcz41_1 : wr.cell? ⟨bW, 1, none⟩ = some (.int .i64 aT) := (aD ae.out 1).trans rfl
                    have hcz41_2 : wr.cell? ⟨bW, 2, none⟩ = some (.int .i64 2) := (aD ae.out 2).trans rfl
                    have hcz41_3 : wr.cell? ⟨bW, 3, none⟩ = some (.int .i64 bf) := (aD ae.out 3).trans rfl
                    have hcz41_4 : wr.cell? ⟨bW, 4, none⟩ = some (dW) := (aD ae.out 4).trans rfl
                    have hcz41_5 : wr.cell? ⟨bW, 5, none⟩ = some (ik) := (aD ae.out 5).trans rfl
                    have hfz41_0 := aC ae.out 0
                    have hfz41_1 := aC ae.out 1
                    have hfz41_2 := aC ae.out 2
                    have hfz41_3 := aC ae.out 3
                    have hfz41_4 := aC ae.out 4
                    have hfz41_5 := aC ae.out 5
                    go_wp2_with (first | ((with_reducible refine eX (b := .append) (xs := #[.tmp 44, .tmp 47]) rfl ?_); at_builtin; refine Kd.iG (Kd.int .i64) (w0 := w) w.heap.size rfl (.tmp 44) (.tmp 47) 32 3 (.int .i64 0) 8 rfl Try.underlying32 info3 rfl (by decide) (by omega) ik gY ji37 [.int .i64 ji37] (fun k_ => some k_ ≠ (dW : Value).ownBlock) (fun _ => False) rfl rfl ?aP (fun _ hk => hk.elim) ?aF ?aO ?aB ?aS ?aL ?_; (case aP => exact rfl); (case aB => exact (by repeat (first | (with_reducible first | exact HB.out | apply aH | apply aG | apply aI | refine aN ?_ iF.out | refine aN ?_ iU.out | refine aN ?_ jM.out) | exact HB.out))); (case aF => exact (fun k_ hk => Kd.fresh' (Kd.j6 (by (with_reducible repeat (first | apply Kd.ai | apply Kd.ah | apply Kd.ax)); exact HO_161004.out)) k_ hk)); (case aO => exact (by (with_reducible repeat (first | apply Kd.ai | apply Kd.ah | apply Kd.ax)); exact HO_161005.out)); (case aS => exact (aY (by repeat (first | (with_reducible first | exact HB.out | apply aH | apply aG | apply aI | refine aN ?_ iF.out | refine aN ?_ iU.out | refine aN ?_ jM.out) | exact HB.out)))); (case aL => have := LMc38.out; omega); intro v170 w42 ho hb hg hat; rw [← Ny169.out] at ho; have n0_ := aA.mk (Kd.lc (ok := (fun _ => True)) (by (with_reducible repeat (first | apply Kd.ai | apply Kd.ah | apply Kd.ax)); exact Kd.bV HO_161004.out (fun _ hk => ⟨trivial, hk⟩)) hg hat); have n1_ := aA.mk (fA (g := fI) (o := .cells #[.int .i64 aT, .int .i64 aU, .slice bv aa.length bq, .slice (some ad168) ak.length bn] 34 (0, 0)) (by (with_reducible repeat (first | refine aM ?_ _ | refine aQ ?_ | refine aJ ?_ _)); exact cK.out) hg (Kd.R_ne HO_161005.out cK.out (by decide))); have n2_ := aA.mk (fA (g := dz) (o := .cells #[.int .i64 0, .int .i64 0, .int .i64 0, .int .i64 0, .slice none 0 0, .slice none 0 0] 50 (0, 0)) (by (with_reducible repeat (first | refine aM ?_ _ | refine aQ ?_ | refine aJ ?_ _)); exact dF.out) hg (Kd.R_ne HO_161005.out dF.out (by decide))); have n3_ := aA.mk (fA (g := bW) (o := .cells #[.int .i64 1, .int .i64 aT, .int .i64 2, .int .i64 bf, dW, ik] 50 (0, 0)) (by (with_reducible repeat (first | refine aM ?_ _ | refine aQ ?_ | refine aJ ?_ _)); exact ae.out) hg (Kd.R_ne HO_161005.out ae.out (by decide))); have n4_ := aA.mk (hb); have n5_ := aA.mk (ho); clear HO_161004; clear cK; clear dF; clear ae; clear HB; clear HO_161005; have HO_161004 := n0_; have cK := n1_; have dF := n2_; have ae := n3_; have HB := n4_; have HO171 := n5_; clear n0_ n1_ n2_ n3_ n4_ n5_; clear ho hb hg hat; obtain ⟨Ao43, co43, eo43⟩ := Kd.cB HO171.out; subst eo43; have hcz44_0 : w42.cell? ⟨bW, 0, none⟩ = some (.int .i64 1) := (aD ae.out 0).trans rfl; have hcz44_1 : w42.cell? ⟨bW, 1, none⟩ = some (.int .i64 aT) := (aD ae.out 1).trans rfl; have hcz44_2 : w42.cell? ⟨bW, 2, none⟩ = some (.int .i64 2) := (aD ae.out 2).trans rfl; have hcz44_3 : w42.cell? ⟨bW, 3, none⟩ = some (.int .i64 bf) := (aD ae.out 3).trans rfl; have hcz44_4 : w42.cell? ⟨bW, 4, none⟩ = some (dW) := (aD ae.out 4).trans rfl; have hcz44_5 : w42.cell? ⟨bW, 5, none⟩ = some (ik) := (aD ae.out 5).trans rfl; have hfz44_0 := aC ae.out 0; have hfz44_1 := aC ae.out 1; have hfz44_2 := aC ae.out 2; have hfz44_3 := aC ae.out 3; have hfz44_4 := aC ae.out 4; have hfz44_5 := aC ae.out 5))
                    go_roundg k2
                    case measure => have := HK1.out; have := HK2.out; omega
                    case rel => exact ⟨(wrap64 (lX + 1)), (y169), (.slice Ao43 y169.length co43), (by first | rfl | (simp; done) | (simp [*]; done)), H', ⟨by have := HK1.out; have := HK2.out; omega⟩, ⟨by (with_reducible repeat (first | apply Kd.ai | apply Kd.ah | apply Kd.ax)); exact Kd.bV (Kd.bg (p := ⟨bW, 5, none⟩) (Kd.eY HO_161004.out ae.out (by decide)) (fun _ hk => hk.2) (.slice Ao43 y169.length co43)) (fun _ hk => hk.1.2)⟩, ⟨by (with_reducible repeat (first | apply Kd.ai | apply Kd.ah | apply Kd.ax)); exact Kd.bV (Kd.bg (p := ⟨bW, 5, none⟩) (Kd.eY HO171.out ae.out (by decide)) (fun _ hk => hk.2) (.slice Ao43 y169.length co43)) (fun _ hk => hk.1)⟩, ⟨by (with_reducible repeat (first | refine aM ?_ _ | refine aQ ?_ | refine aJ ?_ _)); refine bX ?_ dx.out _; (with_reducible repeat (first | refine aM ?_ _ | refine aQ ?_ | refine aJ ?_ _)); exact cK.out⟩, ⟨by (with_reducible repeat (first | refine aM ?_ _ | refine aQ ?_ | refine aJ ?_ _)); refine bX ?_ fB.out _; (with_reducible repeat (first | refine aM ?_ _ | refine aQ ?_ | refine aJ ?_ _)); exact dF.out⟩, ⟨by (with_reducible repeat (first | refine aM ?_ _ | refine aQ ?_ | refine aJ ?_ _)); refine bU (cs := #[.int .i64 1, .int .i64 aT, .int .i64 2, .int .i64 bf, dW, ik]) ?_ 5 _ rfl; (with_reducible repeat (first | refine aM ?_ _ | refine aQ ?_ | refine aJ ?_ _)); exact ae.out⟩, ⟨by repeat (first | (with_reducible first | exact HB.out | apply aH | apply aG | apply aI | refine aN ?_ iF.out | refine aN ?_ iU.out | refine aN ?_ jM.out) | exact HB.out)⟩⟩
                  · rw [if_neg c38] at H
                    exact absurd H (by simp)
                · rw [if_neg c36] at H
                  exact absurd H (by simp)
              · rw [if_neg c35] at H
                exact absurd H (by simp)
            · rw [if_neg c34] at H
              have c34b0 : decide (lX < (ak.length : Int)) = false := decide_eq_false c34
              clear c34
              by_cases c45 : bf > 1024
              · rw [if_pos c45] at H
                have c45b0 : decide (1024 < bf) = true := decide_eq_true c45
                clear c45
                simp only [Option.some.injEq, Prod.mk.injEq] at H
                obtain ⟨rfl, rfl, rfl, rfl, rfl, rfl, rfl⟩ := H
                have hnb46 := jJ.out
                have hnc46 := dx.out
                have hnb47 := j5.out
                have hnc47 := fB.out
                have hcz48_0 : wr.cell? ⟨bW, 0, none⟩ = some (.int .i64 1) := (aD ae.out 0).trans rfl
                have hcz48_1 : wr.cell? ⟨bW, 1, none⟩ = some (.int .i64 aT) := (aD ae.out 1).trans rfl
                have hcz48_2 : wr.cell? ⟨bW, 2, none⟩ = some (.int .i64 2) := (aD ae.out 2).trans rfl
                have hcz48_3 : wr.cell? ⟨bW, 3, none⟩ = some (.int .i64 bf) := (aD ae.out 3).trans rfl
                have hcz48_4 : wr.cell? ⟨bW, 4, none⟩ = some (dW) := (aD ae.out 4).trans rfl
                have hcz48_5 : wr.cell? ⟨bW, 5, none⟩ = some (ik) := (aD ae.out 5).trans rfl
                have hfz48_0 := aC ae.out 0
                have hfz48_1 := aC ae.out 1
                have hfz48_2 := aC ae.out 2
                have hfz48_3 := aC ae.out 3
                have hfz48_4 := aC ae.out 4
                have hfz48_5 := aC ae.out 5
                have hnb49 := NB159_158.out
                have hnc49 := NB158_159.out
                have hcz50_0 : wr.cell? ⟨dz, 0, none⟩ = some (.int .i64 0) := (aD dF.out 0).trans rfl
                have hcz50_1 : wr.cell? ⟨dz, 1, none⟩ = some (.int .i64 0) := (aD dF.out 1).trans rfl
                have hcz50_2 : wr.cell? ⟨dz, 2, none⟩ = some (.int .i64 0) := (aD dF.out 2).trans rfl
                have hcz50_3 : wr.cell? ⟨dz, 3, none⟩ = some (.int .i64 0) := (aD dF.out 3).trans rfl
                have hcz50_4 : wr.cell? ⟨dz, 4, none⟩ = some (.slice none 0 0) := (aD dF.out 4).trans rfl
                have hcz50_5 : wr.cell? ⟨dz, 5, none⟩ = some (.slice none 0 0) := (aD dF.out 5).trans rfl
                have hfz50_0 := aC dF.out 0
                have hfz50_1 := aC dF.out 1
                have hfz50_2 := aC dF.out 2
                have hfz50_3 := aC dF.out 3
                have hfz50_4 := aC dF.out 4
                have hfz50_5 := aC dF.out 5
                go_wp2
                refine bodyPost_ret (iV rfl _ _ dz 50 #[.int .i64 0, .int .i64 0, .int .i64 0, .int .i64 0, .slice none 0 0, .slice none 0 0] (0, 0) _ rfl (by (with_reducible repeat (first | refine aM ?_ _ | refine aQ ?_ | refine aJ ?_ _)); refine bU (cs := #[.int .i64 0, .int .i64 0, .int .i64 0, .int .i64 0, .slice none 0 0, .slice none 0 0]) ?_ 5 _ rfl; (with_reducible repeat (first | refine aM ?_ _ | refine aQ ?_ | refine aJ ?_ _)); refine bU (cs := #[.int .i64 0, .int .i64 0, .int .i64 0, .int .i64 0, .slice none 0 0, .slice none 0 0]) ?_ 4 _ rfl; (with_reducible repeat (first | refine aM ?_ _ | refine aQ ?_ | refine aJ ?_ _)); refine bU (cs := #[.int .i64 0, .int .i64 0, .int .i64 0, .int .i64 0, .slice none 0 0, .slice none 0 0]) ?_ 3 _ rfl; (with_reducible repeat (first | refine aM ?_ _ | refine aQ ?_ | refine aJ ?_ _)); refine bU (cs := #[.int .i64 0, .int .i64 0, .int .i64 0, .int .i64 0, .slice none 0 0, .slice none 0 0]) ?_ 2 _ rfl; (with_reducible repeat (first | refine aM ?_ _ | refine aQ ?_ | refine aJ ?_ _)); refine bU (cs := #[.int .i64 0, .int .i64 0, .int .i64 0, .int .i64 0, .slice none 0 0, .slice none 0 0]) ?_ 1 _ rfl; (with_reducible repeat (first | refine aM ?_ _ | refine aQ ?_ | refine aJ ?_ _)); refine bU (cs := #[.int .i64 0, .int .i64 0, .int .i64 0, .int .i64 0, .slice none 0 0, .slice none 0 0]) ?_ 0 _ rfl; (with_reducible repeat (first | refine aM ?_ _ | refine aQ ?_ | refine aJ ?_ _)); exact dF.out) Try.underlying50 rfl (by kernel_rfl)) rfl ?_
                exact ⟨_, _, by first | rfl | (simp [ag, af] <;> rfl) | (simp [*, ag, af] <;> rfl), by first | exact Kd.R_nil _ _ _ _ _ | exact Kd.N_nil _ _ _ _ _ | exact Kd.V_nil _ _ _ _ _ | exact Kd.Q_nil _ _ _ _ _ | exact Kd.S_nil _ _ _ _ _, by first | exact Kd.R_nil _ _ _ _ _ | exact Kd.N_nil _ _ _ _ _ | exact Kd.V_nil _ _ _ _ _ | exact Kd.Q_nil _ _ _ _ _ | exact Kd.S_nil _ _ _ _ _, by repeat (first | (with_reducible first | exact HB.out | apply aH | apply aG | apply aI | refine aN ?_ iF.out | refine aN ?_ iU.out | refine aN ?_ jM.out) | exact HB.out)⟩
              · rw [if_neg c45] at H
                have c45b0 : decide (1024 < bf) = false := decide_eq_false c45
                clear c45
                by_cases c51 : bf > aU
                · rw [if_pos c51] at H
                  have c51b0 : decide (aU < bf) = true := decide_eq_true c51
                  clear c51
                  by_cases c52 : gY.length < 17592186044416
                  · rw [if_pos c52] at H
                    have LMc52 := aA.mk c52
                    clear c52
                    obtain ⟨y172, hy172⟩ : ∃ y_ : List Int, y_ = (gY ++ [0]) := ⟨_, rfl⟩
                    replace H : (bM.l2 k2 aT 0 aT aU aa ak 1 aT 2 bf fo y172) = some (r1, r2, r3, r4, r5, r6, r7) := by first | (rw [hy172]; with_reducible exact H) | (have H2_ := (Option.bind_some _ _).symm.trans H; rw [hy172]; with_reducible exact H2_) | (have H2_ := (Option.bind_some _ _).symm.trans H; with_reducible exact H2_) | with_reducible exact H | (rw [hy172]; exact H) | exact H
                    have Ny172 := aA.mk hy172
                    clear hy172
                    have H' := aA.mk H
                    clear H
                    have hnb53 := jJ.out
                    have hnc53 := dx.out
                    have hnb54 := j5.out
                    have hnc54 := fB.out
                    have hcz55_0 : wr.cell? ⟨bW, 0, none⟩ = some (.int .i64 1) := (aD ae.out 0).trans rfl
                    have hcz55_1 : wr.cell? ⟨bW, 1, none⟩ = some (.int .i64 aT) := (aD ae.out 1).trans rfl
                    have hcz55_2 : wr.cell? ⟨bW, 2, none⟩ = some (.int .i64 2) := (aD ae.out 2).trans rfl
                    have hcz55_3 : wr.cell? ⟨bW, 3, none⟩ = some (.int .i64 bf) := (aD ae.out 3).trans rfl
                    have hcz55_4 : wr.cell? ⟨bW, 4, none⟩ = some (dW) := (aD ae.out 4).trans rfl
                    have hcz55_5 : wr.cell? ⟨bW, 5, none⟩ = some (ik) := (aD ae.out 5).trans rfl
                    have hfz55_0 := aC ae.out 0
                    have hfz55_1 := aC ae.out 1
                    have hfz55_2 := aC ae.out 2
                    have hfz55_3 := aC ae.out 3
                    have hfz55_4 := aC ae.out 4
                    have hfz55_5 := aC ae.out 5
                    have hnb56 := NB158_159.out
                    have hnc56 := NB159_158.out
                    have hcz57_0 : wr.cell? ⟨fI, 0, none⟩ = some (.int .i64 aT) := (aD cK.out 0).trans rfl
                    have hcz57_1 : wr.cell? ⟨fI, 1, none⟩ = some (.int .i64 aU) := (aD cK.out 1).trans rfl
                    have hcz57_2 : wr.cell? ⟨fI, 2, none⟩ = some (.slice bv aa.length bq) := (aD cK.out 2).trans rfl
                    have hcz57_3 : wr.cell? ⟨fI, 3, none⟩ = some (.slice bu ak.length bn) := (aD cK.out 3).trans rfl
                    have hfz57_0 := aC cK.out 0
                    have hfz57_1 := aC cK.out 1
                    have hfz57_2 := aC cK.out 2
                    have hfz57_3 := aC cK.out 3
                    go_wp2_with (first | ((with_reducible refine eX (b := .append) (xs := #[.tmp 61, .tmp 62]) rfl ?_); at_builtin; refine Kd.iG (Kd.int .i64) (w0 := w) w.heap.size rfl (.tmp 61) (.tmp 62) 32 3 (.int .i64 0) 8 rfl Try.underlying32 info3 rfl (by decide) (by omega) ik gY 0 [.int .i64 0] (fun k_ => some k_ ≠ (dW : Value).ownBlock) (fun _ => False) rfl rfl ?aP (fun _ hk => hk.elim) ?aF ?aO ?aB ?aS ?aL ?_; (case aP => exact rfl); (case aB => exact (by repeat (first | (with_reducible first | exact HB.out | apply aH | apply aG | apply aI | refine aN ?_ iF.out | refine aN ?_ iU.out | refine aN ?_ jM.out) | exact HB.out))); (case aF => exact (fun k_ hk => Kd.fresh' (Kd.j6 (by (with_reducible repeat (first | apply Kd.ai | apply Kd.ah | apply Kd.ax)); exact HO_161004.out)) k_ hk)); (case aO => exact (by (with_reducible repeat (first | apply Kd.ai | apply Kd.ah | apply Kd.ax)); exact HO_161005.out)); (case aS => exact (aY (by repeat (first | (with_reducible first | exact HB.out | apply aH | apply aG | apply aI | refine aN ?_ iF.out | refine aN ?_ iU.out | refine aN ?_ jM.out) | exact HB.out)))); (case aL => have := LMc52.out; omega); intro v173 w58 ho hb hg hat; rw [← Ny172.out] at ho; have n0_ := aA.mk (Kd.lc (ok := (fun _ => True)) (by (with_reducible repeat (first | apply Kd.ai | apply Kd.ah | apply Kd.ax)); exact Kd.bV HO_161004.out (fun _ hk => ⟨trivial, hk⟩)) hg hat); have n1_ := aA.mk (fA (g := fI) (o := .cells #[.int .i64 aT, .int .i64 aU, .slice bv aa.length bq, .slice bu ak.length bn] 34 (0, 0)) (by (with_reducible repeat (first | refine aM ?_ _ | refine aQ ?_ | refine aJ ?_ _)); exact cK.out) hg (Kd.R_ne HO_161005.out cK.out (by decide))); have n2_ := aA.mk (fA (g := dz) (o := .cells #[.int .i64 0, .int .i64 0, .int .i64 0, .int .i64 0, .slice none 0 0, .slice none 0 0] 50 (0, 0)) (by (with_reducible repeat (first | refine aM ?_ _ | refine aQ ?_ | refine aJ ?_ _)); exact dF.out) hg (Kd.R_ne HO_161005.out dF.out (by decide))); have n3_ := aA.mk (fA (g := bW) (o := .cells #[.int .i64 1, .int .i64 aT, .int .i64 2, .int .i64 bf, dW, ik] 50 (0, 0)) (by (with_reducible repeat (first | refine aM ?_ _ | refine aQ ?_ | refine aJ ?_ _)); exact ae.out) hg (Kd.R_ne HO_161005.out ae.out (by decide))); have n4_ := aA.mk (hb); have n5_ := aA.mk (ho); clear HO_161004; clear cK; clear dF; clear ae; clear HB; clear HO_161005; have HO_161004 := n0_; have cK := n1_; have dF := n2_; have ae := n3_; have HB := n4_; have HO174 := n5_; clear n0_ n1_ n2_ n3_ n4_ n5_; clear ho hb hg hat; obtain ⟨Ao59, co59, eo59⟩ := Kd.cB HO174.out; subst eo59; have hcz60_0 : w58.cell? ⟨bW, 0, none⟩ = some (.int .i64 1) := (aD ae.out 0).trans rfl; have hcz60_1 : w58.cell? ⟨bW, 1, none⟩ = some (.int .i64 aT) := (aD ae.out 1).trans rfl; have hcz60_2 : w58.cell? ⟨bW, 2, none⟩ = some (.int .i64 2) := (aD ae.out 2).trans rfl; have hcz60_3 : w58.cell? ⟨bW, 3, none⟩ = some (.int .i64 bf) := (aD ae.out 3).trans rfl; have hcz60_4 : w58.cell? ⟨bW, 4, none⟩ = some (dW) := (aD ae.out 4).trans rfl; have hcz60_5 : w58.cell? ⟨bW, 5, none⟩ = some (ik) := (aD ae.out 5).trans rfl; have hfz60_0 := aC ae.out 0; have hfz60_1 := aC ae.out 1; have hfz60_2 := aC ae.out 2; have hfz60_3 := aC ae.out 3; have hfz60_4 := aC ae.out 4; have hfz60_5 := aC ae.out 5))
                    go_loopg [67] k2 (fun kq v67 w' => ∃ (x67_3 : Int) (kC : List Int) (dW : Value), v67 = .int .i64 x67_3 ∧ aA (bM.l2 kq aT x67_3 aT aU aa ak 1 aT 2 bf kC y172 = some (r1, r2, r3, r4, r5, r6, r7)) ∧ aA (kq ≤ k2) ∧ aA (Kd.R (Kd.int .i64) 3 w' w.heap.size (fun k_ => some k_ ≠ ((.slice Ao59 y172.length co59) : Value).ownBlock) dW kC) ∧ aA (Kd.R (Kd.int .i64) 3 w' w.heap.size (fun k_ => some k_ ≠ (dW : Value).ownBlock) (.slice Ao59 y172.length co59) y172) ∧ aA (w'.heap[fI]? = some (.cells #[.int .i64 aT, .int .i64 aU, (.slice bv aa.length bq), (.slice bu ak.length bn)] 34 (0, 0))) ∧ aA (w'.heap[dz]? = some (.cells #[.int .i64 0, .int .i64 0, .int .i64 0, .int .i64 0, (.slice none 0 0), (.slice none 0 0)] 50 (0, 0))) ∧ aA (w'.heap[bW]? = some (.cells #[.int .i64 1, .int .i64 aT, .int .i64 2, .int .i64 bf, dW, (.slice Ao59 y172.length co59)] 50 (0, 0))) ∧ aA (Below w.heap.size w w'))
                    case atStart => exact ⟨(0), (fo), (dW), (by first | rfl | (simp; done) | (simp [*]; done)), H', ⟨Nat.le_refl _⟩, ⟨by (with_reducible repeat (first | apply Kd.ai | apply Kd.ah | apply Kd.ax)); exact Kd.bV (Kd.bg (p := ⟨bW, 5, none⟩) (Kd.eY HO_161004.out ae.out (by decide)) (fun _ hk => hk.2) (.slice Ao59 y172.length co59)) (fun _ hk => hk.1.2)⟩, ⟨by (with_reducible repeat (first | apply Kd.ai | apply Kd.ah | apply Kd.ax)); exact Kd.bV (Kd.bg (p := ⟨bW, 5, none⟩) (Kd.eY HO174.out ae.out (by decide)) (fun _ hk => hk.2) (.slice Ao59 y172.length co59)) (fun _ hk => hk.1)⟩, ⟨by (with_reducible repeat (first | refine aM ?_ _ | refine aQ ?_ | refine aJ ?_ _)); refine bX ?_ dx.out _; (with_reducible repeat (first | refine aM ?_ _ | refine aQ ?_ | refine aJ ?_ _)); exact cK.out⟩, ⟨by (with_reducible repeat (first | refine aM ?_ _ | refine aQ ?_ | refine aJ ?_ _)); refine bX ?_ fB.out _; (with_reducible repeat (first | refine aM ?_ _ | refine aQ ?_ | refine aJ ?_ _)); exact dF.out⟩, ⟨by (with_reducible repeat (first | refine aM ?_ _ | refine aQ ?_ | refine aJ ?_ _)); refine bU (cs := #[.int .i64 1, .int .i64 aT, .int .i64 2, .int .i64 bf, dW, ik]) ?_ 5 _ rfl; (with_reducible repeat (first | refine aM ?_ _ | refine aQ ?_ | refine aJ ?_ _)); exact ae.out⟩, ⟨by repeat (first | (with_reducible first | exact HB.out | apply aH | apply aG | apply aI | refine aN ?_ iF.out | refine aN ?_ iU.out | refine aN ?_ jM.out) | exact HB.out)⟩⟩
                    case round =>
                      clear H'
                      try clear c1
                      try clear p1
                      try clear q1
                      try clear hx1
                      try clear c2
                      try clear p2
                      try clear c3
                      try clear c4
                      try clear c5
                      try clear p6
                      try clear c7
                      try clear c8
                      try clear c11
                      try clear c11b0
                      try clear c12
                      try clear c12b0
                      try clear c13
                      try clear c13b0
                      try clear c14
                      try clear kW
                      try clear c15
                      try clear p16
                      try clear q16
                      try clear hx16
                      try clear c18
                      try clear c19
                      try clear c24
                      try clear c25
                      try clear c26
                      try clear c31
                      try clear c32
                      try clear c34
                      try clear c34b0
                      try clear c35
                      try clear c35b0
                      try clear c36
                      try clear c36b0
                      try clear c38
                      try clear c39
                      try clear c40
                      try clear c45
                      try clear c45b0
                      try clear c46
                      try clear c47
                      try clear c49
                      try clear c50
                      try clear c51
                      try clear c51b0
                      try clear c52
                      try clear c53
                      try clear c54
                      try clear c56
                      try clear jl
                      try clear jk
                      try clear ji
                      try clear jh
                      try clear hcz20_0
                      try clear hcz20_1
                      try clear hcz20_2
                      try clear hcz20_3
                      try clear hcz20_4
                      try clear hcz20_5
                      try clear hcz23_0
                      try clear hcz23_1
                      try clear hcz23_2
                      try clear hcz23_3
                      try clear hcz23_4
                      try clear hcz23_5
                      try clear hcz27_0
                      try clear hcz27_1
                      try clear hcz27_2
                      try clear hcz27_3
                      try clear hcz27_4
                      try clear hcz27_5
                      try clear hcz30_0
                      try clear hcz30_1
                      try clear hcz30_2
                      try clear hcz30_3
                      try clear hcz30_4
                      try clear hcz30_5
                      try clear hcz33_0
                      try clear hcz33_1
                      try clear hcz33_2
                      try clear hcz33_3
                      try clear hcz41_0
                      try clear hcz41_1
                      try clear hcz41_2
                      try clear hcz41_3
                      try clear hcz41_4
                      try clear hcz41_5
                      try clear hcz44_0
                      try clear hcz44_1
                      try clear hcz44_2
                      try clear hcz44_3
                      try clear hcz44_4
                      try clear hcz44_5
                      try clear hcz48_0
                      try clear hcz48_1
                      try clear hcz48_2
                      try clear hcz48_3
                      try clear hcz48_4
                      try clear hcz48_5
                      try clear hcz50_0
                      try clear hcz50_1
                      try clear hcz50_2
                      try clear hcz50_3
                      try clear hcz50_4
                      try clear hcz50_5
                      try clear hcz55_0
                      try clear hcz55_1
                      try clear hcz55_2
                      try clear hcz55_3
                      try clear hcz55_4
                      try clear hcz55_5
                      try clear hcz57_0
                      try clear hcz57_1
                      try clear hcz57_2
                      try clear hcz57_3
                      try clear lI
                      try clear lH
                      try clear lG
                      try clear lF
                      try clear hcz60_0
                      try clear hcz60_1
                      try clear hcz60_2
                      try clear hcz60_3
                      try clear hcz60_4
                      try clear hcz60_5
                      try clear jF
                      try clear jE
                      try clear jD
                      try clear jC
                      try clear hcz9_4
                      try clear hcz9_5
                      try clear jg
                      try clear jf
                      try clear je
                      try clear jd
                      try clear hfz20_0
                      try clear hfz20_1
                      try clear hfz20_2
                      try clear hfz20_3
                      try clear hfz20_4
                      try clear hfz20_5
                      try clear hfz23_0
                      try clear hfz23_1
                      try clear hfz23_2
                      try clear hfz23_3
                      try clear hfz23_4
                      try clear hfz23_5
                      try clear hfz27_0
                      try clear hfz27_1
                      try clear hfz27_2
                      try clear hfz27_3
                      try clear hfz27_4
                      try clear hfz27_5
                      try clear hfz30_0
                      try clear hfz30_1
                      try clear hfz30_2
                      try clear hfz30_3
                      try clear hfz30_4
                      try clear hfz30_5
                      try clear hfz33_0
                      try clear hfz33_1
                      try clear hfz33_2
                      try clear hfz33_3
                      try clear hfz41_0
                      try clear hfz41_1
                      try clear hfz41_2
                      try clear hfz41_3
                      try clear hfz41_4
                      try clear hfz41_5
                      try clear hfz44_0
                      try clear hfz44_1
                      try clear hfz44_2
                      try clear hfz44_3
                      try clear hfz44_4
                      try clear hfz44_5
                      try clear hfz48_0
                      try clear hfz48_1
                      try clear hfz48_2
                      try clear hfz48_3
                      try clear hfz48_4
                      try clear hfz48_5
                      try clear hfz50_0
                      try clear hfz50_1
                      try clear hfz50_2
                      try clear hfz50_3
                      try clear hfz50_4
                      try clear hfz50_5
                      try clear hfz55_0
                      try clear hfz55_1
                      try clear hfz55_2
                      try clear hfz55_3
                      try clear hfz55_4
                      try clear hfz55_5
                      try clear hfz57_0
                      try clear hfz57_1
                      try clear hfz57_2
                      try clear hfz57_3
                      try clear lD
                      try clear lC
                      try clear kz
                      try clear ky
                      try clear hfz60_0
                      try clear hfz60_1
                      try clear hfz60_2
                      try clear hfz60_3
                      try clear hfz60_4
                      try clear hfz60_5
                      try clear jB
                      try clear jA
                      try clear iy
                      try clear iw
                      try clear hfz9_4
                      try clear hfz9_5
                      try clear hx161_0
                      try clear hx168_0
                      try clear p1
                      try clear p16
                      try clear p161
                      try clear p168
                      try clear p2
                      try clear p6
                      try clear q1
                      try clear q16
                      try clear q161
                      try clear q168
                      obtain ⟨x67_3, kC, dW, rfl, HA, HK3, HO_161004, HO_161005, cK, dF, ae, HB⟩ := hrel
                      cases gk with
                      | zero => exact absurd HA.out (by simp [bM.l2])
                      | succ k3 =>
                        have H := HA.out
                        clear HA
                        simp only [bM.l2] at H
                        by_cases c61 : x67_3 < aT
                        · rw [if_pos c61] at H
                          have c61b0 : decide (x67_3 < aT) = true := decide_eq_true c61
                          clear c61
                          by_cases c62 : kC.length < 17592186044416
                          · rw [if_pos c62] at H
                            have LMc62 := aA.mk c62
                            clear c62
                            obtain ⟨y175, hy175⟩ : ∃ y_ : List Int, y_ = (kC ++ [aU]) := ⟨_, rfl⟩
                            replace H : (bM.l2 k3 aT (wrap64 (x67_3 + 1)) aT aU aa ak 1 aT 2 bf y175 y172) = some (r1, r2, r3, r4, r5, r6, r7) := by first | (rw [hy175]; with_reducible exact H) | (have H2_ := (Option.bind_some _ _).symm.trans H; rw [hy175]; with_reducible exact H2_) | (have H2_ := (Option.bind_some _ _).symm.trans H; with_reducible exact H2_) | with_reducible exact H | (rw [hy175]; exact H) | exact H
                            have Ny175 := aA.mk hy175
                            clear hy175
                            have H' := aA.mk H
                            clear H
                            have hnb63 := jJ.out
                            have hnc63 := dx.out
                            have hnb64 := j5.out
                            have hnc64 := fB.out
                            have hcz65_0 : wr.cell? ⟨bW, 0, none⟩ = some (.int .i64 1) := (aD ae.out 0).trans rfl
                            have hcz65_1 : wr.cell? ⟨bW, 1, none⟩ = some (.int .i64 aT) := (aD ae.out 1).trans rfl
                            have hcz65_2 : wr.cell? ⟨bW, 2, none⟩ = some (.int .i64 2) := (aD ae.out 2).trans rfl
                            have hcz65_3 : wr.cell? ⟨bW, 3, none⟩ = some (.int .i64 bf) := (aD ae.out 3).trans rfl
                            have hcz65_4 : wr.cell? ⟨bW, 4, none⟩ = some (dW) := (aD ae.out 4).trans rfl
                            have hcz65_5 : wr.cell? ⟨bW, 5, none⟩ = some (.slice Ao59 y172.length co59) := (aD ae.out 5).trans rfl
                            have hfz65_0 := aC ae.out 0
                            have hfz65_1 := aC ae.out 1
                            have hfz65_2 := aC ae.out 2
                            have hfz65_3 := aC ae.out 3
                            have hfz65_4 := aC ae.out 4
                            have hfz65_5 := aC ae.out 5
                            have hnb66 := NB158_159.out
                            have hnc66 := NB159_158.out
                            have hcz67_0 : wr.cell? ⟨fI, 0, none⟩ = some (.int .i64 aT) := (aD cK.out 0).trans rfl
                            have hcz67_1 : wr.cell? ⟨fI, 1, none⟩ = some (.int .i64 aU) := (aD cK.out 1).trans rfl
                            have hcz67_2 : wr.cell? ⟨fI, 2, none⟩ = some (.slice bv aa.length bq) := (aD cK.out 2).trans rfl
                            have hcz67_3 : wr.cell? ⟨fI, 3, none⟩ = some (.slice bu ak.length bn) := (aD cK.out 3).trans rfl
                            have hfz67_0 := aC cK.out 0
                            have hfz67_1 := aC cK.out 1
                            have hfz67_2 := aC cK.out 2
                            have hfz67_3 := aC cK.out 3
                            go_wp2_with (first | ((with_reducible refine eX (b := .append) (xs := #[.tmp 70, .tmp 73]) rfl ?_); at_builtin; refine Kd.iG (Kd.int .i64) (w0 := w) w.heap.size rfl (.tmp 70) (.tmp 73) 32 3 (.int .i64 0) 8 rfl Try.underlying32 info3 rfl (by decide) (by omega) dW kC aU [.int .i64 aU] (fun k_ => some k_ ≠ (.slice Ao59 y172.length co59 : Value).ownBlock) (fun _ => False) rfl rfl ?aP (fun _ hk => hk.elim) ?aF ?aO ?aB ?aS ?aL ?_; (case aP => exact rfl); (case aB => exact (by repeat (first | (with_reducible first | exact HB.out | apply aH | apply aG | apply aI | refine aN ?_ iF.out | refine aN ?_ iU.out | refine aN ?_ jM.out) | exact HB.out))); (case aF => exact (fun k_ hk => Kd.fresh' (Kd.j6 (by (with_reducible repeat (first | apply Kd.ai | apply Kd.ah | apply Kd.ax)); exact HO_161005.out)) k_ hk)); (case aO => exact (by (with_reducible repeat (first | apply Kd.ai | apply Kd.ah | apply Kd.ax)); exact HO_161004.out)); (case aS => exact (aY (by repeat (first | (with_reducible first | exact HB.out | apply aH | apply aG | apply aI | refine aN ?_ iF.out | refine aN ?_ iU.out | refine aN ?_ jM.out) | exact HB.out)))); (case aL => have := LMc62.out; omega); intro v176 w68 ho hb hg hat; rw [← Ny175.out] at ho; have n0_ := aA.mk (Kd.lc (ok := (fun _ => True)) (by (with_reducible repeat (first | apply Kd.ai | apply Kd.ah | apply Kd.ax)); exact Kd.bV HO_161005.out (fun _ hk => ⟨trivial, hk⟩)) hg hat); have n1_ := aA.mk (fA (g := fI) (o := .cells #[.int .i64 aT, .int .i64 aU, .slice bv aa.length bq, .slice bu ak.length bn] 34 (0, 0)) (by (with_reducible repeat (first | refine aM ?_ _ | refine aQ ?_ | refine aJ ?_ _)); exact cK.out) hg (Kd.R_ne HO_161004.out cK.out (by decide))); have n2_ := aA.mk (fA (g := dz) (o := .cells #[.int .i64 0, .int .i64 0, .int .i64 0, .int .i64 0, .slice none 0 0, .slice none 0 0] 50 (0, 0)) (by (with_reducible repeat (first | refine aM ?_ _ | refine aQ ?_ | refine aJ ?_ _)); exact dF.out) hg (Kd.R_ne HO_161004.out dF.out (by decide))); have n3_ := aA.mk (fA (g := bW) (o := .cells #[.int .i64 1, .int .i64 aT, .int .i64 2, .int .i64 bf, dW, .slice Ao59 y172.length co59] 50 (0, 0)) (by (with_reducible repeat (first | refine aM ?_ _ | refine aQ ?_ | refine aJ ?_ _)); exact ae.out) hg (Kd.R_ne HO_161004.out ae.out (by decide))); have n4_ := aA.mk (hb); have n5_ := aA.mk (ho); clear HO_161005; clear cK; clear dF; clear ae; clear HB; clear HO_161004; have HO_161005 := n0_; have cK := n1_; have dF := n2_; have ae := n3_; have HB := n4_; have HO177 := n5_; clear n0_ n1_ n2_ n3_ n4_ n5_; clear ho hb hg hat; obtain ⟨Ao69, co69, eo69⟩ := Kd.cB HO177.out; subst eo69; have hcz70_0 : w68.cell? ⟨bW, 0, none⟩ = some (.int .i64 1) := (aD ae.out 0).trans rfl; have hcz70_1 : w68.cell? ⟨bW, 1, none⟩ = some (.int .i64 aT) := (aD ae.out 1).trans rfl; have hcz70_2 : w68.cell? ⟨bW, 2, none⟩ = some (.int .i64 2) := (aD ae.out 2).trans rfl; have hcz70_3 : w68.cell? ⟨bW, 3, none⟩ = some (.int .i64 bf) := (aD ae.out 3).trans rfl; have hcz70_4 : w68.cell? ⟨bW, 4, none⟩ = some (dW) := (aD ae.out 4).trans rfl; have hcz70_5 : w68.cell? ⟨bW, 5, none⟩ = some (.slice Ao59 y172.length co59) := (aD ae.out 5).trans rfl; have hfz70_0 := aC ae.out 0; have hfz70_1 := aC ae.out 1; have hfz70_2 := aC ae.out 2; have hfz70_3 := aC ae.out 3; have hfz70_4 := aC ae.out 4; have hfz70_5 := aC ae.out 5))
                            go_roundg k3
                            case measure => have := HK1.out; have := HK2.out; have := HK3.out; omega
                            case rel => exact ⟨(wrap64 (x67_3 + 1)), (y175), (.slice Ao69 y175.length co69), (by first | rfl | (simp; done) | (simp [*]; done)), H', ⟨by have := HK1.out; have := HK2.out; have := HK3.out; omega⟩, ⟨by (with_reducible repeat (first | apply Kd.ai | apply Kd.ah | apply Kd.ax)); exact Kd.bV (Kd.bg (p := ⟨bW, 4, none⟩) (Kd.eY HO177.out ae.out (by decide)) (fun _ hk => hk.2) (.slice Ao69 y175.length co69)) (fun _ hk => hk.1)⟩, ⟨by (with_reducible repeat (first | apply Kd.ai | apply Kd.ah | apply Kd.ax)); exact Kd.bV (Kd.bg (p := ⟨bW, 4, none⟩) (Kd.eY HO_161005.out ae.out (by decide)) (fun _ hk => hk.2) (.slice Ao69 y175.length co69)) (fun _ hk => hk.1.2)⟩, ⟨by (with_reducible repeat (first | refine aM ?_ _ | refine aQ ?_ | refine aJ ?_ _)); refine bX ?_ dx.out _; (with_reducible repeat (first | refine aM ?_ _ | refine aQ ?_ | refine aJ ?_ _)); exact cK.out⟩, ⟨by (with_reducible repeat (first | refine aM ?_ _ | refine aQ ?_ | refine aJ ?_ _)); refine bX ?_ fB.out _; (with_reducible repeat (first | refine aM ?_ _ | refine aQ ?_ | refine aJ ?_ _)); exact dF.out⟩, ⟨by (with_reducible repeat (first | refine aM ?_ _ | refine aQ ?_ | refine aJ ?_ _)); refine bU (cs := #[.int .i64 1, .int .i64 aT, .int .i64 2, .int .i64 bf, dW, .slice Ao59 y172.length co59]) ?_ 4 _ rfl; (with_reducible repeat (first | refine aM ?_ _ | refine aQ ?_ | refine aJ ?_ _)); exact ae.out⟩, ⟨by repeat (first | (with_reducible first | exact HB.out | apply aH | apply aG | apply aI | refine aN ?_ iF.out | refine aN ?_ iU.out | refine aN ?_ jM.out) | exact HB.out)⟩⟩
                          · rw [if_neg c62] at H
                            exact absurd H (by simp)
                        · rw [if_neg c61] at H
                          have c61b0 : decide (x67_3 < aT) = false := decide_eq_false c61
                          clear c61
                          replace H := Option.bind_eq_some_iff.mp H
                          obtain ⟨⟨t178, t179, t180, t181, t182, t185, t188⟩, A710, H⟩ := H
                          replace H : (some (t178, t179, t180, t181, t182, t185, t188)) = some (r1, r2, r3, r4, r5, r6, r7) := H
                          have A71 := aA.mk A710
                          clear A710
                          simp only [Option.some.injEq, Prod.mk.injEq] at H
                          obtain ⟨rfl, rfl, rfl, rfl, rfl, rfl, rfl⟩ := H
                          have hnb72 := jJ.out
                          have hnc72 := dx.out
                          have hnb73 := j5.out
                          have hnc73 := fB.out
                          have hcz74_0 : wr.cell? ⟨bW, 0, none⟩ = some (.int .i64 1) := (aD ae.out 0).trans rfl
                          have hcz74_1 : wr.cell? ⟨bW, 1, none⟩ = some (.int .i64 aT) := (aD ae.out 1).trans rfl
                          have hcz74_2 : wr.cell? ⟨bW, 2, none⟩ = some (.int .i64 2) := (aD ae.out 2).trans rfl
                          have hcz74_3 : wr.cell? ⟨bW, 3, none⟩ = some (.int .i64 bf) := (aD ae.out 3).trans rfl
                          have hcz74_4 : wr.cell? ⟨bW, 4, none⟩ = some (dW) := (aD ae.out 4).trans rfl
                          have hcz74_5 : wr.cell? ⟨bW, 5, none⟩ = some (.slice Ao59 y172.length co59) := (aD ae.out 5).trans rfl
                          have hfz74_0 := aC ae.out 0
                          have hfz74_1 := aC ae.out 1
                          have hfz74_2 := aC ae.out 2
                          have hfz74_3 := aC ae.out 3
                          have hfz74_4 := aC ae.out 4
                          have hfz74_5 := aC ae.out 5
                          obtain ⟨Ao75, co75, eo75⟩ := Kd.cB HO_161004.out
                          subst eo75
                          go_wp2_with (first | ((with_reducible refine bC (f := 67) rfl ?_); refine dV (some 78) rfl rfl Try.func67 (by kernel_rfl) rfl #[.agg #[.int .i64 1, .int .i64 aT, .int .i64 2, .int .i64 bf, .slice Ao75 kC.length co75, .slice Ao59 y172.length co59]] rfl (by (try simp only [List.map_toArray, List.map_cons, List.map_nil]); first | done | rfl | (simp only [List.length_drop, List.length_take]; rfl)) ?_; (with_reducible refine (bL.calls k3 1 aT 2 bf _ _ kC _ _ y172 t178 t179 t180 t181 t182 t185 t188 _ ?dB ?dA ?di ?dh A71.out).mono ?_); (case dB => repeat (first | exact (Kd.dw HO_161004.out).2.2 | (with_reducible refine Kd.bE ?_ _) | (with_reducible refine Kd.bD ?_ _) | (with_reducible refine Kd.bS ?_))); (case dA => exact (Kd.dw HO_161004.out).2.1); (case di => repeat (first | exact (Kd.dw HO_161005.out).2.2 | (with_reducible refine Kd.bE ?_ _) | (with_reducible refine Kd.bD ?_ _) | (with_reducible refine Kd.bS ?_))); (case dh => exact (Kd.dw HO_161005.out).2.1); rintro e w76 ⟨v183, v186, rfl, ho0, ho1, hb⟩; refine ⟨_, rfl, ?_⟩; have n0_ := aA.mk (Kd.bV (Kd.jG (Kd.jG (Kd.R_old (by (with_reducible repeat (first | apply Kd.ai | apply Kd.ah | apply Kd.ax)); exact HO_161004.out) hb) (Kd.iJ ho0)) (Kd.iJ ho1)) (fun _ h_ => h_.1)); have n1_ := aA.mk (Kd.bV (Kd.jG (Kd.jG (Kd.R_old (by (with_reducible repeat (first | apply Kd.ai | apply Kd.ah | apply Kd.ax)); exact HO_161005.out) hb) (Kd.iJ ho0)) (Kd.iJ ho1)) (fun _ h_ => h_.1)); have n2_ := aA.mk (Kd.gI (Kd.iW (Kd.iW ho0 (Kd.j6 (by (with_reducible repeat (first | apply Kd.ai | apply Kd.ah | apply Kd.ax)); exact HO_161004.out))) (Kd.j6 (by (with_reducible repeat (first | apply Kd.ai | apply Kd.ah | apply Kd.ax)); exact HO_161005.out))) (aY (by repeat (first | (with_reducible first | exact HB.out | apply aH | apply aG | apply aI | refine aN ?_ iF.out | refine aN ?_ iU.out | refine aN ?_ jM.out) | exact HB.out)))); have n3_ := aA.mk (Kd.gI (Kd.iW (Kd.iW ho1 (Kd.j6 (by (with_reducible repeat (first | apply Kd.ai | apply Kd.ah | apply Kd.ax)); exact HO_161004.out))) (Kd.j6 (by (with_reducible repeat (first | apply Kd.ai | apply Kd.ah | apply Kd.ax)); exact HO_161005.out))) (aY (by repeat (first | (with_reducible first | exact HB.out | apply aH | apply aG | apply aI | refine aN ?_ iF.out | refine aN ?_ iU.out | refine aN ?_ jM.out) | exact HB.out)))); have n4_ := aA.mk (bH (g := fI) (o := .cells #[.int .i64 aT, .int .i64 aU, .slice bv aa.length bq, .slice bu ak.length bn] 34 (0, 0)) (by (with_reducible repeat (first | refine aM ?_ _ | refine aQ ?_ | refine aJ ?_ _)); exact cK.out) hb); have n5_ := aA.mk (bH (g := dz) (o := .cells #[.int .i64 0, .int .i64 0, .int .i64 0, .int .i64 0, .slice none 0 0, .slice none 0 0] 50 (0, 0)) (by (with_reducible repeat (first | refine aM ?_ _ | refine aQ ?_ | refine aJ ?_ _)); exact dF.out) hb); have n6_ := aA.mk (bH (g := bW) (o := .cells #[.int .i64 1, .int .i64 aT, .int .i64 2, .int .i64 bf, .slice Ao75 kC.length co75, .slice Ao59 y172.length co59] 50 (0, 0)) (by (with_reducible repeat (first | refine aM ?_ _ | refine aQ ?_ | refine aJ ?_ _)); exact ae.out) hb); have n7_ := aA.mk (aW (by repeat (first | (with_reducible first | exact HB.out | apply aH | apply aG | apply aI | refine aN ?_ iF.out | refine aN ?_ iU.out | refine aN ?_ jM.out) | exact HB.out)) hb); clear HO_161004; clear HO_161005; clear cK; clear dF; clear ae; clear HB; have HO_161004 := n0_; have HO_161005 := n1_; have HO184 := n2_; have HO187 := n3_; have cK := n4_; have dF := n5_; have ae := n6_; have HB := n7_; clear n0_ n1_ n2_ n3_ n4_ n5_ n6_ n7_; (try clear hb); (try clear hb2); (try clear hk); (try clear hi); (try clear ho0); (try clear ho1); have hnb77 := NB159_158.out; have hnc77 := NB158_159.out; have hcz78_0 : w76.cell? ⟨dz, 0, none⟩ = some (.int .i64 0) := (aD dF.out 0).trans rfl; have hcz78_1 : w76.cell? ⟨dz, 1, none⟩ = some (.int .i64 0) := (aD dF.out 1).trans rfl; have hcz78_2 : w76.cell? ⟨dz, 2, none⟩ = some (.int .i64 0) := (aD dF.out 2).trans rfl; have hcz78_3 : w76.cell? ⟨dz, 3, none⟩ = some (.int .i64 0) := (aD dF.out 3).trans rfl; have hcz78_4 : w76.cell? ⟨dz, 4, none⟩ = some (.slice none 0 0) := (aD dF.out 4).trans rfl; have hcz78_5 : w76.cell? ⟨dz, 5, none⟩ = some (.slice none 0 0) := (aD dF.out 5).trans rfl; have hfz78_0 := aC dF.out 0; have hfz78_1 := aC dF.out 1; have hfz78_2 := aC dF.out 2; have hfz78_3 := aC dF.out 3; have hfz78_4 := aC dF.out 4; have hfz78_5 := aC dF.out 5; obtain ⟨Ao79, co79, eo79⟩ := Kd.cB HO184.out; subst eo79; obtain ⟨Ao80, co80, eo80⟩ := Kd.cB HO187.out; subst eo80))
                          refine bodyPost_ret (iV rfl _ _ dz 50 #[.int .i64 t178, .int .i64 t179, .int .i64 t180, .int .i64 t181, .slice Ao79 t182.length co79, .slice Ao80 t185.length co80] (0, 0) _ rfl (by (with_reducible repeat (first | refine aM ?_ _ | refine aQ ?_ | refine aJ ?_ _)); refine bU (cs := #[.int .i64 t178, .int .i64 t179, .int .i64 t180, .int .i64 t181, .slice Ao79 t182.length co79, .slice none 0 0]) ?_ 5 _ rfl; (with_reducible repeat (first | refine aM ?_ _ | refine aQ ?_ | refine aJ ?_ _)); refine bU (cs := #[.int .i64 t178, .int .i64 t179, .int .i64 t180, .int .i64 t181, .slice none 0 0, .slice none 0 0]) ?_ 4 _ rfl; (with_reducible repeat (first | refine aM ?_ _ | refine aQ ?_ | refine aJ ?_ _)); refine bU (cs := #[.int .i64 t178, .int .i64 t179, .int .i64 t180, .int .i64 0, .slice none 0 0, .slice none 0 0]) ?_ 3 _ rfl; (with_reducible repeat (first | refine aM ?_ _ | refine aQ ?_ | refine aJ ?_ _)); refine bU (cs := #[.int .i64 t178, .int .i64 t179, .int .i64 0, .int .i64 0, .slice none 0 0, .slice none 0 0]) ?_ 2 _ rfl; (with_reducible repeat (first | refine aM ?_ _ | refine aQ ?_ | refine aJ ?_ _)); refine bU (cs := #[.int .i64 t178, .int .i64 0, .int .i64 0, .int .i64 0, .slice none 0 0, .slice none 0 0]) ?_ 1 _ rfl; (with_reducible repeat (first | refine aM ?_ _ | refine aQ ?_ | refine aJ ?_ _)); refine bU (cs := #[.int .i64 0, .int .i64 0, .int .i64 0, .int .i64 0, .slice none 0 0, .slice none 0 0]) ?_ 0 _ rfl; (with_reducible repeat (first | refine aM ?_ _ | refine aQ ?_ | refine aJ ?_ _)); exact dF.out) Try.underlying50 rfl (by kernel_rfl)) rfl ?_
                          exact ⟨_, _, by first | rfl | (simp [ag, af] <;> rfl) | (simp [*, ag, af] <;> rfl), by (with_reducible repeat (first | apply Kd.ai | apply Kd.ah | apply Kd.ax)); exact Kd.bV (Kd.bg (p := ⟨dz, 5, none⟩) (Kd.bg (p := ⟨dz, 4, none⟩) (Kd.bg (p := ⟨dz, 3, none⟩) (Kd.bg (p := ⟨dz, 2, none⟩) (Kd.bg (p := ⟨dz, 1, none⟩) (Kd.bg (p := ⟨dz, 0, none⟩) (Kd.eY HO184.out dF.out (by decide)) (fun _ hk => hk.2) (.int .i64 t178)) (fun _ hk => hk.2) (.int .i64 t179)) (fun _ hk => hk.2) (.int .i64 t180)) (fun _ hk => hk.2) (.int .i64 t181)) (fun _ hk => hk.2) (.slice Ao79 t182.length co79)) (fun _ hk => hk.2) (.slice Ao80 t185.length co80)) (fun _ hk => hk.1.1.1), by (with_reducible repeat (first | apply Kd.ai | apply Kd.ah | apply Kd.ax)); exact Kd.bV (Kd.bg (p := ⟨dz, 5, none⟩) (Kd.bg (p := ⟨dz, 4, none⟩) (Kd.bg (p := ⟨dz, 3, none⟩) (Kd.bg (p := ⟨dz, 2, none⟩) (Kd.bg (p := ⟨dz, 1, none⟩) (Kd.bg (p := ⟨dz, 0, none⟩) (Kd.eY HO187.out dF.out (by decide)) (fun _ hk => hk.2) (.int .i64 t178)) (fun _ hk => hk.2) (.int .i64 t179)) (fun _ hk => hk.2) (.int .i64 t180)) (fun _ hk => hk.2) (.int .i64 t181)) (fun _ hk => hk.2) (.slice Ao79 t182.length co79)) (fun _ hk => hk.2) (.slice Ao80 t185.length co80)) (fun _ hk => hk.1.1.1), by repeat (first | (with_reducible first | exact HB.out | apply aH | apply aG | apply aI | refine aN ?_ iF.out | refine aN ?_ iU.out | refine aN ?_ jM.out) | exact HB.out)⟩
                  · rw [if_neg c52] at H
                    exact absurd H (by simp)
                · rw [if_neg c51] at H
                  have c51b0 : decide (aU < bf) = false := decide_eq_false c51
                  clear c51
                  replace H := Option.bind_eq_some_iff.mp H
                  obtain ⟨⟨t189, t190, t191, t192, t193, t196, t199⟩, A810, H⟩ := H
                  replace H : (some (t189, t190, t191, t192, t193, t196, t199)) = some (r1, r2, r3, r4, r5, r6, r7) := H
                  have A81 := aA.mk A810
                  clear A810
                  simp only [Option.some.injEq, Prod.mk.injEq] at H
                  obtain ⟨rfl, rfl, rfl, rfl, rfl, rfl, rfl⟩ := H
                  have hnb82 := jJ.out
                  have hnc82 := dx.out
                  have hnb83 := j5.out
                  have hnc83 := fB.out
                  have hcz84_0 : wr.cell? ⟨bW, 0, none⟩ = some (.int .i64 1) := (aD ae.out 0).trans rfl
                  have hcz84_1 : wr.cell? ⟨bW, 1, none⟩ = some (.int .i64 aT) := (aD ae.out 1).trans rfl
                  have hcz84_2 : wr.cell? ⟨bW, 2, none⟩ = some (.int .i64 2) := (aD ae.out 2).trans rfl
                  have hcz84_3 : wr.cell? ⟨bW, 3, none⟩ = some (.int .i64 bf) := (aD ae.out 3).trans rfl
                  have hcz84_4 : wr.cell? ⟨bW, 4, none⟩ = some (dW) := (aD ae.out 4).trans rfl
                  have hcz84_5 : wr.cell? ⟨bW, 5, none⟩ = some (ik) := (aD ae.out 5).trans rfl
                  have hfz84_0 := aC ae.out 0
                  have hfz84_1 := aC ae.out 1
                  have hfz84_2 := aC ae.out 2
                  have hfz84_3 := aC ae.out 3
                  have hfz84_4 := aC ae.out 4
                  have hfz84_5 := aC ae.out 5
                  have hnb85 := NB158_159.out
                  have hnc85 := NB159_158.out
                  have hcz86_0 : wr.cell? ⟨fI, 0, none⟩ = some (.int .i64 aT) := (aD cK.out 0).trans rfl
                  have hcz86_1 : wr.cell? ⟨fI, 1, none⟩ = some (.int .i64 aU) := (aD cK.out 1).trans rfl
                  have hcz86_2 : wr.cell? ⟨fI, 2, none⟩ = some (.slice bv aa.length bq) := (aD cK.out 2).trans rfl
                  have hcz86_3 : wr.cell? ⟨fI, 3, none⟩ = some (.slice bu ak.length bn) := (aD cK.out 3).trans rfl
                  have hfz86_0 := aC cK.out 0
                  have hfz86_1 := aC cK.out 1
                  have hfz86_2 := aC cK.out 2
                  have hfz86_3 := aC cK.out 3
                  obtain ⟨Ao87, co87, eo87⟩ := Kd.cB HO_161004.out
                  subst eo87
                  obtain ⟨Ao88, co88, eo88⟩ := Kd.cB HO_161005.out
                  subst eo88
                  go_wp2_with (first | ((with_reducible refine bC (f := 67) rfl ?_); refine dV (some 78) rfl rfl Try.func67 (by kernel_rfl) rfl #[.agg #[.int .i64 1, .int .i64 aT, .int .i64 2, .int .i64 bf, .slice Ao87 fo.length co87, .slice Ao88 gY.length co88]] rfl (by (try simp only [List.map_toArray, List.map_cons, List.map_nil]); first | done | rfl | (simp only [List.length_drop, List.length_take]; rfl)) ?_; (with_reducible refine (bL.calls k2 1 aT 2 bf _ _ fo _ _ gY t189 t190 t191 t192 t193 t196 t199 _ ?dB ?dA ?di ?dh A81.out).mono ?_); (case dB => repeat (first | exact (Kd.dw HO_161004.out).2.2 | (with_reducible refine Kd.bE ?_ _) | (with_reducible refine Kd.bD ?_ _) | (with_reducible refine Kd.bS ?_))); (case dA => exact (Kd.dw HO_161004.out).2.1); (case di => repeat (first | exact (Kd.dw HO_161005.out).2.2 | (with_reducible refine Kd.bE ?_ _) | (with_reducible refine Kd.bD ?_ _) | (with_reducible refine Kd.bS ?_))); (case dh => exact (Kd.dw HO_161005.out).2.1); rintro e w89 ⟨v194, v197, rfl, ho0, ho1, hb⟩; refine ⟨_, rfl, ?_⟩; have n0_ := aA.mk (Kd.bV (Kd.jG (Kd.jG (Kd.R_old (by (with_reducible repeat (first | apply Kd.ai | apply Kd.ah | apply Kd.ax)); exact HO_161004.out) hb) (Kd.iJ ho0)) (Kd.iJ ho1)) (fun _ h_ => h_.1)); have n1_ := aA.mk (Kd.bV (Kd.jG (Kd.jG (Kd.R_old (by (with_reducible repeat (first | apply Kd.ai | apply Kd.ah | apply Kd.ax)); exact HO_161005.out) hb) (Kd.iJ ho0)) (Kd.iJ ho1)) (fun _ h_ => h_.1)); have n2_ := aA.mk (Kd.gI (Kd.iW (Kd.iW ho0 (Kd.j6 (by (with_reducible repeat (first | apply Kd.ai | apply Kd.ah | apply Kd.ax)); exact HO_161004.out))) (Kd.j6 (by (with_reducible repeat (first | apply Kd.ai | apply Kd.ah | apply Kd.ax)); exact HO_161005.out))) (aY (by repeat (first | (with_reducible first | exact HB.out | apply aH | apply aG | apply aI | refine aN ?_ iF.out | refine aN ?_ iU.out | refine aN ?_ jM.out) | exact HB.out)))); have n3_ := aA.mk (Kd.gI (Kd.iW (Kd.iW ho1 (Kd.j6 (by (with_reducible repeat (first | apply Kd.ai | apply Kd.ah | apply Kd.ax)); exact HO_161004.out))) (Kd.j6 (by (with_reducible repeat (first | apply Kd.ai | apply Kd.ah | apply Kd.ax)); exact HO_161005.out))) (aY (by repeat (first | (with_reducible first | exact HB.out | apply aH | apply aG | apply aI | refine aN ?_ iF.out | refine aN ?_ iU.out | refine aN ?_ jM.out) | exact HB.out)))); have n4_ := aA.mk (bH (g := fI) (o := .cells #[.int .i64 aT, .int .i64 aU, .slice bv aa.length bq, .slice bu ak.length bn] 34 (0, 0)) (by (with_reducible repeat (first | refine aM ?_ _ | refine aQ ?_ | refine aJ ?_ _)); exact cK.out) hb); have n5_ := aA.mk (bH (g := dz) (o := .cells #[.int .i64 0, .int .i64 0, .int .i64 0, .int .i64 0, .slice none 0 0, .slice none 0 0] 50 (0, 0)) (by (with_reducible repeat (first | refine aM ?_ _ | refine aQ ?_ | refine aJ ?_ _)); exact dF.out) hb); have n6_ := aA.mk (bH (g := bW) (o := .cells #[.int .i64 1, .int .i64 aT, .int .i64 2, .int .i64 bf, .slice Ao87 fo.length co87, .slice Ao88 gY.length co88] 50 (0, 0)) (by (with_reducible repeat (first | refine aM ?_ _ | refine aQ ?_ | refine aJ ?_ _)); exact ae.out) hb); have n7_ := aA.mk (aW (by repeat (first | (with_reducible first | exact HB.out | apply aH | apply aG | apply aI | refine aN ?_ iF.out | refine aN ?_ iU.out | refine aN ?_ jM.out) | exact HB.out)) hb); clear HO_161004; clear HO_161005; clear cK; clear dF; clear ae; clear HB; have HO_161004 := n0_; have HO_161005 := n1_; have HO195 := n2_; have HO198 := n3_; have cK := n4_; have dF := n5_; have ae := n6_; have HB := n7_; clear n0_ n1_ n2_ n3_ n4_ n5_ n6_ n7_; (try clear hb); (try clear hb2); (try clear hk); (try clear hi); (try clear ho0); (try clear ho1); have hcz90_0 : w89.cell? ⟨dz, 0, none⟩ = some (.int .i64 0) := (aD dF.out 0).trans rfl; have hcz90_1 : w89.cell? ⟨dz, 1, none⟩ = some (.int .i64 0) := (aD dF.out 1).trans rfl; have hcz90_2 : w89.cell? ⟨dz, 2, none⟩ = some (.int .i64 0) := (aD dF.out 2).trans rfl; have hcz90_3 : w89.cell? ⟨dz, 3, none⟩ = some (.int .i64 0) := (aD dF.out 3).trans rfl; have hcz90_4 : w89.cell? ⟨dz, 4, none⟩ = some (.slice none 0 0) := (aD dF.out 4).trans rfl; have hcz90_5 : w89.cell? ⟨dz, 5, none⟩ = some (.slice none 0 0) := (aD dF.out 5).trans rfl; have hfz90_0 := aC dF.out 0; have hfz90_1 := aC dF.out 1; have hfz90_2 := aC dF.out 2; have hfz90_3 := aC dF.out 3; have hfz90_4 := aC dF.out 4; have hfz90_5 := aC dF.out 5; obtain ⟨Ao91, co91, eo91⟩ := Kd.cB HO195.out; subst eo91; obtain ⟨Ao92, co92, eo92⟩ := Kd.cB HO198.out; subst eo92))
                  refine bodyPost_ret (iV rfl _ _ dz 50 #[.int .i64 t189, .int .i64 t190, .int .i64 t191, .int .i64 t192, .slice Ao91 t193.length co91, .slice Ao92 t196.length co92] (0, 0) _ rfl (by (with_reducible repeat (first | refine aM ?_ _ | refine aQ ?_ | refine aJ ?_ _)); refine bU (cs := #[.int .i64 t189, .int .i64 t190, .int .i64 t191, .int .i64 t192, .slice Ao91 t193.length co91, .slice none 0 0]) ?_ 5 _ rfl; (with_reducible repeat (first | refine aM ?_ _ | refine aQ ?_ | refine aJ ?_ _)); refine bU (cs := #[.int .i64 t189, .int .i64 t190, .int .i64 t191, .int .i64 t192, .slice none 0 0, .slice none 0 0]) ?_ 4 _ rfl; (with_reducible repeat (first | refine aM ?_ _ | refine aQ ?_ | refine aJ ?_ _)); refine bU (cs := #[.int .i64 t189, .int .i64 t190, .int .i64 t191, .int .i64 0, .slice none 0 0, .slice none 0 0]) ?_ 3 _ rfl; (with_reducible repeat (first | refine aM ?_ _ | refine aQ ?_ | refine aJ ?_ _)); refine bU (cs := #[.int .i64 t189, .int .i64 t190, .int .i64 0, .int .i64 0, .slice none 0 0, .slice none 0 0]) ?_ 2 _ rfl; (with_reducible repeat (first | refine aM ?_ _ | refine aQ ?_ | refine aJ ?_ _)); refine bU (cs := #[.int .i64 t189, .int .i64 0, .int .i64 0, .int .i64 0, .slice none 0 0, .slice none 0 0]) ?_ 1 _ rfl; (with_reducible repeat (first | refine aM ?_ _ | refine aQ ?_ | refine aJ ?_ _)); refine bU (cs := #[.int .i64 0, .int .i64 0, .int .i64 0, .int .i64 0, .slice none 0 0, .slice none 0 0]) ?_ 0 _ rfl; (with_reducible repeat (first | refine aM ?_ _ | refine aQ ?_ | refine aJ ?_ _)); exact dF.out) Try.underlying50 rfl (by kernel_rfl)) rfl ?_
                  exact ⟨_, _, by first | rfl | (simp [ag, af] <;> rfl) | (simp [*, ag, af] <;> rfl), by (with_reducible repeat (first | apply Kd.ai | apply Kd.ah | apply Kd.ax)); exact Kd.bV (Kd.bg (p := ⟨dz, 5, none⟩) (Kd.bg (p := ⟨dz, 4, none⟩) (Kd.bg (p := ⟨dz, 3, none⟩) (Kd.bg (p := ⟨dz, 2, none⟩) (Kd.bg (p := ⟨dz, 1, none⟩) (Kd.bg (p := ⟨dz, 0, none⟩) (Kd.eY HO195.out dF.out (by decide)) (fun _ hk => hk.2) (.int .i64 t189)) (fun _ hk => hk.2) (.int .i64 t190)) (fun _ hk => hk.2) (.int .i64 t191)) (fun _ hk => hk.2) (.int .i64 t192)) (fun _ hk => hk.2) (.slice Ao91 t193.length co91)) (fun _ hk => hk.2) (.slice Ao92 t196.length co92)) (fun _ hk => hk.1.1.1), by (with_reducible repeat (first | apply Kd.ai | apply Kd.ah | apply Kd.ax)); exact Kd.bV (Kd.bg (p := ⟨dz, 5, none⟩) (Kd.bg (p := ⟨dz, 4, none⟩) (Kd.bg (p := ⟨dz, 3, none⟩) (Kd.bg (p := ⟨dz, 2, none⟩) (Kd.bg (p := ⟨dz, 1, none⟩) (Kd.bg (p := ⟨dz, 0, none⟩) (Kd.eY HO198.out dF.out (by decide)) (fun _ hk => hk.2) (.int .i64 t189)) (fun _ hk => hk.2) (.int .i64 t190)) (fun _ hk => hk.2) (.int .i64 t191)) (fun _ hk => hk.2) (.int .i64 t192)) (fun _ hk => hk.2) (.slice Ao91 t193.length co91)) (fun _ hk => hk.2) (.slice Ao92 t196.length co92)) (fun _ hk => hk.1.1.1), by repeat (first | (with_reducible first | exact HB.out | apply aH | apply aG | apply aI | refine aN ?_ iF.out | refine aN ?_ iU.out | refine aN ?_ jM.out) | exact HB.out)⟩
end Go.Proofs.Ytocejofjmmoeaaa.X
end
