/- Texts of the statement SampleKeeps, one behind the other: Go functions as Lean functions, the machine's calls, the plain law. -/
import Derived.Test.YtocejofjmmoeaaaMSampleKeeps4
import Derived.Test.YtocejofjmmoeaaaMSampleKeeps14
import Derived.Test.YtocejofjmmoeaaaMSampleKeeps15
import Derived.Test.YtocejofjmmoeaaaMSampleKeeps17
import Derived.Test.YtocejofjmmoeaaaMSampleKeeps18
set_option linter.unusedVariables false
set_option linter.unusedSimpArgs false
section
namespace Go.Proofs.Ytocejofjmmoeaaa.X
open Go.RowKit Go.Proofs.YtocejofjmmoeaaaW.PrintWords Go.Proofs.YtocejofjmmoeaaaW.PrintLast Go.Proofs.YtocejofjmmoeaaaW.PrintMore
attribute [local go_sem] max2_int min2_int max_two min_two max_three min_three max_four min_four   -- for this text's walks alone
set_option linter.unusedVariables false
set_option linter.unusedSimpArgs false
mutual
noncomputable def sample_Learn.l0 : Nat → Int → Int → Int → List Int → List Int → Option (Int × Int × Int × Int × List Int × List Int × Int)
  | 0, _, _, _, _, _ => none
  | k + 1, x8, x169000, x169001, x169002, x169003 => if x8 < x169001 then (sample_Learn.l1 k x8 false 0 x169000 x169001 x169002 x169003) else ((sample_whole.f x169000 x169001 x169002 x169003).bind fun bt169 => (some (bt169.1, bt169.2.1, bt169.2.2.1, bt169.2.2.2.1, bt169.2.2.2.2.1, bt169.2.2.2.2.2.1, bt169.2.2.2.2.2.2)))
noncomputable def sample_Learn.l1 : Nat → Int → Bool → Int → Int → Int → List Int → List Int → Option (Int × Int × Int × Int × List Int × List Int × Int)
  | 0, _, _, _, _, _, _, _ => none
  | k + 1, x8, x9, x10, x169000, x169001, x169002, x169003 => if x10 < x8 then (sample_Learn.j2 k x8 x9 x10 (!x9) x169000 x169001 x169002 x169003) else (sample_Learn.j2 k x8 x9 x10 false x169000 x169001 x169002 x169003)
noncomputable def sample_Learn.j2 : Nat → Int → Bool → Int → Bool → Int → Int → List Int → List Int → Option (Int × Int × Int × Int × List Int × List Int × Int)
  | 0, _, _, _, _, _, _, _, _ => none
  | k + 1, x8, x9, x10, x34, x169000, x169001, x169002, x169003 => if x34 = true then ((sample_Merge.f x169000 x169001 x169002 x169003 x10 x8).bind fun bt180 => (if bt180.2.2.2.2.1 = true then (sample_Learn.l1 k x8 true (wrap64 (x10 + 1)) bt180.1 bt180.2.1 bt180.2.2.1 bt180.2.2.2.1) else (sample_Learn.l1 k x8 x9 (wrap64 (x10 + 1)) x169000 x169001 x169002 x169003))) else (if x9 = true then (sample_Learn.l0 k x8 x169000 x169001 x169002 x169003) else (sample_Learn.l0 k (wrap64 (x8 + 1)) x169000 x169001 x169002 x169003))
end
noncomputable def sample_Learn.f (k : Nat) (a0 : Int) (l1 : List (S57)) : Option (Int × Int × Int × Int × List Int × List Int × Int) := (sample_Prefixes.f a0 l1).bind fun bt159 => (if bt159.2.2.2.2 = 0 then (sample_Learn.l0 k 1 bt159.1 bt159.2.1 bt159.2.2.1 bt159.2.2.2.1) else (some (0, 0, 0, 0, ([] : List Int), ([] : List Int), bt159.2.2.2.2)))
set_option maxHeartbeats 8000000 in
set_option maxRecDepth 100000 in
theorem sample_Learn.calls (k : Nat) (a0 : Int) (A1 : Option Addr) (c1 : Nat) (l1 : List (S57)) (r1 : Int) (r2 : Int) (r3 : Int) (r4 : Int) (r5 : List Int) (r6 : List Int) (r7 : Int) (w : World) (hr1 : Kd.C k57 w A1 l1.length l1) (hc1 : l1.length ≤ c1) (h : sample_Learn.f k a0 l1 = some (r1, r2, r3, r4, r5, r6, r7)) :
    Calls Try.prog 25 #[.int .i64 a0, .slice A1 l1.length c1] w fun e w' => ∃ v4_ v5_ : Value, e = .returned (.tuple #[.agg #[.int .i64 r1, .int .i64 r2, .int .i64 r3, .int .i64 r4, v4_, v5_], .int .i64 r7]) ∧ Kd.R (Kd.int .i64) 3 w' w.heap.size (fun k_ => some k_ ≠ (v5_ : Value).ownBlock) v4_ r5 ∧ Kd.R (Kd.int .i64) 3 w' w.heap.size (fun k_ => some k_ ≠ (v4_ : Value).ownBlock) v5_ r6 ∧ Below w.heap.size w w' := by
  have hu50 := Try.underlying50
  have hu34 := Try.underlying34
  have HR1 := Aside0.mk hr1
  have HC1 := Aside0.mk hc1
  clear hr1 hc1
  have HB := Aside0.mk (Below.refl w.heap.size w)
  have H : ((sample_Prefixes.f a0 l1).bind fun bt159 => (if bt159.2.2.2.2 = 0 then (sample_Learn.l0 k 1 bt159.1 bt159.2.1 bt159.2.2.1 bt159.2.2.2.1) else (some (0, 0, 0, 0, ([] : List Int), ([] : List Int), bt159.2.2.2.2)))) = some (r1, r2, r3, r4, r5, r6, r7) := h
  clear h
  replace H := Option.bind_eq_some_iff.mp H
  obtain ⟨⟨t159, t160, t161, t164, t167⟩, A30, H⟩ := H
  replace H : (if t167 = 0 then (sample_Learn.l0 k 1 t159 t160 t161 t164) else (some (0, 0, 0, 0, ([] : List Int), ([] : List Int), t167))) = some (r1, r2, r3, r4, r5, r6, r7) := H
  have A3 := Aside0.mk A30
  clear A30
  by_cases c4 : t167 = 0
  · rw [if_pos c4] at H
    have c4b0 : (t167 == 0) = true := beq_iff_eq.mpr c4
    have c4b1 : (t167 != 0) = false := bne_eq_false_iff_eq.mpr c4
    clear c4
    have H' := Aside0.mk H
    clear H
    go_enter Try.func25, Try.ntmps25
    go_wp2_with (first | ((with_reducible refine gate_dst (N := 4) rfl ?_); refine box_event ?hg (N := 4) ?hd (cs := #[.int .i64 0, .int .i64 0, .int .i64 0, .int .i64 0, .slice none 0 0, .slice none 0 0]) (t := 50) ?hr ?_; (case hd => rfl); (case hg => rfl); (case hr => first | (go_simp; done) | (go_simp; rfl)); intro gb158 hg w5 hbox hb; have n0_ := Aside0.mk (below_step (by repeat (first | (with_reducible first | exact HB.out | apply below_alloc | apply pw_below_drewN | apply below_drew1) | exact HB.out)) hb); have n1_ := Aside0.mk (hbox); have n2_ := Aside0.mk ((by rw [hg]; exact (below_size (by repeat (first | (with_reducible first | exact HB.out | apply below_alloc | apply pw_below_drewN | apply below_drew1) | exact HB.out))) : w.heap.size ≤ gb158)); have n3_ := Aside0.mk ((by rw [hg]; exact (below_size (by repeat (first | (with_reducible first | exact HB.out | apply below_alloc | apply pw_below_drewN | apply below_drew1) | exact HB.out))) : w.heap.size ≤ gb158)); clear HB; have HB := n0_; have BK158 := n1_; have GW158 := n2_; have GE158 := n3_; clear n0_ n1_ n2_ n3_; clear hb hbox hg) | ((with_reducible refine gate_callee (f := 17) rfl ?_); refine goesL_ (some 17) rfl rfl Try.func17 (by kernel_rfl) rfl #[.int .i64 a0, .slice A1 l1.length c1] rfl (by (try simp only [List.map_toArray, List.map_cons, List.map_nil]); first | done | rfl | (simp only [List.length_drop, List.length_take]; rfl)) ?_; (with_reducible refine (sample_Prefixes.calls a0 _ _ l1 t159 t160 t161 t164 t167 _ ?side1 ?side2 A3.out).mono ?_); (case side1 => repeat (first | exact (Kd.C_below HR1.out HB.out) | (with_reducible refine Kd.C_alloc ?_ _) | (with_reducible refine Kd.C_drewN ?_ _) | (with_reducible refine Kd.C_drew ?_))); (case side2 => exact HC1.out); rintro e w6 ⟨v162, v165, rfl, ho0, ho1, hb⟩; refine ⟨_, rfl, ?_⟩; have n0_ := Aside0.mk (Kd.R_lower ho0 (below_size (by repeat (first | (with_reducible first | exact HB.out | apply below_alloc | apply pw_below_drewN | apply below_drew1 | refine below_set ?_ GE158.out) | exact HB.out)))); have n1_ := Aside0.mk (Kd.R_lower ho1 (below_size (by repeat (first | (with_reducible first | exact HB.out | apply below_alloc | apply pw_below_drewN | apply below_drew1 | refine below_set ?_ GE158.out) | exact HB.out)))); have n2_ := Aside0.mk (blk_below (g := gb158) (o := .cells #[.int .i64 0, .int .i64 0, .int .i64 0, .int .i64 0, .slice none 0 0, .slice none 0 0] 50 (0, 0)) (by (with_reducible repeat (first | refine blk_drewN ?_ _ | refine blk_drew ?_ | refine blk_alloc ?_ _)); exact BK158.out) hb); have n3_ := Aside0.mk (below_step (by repeat (first | (with_reducible first | exact HB.out | apply below_alloc | apply pw_below_drewN | apply below_drew1 | refine below_set ?_ GE158.out) | exact HB.out)) hb); clear BK158; clear HB; have HO163 := n0_; have HO166 := n1_; have BK158 := n2_; have HB := n3_; clear n0_ n1_ n2_ n3_; (try clear hb); (try clear hb2); (try clear hk); (try clear hi); (try clear ho0); (try clear ho1)) | ((with_reducible refine gate_dst (N := 6) rfl ?_); refine box_event ?hg (N := 6) ?hd (cs := #[.int .i64 0, .int .i64 0, .slice none 0 0, .slice none 0 0]) (t := 34) ?hr ?_; (case hd => rfl); (case hg => rfl); (case hr => first | (go_simp; done) | (go_simp; rfl)); intro gb168 hg w7 hbox hb; have n0_ := Aside0.mk (Kd.R_below (by (with_reducible repeat (first | apply Kd.R_alloc | apply Kd.R_drewN | apply Kd.R_drew)); exact HO163.out) hb); have n1_ := Aside0.mk (Kd.R_below (by (with_reducible repeat (first | apply Kd.R_alloc | apply Kd.R_drewN | apply Kd.R_drew)); exact HO166.out) hb); have n2_ := Aside0.mk (blk_below (g := gb158) (o := .cells #[.int .i64 0, .int .i64 0, .int .i64 0, .int .i64 0, .slice none 0 0, .slice none 0 0] 50 (0, 0)) (by (with_reducible repeat (first | refine blk_drewN ?_ _ | refine blk_drew ?_ | refine blk_alloc ?_ _)); exact BK158.out) hb); have n3_ := Aside0.mk (below_step (by repeat (first | (with_reducible first | exact HB.out | apply below_alloc | apply pw_below_drewN | apply below_drew1 | refine below_set ?_ GE158.out) | exact HB.out)) hb); have n4_ := Aside0.mk (hbox); have n5_ := Aside0.mk ((by rw [hg]; exact (below_size (by repeat (first | (with_reducible first | exact HB.out | apply below_alloc | apply pw_below_drewN | apply below_drew1 | refine below_set ?_ GE158.out) | exact HB.out))) : w.heap.size ≤ gb168)); have n6_ := Aside0.mk ((by rw [hg]; exact (below_size (by repeat (first | (with_reducible first | exact HB.out | apply below_alloc | apply pw_below_drewN | apply below_drew1 | refine below_set ?_ GE158.out) | exact HB.out))) : w.heap.size ≤ gb168)); have n7_ := Aside0.mk ((by rw [hg]; exact Nat.ne_of_lt (blk_lt (g := gb158) (o := .cells #[.int .i64 0, .int .i64 0, .int .i64 0, .int .i64 0, .slice none 0 0, .slice none 0 0] 50 (0, 0)) (by (with_reducible repeat (first | refine blk_drewN ?_ _ | refine blk_drew ?_ | refine blk_alloc ?_ _)); exact BK158.out)) : gb158 ≠ gb168)); have n8_ := Aside0.mk ((by rw [hg]; exact Nat.ne_of_gt (blk_lt (g := gb158) (o := .cells #[.int .i64 0, .int .i64 0, .int .i64 0, .int .i64 0, .slice none 0 0, .slice none 0 0] 50 (0, 0)) (by (with_reducible repeat (first | refine blk_drewN ?_ _ | refine blk_drew ?_ | refine blk_alloc ?_ _)); exact BK158.out)) : gb168 ≠ gb158)); clear HO163; clear HO166; clear BK158; clear HB; have HO163 := n0_; have HO166 := n1_; have BK158 := n2_; have HB := n3_; have BK168 := n4_; have GW168 := n5_; have GE168 := n6_; have NB158_168 := n7_; have NB168_158 := n8_; clear n0_ n1_ n2_ n3_ n4_ n5_ n6_ n7_ n8_; clear hb hbox hg; have hnb8 := NB168_158.out; have hnc8 := NB158_168.out; have hcz9_0 : w7.cell? ⟨gb168, 0, none⟩ = some (.int .i64 0) := (blk_cell BK168.out 0).trans rfl; have hcz9_1 : w7.cell? ⟨gb168, 1, none⟩ = some (.int .i64 0) := (blk_cell BK168.out 1).trans rfl; have hcz9_2 : w7.cell? ⟨gb168, 2, none⟩ = some (.slice none 0 0) := (blk_cell BK168.out 2).trans rfl; have hcz9_3 : w7.cell? ⟨gb168, 3, none⟩ = some (.slice none 0 0) := (blk_cell BK168.out 3).trans rfl; have hfz9_0 := blk_frozen BK168.out 0; have hfz9_1 := blk_frozen BK168.out 1; have hfz9_2 := blk_frozen BK168.out 2; have hfz9_3 := blk_frozen BK168.out 3; obtain ⟨Ao10, co10, eo10⟩ := Kd.R_slice HO163.out; subst eo10; obtain ⟨Ao11, co11, eo11⟩ := Kd.R_slice HO166.out; subst eo11))
    go_loopg [8] k (fun kq v8 w' => ∃ (x8_1 : Int) (x169000_1 : Int) (x169001_1 : Int) (x169002_1 : List Int) (x169003_1 : List Int) (u169002 : Value) (u169003 : Value), v8 = .int .i64 x8_1 ∧ Aside0 (sample_Learn.l0 kq x8_1 x169000_1 x169001_1 x169002_1 x169003_1 = some (r1, r2, r3, r4, r5, r6, r7)) ∧ Aside0 (kq ≤ k) ∧ Aside0 (Kd.R (Kd.int .i64) 3 w' w.heap.size (fun k_ => some k_ ≠ (u169003 : Value).ownBlock) u169002 x169002_1) ∧ Aside0 (Kd.R (Kd.int .i64) 3 w' w.heap.size (fun k_ => some k_ ≠ (u169002 : Value).ownBlock) u169003 x169003_1) ∧ Aside0 (w'.heap[gb158]? = some (.cells #[.int .i64 0, .int .i64 0, .int .i64 0, .int .i64 0, (.slice none 0 0), (.slice none 0 0)] 50 (0, 0))) ∧ Aside0 (w'.heap[gb168]? = some (.cells #[.int .i64 x169000_1, .int .i64 x169001_1, u169002, u169003] 34 (0, 0))) ∧ Aside0 (Below w.heap.size w w'))
    case atStart => exact ⟨(1), (t159), (t160), (t161), (t164), (.slice Ao10 t161.length co10), (.slice Ao11 t164.length co11), (by first | rfl | (simp; done) | (simp [*]; done)), H', ⟨Nat.le_refl _⟩, ⟨by (with_reducible repeat (first | apply Kd.R_alloc | apply Kd.R_drewN | apply Kd.R_drew)); exact Kd.R_mono (Kd.R_far (p := ⟨gb168, 3, none⟩) (Kd.R_far (p := ⟨gb168, 2, none⟩) (Kd.R_far (p := ⟨gb168, 1, none⟩) (Kd.R_far (p := ⟨gb168, 0, none⟩) (Kd.R_types HO163.out BK168.out (by decide)) (fun _ hk => hk.2) (.int .i64 t159)) (fun _ hk => hk.2) (.int .i64 t160)) (fun _ hk => hk.2) (.slice Ao10 t161.length co10)) (fun _ hk => hk.2) (.slice Ao11 t164.length co11)) (fun _ hk => hk.1)⟩, ⟨by (with_reducible repeat (first | apply Kd.R_alloc | apply Kd.R_drewN | apply Kd.R_drew)); exact Kd.R_mono (Kd.R_far (p := ⟨gb168, 3, none⟩) (Kd.R_far (p := ⟨gb168, 2, none⟩) (Kd.R_far (p := ⟨gb168, 1, none⟩) (Kd.R_far (p := ⟨gb168, 0, none⟩) (Kd.R_types HO166.out BK168.out (by decide)) (fun _ hk => hk.2) (.int .i64 t159)) (fun _ hk => hk.2) (.int .i64 t160)) (fun _ hk => hk.2) (.slice Ao10 t161.length co10)) (fun _ hk => hk.2) (.slice Ao11 t164.length co11)) (fun _ hk => hk.1)⟩, ⟨by (with_reducible repeat (first | refine blk_drewN ?_ _ | refine blk_drew ?_ | refine blk_alloc ?_ _)); refine blk_far ?_ NB158_168.out _; (with_reducible repeat (first | refine blk_drewN ?_ _ | refine blk_drew ?_ | refine blk_alloc ?_ _)); refine blk_far ?_ NB158_168.out _; (with_reducible repeat (first | refine blk_drewN ?_ _ | refine blk_drew ?_ | refine blk_alloc ?_ _)); refine blk_far ?_ NB158_168.out _; (with_reducible repeat (first | refine blk_drewN ?_ _ | refine blk_drew ?_ | refine blk_alloc ?_ _)); refine blk_far ?_ NB158_168.out _; (with_reducible repeat (first | refine blk_drewN ?_ _ | refine blk_drew ?_ | refine blk_alloc ?_ _)); exact BK158.out⟩, ⟨by (with_reducible repeat (first | refine blk_drewN ?_ _ | refine blk_drew ?_ | refine blk_alloc ?_ _)); refine blk_put (cs := #[.int .i64 t159, .int .i64 t160, .slice Ao10 t161.length co10, .slice none 0 0]) ?_ 3 _ rfl; (with_reducible repeat (first | refine blk_drewN ?_ _ | refine blk_drew ?_ | refine blk_alloc ?_ _)); refine blk_put (cs := #[.int .i64 t159, .int .i64 t160, .slice none 0 0, .slice none 0 0]) ?_ 2 _ rfl; (with_reducible repeat (first | refine blk_drewN ?_ _ | refine blk_drew ?_ | refine blk_alloc ?_ _)); refine blk_put (cs := #[.int .i64 t159, .int .i64 0, .slice none 0 0, .slice none 0 0]) ?_ 1 _ rfl; (with_reducible repeat (first | refine blk_drewN ?_ _ | refine blk_drew ?_ | refine blk_alloc ?_ _)); refine blk_put (cs := #[.int .i64 0, .int .i64 0, .slice none 0 0, .slice none 0 0]) ?_ 0 _ rfl; (with_reducible repeat (first | refine blk_drewN ?_ _ | refine blk_drew ?_ | refine blk_alloc ?_ _)); exact BK168.out⟩, ⟨by repeat (first | (with_reducible first | exact HB.out | apply below_alloc | apply pw_below_drewN | apply below_drew1 | refine below_set ?_ GE158.out | refine below_set ?_ GE168.out) | exact HB.out)⟩⟩
    case round =>
      clear H'
      try clear c1
      try clear c2
      try clear p2
      try clear c4
      try clear c4b0
      try clear c4b1
      try clear c8
      try clear hcz9_0
      try clear hcz9_1
      try clear hcz9_2
      try clear hcz9_3
      try clear hfz9_0
      try clear hfz9_1
      try clear hfz9_2
      try clear hfz9_3
      obtain ⟨x8_1, x169000_1, x169001_1, x169002_1, x169003_1, u169002, u169003, rfl, HA, HK1, HO_169002, HO_169003, BK158, BK168, HB⟩ := hrel
      cases gk with
      | zero => exact absurd HA.out (by simp [sample_Learn.l0])
      | succ k1 =>
        have H := HA.out
        clear HA
        simp only [sample_Learn.l0] at H
        by_cases c12 : x8_1 < x169001_1
        · rw [if_pos c12] at H
          have c12b0 : decide (x8_1 < x169001_1) = true := decide_eq_true c12
          clear c12
          have H' := Aside0.mk H
          clear H
          have hnb13 := NB168_158.out
          have hnc13 := NB158_168.out
          have hcz14_0 : wr.cell? ⟨gb168, 0, none⟩ = some (.int .i64 x169000_1) := (blk_cell BK168.out 0).trans rfl
          have hcz14_1 : wr.cell? ⟨gb168, 1, none⟩ = some (.int .i64 x169001_1) := (blk_cell BK168.out 1).trans rfl
          have hcz14_2 : wr.cell? ⟨gb168, 2, none⟩ = some (u169002) := (blk_cell BK168.out 2).trans rfl
          have hcz14_3 : wr.cell? ⟨gb168, 3, none⟩ = some (u169003) := (blk_cell BK168.out 3).trans rfl
          have hfz14_0 := blk_frozen BK168.out 0
          have hfz14_1 := blk_frozen BK168.out 1
          have hfz14_2 := blk_frozen BK168.out 2
          have hfz14_3 := blk_frozen BK168.out 3
          go_wp2
          go_loopg [9, 10] k1 (fun kq v9 v10 w' => ∃ (x9_2 : Bool) (x10_2 : Int) (x169000_2 : Int) (x169001_2 : Int) (x169002_2 : List Int) (x169003_2 : List Int) (u169002 : Value) (u169003 : Value), v9 = .bool x9_2 ∧ v10 = .int .i64 x10_2 ∧ Aside0 (sample_Learn.l1 kq x8_1 x9_2 x10_2 x169000_2 x169001_2 x169002_2 x169003_2 = some (r1, r2, r3, r4, r5, r6, r7)) ∧ Aside0 (kq ≤ k1) ∧ Aside0 (Kd.R (Kd.int .i64) 3 w' w.heap.size (fun k_ => some k_ ≠ (u169003 : Value).ownBlock) u169002 x169002_2) ∧ Aside0 (Kd.R (Kd.int .i64) 3 w' w.heap.size (fun k_ => some k_ ≠ (u169002 : Value).ownBlock) u169003 x169003_2) ∧ Aside0 (w'.heap[gb158]? = some (.cells #[.int .i64 0, .int .i64 0, .int .i64 0, .int .i64 0, (.slice none 0 0), (.slice none 0 0)] 50 (0, 0))) ∧ Aside0 (w'.heap[gb168]? = some (.cells #[.int .i64 x169000_2, .int .i64 x169001_2, u169002, u169003] 34 (0, 0))) ∧ Aside0 (Below w.heap.size w w'))
          case atStart => exact ⟨(false), (0), (x169000_1), (x169001_1), (x169002_1), (x169003_1), (u169002), (u169003), (by first | rfl | (simp; done) | (simp [*]; done)), (by first | rfl | (simp; done) | (simp [*]; done)), H', ⟨Nat.le_refl _⟩, ⟨by (with_reducible repeat (first | apply Kd.R_alloc | apply Kd.R_drewN | apply Kd.R_drew)); exact HO_169002.out⟩, ⟨by (with_reducible repeat (first | apply Kd.R_alloc | apply Kd.R_drewN | apply Kd.R_drew)); exact HO_169003.out⟩, ⟨by (with_reducible repeat (first | refine blk_drewN ?_ _ | refine blk_drew ?_ | refine blk_alloc ?_ _)); exact BK158.out⟩, ⟨by (with_reducible repeat (first | refine blk_drewN ?_ _ | refine blk_drew ?_ | refine blk_alloc ?_ _)); exact BK168.out⟩, ⟨by repeat (first | (with_reducible first | exact HB.out | apply below_alloc | apply pw_below_drewN | apply below_drew1 | refine below_set ?_ GE158.out | refine below_set ?_ GE168.out) | exact HB.out)⟩⟩
          case round =>
            clear H'
            try clear c1
            try clear c2
            try clear p2
            try clear c4
            try clear c4b0
            try clear c4b1
            try clear c8
            try clear c12
            try clear c12b0
            try clear c13
            try clear hcz14_0
            try clear hcz14_1
            try clear hcz14_2
            try clear hcz14_3
            try clear hcz9_0
            try clear hcz9_1
            try clear hcz9_2
            try clear hcz9_3
            try clear hfz14_0
            try clear hfz14_1
            try clear hfz14_2
            try clear hfz14_3
            try clear hfz9_0
            try clear hfz9_1
            try clear hfz9_2
            try clear hfz9_3
            try clear p2
            obtain ⟨x9_2, x10_2, x169000_2, x169001_2, x169002_2, x169003_2, u169002, u169003, rfl, rfl, HA, HK2, HO_169002, HO_169003, BK158, BK168, HB⟩ := hrel
            cases gk with
            | zero => exact absurd HA.out (by simp [sample_Learn.l1])
            | succ k2 =>
              have H := HA.out
              clear HA
              simp only [sample_Learn.l1] at H
              have HC15 := Aside0.mk H
              clear H
              go_upto_region 8 with (fail)
              go_cut [34] (fun v34 wc => ∃ (kq : Nat) (x34_14 : Bool), v34 = .bool x34_14 ∧ Aside0 (sample_Learn.j2 kq x8_1 x9_2 x10_2 x34_14 x169000_2 x169001_2 x169002_2 x169003_2 = some (r1, r2, r3, r4, r5, r6, r7)) ∧ Aside0 (kq ≤ k2) ∧ Aside0 (Kd.R (Kd.int .i64) 3 wc w.heap.size (fun k_ => some k_ ≠ (u169003 : Value).ownBlock) u169002 x169002_2) ∧ Aside0 (Kd.R (Kd.int .i64) 3 wc w.heap.size (fun k_ => some k_ ≠ (u169002 : Value).ownBlock) u169003 x169003_2) ∧ Aside0 (wc.heap[gb158]? = some (.cells #[.int .i64 0, .int .i64 0, .int .i64 0, .int .i64 0, (.slice none 0 0), (.slice none 0 0)] 50 (0, 0))) ∧ Aside0 (wc.heap[gb168]? = some (.cells #[.int .i64 x169000_2, .int .i64 x169001_2, u169002, u169003] 34 (0, 0))) ∧ Aside0 (Below w.heap.size w wc))
              case first =>
                have H := HC15.out
                clear HC15
                by_cases c16 : x10_2 < x8_1
                · rw [if_pos c16] at H
                  have c16b0 : decide (x10_2 < x8_1) = true := decide_eq_true c16
                  clear c16
                  (first | rw [c16b0] | (simp only [i64_w, i32_w]; rw [c16b0]) | skip)
                  have H' := Aside0.mk H
                  clear H
                  go_wp2
                  go_meet
                  case rel => exact ⟨_, (!x9_2), (by first | rfl | (simp; done) | (simp [*]; done)), H', ⟨by have := HK1.out; have := HK2.out; first | omega | exact Nat.le_refl _⟩, ⟨by (with_reducible repeat (first | apply Kd.R_alloc | apply Kd.R_drewN | apply Kd.R_drew)); exact HO_169002.out⟩, ⟨by (with_reducible repeat (first | apply Kd.R_alloc | apply Kd.R_drewN | apply Kd.R_drew)); exact HO_169003.out⟩, ⟨by (with_reducible repeat (first | refine blk_drewN ?_ _ | refine blk_drew ?_ | refine blk_alloc ?_ _)); exact BK158.out⟩, ⟨by (with_reducible repeat (first | refine blk_drewN ?_ _ | refine blk_drew ?_ | refine blk_alloc ?_ _)); exact BK168.out⟩, ⟨by repeat (first | (with_reducible first | exact HB.out | apply below_alloc | apply pw_below_drewN | apply below_drew1 | refine below_set ?_ GE158.out | refine below_set ?_ GE168.out) | exact HB.out)⟩⟩
                · rw [if_neg c16] at H
                  have c16b0 : decide (x10_2 < x8_1) = false := decide_eq_false c16
                  clear c16
                  (first | rw [c16b0] | (simp only [i64_w, i32_w]; rw [c16b0]) | skip)
                  have H' := Aside0.mk H
                  clear H
                  go_wp2
                  go_meet
                  case rel => exact ⟨_, (false), (by first | rfl | (simp; done) | (simp [*]; done)), H', ⟨by have := HK1.out; have := HK2.out; first | omega | exact Nat.le_refl _⟩, ⟨by (with_reducible repeat (first | apply Kd.R_alloc | apply Kd.R_drewN | apply Kd.R_drew)); exact HO_169002.out⟩, ⟨by (with_reducible repeat (first | apply Kd.R_alloc | apply Kd.R_drewN | apply Kd.R_drew)); exact HO_169003.out⟩, ⟨by (with_reducible repeat (first | refine blk_drewN ?_ _ | refine blk_drew ?_ | refine blk_alloc ?_ _)); exact BK158.out⟩, ⟨by (with_reducible repeat (first | refine blk_drewN ?_ _ | refine blk_drew ?_ | refine blk_alloc ?_ _)); exact BK168.out⟩, ⟨by repeat (first | (with_reducible first | exact HB.out | apply below_alloc | apply pw_below_drewN | apply below_drew1 | refine below_set ?_ GE158.out | refine below_set ?_ GE168.out) | exact HB.out)⟩⟩
              case rest =>
                clear HC15
                try clear c1
                try clear c2
                try clear p2
                try clear c4
                try clear c4b0
                try clear c4b1
                try clear c8
                try clear c12
                try clear c12b0
                try clear c13
                try clear c16
                try clear c16b0
                try clear hcz14_0
                try clear hcz14_1
                try clear hcz14_2
                try clear hcz14_3
                try clear hcz9_0
                try clear hcz9_1
                try clear hcz9_2
                try clear hcz9_3
                try clear hfz14_0
                try clear hfz14_1
                try clear hfz14_2
                try clear hfz14_3
                try clear hfz9_0
                try clear hfz9_1
                try clear hfz9_2
                try clear hfz9_3
                try clear p2
                obtain ⟨kq, x34_14, rfl, HA, HJ14, HO_169002, HO_169003, BK158, BK168, HB⟩ := hcut
                cases kq with
                | zero => exact absurd HA.out (by simp [sample_Learn.j2])
                | succ kj14 =>
                  have H := HA.out
                  clear HA
                  simp only [sample_Learn.j2] at H
                  by_cases c17 : x34_14 = true
                  · subst c17
                    have H1 : ((sample_Merge.f x169000_2 x169001_2 x169002_2 x169003_2 x10_2 x8_1).bind fun bt180 => (if bt180.2.2.2.2.1 = true then (sample_Learn.l1 kj14 x8_1 true (wrap64 (x10_2 + 1)) bt180.1 bt180.2.1 bt180.2.2.1 bt180.2.2.2.1) else (sample_Learn.l1 kj14 x8_1 x9_2 (wrap64 (x10_2 + 1)) x169000_2 x169001_2 x169002_2 x169003_2))) = some (r1, r2, r3, r4, r5, r6, r7) := by rw [if_pos rfl] at H; exact H
                    clear H
                    have H := H1
                    clear H1
                    replace H := Option.bind_eq_some_iff.mp H
                    obtain ⟨⟨t180, t181, t182, t185, t188, t189⟩, A180, H⟩ := H
                    replace H : (if t188 = true then (sample_Learn.l1 kj14 x8_1 true (wrap64 (x10_2 + 1)) t180 t181 t182 t185) else (sample_Learn.l1 kj14 x8_1 x9_2 (wrap64 (x10_2 + 1)) x169000_2 x169001_2 x169002_2 x169003_2)) = some (r1, r2, r3, r4, r5, r6, r7) := H
                    have A18 := Aside0.mk A180
                    clear A180
                    by_cases c19 : t188 = true
                    · subst c19
                      have H1 : (sample_Learn.l1 kj14 x8_1 true (wrap64 (x10_2 + 1)) t180 t181 t182 t185) = some (r1, r2, r3, r4, r5, r6, r7) := by rw [if_pos rfl] at H; exact H
                      clear H
                      have H := H1
                      clear H1
                      have H' := Aside0.mk H
                      clear H
                      have hnb20 := NB168_158.out
                      have hnc20 := NB158_168.out
                      have hcz21_0 : wc.cell? ⟨gb168, 0, none⟩ = some (.int .i64 x169000_2) := (blk_cell BK168.out 0).trans rfl
                      have hcz21_1 : wc.cell? ⟨gb168, 1, none⟩ = some (.int .i64 x169001_2) := (blk_cell BK168.out 1).trans rfl
                      have hcz21_2 : wc.cell? ⟨gb168, 2, none⟩ = some (u169002) := (blk_cell BK168.out 2).trans rfl
                      have hcz21_3 : wc.cell? ⟨gb168, 3, none⟩ = some (u169003) := (blk_cell BK168.out 3).trans rfl
                      have hfz21_0 := blk_frozen BK168.out 0
                      have hfz21_1 := blk_frozen BK168.out 1
                      have hfz21_2 := blk_frozen BK168.out 2
                      have hfz21_3 := blk_frozen BK168.out 3
                      obtain ⟨Ao22, co22, eo22⟩ := Kd.R_slice HO_169002.out
                      subst eo22
                      obtain ⟨Ao23, co23, eo23⟩ := Kd.R_slice HO_169003.out
                      subst eo23
                      go_wp2_with (first | ((with_reducible refine gate_callee (f := 23) rfl ?_); refine goesL_ (some 41) rfl rfl Try.func23 (by kernel_rfl) rfl #[.agg #[.int .i64 x169000_2, .int .i64 x169001_2, .slice Ao22 x169002_2.length co22, .slice Ao23 x169003_2.length co23], .int .i64 x10_2, .int .i64 x8_1] rfl (by (try simp only [List.map_toArray, List.map_cons, List.map_nil]); first | done | rfl | (simp only [List.length_drop, List.length_take]; rfl)) ?_; (with_reducible refine (sample_Merge.calls x169000_2 x169001_2 _ _ x169002_2 _ _ x169003_2 x10_2 x8_1 t180 t181 t182 t185 true t189 _ ?side1 ?side2 ?side3 ?side4 A18.out).mono ?_); (case side1 => repeat (first | exact (Kd.R_reads' HO_169002.out).2.2 | (with_reducible refine Kd.C_alloc ?_ _) | (with_reducible refine Kd.C_drewN ?_ _) | (with_reducible refine Kd.C_drew ?_))); (case side2 => exact (Kd.R_reads' HO_169002.out).2.1); (case side3 => repeat (first | exact (Kd.R_reads' HO_169003.out).2.2 | (with_reducible refine Kd.C_alloc ?_ _) | (with_reducible refine Kd.C_drewN ?_ _) | (with_reducible refine Kd.C_drew ?_))); (case side4 => exact (Kd.R_reads' HO_169003.out).2.1); rintro e w24 ⟨v183, v186, rfl, ho0, ho1, hb⟩; refine ⟨_, rfl, ?_⟩; have n0_ := Aside0.mk (Kd.R_mono (Kd.R_told (Kd.R_told (Kd.R_old (by (with_reducible repeat (first | apply Kd.R_alloc | apply Kd.R_drewN | apply Kd.R_drew)); exact HO_169002.out) hb) (Kd.R_base ho0)) (Kd.R_base ho1)) (fun _ h_ => h_.1)); have n1_ := Aside0.mk (Kd.R_mono (Kd.R_told (Kd.R_told (Kd.R_old (by (with_reducible repeat (first | apply Kd.R_alloc | apply Kd.R_drewN | apply Kd.R_drew)); exact HO_169003.out) hb) (Kd.R_base ho0)) (Kd.R_base ho1)) (fun _ h_ => h_.1)); have n2_ := Aside0.mk (Kd.R_lower (Kd.R_new' (Kd.R_new' ho0 (Kd.R_lt (by (with_reducible repeat (first | apply Kd.R_alloc | apply Kd.R_drewN | apply Kd.R_drew)); exact HO_169002.out))) (Kd.R_lt (by (with_reducible repeat (first | apply Kd.R_alloc | apply Kd.R_drewN | apply Kd.R_drew)); exact HO_169003.out))) (below_size (by repeat (first | (with_reducible first | exact HB.out | apply below_alloc | apply pw_below_drewN | apply below_drew1 | refine below_set ?_ GE158.out | refine below_set ?_ GE168.out) | exact HB.out)))); have n3_ := Aside0.mk (Kd.R_lower (Kd.R_new' (Kd.R_new' ho1 (Kd.R_lt (by (with_reducible repeat (first | apply Kd.R_alloc | apply Kd.R_drewN | apply Kd.R_drew)); exact HO_169002.out))) (Kd.R_lt (by (with_reducible repeat (first | apply Kd.R_alloc | apply Kd.R_drewN | apply Kd.R_drew)); exact HO_169003.out))) (below_size (by repeat (first | (with_reducible first | exact HB.out | apply below_alloc | apply pw_below_drewN | apply below_drew1 | refine below_set ?_ GE158.out | refine below_set ?_ GE168.out) | exact HB.out)))); have n4_ := Aside0.mk (blk_below (g := gb158) (o := .cells #[.int .i64 0, .int .i64 0, .int .i64 0, .int .i64 0, .slice none 0 0, .slice none 0 0] 50 (0, 0)) (by (with_reducible repeat (first | refine blk_drewN ?_ _ | refine blk_drew ?_ | refine blk_alloc ?_ _)); exact BK158.out) hb); have n5_ := Aside0.mk (blk_below (g := gb168) (o := .cells #[.int .i64 x169000_2, .int .i64 x169001_2, .slice Ao22 x169002_2.length co22, .slice Ao23 x169003_2.length co23] 34 (0, 0)) (by (with_reducible repeat (first | refine blk_drewN ?_ _ | refine blk_drew ?_ | refine blk_alloc ?_ _)); exact BK168.out) hb); have n6_ := Aside0.mk (below_step (by repeat (first | (with_reducible first | exact HB.out | apply below_alloc | apply pw_below_drewN | apply below_drew1 | refine below_set ?_ GE158.out | refine below_set ?_ GE168.out) | exact HB.out)) hb); clear HO_169002; clear HO_169003; clear BK158; clear BK168; clear HB; have HO_169002 := n0_; have HO_169003 := n1_; have HO184 := n2_; have HO187 := n3_; have BK158 := n4_; have BK168 := n5_; have HB := n6_; clear n0_ n1_ n2_ n3_ n4_ n5_ n6_; (try clear hb); (try clear hb2); (try clear hk); (try clear hi); (try clear ho0); (try clear ho1)) | ((with_reducible refine gate_dst (N := 11) rfl ?_); refine box_event ?hg (N := 11) ?hd (cs := #[.int .i64 0, .int .i64 0, .slice none 0 0, .slice none 0 0]) (t := 34) ?hr ?_; (case hd => rfl); (case hg => rfl); (case hr => first | (go_simp; done) | (go_simp; rfl)); intro gb190 hg w25 hbox hb; have n0_ := Aside0.mk (Kd.R_below (by (with_reducible repeat (first | apply Kd.R_alloc | apply Kd.R_drewN | apply Kd.R_drew)); exact HO_169002.out) hb); have n1_ := Aside0.mk (Kd.R_below (by (with_reducible repeat (first | apply Kd.R_alloc | apply Kd.R_drewN | apply Kd.R_drew)); exact HO_169003.out) hb); have n2_ := Aside0.mk (Kd.R_below (by (with_reducible repeat (first | apply Kd.R_alloc | apply Kd.R_drewN | apply Kd.R_drew)); exact HO184.out) hb); have n3_ := Aside0.mk (Kd.R_below (by (with_reducible repeat (first | apply Kd.R_alloc | apply Kd.R_drewN | apply Kd.R_drew)); exact HO187.out) hb); have n4_ := Aside0.mk (blk_below (g := gb158) (o := .cells #[.int .i64 0, .int .i64 0, .int .i64 0, .int .i64 0, .slice none 0 0, .slice none 0 0] 50 (0, 0)) (by (with_reducible repeat (first | refine blk_drewN ?_ _ | refine blk_drew ?_ | refine blk_alloc ?_ _)); exact BK158.out) hb); have n5_ := Aside0.mk (blk_below (g := gb168) (o := .cells #[.int .i64 x169000_2, .int .i64 x169001_2, .slice Ao22 x169002_2.length co22, .slice Ao23 x169003_2.length co23] 34 (0, 0)) (by (with_reducible repeat (first | refine blk_drewN ?_ _ | refine blk_drew ?_ | refine blk_alloc ?_ _)); exact BK168.out) hb); have n6_ := Aside0.mk (below_step (by repeat (first | (with_reducible first | exact HB.out | apply below_alloc | apply pw_below_drewN | apply below_drew1 | refine below_set ?_ GE158.out | refine below_set ?_ GE168.out) | exact HB.out)) hb); have n7_ := Aside0.mk (hbox); have n8_ := Aside0.mk ((by rw [hg]; exact (below_size (by repeat (first | (with_reducible first | exact HB.out | apply below_alloc | apply pw_below_drewN | apply below_drew1 | refine below_set ?_ GE158.out | refine below_set ?_ GE168.out) | exact HB.out))) : w.heap.size ≤ gb190)); have n9_ := Aside0.mk ((by rw [hg]; exact (below_size (by repeat (first | (with_reducible first | exact HB.out | apply below_alloc | apply pw_below_drewN | apply below_drew1 | refine below_set ?_ GE158.out | refine below_set ?_ GE168.out) | exact HB.out))) : w.heap.size ≤ gb190)); have n10_ := Aside0.mk ((by rw [hg]; exact Nat.ne_of_lt (blk_lt (g := gb158) (o := .cells #[.int .i64 0, .int .i64 0, .int .i64 0, .int .i64 0, .slice none 0 0, .slice none 0 0] 50 (0, 0)) (by (with_reducible repeat (first | refine blk_drewN ?_ _ | refine blk_drew ?_ | refine blk_alloc ?_ _)); exact BK158.out)) : gb158 ≠ gb190)); have n11_ := Aside0.mk ((by rw [hg]; exact Nat.ne_of_gt (blk_lt (g := gb158) (o := .cells #[.int .i64 0, .int .i64 0, .int .i64 0, .int .i64 0, .slice none 0 0, .slice none 0 0] 50 (0, 0)) (by (with_reducible repeat (first | refine blk_drewN ?_ _ | refine blk_drew ?_ | refine blk_alloc ?_ _)); exact BK158.out)) : gb190 ≠ gb158)); have n12_ := Aside0.mk ((by rw [hg]; exact Nat.ne_of_lt (blk_lt (g := gb168) (o := .cells #[.int .i64 x169000_2, .int .i64 x169001_2, .slice Ao22 x169002_2.length co22, .slice Ao23 x169003_2.length co23] 34 (0, 0)) (by (with_reducible repeat (first | refine blk_drewN ?_ _ | refine blk_drew ?_ | refine blk_alloc ?_ _)); exact BK168.out)) : gb168 ≠ gb190)); have n13_ := Aside0.mk ((by rw [hg]; exact Nat.ne_of_gt (blk_lt (g := gb168) (o := .cells #[.int .i64 x169000_2, .int .i64 x169001_2, .slice Ao22 x169002_2.length co22, .slice Ao23 x169003_2.length co23] 34 (0, 0)) (by (with_reducible repeat (first | refine blk_drewN ?_ _ | refine blk_drew ?_ | refine blk_alloc ?_ _)); exact BK168.out)) : gb190 ≠ gb168)); clear HO_169002; clear HO_169003; clear HO184; clear HO187; clear BK158; clear BK168; clear HB; have HO_169002 := n0_; have HO_169003 := n1_; have HO184 := n2_; have HO187 := n3_; have BK158 := n4_; have BK168 := n5_; have HB := n6_; have BK190 := n7_; have GW190 := n8_; have GE190 := n9_; have NB158_190 := n10_; have NB190_158 := n11_; have NB168_190 := n12_; have NB190_168 := n13_; clear n0_ n1_ n2_ n3_ n4_ n5_ n6_ n7_ n8_ n9_ n10_ n11_ n12_ n13_; clear hb hbox hg; have hnb26 := NB190_158.out; have hnc26 := NB158_190.out; have hnb27 := NB190_168.out; have hnc27 := NB168_190.out; have hcz28_0 : w25.cell? ⟨gb190, 0, none⟩ = some (.int .i64 0) := (blk_cell BK190.out 0).trans rfl; have hcz28_1 : w25.cell? ⟨gb190, 1, none⟩ = some (.int .i64 0) := (blk_cell BK190.out 1).trans rfl; have hcz28_2 : w25.cell? ⟨gb190, 2, none⟩ = some (.slice none 0 0) := (blk_cell BK190.out 2).trans rfl; have hcz28_3 : w25.cell? ⟨gb190, 3, none⟩ = some (.slice none 0 0) := (blk_cell BK190.out 3).trans rfl; have hfz28_0 := blk_frozen BK190.out 0; have hfz28_1 := blk_frozen BK190.out 1; have hfz28_2 := blk_frozen BK190.out 2; have hfz28_3 := blk_frozen BK190.out 3; obtain ⟨Ao29, co29, eo29⟩ := Kd.R_slice HO184.out; subst eo29; obtain ⟨Ao30, co30, eo30⟩ := Kd.R_slice HO187.out; subst eo30; have hcz31_0 : w25.cell? ⟨gb168, 0, none⟩ = some (.int .i64 x169000_2) := (blk_cell BK168.out 0).trans rfl; have hcz31_1 : w25.cell? ⟨gb168, 1, none⟩ = some (.int .i64 x169001_2) := (blk_cell BK168.out 1).trans rfl; have hcz31_2 : w25.cell? ⟨gb168, 2, none⟩ = some (.slice Ao22 x169002_2.length co22) := (blk_cell BK168.out 2).trans rfl; have hcz31_3 : w25.cell? ⟨gb168, 3, none⟩ = some (.slice Ao23 x169003_2.length co23) := (blk_cell BK168.out 3).trans rfl; have hfz31_0 := blk_frozen BK168.out 0; have hfz31_1 := blk_frozen BK168.out 1; have hfz31_2 := blk_frozen BK168.out 2; have hfz31_3 := blk_frozen BK168.out 3))
                      go_roundg kj14
                      case measure => have := HK1.out; have := HK2.out; have := HJ14.out; omega
                      case rel => exact ⟨(true), (wrap64 (x10_2 + 1)), (t180), (t181), (t182), (t185), (.slice Ao29 t182.length co29), (.slice Ao30 t185.length co30), (by first | rfl | (simp; done) | (simp [*]; done)), (by first | rfl | (simp; done) | (simp [*]; done)), H', ⟨by have := HK1.out; have := HK2.out; have := HJ14.out; omega⟩, ⟨by (with_reducible repeat (first | apply Kd.R_alloc | apply Kd.R_drewN | apply Kd.R_drew)); exact Kd.R_mono (Kd.R_far (p := ⟨gb168, 3, none⟩) (Kd.R_far (p := ⟨gb168, 2, none⟩) (Kd.R_far (p := ⟨gb168, 1, none⟩) (Kd.R_far (p := ⟨gb168, 0, none⟩) (Kd.R_far (p := ⟨gb190, 3, none⟩) (Kd.R_far (p := ⟨gb190, 2, none⟩) (Kd.R_far (p := ⟨gb190, 1, none⟩) (Kd.R_far (p := ⟨gb190, 0, none⟩) (Kd.R_types (Kd.R_types HO184.out BK190.out (by decide)) BK168.out (by decide)) (fun _ hk => hk.1.2) (.int .i64 t180)) (fun _ hk => hk.1.2) (.int .i64 t181)) (fun _ hk => hk.1.2) (.slice Ao29 t182.length co29)) (fun _ hk => hk.1.2) (.slice Ao30 t185.length co30)) (fun _ hk => hk.2) (.int .i64 t180)) (fun _ hk => hk.2) (.int .i64 t181)) (fun _ hk => hk.2) (.slice Ao29 t182.length co29)) (fun _ hk => hk.2) (.slice Ao30 t185.length co30)) (fun _ hk => hk.1.1.1.1)⟩, ⟨by (with_reducible repeat (first | apply Kd.R_alloc | apply Kd.R_drewN | apply Kd.R_drew)); exact Kd.R_mono (Kd.R_far (p := ⟨gb168, 3, none⟩) (Kd.R_far (p := ⟨gb168, 2, none⟩) (Kd.R_far (p := ⟨gb168, 1, none⟩) (Kd.R_far (p := ⟨gb168, 0, none⟩) (Kd.R_far (p := ⟨gb190, 3, none⟩) (Kd.R_far (p := ⟨gb190, 2, none⟩) (Kd.R_far (p := ⟨gb190, 1, none⟩) (Kd.R_far (p := ⟨gb190, 0, none⟩) (Kd.R_types (Kd.R_types HO187.out BK190.out (by decide)) BK168.out (by decide)) (fun _ hk => hk.1.2) (.int .i64 t180)) (fun _ hk => hk.1.2) (.int .i64 t181)) (fun _ hk => hk.1.2) (.slice Ao29 t182.length co29)) (fun _ hk => hk.1.2) (.slice Ao30 t185.length co30)) (fun _ hk => hk.2) (.int .i64 t180)) (fun _ hk => hk.2) (.int .i64 t181)) (fun _ hk => hk.2) (.slice Ao29 t182.length co29)) (fun _ hk => hk.2) (.slice Ao30 t185.length co30)) (fun _ hk => hk.1.1.1.1)⟩, ⟨by (with_reducible repeat (first | refine blk_drewN ?_ _ | refine blk_drew ?_ | refine blk_alloc ?_ _)); refine blk_far ?_ NB158_168.out _; (with_reducible repeat (first | refine blk_drewN ?_ _ | refine blk_drew ?_ | refine blk_alloc ?_ _)); refine blk_far ?_ NB158_168.out _; (with_reducible repeat (first | refine blk_drewN ?_ _ | refine blk_drew ?_ | refine blk_alloc ?_ _)); refine blk_far ?_ NB158_168.out _; (with_reducible repeat (first | refine blk_drewN ?_ _ | refine blk_drew ?_ | refine blk_alloc ?_ _)); refine blk_far ?_ NB158_168.out _; (with_reducible repeat (first | refine blk_drewN ?_ _ | refine blk_drew ?_ | refine blk_alloc ?_ _)); refine blk_far ?_ NB158_190.out _; (with_reducible repeat (first | refine blk_drewN ?_ _ | refine blk_drew ?_ | refine blk_alloc ?_ _)); refine blk_far ?_ NB158_190.out _; (with_reducible repeat (first | refine blk_drewN ?_ _ | refine blk_drew ?_ | refine blk_alloc ?_ _)); refine blk_far ?_ NB158_190.out _; (with_reducible repeat (first | refine blk_drewN ?_ _ | refine blk_drew ?_ | refine blk_alloc ?_ _)); refine blk_far ?_ NB158_190.out _; (with_reducible repeat (first | refine blk_drewN ?_ _ | refine blk_drew ?_ | refine blk_alloc ?_ _)); exact BK158.out⟩, ⟨by (with_reducible repeat (first | refine blk_drewN ?_ _ | refine blk_drew ?_ | refine blk_alloc ?_ _)); refine blk_put (cs := #[.int .i64 t180, .int .i64 t181, .slice Ao29 t182.length co29, .slice Ao23 x169003_2.length co23]) ?_ 3 _ rfl; (with_reducible repeat (first | refine blk_drewN ?_ _ | refine blk_drew ?_ | refine blk_alloc ?_ _)); refine blk_put (cs := #[.int .i64 t180, .int .i64 t181, .slice Ao22 x169002_2.length co22, .slice Ao23 x169003_2.length co23]) ?_ 2 _ rfl; (with_reducible repeat (first | refine blk_drewN ?_ _ | refine blk_drew ?_ | refine blk_alloc ?_ _)); refine blk_put (cs := #[.int .i64 t180, .int .i64 x169001_2, .slice Ao22 x169002_2.length co22, .slice Ao23 x169003_2.length co23]) ?_ 1 _ rfl; (with_reducible repeat (first | refine blk_drewN ?_ _ | refine blk_drew ?_ | refine blk_alloc ?_ _)); refine blk_put (cs := #[.int .i64 x169000_2, .int .i64 x169001_2, .slice Ao22 x169002_2.length co22, .slice Ao23 x169003_2.length co23]) ?_ 0 _ rfl; (with_reducible repeat (first | refine blk_drewN ?_ _ | refine blk_drew ?_ | refine blk_alloc ?_ _)); refine blk_far ?_ NB168_190.out _; (with_reducible repeat (first | refine blk_drewN ?_ _ | refine blk_drew ?_ | refine blk_alloc ?_ _)); refine blk_far ?_ NB168_190.out _; (with_reducible repeat (first | refine blk_drewN ?_ _ | refine blk_drew ?_ | refine blk_alloc ?_ _)); refine blk_far ?_ NB168_190.out _; (with_reducible repeat (first | refine blk_drewN ?_ _ | refine blk_drew ?_ | refine blk_alloc ?_ _)); refine blk_far ?_ NB168_190.out _; (with_reducible repeat (first | refine blk_drewN ?_ _ | refine blk_drew ?_ | refine blk_alloc ?_ _)); exact BK168.out⟩, ⟨by repeat (first | (with_reducible first | exact HB.out | apply below_alloc | apply pw_below_drewN | apply below_drew1 | refine below_set ?_ GE158.out | refine below_set ?_ GE168.out | refine below_set ?_ GE190.out) | exact HB.out)⟩⟩
                    · replace c19 := Bool.eq_false_iff.mpr c19
                      subst c19
                      have H1 : (sample_Learn.l1 kj14 x8_1 x9_2 (wrap64 (x10_2 + 1)) x169000_2 x169001_2 x169002_2 x169003_2) = some (r1, r2, r3, r4, r5, r6, r7) := by rw [if_neg (show ¬ (false = true) by decide)] at H; exact H
                      clear H
                      have H := H1
                      clear H1
                      have H' := Aside0.mk H
                      clear H
                      have hnb32 := NB168_158.out
                      have hnc32 := NB158_168.out
                      have hcz33_0 : wc.cell? ⟨gb168, 0, none⟩ = some (.int .i64 x169000_2) := (blk_cell BK168.out 0).trans rfl
                      have hcz33_1 : wc.cell? ⟨gb168, 1, none⟩ = some (.int .i64 x169001_2) := (blk_cell BK168.out 1).trans rfl
                      have hcz33_2 : wc.cell? ⟨gb168, 2, none⟩ = some (u169002) := (blk_cell BK168.out 2).trans rfl
                      have hcz33_3 : wc.cell? ⟨gb168, 3, none⟩ = some (u169003) := (blk_cell BK168.out 3).trans rfl
                      have hfz33_0 := blk_frozen BK168.out 0
                      have hfz33_1 := blk_frozen BK168.out 1
                      have hfz33_2 := blk_frozen BK168.out 2
                      have hfz33_3 := blk_frozen BK168.out 3
                      obtain ⟨Ao34, co34, eo34⟩ := Kd.R_slice HO_169002.out
                      subst eo34
                      obtain ⟨Ao35, co35, eo35⟩ := Kd.R_slice HO_169003.out
                      subst eo35
                      go_wp2_with (first | ((with_reducible refine gate_callee (f := 23) rfl ?_); refine goesL_ (some 41) rfl rfl Try.func23 (by kernel_rfl) rfl #[.agg #[.int .i64 x169000_2, .int .i64 x169001_2, .slice Ao34 x169002_2.length co34, .slice Ao35 x169003_2.length co35], .int .i64 x10_2, .int .i64 x8_1] rfl (by (try simp only [List.map_toArray, List.map_cons, List.map_nil]); first | done | rfl | (simp only [List.length_drop, List.length_take]; rfl)) ?_; (with_reducible refine (sample_Merge.calls x169000_2 x169001_2 _ _ x169002_2 _ _ x169003_2 x10_2 x8_1 t180 t181 t182 t185 false t189 _ ?side1 ?side2 ?side3 ?side4 A18.out).mono ?_); (case side1 => repeat (first | exact (Kd.R_reads' HO_169002.out).2.2 | (with_reducible refine Kd.C_alloc ?_ _) | (with_reducible refine Kd.C_drewN ?_ _) | (with_reducible refine Kd.C_drew ?_))); (case side2 => exact (Kd.R_reads' HO_169002.out).2.1); (case side3 => repeat (first | exact (Kd.R_reads' HO_169003.out).2.2 | (with_reducible refine Kd.C_alloc ?_ _) | (with_reducible refine Kd.C_drewN ?_ _) | (with_reducible refine Kd.C_drew ?_))); (case side4 => exact (Kd.R_reads' HO_169003.out).2.1); rintro e w36 ⟨v183, v186, rfl, ho0, ho1, hb⟩; refine ⟨_, rfl, ?_⟩; have n0_ := Aside0.mk (Kd.R_mono (Kd.R_told (Kd.R_told (Kd.R_old (by (with_reducible repeat (first | apply Kd.R_alloc | apply Kd.R_drewN | apply Kd.R_drew)); exact HO_169002.out) hb) (Kd.R_base ho0)) (Kd.R_base ho1)) (fun _ h_ => h_.1)); have n1_ := Aside0.mk (Kd.R_mono (Kd.R_told (Kd.R_told (Kd.R_old (by (with_reducible repeat (first | apply Kd.R_alloc | apply Kd.R_drewN | apply Kd.R_drew)); exact HO_169003.out) hb) (Kd.R_base ho0)) (Kd.R_base ho1)) (fun _ h_ => h_.1)); have n2_ := Aside0.mk (Kd.R_lower (Kd.R_new' (Kd.R_new' ho0 (Kd.R_lt (by (with_reducible repeat (first | apply Kd.R_alloc | apply Kd.R_drewN | apply Kd.R_drew)); exact HO_169002.out))) (Kd.R_lt (by (with_reducible repeat (first | apply Kd.R_alloc | apply Kd.R_drewN | apply Kd.R_drew)); exact HO_169003.out))) (below_size (by repeat (first | (with_reducible first | exact HB.out | apply below_alloc | apply pw_below_drewN | apply below_drew1 | refine below_set ?_ GE158.out | refine below_set ?_ GE168.out) | exact HB.out)))); have n3_ := Aside0.mk (Kd.R_lower (Kd.R_new' (Kd.R_new' ho1 (Kd.R_lt (by (with_reducible repeat (first | apply Kd.R_alloc | apply Kd.R_drewN | apply Kd.R_drew)); exact HO_169002.out))) (Kd.R_lt (by (with_reducible repeat (first | apply Kd.R_alloc | apply Kd.R_drewN | apply Kd.R_drew)); exact HO_169003.out))) (below_size (by repeat (first | (with_reducible first | exact HB.out | apply below_alloc | apply pw_below_drewN | apply below_drew1 | refine below_set ?_ GE158.out | refine below_set ?_ GE168.out) | exact HB.out)))); have n4_ := Aside0.mk (blk_below (g := gb158) (o := .cells #[.int .i64 0, .int .i64 0, .int .i64 0, .int .i64 0, .slice none 0 0, .slice none 0 0] 50 (0, 0)) (by (with_reducible repeat (first | refine blk_drewN ?_ _ | refine blk_drew ?_ | refine blk_alloc ?_ _)); exact BK158.out) hb); have n5_ := Aside0.mk (blk_below (g := gb168) (o := .cells #[.int .i64 x169000_2, .int .i64 x169001_2, .slice Ao34 x169002_2.length co34, .slice Ao35 x169003_2.length co35] 34 (0, 0)) (by (with_reducible repeat (first | refine blk_drewN ?_ _ | refine blk_drew ?_ | refine blk_alloc ?_ _)); exact BK168.out) hb); have n6_ := Aside0.mk (below_step (by repeat (first | (with_reducible first | exact HB.out | apply below_alloc | apply pw_below_drewN | apply below_drew1 | refine below_set ?_ GE158.out | refine below_set ?_ GE168.out) | exact HB.out)) hb); clear HO_169002; clear HO_169003; clear BK158; clear BK168; clear HB; have HO_169002 := n0_; have HO_169003 := n1_; have HO184 := n2_; have HO187 := n3_; have BK158 := n4_; have BK168 := n5_; have HB := n6_; clear n0_ n1_ n2_ n3_ n4_ n5_ n6_; (try clear hb); (try clear hb2); (try clear hk); (try clear hi); (try clear ho0); (try clear ho1)) | ((with_reducible refine gate_dst (N := 11) rfl ?_); refine box_event ?hg (N := 11) ?hd (cs := #[.int .i64 0, .int .i64 0, .slice none 0 0, .slice none 0 0]) (t := 34) ?hr ?_; (case hd => rfl); (case hg => rfl); (case hr => first | (go_simp; done) | (go_simp; rfl)); intro gb190 hg w37 hbox hb; have n0_ := Aside0.mk (Kd.R_below (by (with_reducible repeat (first | apply Kd.R_alloc | apply Kd.R_drewN | apply Kd.R_drew)); exact HO_169002.out) hb); have n1_ := Aside0.mk (Kd.R_below (by (with_reducible repeat (first | apply Kd.R_alloc | apply Kd.R_drewN | apply Kd.R_drew)); exact HO_169003.out) hb); have n2_ := Aside0.mk (Kd.R_below (by (with_reducible repeat (first | apply Kd.R_alloc | apply Kd.R_drewN | apply Kd.R_drew)); exact HO184.out) hb); have n3_ := Aside0.mk (Kd.R_below (by (with_reducible repeat (first | apply Kd.R_alloc | apply Kd.R_drewN | apply Kd.R_drew)); exact HO187.out) hb); have n4_ := Aside0.mk (blk_below (g := gb158) (o := .cells #[.int .i64 0, .int .i64 0, .int .i64 0, .int .i64 0, .slice none 0 0, .slice none 0 0] 50 (0, 0)) (by (with_reducible repeat (first | refine blk_drewN ?_ _ | refine blk_drew ?_ | refine blk_alloc ?_ _)); exact BK158.out) hb); have n5_ := Aside0.mk (blk_below (g := gb168) (o := .cells #[.int .i64 x169000_2, .int .i64 x169001_2, .slice Ao34 x169002_2.length co34, .slice Ao35 x169003_2.length co35] 34 (0, 0)) (by (with_reducible repeat (first | refine blk_drewN ?_ _ | refine blk_drew ?_ | refine blk_alloc ?_ _)); exact BK168.out) hb); have n6_ := Aside0.mk (below_step (by repeat (first | (with_reducible first | exact HB.out | apply below_alloc | apply pw_below_drewN | apply below_drew1 | refine below_set ?_ GE158.out | refine below_set ?_ GE168.out) | exact HB.out)) hb); have n7_ := Aside0.mk (hbox); have n8_ := Aside0.mk ((by rw [hg]; exact (below_size (by repeat (first | (with_reducible first | exact HB.out | apply below_alloc | apply pw_below_drewN | apply below_drew1 | refine below_set ?_ GE158.out | refine below_set ?_ GE168.out) | exact HB.out))) : w.heap.size ≤ gb190)); have n9_ := Aside0.mk ((by rw [hg]; exact (below_size (by repeat (first | (with_reducible first | exact HB.out | apply below_alloc | apply pw_below_drewN | apply below_drew1 | refine below_set ?_ GE158.out | refine below_set ?_ GE168.out) | exact HB.out))) : w.heap.size ≤ gb190)); have n10_ := Aside0.mk ((by rw [hg]; exact Nat.ne_of_lt (blk_lt (g := gb158) (o := .cells #[.int .i64 0, .int .i64 0, .int .i64 0, .int .i64 0, .slice none 0 0, .slice none 0 0] 50 (0, 0)) (by (with_reducible repeat (first | refine blk_drewN ?_ _ | refine blk_drew ?_ | refine blk_alloc ?_ _)); exact BK158.out)) : gb158 ≠ gb190)); have n11_ := Aside0.mk ((by rw [hg]; exact Nat.ne_of_gt (blk_lt (g := gb158) (o := .cells #[.int .i64 0, .int .i64 0, .int .i64 0, .int .i64 0, .slice none 0 0, .slice none 0 0] 50 (0, 0)) (by (with_reducible repeat (first | refine blk_drewN ?_ _ | refine blk_drew ?_ | refine blk_alloc ?_ _)); exact BK158.out)) : gb190 ≠ gb158)); have n12_ := Aside0.mk ((by rw [hg]; exact Nat.ne_of_lt (blk_lt (g := gb168) (o := .cells #[.int .i64 x169000_2, .int .i64 x169001_2, .slice Ao34 x169002_2.length co34, .slice Ao35 x169003_2.length co35] 34 (0, 0)) (by (with_reducible repeat (first | refine blk_drewN ?_ _ | refine blk_drew ?_ | refine blk_alloc ?_ _)); exact BK168.out)) : gb168 ≠ gb190)); have n13_ := Aside0.mk ((by rw [hg]; exact Nat.ne_of_gt (blk_lt (g := gb168) (o := .cells #[.int .i64 x169000_2, .int .i64 x169001_2, .slice Ao34 x169002_2.length co34, .slice Ao35 x169003_2.length co35] 34 (0, 0)) (by (with_reducible repeat (first | refine blk_drewN ?_ _ | refine blk_drew ?_ | refine blk_alloc ?_ _)); exact BK168.out)) : gb190 ≠ gb168)); clear HO_169002; clear HO_169003; clear HO184; clear HO187; clear BK158; clear BK168; clear HB; have HO_169002 := n0_; have HO_169003 := n1_; have HO184 := n2_; have HO187 := n3_; have BK158 := n4_; have BK168 := n5_; have HB := n6_; have BK190 := n7_; have GW190 := n8_; have GE190 := n9_; have NB158_190 := n10_; have NB190_158 := n11_; have NB168_190 := n12_; have NB190_168 := n13_; clear n0_ n1_ n2_ n3_ n4_ n5_ n6_ n7_ n8_ n9_ n10_ n11_ n12_ n13_; clear hb hbox hg; have hnb38 := NB190_158.out; have hnc38 := NB158_190.out; have hnb39 := NB190_168.out; have hnc39 := NB168_190.out; have hcz40_0 : w37.cell? ⟨gb190, 0, none⟩ = some (.int .i64 0) := (blk_cell BK190.out 0).trans rfl; have hcz40_1 : w37.cell? ⟨gb190, 1, none⟩ = some (.int .i64 0) := (blk_cell BK190.out 1).trans rfl; have hcz40_2 : w37.cell? ⟨gb190, 2, none⟩ = some (.slice none 0 0) := (blk_cell BK190.out 2).trans rfl; have hcz40_3 : w37.cell? ⟨gb190, 3, none⟩ = some (.slice none 0 0) := (blk_cell BK190.out 3).trans rfl; have hfz40_0 := blk_frozen BK190.out 0; have hfz40_1 := blk_frozen BK190.out 1; have hfz40_2 := blk_frozen BK190.out 2; have hfz40_3 := blk_frozen BK190.out 3; obtain ⟨Ao41, co41, eo41⟩ := Kd.R_slice HO184.out; subst eo41; obtain ⟨Ao42, co42, eo42⟩ := Kd.R_slice HO187.out; subst eo42))
                      go_roundg kj14
                      case measure => have := HK1.out; have := HK2.out; have := HJ14.out; omega
                      case rel => exact ⟨(x9_2), (wrap64 (x10_2 + 1)), (x169000_2), (x169001_2), (x169002_2), (x169003_2), (.slice Ao34 x169002_2.length co34), (.slice Ao35 x169003_2.length co35), (by first | rfl | (simp; done) | (simp [*]; done)), (by first | rfl | (simp; done) | (simp [*]; done)), H', ⟨by have := HK1.out; have := HK2.out; have := HJ14.out; omega⟩, ⟨by (with_reducible repeat (first | apply Kd.R_alloc | apply Kd.R_drewN | apply Kd.R_drew)); exact Kd.R_mono (Kd.R_far (p := ⟨gb190, 3, none⟩) (Kd.R_far (p := ⟨gb190, 2, none⟩) (Kd.R_far (p := ⟨gb190, 1, none⟩) (Kd.R_far (p := ⟨gb190, 0, none⟩) (Kd.R_types HO_169002.out BK190.out (by decide)) (fun _ hk => hk.2) (.int .i64 t180)) (fun _ hk => hk.2) (.int .i64 t181)) (fun _ hk => hk.2) (.slice Ao41 t182.length co41)) (fun _ hk => hk.2) (.slice Ao42 t185.length co42)) (fun _ hk => hk.1.1.1)⟩, ⟨by (with_reducible repeat (first | apply Kd.R_alloc | apply Kd.R_drewN | apply Kd.R_drew)); exact Kd.R_mono (Kd.R_far (p := ⟨gb190, 3, none⟩) (Kd.R_far (p := ⟨gb190, 2, none⟩) (Kd.R_far (p := ⟨gb190, 1, none⟩) (Kd.R_far (p := ⟨gb190, 0, none⟩) (Kd.R_types HO_169003.out BK190.out (by decide)) (fun _ hk => hk.2) (.int .i64 t180)) (fun _ hk => hk.2) (.int .i64 t181)) (fun _ hk => hk.2) (.slice Ao41 t182.length co41)) (fun _ hk => hk.2) (.slice Ao42 t185.length co42)) (fun _ hk => hk.1.1.1)⟩, ⟨by (with_reducible repeat (first | refine blk_drewN ?_ _ | refine blk_drew ?_ | refine blk_alloc ?_ _)); refine blk_far ?_ NB158_190.out _; (with_reducible repeat (first | refine blk_drewN ?_ _ | refine blk_drew ?_ | refine blk_alloc ?_ _)); refine blk_far ?_ NB158_190.out _; (with_reducible repeat (first | refine blk_drewN ?_ _ | refine blk_drew ?_ | refine blk_alloc ?_ _)); refine blk_far ?_ NB158_190.out _; (with_reducible repeat (first | refine blk_drewN ?_ _ | refine blk_drew ?_ | refine blk_alloc ?_ _)); refine blk_far ?_ NB158_190.out _; (with_reducible repeat (first | refine blk_drewN ?_ _ | refine blk_drew ?_ | refine blk_alloc ?_ _)); exact BK158.out⟩, ⟨by (with_reducible repeat (first | refine blk_drewN ?_ _ | refine blk_drew ?_ | refine blk_alloc ?_ _)); refine blk_far ?_ NB168_190.out _; (with_reducible repeat (first | refine blk_drewN ?_ _ | refine blk_drew ?_ | refine blk_alloc ?_ _)); refine blk_far ?_ NB168_190.out _; (with_reducible repeat (first | refine blk_drewN ?_ _ | refine blk_drew ?_ | refine blk_alloc ?_ _)); refine blk_far ?_ NB168_190.out _; (with_reducible repeat (first | refine blk_drewN ?_ _ | refine blk_drew ?_ | refine blk_alloc ?_ _)); refine blk_far ?_ NB168_190.out _; (with_reducible repeat (first | refine blk_drewN ?_ _ | refine blk_drew ?_ | refine blk_alloc ?_ _)); exact BK168.out⟩, ⟨by repeat (first | (with_reducible first | exact HB.out | apply below_alloc | apply pw_below_drewN | apply below_drew1 | refine below_set ?_ GE158.out | refine below_set ?_ GE168.out | refine below_set ?_ GE190.out) | exact HB.out)⟩⟩
                  · replace c17 := Bool.eq_false_iff.mpr c17
                    subst c17
                    have H1 : (if x9_2 = true then (sample_Learn.l0 kj14 x8_1 x169000_2 x169001_2 x169002_2 x169003_2) else (sample_Learn.l0 kj14 (wrap64 (x8_1 + 1)) x169000_2 x169001_2 x169002_2 x169003_2)) = some (r1, r2, r3, r4, r5, r6, r7) := by rw [if_neg (show ¬ (false = true) by decide)] at H; exact H
                    clear H
                    have H := H1
                    clear H1
                    by_cases c43 : x9_2 = true
                    · subst c43
                      have H1 : (sample_Learn.l0 kj14 x8_1 x169000_2 x169001_2 x169002_2 x169003_2) = some (r1, r2, r3, r4, r5, r6, r7) := by rw [if_pos rfl] at H; exact H
                      clear H
                      have H := H1
                      clear H1
                      have H' := Aside0.mk H
                      clear H
                      go_wp2
                      go_roundg kj14
                      case measure => have := HK1.out; have := HK2.out; have := HJ14.out; omega
                      case rel => exact ⟨(x8_1), (x169000_2), (x169001_2), (x169002_2), (x169003_2), (u169002), (u169003), (by first | rfl | (simp; done) | (simp [*]; done)), H', ⟨by have := HK1.out; have := HK2.out; have := HJ14.out; omega⟩, ⟨by (with_reducible repeat (first | apply Kd.R_alloc | apply Kd.R_drewN | apply Kd.R_drew)); exact HO_169002.out⟩, ⟨by (with_reducible repeat (first | apply Kd.R_alloc | apply Kd.R_drewN | apply Kd.R_drew)); exact HO_169003.out⟩, ⟨by (with_reducible repeat (first | refine blk_drewN ?_ _ | refine blk_drew ?_ | refine blk_alloc ?_ _)); exact BK158.out⟩, ⟨by (with_reducible repeat (first | refine blk_drewN ?_ _ | refine blk_drew ?_ | refine blk_alloc ?_ _)); exact BK168.out⟩, ⟨by repeat (first | (with_reducible first | exact HB.out | apply below_alloc | apply pw_below_drewN | apply below_drew1 | refine below_set ?_ GE158.out | refine below_set ?_ GE168.out) | exact HB.out)⟩⟩
                    · replace c43 := Bool.eq_false_iff.mpr c43
                      subst c43
                      have H1 : (sample_Learn.l0 kj14 (wrap64 (x8_1 + 1)) x169000_2 x169001_2 x169002_2 x169003_2) = some (r1, r2, r3, r4, r5, r6, r7) := by rw [if_neg (show ¬ (false = true) by decide)] at H; exact H
                      clear H
                      have H := H1
                      clear H1
                      have H' := Aside0.mk H
                      clear H
                      go_wp2
                      go_roundg kj14
                      case measure => have := HK1.out; have := HK2.out; have := HJ14.out; omega
                      case rel => exact ⟨(wrap64 (x8_1 + 1)), (x169000_2), (x169001_2), (x169002_2), (x169003_2), (u169002), (u169003), (by first | rfl | (simp; done) | (simp [*]; done)), H', ⟨by have := HK1.out; have := HK2.out; have := HJ14.out; omega⟩, ⟨by (with_reducible repeat (first | apply Kd.R_alloc | apply Kd.R_drewN | apply Kd.R_drew)); exact HO_169002.out⟩, ⟨by (with_reducible repeat (first | apply Kd.R_alloc | apply Kd.R_drewN | apply Kd.R_drew)); exact HO_169003.out⟩, ⟨by (with_reducible repeat (first | refine blk_drewN ?_ _ | refine blk_drew ?_ | refine blk_alloc ?_ _)); exact BK158.out⟩, ⟨by (with_reducible repeat (first | refine blk_drewN ?_ _ | refine blk_drew ?_ | refine blk_alloc ?_ _)); exact BK168.out⟩, ⟨by repeat (first | (with_reducible first | exact HB.out | apply below_alloc | apply pw_below_drewN | apply below_drew1 | refine below_set ?_ GE158.out | refine below_set ?_ GE168.out) | exact HB.out)⟩⟩
        · rw [if_neg c12] at H
          have c12b0 : decide (x8_1 < x169001_1) = false := decide_eq_false c12
          clear c12
          replace H := Option.bind_eq_some_iff.mp H
          obtain ⟨⟨t169, t170, t171, t172, t173, t176, t179⟩, A440, H⟩ := H
          replace H : (some (t169, t170, t171, t172, t173, t176, t179)) = some (r1, r2, r3, r4, r5, r6, r7) := H
          have A44 := Aside0.mk A440
          clear A440
          simp only [Option.some.injEq, Prod.mk.injEq] at H
          obtain ⟨rfl, rfl, rfl, rfl, rfl, rfl, rfl⟩ := H
          have hnb45 := NB168_158.out
          have hnc45 := NB158_168.out
          have hcz46_0 : wr.cell? ⟨gb168, 0, none⟩ = some (.int .i64 x169000_1) := (blk_cell BK168.out 0).trans rfl
          have hcz46_1 : wr.cell? ⟨gb168, 1, none⟩ = some (.int .i64 x169001_1) := (blk_cell BK168.out 1).trans rfl
          have hcz46_2 : wr.cell? ⟨gb168, 2, none⟩ = some (u169002) := (blk_cell BK168.out 2).trans rfl
          have hcz46_3 : wr.cell? ⟨gb168, 3, none⟩ = some (u169003) := (blk_cell BK168.out 3).trans rfl
          have hfz46_0 := blk_frozen BK168.out 0
          have hfz46_1 := blk_frozen BK168.out 1
          have hfz46_2 := blk_frozen BK168.out 2
          have hfz46_3 := blk_frozen BK168.out 3
          obtain ⟨Ao47, co47, eo47⟩ := Kd.R_slice HO_169002.out
          subst eo47
          obtain ⟨Ao48, co48, eo48⟩ := Kd.R_slice HO_169003.out
          subst eo48
          go_wp2_with (first | ((with_reducible refine gate_callee (f := 50) rfl ?_); refine goesL_ (some 52) rfl rfl Try.func50 (by kernel_rfl) rfl #[.agg #[.int .i64 x169000_1, .int .i64 x169001_1, .slice Ao47 x169002_1.length co47, .slice Ao48 x169003_1.length co48]] rfl (by (try simp only [List.map_toArray, List.map_cons, List.map_nil]); first | done | rfl | (simp only [List.length_drop, List.length_take]; rfl)) ?_; (with_reducible refine (sample_whole.calls x169000_1 x169001_1 _ _ x169002_1 _ _ x169003_1 t169 t170 t171 t172 t173 t176 t179 _ ?side1 ?side2 ?side3 ?side4 A44.out).mono ?_); (case side1 => repeat (first | exact (Kd.R_reads' HO_169002.out).2.2 | (with_reducible refine Kd.C_alloc ?_ _) | (with_reducible refine Kd.C_drewN ?_ _) | (with_reducible refine Kd.C_drew ?_))); (case side2 => exact (Kd.R_reads' HO_169002.out).2.1); (case side3 => repeat (first | exact (Kd.R_reads' HO_169003.out).2.2 | (with_reducible refine Kd.C_alloc ?_ _) | (with_reducible refine Kd.C_drewN ?_ _) | (with_reducible refine Kd.C_drew ?_))); (case side4 => exact (Kd.R_reads' HO_169003.out).2.1); rintro e w49 ⟨v174, v177, rfl, ho0, ho1, hb⟩; refine ⟨_, rfl, ?_⟩; have n0_ := Aside0.mk (Kd.R_mono (Kd.R_told (Kd.R_told (Kd.R_old (by (with_reducible repeat (first | apply Kd.R_alloc | apply Kd.R_drewN | apply Kd.R_drew)); exact HO_169002.out) hb) (Kd.R_base ho0)) (Kd.R_base ho1)) (fun _ h_ => h_.1)); have n1_ := Aside0.mk (Kd.R_mono (Kd.R_told (Kd.R_told (Kd.R_old (by (with_reducible repeat (first | apply Kd.R_alloc | apply Kd.R_drewN | apply Kd.R_drew)); exact HO_169003.out) hb) (Kd.R_base ho0)) (Kd.R_base ho1)) (fun _ h_ => h_.1)); have n2_ := Aside0.mk (Kd.R_lower (Kd.R_new' (Kd.R_new' ho0 (Kd.R_lt (by (with_reducible repeat (first | apply Kd.R_alloc | apply Kd.R_drewN | apply Kd.R_drew)); exact HO_169002.out))) (Kd.R_lt (by (with_reducible repeat (first | apply Kd.R_alloc | apply Kd.R_drewN | apply Kd.R_drew)); exact HO_169003.out))) (below_size (by repeat (first | (with_reducible first | exact HB.out | apply below_alloc | apply pw_below_drewN | apply below_drew1 | refine below_set ?_ GE158.out | refine below_set ?_ GE168.out) | exact HB.out)))); have n3_ := Aside0.mk (Kd.R_lower (Kd.R_new' (Kd.R_new' ho1 (Kd.R_lt (by (with_reducible repeat (first | apply Kd.R_alloc | apply Kd.R_drewN | apply Kd.R_drew)); exact HO_169002.out))) (Kd.R_lt (by (with_reducible repeat (first | apply Kd.R_alloc | apply Kd.R_drewN | apply Kd.R_drew)); exact HO_169003.out))) (below_size (by repeat (first | (with_reducible first | exact HB.out | apply below_alloc | apply pw_below_drewN | apply below_drew1 | refine below_set ?_ GE158.out | refine below_set ?_ GE168.out) | exact HB.out)))); have n4_ := Aside0.mk (blk_below (g := gb158) (o := .cells #[.int .i64 0, .int .i64 0, .int .i64 0, .int .i64 0, .slice none 0 0, .slice none 0 0] 50 (0, 0)) (by (with_reducible repeat (first | refine blk_drewN ?_ _ | refine blk_drew ?_ | refine blk_alloc ?_ _)); exact BK158.out) hb); have n5_ := Aside0.mk (blk_below (g := gb168) (o := .cells #[.int .i64 x169000_1, .int .i64 x169001_1, .slice Ao47 x169002_1.length co47, .slice Ao48 x169003_1.length co48] 34 (0, 0)) (by (with_reducible repeat (first | refine blk_drewN ?_ _ | refine blk_drew ?_ | refine blk_alloc ?_ _)); exact BK168.out) hb); have n6_ := Aside0.mk (below_step (by repeat (first | (with_reducible first | exact HB.out | apply below_alloc | apply pw_below_drewN | apply below_drew1 | refine below_set ?_ GE158.out | refine below_set ?_ GE168.out) | exact HB.out)) hb); clear HO_169002; clear HO_169003; clear BK158; clear BK168; clear HB; have HO_169002 := n0_; have HO_169003 := n1_; have HO175 := n2_; have HO178 := n3_; have BK158 := n4_; have BK168 := n5_; have HB := n6_; clear n0_ n1_ n2_ n3_ n4_ n5_ n6_; (try clear hb); (try clear hb2); (try clear hk); (try clear hi); (try clear ho0); (try clear ho1); have hcz50_0 : w49.cell? ⟨gb158, 0, none⟩ = some (.int .i64 0) := (blk_cell BK158.out 0).trans rfl; have hcz50_1 : w49.cell? ⟨gb158, 1, none⟩ = some (.int .i64 0) := (blk_cell BK158.out 1).trans rfl; have hcz50_2 : w49.cell? ⟨gb158, 2, none⟩ = some (.int .i64 0) := (blk_cell BK158.out 2).trans rfl; have hcz50_3 : w49.cell? ⟨gb158, 3, none⟩ = some (.int .i64 0) := (blk_cell BK158.out 3).trans rfl; have hcz50_4 : w49.cell? ⟨gb158, 4, none⟩ = some (.slice none 0 0) := (blk_cell BK158.out 4).trans rfl; have hcz50_5 : w49.cell? ⟨gb158, 5, none⟩ = some (.slice none 0 0) := (blk_cell BK158.out 5).trans rfl; have hfz50_0 := blk_frozen BK158.out 0; have hfz50_1 := blk_frozen BK158.out 1; have hfz50_2 := blk_frozen BK158.out 2; have hfz50_3 := blk_frozen BK158.out 3; have hfz50_4 := blk_frozen BK158.out 4; have hfz50_5 := blk_frozen BK158.out 5; obtain ⟨Ao51, co51, eo51⟩ := Kd.R_slice HO175.out; subst eo51; obtain ⟨Ao52, co52, eo52⟩ := Kd.R_slice HO178.out; subst eo52))
          refine bodyPost_ret (results_ct rfl _ _ gb158 50 #[.int .i64 t169, .int .i64 t170, .int .i64 t171, .int .i64 t172, .slice Ao51 t173.length co51, .slice Ao52 t176.length co52] (0, 0) _ rfl (by (with_reducible repeat (first | refine blk_drewN ?_ _ | refine blk_drew ?_ | refine blk_alloc ?_ _)); refine blk_put (cs := #[.int .i64 t169, .int .i64 t170, .int .i64 t171, .int .i64 t172, .slice Ao51 t173.length co51, .slice none 0 0]) ?_ 5 _ rfl; (with_reducible repeat (first | refine blk_drewN ?_ _ | refine blk_drew ?_ | refine blk_alloc ?_ _)); refine blk_put (cs := #[.int .i64 t169, .int .i64 t170, .int .i64 t171, .int .i64 t172, .slice none 0 0, .slice none 0 0]) ?_ 4 _ rfl; (with_reducible repeat (first | refine blk_drewN ?_ _ | refine blk_drew ?_ | refine blk_alloc ?_ _)); refine blk_put (cs := #[.int .i64 t169, .int .i64 t170, .int .i64 t171, .int .i64 0, .slice none 0 0, .slice none 0 0]) ?_ 3 _ rfl; (with_reducible repeat (first | refine blk_drewN ?_ _ | refine blk_drew ?_ | refine blk_alloc ?_ _)); refine blk_put (cs := #[.int .i64 t169, .int .i64 t170, .int .i64 0, .int .i64 0, .slice none 0 0, .slice none 0 0]) ?_ 2 _ rfl; (with_reducible repeat (first | refine blk_drewN ?_ _ | refine blk_drew ?_ | refine blk_alloc ?_ _)); refine blk_put (cs := #[.int .i64 t169, .int .i64 0, .int .i64 0, .int .i64 0, .slice none 0 0, .slice none 0 0]) ?_ 1 _ rfl; (with_reducible repeat (first | refine blk_drewN ?_ _ | refine blk_drew ?_ | refine blk_alloc ?_ _)); refine blk_put (cs := #[.int .i64 0, .int .i64 0, .int .i64 0, .int .i64 0, .slice none 0 0, .slice none 0 0]) ?_ 0 _ rfl; (with_reducible repeat (first | refine blk_drewN ?_ _ | refine blk_drew ?_ | refine blk_alloc ?_ _)); exact BK158.out) Try.underlying50 rfl (by kernel_rfl)) rfl ?_
          exact ⟨_, _, by first | rfl | (simp [errW_none, errW_some] <;> rfl) | (simp [*, errW_none, errW_some] <;> rfl), by (with_reducible repeat (first | apply Kd.R_alloc | apply Kd.R_drewN | apply Kd.R_drew)); exact Kd.R_mono (Kd.R_far (p := ⟨gb158, 5, none⟩) (Kd.R_far (p := ⟨gb158, 4, none⟩) (Kd.R_far (p := ⟨gb158, 3, none⟩) (Kd.R_far (p := ⟨gb158, 2, none⟩) (Kd.R_far (p := ⟨gb158, 1, none⟩) (Kd.R_far (p := ⟨gb158, 0, none⟩) (Kd.R_types HO175.out BK158.out (by decide)) (fun _ hk => hk.2) (.int .i64 t169)) (fun _ hk => hk.2) (.int .i64 t170)) (fun _ hk => hk.2) (.int .i64 t171)) (fun _ hk => hk.2) (.int .i64 t172)) (fun _ hk => hk.2) (.slice Ao51 t173.length co51)) (fun _ hk => hk.2) (.slice Ao52 t176.length co52)) (fun _ hk => hk.1.1.1), by (with_reducible repeat (first | apply Kd.R_alloc | apply Kd.R_drewN | apply Kd.R_drew)); exact Kd.R_mono (Kd.R_far (p := ⟨gb158, 5, none⟩) (Kd.R_far (p := ⟨gb158, 4, none⟩) (Kd.R_far (p := ⟨gb158, 3, none⟩) (Kd.R_far (p := ⟨gb158, 2, none⟩) (Kd.R_far (p := ⟨gb158, 1, none⟩) (Kd.R_far (p := ⟨gb158, 0, none⟩) (Kd.R_types HO178.out BK158.out (by decide)) (fun _ hk => hk.2) (.int .i64 t169)) (fun _ hk => hk.2) (.int .i64 t170)) (fun _ hk => hk.2) (.int .i64 t171)) (fun _ hk => hk.2) (.int .i64 t172)) (fun _ hk => hk.2) (.slice Ao51 t173.length co51)) (fun _ hk => hk.2) (.slice Ao52 t176.length co52)) (fun _ hk => hk.1.1.1), by repeat (first | (with_reducible first | exact HB.out | apply below_alloc | apply pw_below_drewN | apply below_drew1 | refine below_set ?_ GE158.out | refine below_set ?_ GE168.out) | exact HB.out)⟩
  · rw [if_neg c4] at H
    have c4b0 : (t167 == 0) = false := beq_eq_false_iff_ne.mpr c4
    have c4b1 : (t167 != 0) = true := bne_iff_ne.mpr c4
    simp only [Option.some.injEq, Prod.mk.injEq] at H
    obtain ⟨rfl, rfl, rfl, rfl, rfl, rfl, rfl⟩ := H
    go_enter Try.func25, Try.ntmps25
    go_wp2_with (first | ((with_reducible refine gate_dst (N := 4) rfl ?_); refine box_event ?hg (N := 4) ?hd (cs := #[.int .i64 0, .int .i64 0, .int .i64 0, .int .i64 0, .slice none 0 0, .slice none 0 0]) (t := 50) ?hr ?_; (case hd => rfl); (case hg => rfl); (case hr => first | (go_simp; done) | (go_simp; rfl)); intro gb158 hg w53 hbox hb; have n0_ := Aside0.mk (below_step (by repeat (first | (with_reducible first | exact HB.out | apply below_alloc | apply pw_below_drewN | apply below_drew1) | exact HB.out)) hb); have n1_ := Aside0.mk (hbox); have n2_ := Aside0.mk ((by rw [hg]; exact (below_size (by repeat (first | (with_reducible first | exact HB.out | apply below_alloc | apply pw_below_drewN | apply below_drew1) | exact HB.out))) : w.heap.size ≤ gb158)); have n3_ := Aside0.mk ((by rw [hg]; exact (below_size (by repeat (first | (with_reducible first | exact HB.out | apply below_alloc | apply pw_below_drewN | apply below_drew1) | exact HB.out))) : w.heap.size ≤ gb158)); clear HB; have HB := n0_; have BK158 := n1_; have GW158 := n2_; have GE158 := n3_; clear n0_ n1_ n2_ n3_; clear hb hbox hg) | ((with_reducible refine gate_callee (f := 17) rfl ?_); refine goesL_ (some 17) rfl rfl Try.func17 (by kernel_rfl) rfl #[.int .i64 a0, .slice A1 l1.length c1] rfl (by (try simp only [List.map_toArray, List.map_cons, List.map_nil]); first | done | rfl | (simp only [List.length_drop, List.length_take]; rfl)) ?_; (with_reducible refine (sample_Prefixes.calls a0 _ _ l1 t159 t160 t161 t164 t167 _ ?side1 ?side2 A3.out).mono ?_); (case side1 => repeat (first | exact (Kd.C_below HR1.out HB.out) | (with_reducible refine Kd.C_alloc ?_ _) | (with_reducible refine Kd.C_drewN ?_ _) | (with_reducible refine Kd.C_drew ?_))); (case side2 => exact HC1.out); rintro e w54 ⟨v162, v165, rfl, ho0, ho1, hb⟩; refine ⟨_, rfl, ?_⟩; have n0_ := Aside0.mk (Kd.R_lower ho0 (below_size (by repeat (first | (with_reducible first | exact HB.out | apply below_alloc | apply pw_below_drewN | apply below_drew1 | refine below_set ?_ GE158.out) | exact HB.out)))); have n1_ := Aside0.mk (Kd.R_lower ho1 (below_size (by repeat (first | (with_reducible first | exact HB.out | apply below_alloc | apply pw_below_drewN | apply below_drew1 | refine below_set ?_ GE158.out) | exact HB.out)))); have n2_ := Aside0.mk (blk_below (g := gb158) (o := .cells #[.int .i64 0, .int .i64 0, .int .i64 0, .int .i64 0, .slice none 0 0, .slice none 0 0] 50 (0, 0)) (by (with_reducible repeat (first | refine blk_drewN ?_ _ | refine blk_drew ?_ | refine blk_alloc ?_ _)); exact BK158.out) hb); have n3_ := Aside0.mk (below_step (by repeat (first | (with_reducible first | exact HB.out | apply below_alloc | apply pw_below_drewN | apply below_drew1 | refine below_set ?_ GE158.out) | exact HB.out)) hb); clear BK158; clear HB; have HO163 := n0_; have HO166 := n1_; have BK158 := n2_; have HB := n3_; clear n0_ n1_ n2_ n3_; (try clear hb); (try clear hb2); (try clear hk); (try clear hi); (try clear ho0); (try clear ho1)) | ((with_reducible refine gate_dst (N := 6) rfl ?_); refine box_event ?hg (N := 6) ?hd (cs := #[.int .i64 0, .int .i64 0, .slice none 0 0, .slice none 0 0]) (t := 34) ?hr ?_; (case hd => rfl); (case hg => rfl); (case hr => first | (go_simp; done) | (go_simp; rfl)); intro gb168 hg w55 hbox hb; have n0_ := Aside0.mk (Kd.R_below (by (with_reducible repeat (first | apply Kd.R_alloc | apply Kd.R_drewN | apply Kd.R_drew)); exact HO163.out) hb); have n1_ := Aside0.mk (Kd.R_below (by (with_reducible repeat (first | apply Kd.R_alloc | apply Kd.R_drewN | apply Kd.R_drew)); exact HO166.out) hb); have n2_ := Aside0.mk (blk_below (g := gb158) (o := .cells #[.int .i64 0, .int .i64 0, .int .i64 0, .int .i64 0, .slice none 0 0, .slice none 0 0] 50 (0, 0)) (by (with_reducible repeat (first | refine blk_drewN ?_ _ | refine blk_drew ?_ | refine blk_alloc ?_ _)); exact BK158.out) hb); have n3_ := Aside0.mk (below_step (by repeat (first | (with_reducible first | exact HB.out | apply below_alloc | apply pw_below_drewN | apply below_drew1 | refine below_set ?_ GE158.out) | exact HB.out)) hb); have n4_ := Aside0.mk (hbox); have n5_ := Aside0.mk ((by rw [hg]; exact (below_size (by repeat (first | (with_reducible first | exact HB.out | apply below_alloc | apply pw_below_drewN | apply below_drew1 | refine below_set ?_ GE158.out) | exact HB.out))) : w.heap.size ≤ gb168)); have n6_ := Aside0.mk ((by rw [hg]; exact (below_size (by repeat (first | (with_reducible first | exact HB.out | apply below_alloc | apply pw_below_drewN | apply below_drew1 | refine below_set ?_ GE158.out) | exact HB.out))) : w.heap.size ≤ gb168)); have n7_ := Aside0.mk ((by rw [hg]; exact Nat.ne_of_lt (blk_lt (g := gb158) (o := .cells #[.int .i64 0, .int .i64 0, .int .i64 0, .int .i64 0, .slice none 0 0, .slice none 0 0] 50 (0, 0)) (by (with_reducible repeat (first | refine blk_drewN ?_ _ | refine blk_drew ?_ | refine blk_alloc ?_ _)); exact BK158.out)) : gb158 ≠ gb168)); have n8_ := Aside0.mk ((by rw [hg]; exact Nat.ne_of_gt (blk_lt (g := gb158) (o := .cells #[.int .i64 0, .int .i64 0, .int .i64 0, .int .i64 0, .slice none 0 0, .slice none 0 0] 50 (0, 0)) (by (with_reducible repeat (first | refine blk_drewN ?_ _ | refine blk_drew ?_ | refine blk_alloc ?_ _)); exact BK158.out)) : gb168 ≠ gb158)); clear HO163; clear HO166; clear BK158; clear HB; have HO163 := n0_; have HO166 := n1_; have BK158 := n2_; have HB := n3_; have BK168 := n4_; have GW168 := n5_; have GE168 := n6_; have NB158_168 := n7_; have NB168_158 := n8_; clear n0_ n1_ n2_ n3_ n4_ n5_ n6_ n7_ n8_; clear hb hbox hg; have hnb56 := NB168_158.out; have hnc56 := NB158_168.out; have hcz57_0 : w55.cell? ⟨gb168, 0, none⟩ = some (.int .i64 0) := (blk_cell BK168.out 0).trans rfl; have hcz57_1 : w55.cell? ⟨gb168, 1, none⟩ = some (.int .i64 0) := (blk_cell BK168.out 1).trans rfl; have hcz57_2 : w55.cell? ⟨gb168, 2, none⟩ = some (.slice none 0 0) := (blk_cell BK168.out 2).trans rfl; have hcz57_3 : w55.cell? ⟨gb168, 3, none⟩ = some (.slice none 0 0) := (blk_cell BK168.out 3).trans rfl; have hfz57_0 := blk_frozen BK168.out 0; have hfz57_1 := blk_frozen BK168.out 1; have hfz57_2 := blk_frozen BK168.out 2; have hfz57_3 := blk_frozen BK168.out 3; obtain ⟨Ao58, co58, eo58⟩ := Kd.R_slice HO163.out; subst eo58; obtain ⟨Ao59, co59, eo59⟩ := Kd.R_slice HO166.out; subst eo59; have hcz60_0 : w55.cell? ⟨gb158, 0, none⟩ = some (.int .i64 0) := (blk_cell BK158.out 0).trans rfl; have hcz60_1 : w55.cell? ⟨gb158, 1, none⟩ = some (.int .i64 0) := (blk_cell BK158.out 1).trans rfl; have hcz60_2 : w55.cell? ⟨gb158, 2, none⟩ = some (.int .i64 0) := (blk_cell BK158.out 2).trans rfl; have hcz60_3 : w55.cell? ⟨gb158, 3, none⟩ = some (.int .i64 0) := (blk_cell BK158.out 3).trans rfl; have hcz60_4 : w55.cell? ⟨gb158, 4, none⟩ = some (.slice none 0 0) := (blk_cell BK158.out 4).trans rfl; have hcz60_5 : w55.cell? ⟨gb158, 5, none⟩ = some (.slice none 0 0) := (blk_cell BK158.out 5).trans rfl; have hfz60_0 := blk_frozen BK158.out 0; have hfz60_1 := blk_frozen BK158.out 1; have hfz60_2 := blk_frozen BK158.out 2; have hfz60_3 := blk_frozen BK158.out 3; have hfz60_4 := blk_frozen BK158.out 4; have hfz60_5 := blk_frozen BK158.out 5))
    refine bodyPost_ret (results_ct rfl _ _ gb158 50 #[.int .i64 0, .int .i64 0, .int .i64 0, .int .i64 0, .slice none 0 0, .slice none 0 0] (0, 0) _ rfl (by (with_reducible repeat (first | refine blk_drewN ?_ _ | refine blk_drew ?_ | refine blk_alloc ?_ _)); refine blk_put (cs := #[.int .i64 0, .int .i64 0, .int .i64 0, .int .i64 0, .slice none 0 0, .slice none 0 0]) ?_ 5 _ rfl; (with_reducible repeat (first | refine blk_drewN ?_ _ | refine blk_drew ?_ | refine blk_alloc ?_ _)); refine blk_put (cs := #[.int .i64 0, .int .i64 0, .int .i64 0, .int .i64 0, .slice none 0 0, .slice none 0 0]) ?_ 4 _ rfl; (with_reducible repeat (first | refine blk_drewN ?_ _ | refine blk_drew ?_ | refine blk_alloc ?_ _)); refine blk_put (cs := #[.int .i64 0, .int .i64 0, .int .i64 0, .int .i64 0, .slice none 0 0, .slice none 0 0]) ?_ 3 _ rfl; (with_reducible repeat (first | refine blk_drewN ?_ _ | refine blk_drew ?_ | refine blk_alloc ?_ _)); refine blk_put (cs := #[.int .i64 0, .int .i64 0, .int .i64 0, .int .i64 0, .slice none 0 0, .slice none 0 0]) ?_ 2 _ rfl; (with_reducible repeat (first | refine blk_drewN ?_ _ | refine blk_drew ?_ | refine blk_alloc ?_ _)); refine blk_put (cs := #[.int .i64 0, .int .i64 0, .int .i64 0, .int .i64 0, .slice none 0 0, .slice none 0 0]) ?_ 1 _ rfl; (with_reducible repeat (first | refine blk_drewN ?_ _ | refine blk_drew ?_ | refine blk_alloc ?_ _)); refine blk_put (cs := #[.int .i64 0, .int .i64 0, .int .i64 0, .int .i64 0, .slice none 0 0, .slice none 0 0]) ?_ 0 _ rfl; (with_reducible repeat (first | refine blk_drewN ?_ _ | refine blk_drew ?_ | refine blk_alloc ?_ _)); refine blk_far ?_ NB158_168.out _; (with_reducible repeat (first | refine blk_drewN ?_ _ | refine blk_drew ?_ | refine blk_alloc ?_ _)); refine blk_far ?_ NB158_168.out _; (with_reducible repeat (first | refine blk_drewN ?_ _ | refine blk_drew ?_ | refine blk_alloc ?_ _)); refine blk_far ?_ NB158_168.out _; (with_reducible repeat (first | refine blk_drewN ?_ _ | refine blk_drew ?_ | refine blk_alloc ?_ _)); refine blk_far ?_ NB158_168.out _; (with_reducible repeat (first | refine blk_drewN ?_ _ | refine blk_drew ?_ | refine blk_alloc ?_ _)); exact BK158.out) Try.underlying50 rfl (by kernel_rfl)) rfl ?_
    exact ⟨_, _, by first | rfl | (simp [errW_none, errW_some] <;> rfl) | (simp [*, errW_none, errW_some] <;> rfl), by first | exact Kd.R_nil _ _ _ _ _ | exact Kd.N_nil _ _ _ _ _ | exact Kd.V_nil _ _ _ _ _ | exact Kd.Q_nil _ _ _ _ _ | exact Kd.S_nil _ _ _ _ _, by first | exact Kd.R_nil _ _ _ _ _ | exact Kd.N_nil _ _ _ _ _ | exact Kd.V_nil _ _ _ _ _ | exact Kd.Q_nil _ _ _ _ _ | exact Kd.S_nil _ _ _ _ _, by repeat (first | (with_reducible first | exact HB.out | apply below_alloc | apply pw_below_drewN | apply below_drew1 | refine below_set ?_ GE158.out | refine below_set ?_ GE168.out) | exact HB.out)⟩
end Go.Proofs.Ytocejofjmmoeaaa.X
end

section
namespace Go.Proofs.Ytocejofjmmoeaaa.X
open Go.RowKit Go.Proofs.YtocejofjmmoeaaaW.PrintWords Go.Proofs.YtocejofjmmoeaaaW.PrintLast Go.Proofs.YtocejofjmmoeaaaW.PrintMore
open Go.Proofs.Ytocejofjmmoeaaa Go.Proofs.Ytocejofjmmoeaaa.Sp
def exL : List S57 := [⟨[], 0⟩, ⟨[0], 1⟩, ⟨[0, 0], 0⟩, ⟨[0, 0, 0], 1⟩]
theorem ex_pref : prefF 1 exL = (1, 4, [1, 2, 3, -1], [0, 1, 0, 1], 0) := by decide
theorem ex_right : rightF (1 : Nat) (4 : Nat) [1, 2, 3, -1] [0, 1, 0, 1] = 0 := by decide
theorem ex_rightP : RightP 4 1 [1, 2, 3, -1] [0, 1, 0, 1] := by
  obtain ⟨n, k, h1, h2, h3⟩ := rightF_zero ex_right
  have e1 : n = 4 := by omega
  have e2 : k = 1 := by omega
  subst e1 e2
  exact h3
theorem ex_no : mergeF 1 4 [1, 2, 3, -1] [0, 1, 0, 1] 0 1 = mzero 0 := by
  have h := mergeF_n (n := 4) (k := 1) (s := 0) (t := 1) ex_right (by decide) (by decide)
  exact h.trans (mergeN_no ex_rightP (by decide) (by decide) ⟨0, 1, by decide, by decide, .base, by decide, by decide⟩)
def exW : Nat → Nat := fun a => if a = 2 then 0 else if a = 3 then 1 else a
theorem exW_root : ∀ a, rootW exW a = exW a := fun a => by
  by_cases h2 : a = 2
  · subst h2
    rw [rootW_on (by decide)]
    exact rootW_at (by decide)
  · by_cases h3 : a = 3
    · subst h3
      rw [rootW_on (by decide)]
      exact rootW_at (by decide)
    · have e : exW a = a := by unfold exW; rw [if_neg h2, if_neg h3]
      rw [e]
      exact rootW_at (by rw [e]; exact Nat.lt_irrefl _)
theorem ex_inv : JInv 4 1 (dOf 1 [1, 2, 3, -1]) (oOf [0, 1, 0, 1]) 0 2 exW (fun a _ => if a = 0 then 1 else 2) (fun a => if a = 0 then 0 else 1) [] where
  dn := fun s hs => by
    unfold exW
    split
    · omega
    · split <;> omega
  so := fun a ha => by
    rw [exW_root]
    have h02 : Tog 4 1 (dOf 1 [1, 2, 3, -1]) 0 2 0 2 := .base
    have h13 := Tog.step (x := 0) h02 (by decide) (by decide) (by decide) (by decide) (by decide)
    have e : a = 0 ∨ a = 1 ∨ a = 2 ∨ a = 3 := by omega
    rcases e with rfl | rfl | rfl | rfl
    · exact .refl _
    · exact .refl _
    · exact .symm h02
    · exact .symm h13
  qs := fun p hp => by cases hp
  nx := fun r hr h x hx => by
    rw [exW_root] at h
    have e : r = 0 ∨ r = 1 := by
      have e : r = 0 ∨ r = 1 ∨ r = 2 ∨ r = 3 := by omega
      rcases e with rfl | rfl | rfl | rfl
      · exact .inl rfl
      · exact .inr rfl
      · exact absurd h (by decide)
      · exact absurd h (by decide)
    have ex : x = 0 := by omega
    subst ex
    rcases e with rfl | rfl
    · exact .inr ⟨0, by decide, by rw [exW_root]; decide, by decide, by decide⟩
    · exact .inr ⟨1, by decide, by rw [exW_root]; decide, by decide, by decide⟩
  ou := fun r hr h => by
    rw [exW_root] at h
    have e : r = 0 ∨ r = 1 := by
      have e : r = 0 ∨ r = 1 ∨ r = 2 ∨ r = 3 := by omega
      rcases e with rfl | rfl | rfl | rfl
      · exact .inl rfl
      · exact .inr rfl
      · exact absurd h (by decide)
      · exact absurd h (by decide)
    rcases e with rfl | rfl
    · refine .inr ⟨.inl rfl, ⟨0, by decide, by rw [exW_root]; decide, by decide⟩, fun m hm h2 => ?_⟩
      rw [exW_root] at h2
      revert h2
      have e : m = 0 ∨ m = 1 ∨ m = 2 ∨ m = 3 := by omega
      rcases e with rfl | rfl | rfl | rfl <;> decide
    · refine .inr ⟨.inr rfl, ⟨1, by decide, by rw [exW_root]; decide, by decide⟩, fun m hm h2 => ?_⟩
      rw [exW_root] at h2
      revert h2
      have e : m = 0 ∨ m = 1 ∨ m = 2 ∨ m = 3 := by omega
      rcases e with rfl | rfl | rfl | rfl <;> decide
  cl := fun a b ha hb h x hx h1 h2 => by
    have ex : x = 0 := by omega
    subst ex
    refine .cls ?_
    rw [exW_root, exW_root] at h ⊢
    revert h h1 h2
    have ea : a = 0 ∨ a = 1 ∨ a = 2 ∨ a = 3 := by omega
    have eb : b = 0 ∨ b = 1 ∨ b = 2 ∨ b = 3 := by omega
    rcases ea with rfl | rfl | rfl | rfl <;> rcases eb with rfl | rfl | rfl | rfl <;> decide
  st := .cls (by rw [exW_root, exW_root]; decide)
theorem ex_rts : rts 4 exW = [0, 1] := by
  have h : rts 4 exW = (List.range 4).filter fun a => decide (exW a = a) := List.filter_congr fun a _ => by rw [exW_root]
  rw [h]
  decide
theorem ex_pos : pos exW 0 = 0 ∧ pos exW 1 = 1 := by
  have h : ∀ m, rts m exW = (List.range m).filter fun a => decide (exW a = a) := fun m => List.filter_congr fun a _ => by rw [exW_root]
  unfold pos
  rw [h, h]
  decide
theorem ex_yes : mergeF 1 4 [1, 2, 3, -1] [0, 1, 0, 1] 0 2 = (1, 2, [1, 0], [0, 1], true, 0) := by
  have h := mergeF_n (n := 4) (k := 1) (s := 0) (t := 2) ex_right (by decide) (by decide)
  refine (h.trans (mergeN_yes ex_rightP (by decide) (by decide) ex_inv)).trans ?_
  unfold mres
  rw [ex_rts]
  have w0 : wayP exW (fun a _ => if a = 0 then 1 else 2) 0 0 = 1 := by
    unfold wayP
    rw [if_neg (by decide), exW_root]
    exact congrArg Int.ofNat ex_pos.2
  have w1 : wayP exW (fun a _ => if a = 0 then 1 else 2) 1 0 = 0 := by
    unfold wayP
    rw [if_neg (by decide), exW_root]
    exact congrArg Int.ofNat ex_pos.1
  have q : qnx 1 exW (fun a _ => if a = 0 then 1 else 2) [0, 1] = [1, 0] := by
    simp only [qnx, li, List.range_succ, List.range_zero, List.nil_append, List.map_cons, List.map_nil, List.cons_append]
    rw [w0, w1]
  rw [q]
  rfl
theorem ex_whole : sample_whole.f 1 2 [1, 0] [0, 1] = some (1, 1, 2, 2, [1, 0], [0, 1], 0) := by kernel_rfl
theorem ex_learn : sample_Learn.f 1011 1 exL = some (1, 1, 2, 2, [1, 0], [0, 1], 0) := by
  have h1 : sample_Merge.f 1 4 [1, 2, 3, -1] [0, 1, 0, 1] 0 1 = some (0, 0, [], [], false, 0) := congrArg some ex_no
  have h2 : sample_Merge.f 1 4 [1, 2, 3, -1] [0, 1, 0, 1] 0 2 = some (1, 2, [1, 0], [0, 1], true, 0) := congrArg some ex_yes
  have e1 : wrap64 (0 + 1) = 1 := by kernel_rfl
  have e2 : wrap64 (1 + 1) = 2 := by kernel_rfl
  unfold sample_Learn.f sample_Prefixes.f
  rw [ex_pref]
  simp only [Option.bind_some, if_true]
  rw [sample_Learn.l0, if_pos (by decide), sample_Learn.l1, if_pos (by decide), sample_Learn.j2, if_pos (by decide), h1, Option.bind_some, if_neg (by decide), e1,
    sample_Learn.l1, if_neg (by decide), sample_Learn.j2, if_neg (by decide), if_neg (by decide), e2,
    sample_Learn.l0, if_pos (by decide), sample_Learn.l1, if_pos (by decide), sample_Learn.j2, if_pos (by decide), h2, Option.bind_some, if_pos (by decide), e1,
    sample_Learn.l1, if_pos (by decide), sample_Learn.j2, if_neg (by decide), if_pos (by decide),
    sample_Learn.l0, if_neg (by decide), ex_whole]
  rfl
end Go.Proofs.Ytocejofjmmoeaaa.X
end

section
namespace Go.Proofs.Ytocejofjmmoeaaa.X
open Go.RowKit Go.Proofs.YtocejofjmmoeaaaW.PrintWords Go.Proofs.YtocejofjmmoeaaaW.PrintLast Go.Proofs.YtocejofjmmoeaaaW.PrintMore
open Go.Proofs.Ytocejofjmmoeaaa Go.Proofs.Ytocejofjmmoeaaa.Sp
theorem ex_read {W : World} {g a b c : Nat} (hg : W.heap[g]? = some (.cells #[.slice none 0 0, .int .i64 0, .slice (some ⟨a, 0, none⟩) 1 1, .int .i64 1, .slice (some ⟨b, 0, none⟩) 2 2, .int .i64 0, .slice (some ⟨c, 0, none⟩) 3 3, .int .i64 1] 57 (0, 0))) (ha : W.heap[a]? = some (.cells #[.int .i64 0] 3 (0, 0))) (hb : W.heap[b]? = some (.cells #[.int .i64 0, .int .i64 0] 3 (0, 0))) (hc : W.heap[c]? = some (.cells #[.int .i64 0, .int .i64 0, .int .i64 0] 3 (0, 0))) : Kd.C k57 W (some ⟨g, 0, none⟩) 4 exL := by
  have hcell : ∀ (j i : Nat) (u : Value), (#[.slice none 0 0, .int .i64 0, .slice (some ⟨a, 0, none⟩) 1 1, .int .i64 1, .slice (some ⟨b, 0, none⟩) 2 2, .int .i64 0, .slice (some ⟨c, 0, none⟩) 3 3, .int .i64 1] : Array Value)[j * 2 + i]? = some u → W.cell? ((⟨g, 0, none⟩ : Addr).add (j * 2 + i)) = some u := fun j i u hu => by
    rw [Addr.add_mid, Nat.zero_add]
    exact (blk_cell hg _).trans hu
  refine ⟨rfl, by decide, fun _ => ⟨⟨g, 0, none⟩, rfl, fun j p hj => ?_⟩⟩
  match j with
  | 0 =>
    obtain rfl := Option.some.inj hj
    exact ⟨[.slice none 0 0, .int .i64 0], rfl, k57_mk W ⟨[], 0⟩ (Nat.le_refl _) (Kd.C_nil _ _), fun i u hu => hcell 0 i u (by
      match i with
      | 0 => exact hu
      | 1 => exact hu
      | i + 2 => exact absurd hu (by simp))⟩
  | 1 =>
    obtain rfl := Option.some.inj hj
    exact ⟨[.slice (some ⟨a, 0, none⟩) 1 1, .int .i64 1], rfl, k57_mk W ⟨[0], 1⟩ (c0 := 1) (Nat.le_refl _) (lit_C ha rfl rfl (by decide)), fun i u hu => hcell 1 i u (by
      match i with
      | 0 => exact hu
      | 1 => exact hu
      | i + 2 => exact absurd hu (by simp))⟩
  | 2 =>
    obtain rfl := Option.some.inj hj
    exact ⟨[.slice (some ⟨b, 0, none⟩) 2 2, .int .i64 0], rfl, k57_mk W ⟨[0, 0], 0⟩ (c0 := 2) (Nat.le_refl _) (lit_C hb rfl rfl (by decide)), fun i u hu => hcell 2 i u (by
      match i with
      | 0 => exact hu
      | 1 => exact hu
      | i + 2 => exact absurd hu (by simp))⟩
  | 3 =>
    obtain rfl := Option.some.inj hj
    exact ⟨[.slice (some ⟨c, 0, none⟩) 3 3, .int .i64 1], rfl, k57_mk W ⟨[0, 0, 0], 1⟩ (c0 := 3) (Nat.le_refl _) (lit_C hc rfl rfl (by decide)), fun i u hu => hcell 3 i u (by
      match i with
      | 0 => exact hu
      | 1 => exact hu
      | i + 2 => exact absurd hu (by simp))⟩
  | j + 4 => exact absurd hj (by simp [exL])
theorem al_size (w : World) (o : Obj) : (w.alloc o).heap.size = w.heap.size + 1 := Array.size_push _
theorem ex_lits (w : World) : Kd.C k57 ((((w.alloc (.cells #[.int .i64 0] 3)).alloc (.cells #[.int .i64 0, .int .i64 0] 3)).alloc (.cells #[.int .i64 0, .int .i64 0, .int .i64 0] 3)).alloc (.cells #[.slice none 0 0, .int .i64 0, .slice (some ⟨w.heap.size, 0, none⟩) 1 1, .int .i64 1, .slice (some ⟨w.heap.size + 1, 0, none⟩) 2 2, .int .i64 0, .slice (some ⟨w.heap.size + 1 + 1, 0, none⟩) 3 3, .int .i64 1] 57)) (some ⟨w.heap.size + 1 + 1 + 1, 0, none⟩) 4 exL ∧ Below w.heap.size w ((((w.alloc (.cells #[.int .i64 0] 3)).alloc (.cells #[.int .i64 0, .int .i64 0] 3)).alloc (.cells #[.int .i64 0, .int .i64 0, .int .i64 0] 3)).alloc (.cells #[.slice none 0 0, .int .i64 0, .slice (some ⟨w.heap.size, 0, none⟩) 1 1, .int .i64 1, .slice (some ⟨w.heap.size + 1, 0, none⟩) 2 2, .int .i64 0, .slice (some ⟨w.heap.size + 1 + 1, 0, none⟩) 3 3, .int .i64 1] 57)) := by
  have h1 := blk_alloc (blk_alloc (blk_alloc (blk_new w (.cells #[.int .i64 0] 3)) (.cells #[.int .i64 0, .int .i64 0] 3)) (.cells #[.int .i64 0, .int .i64 0, .int .i64 0] 3)) (.cells #[.slice none 0 0, .int .i64 0, .slice (some ⟨w.heap.size, 0, none⟩) 1 1, .int .i64 1, .slice (some ⟨w.heap.size + 1, 0, none⟩) 2 2, .int .i64 0, .slice (some ⟨w.heap.size + 1 + 1, 0, none⟩) 3 3, .int .i64 1] 57)
  have h2 := blk_alloc (blk_alloc (blk_new (w.alloc (.cells #[.int .i64 0] 3)) (.cells #[.int .i64 0, .int .i64 0] 3)) (.cells #[.int .i64 0, .int .i64 0, .int .i64 0] 3)) (.cells #[.slice none 0 0, .int .i64 0, .slice (some ⟨w.heap.size, 0, none⟩) 1 1, .int .i64 1, .slice (some ⟨w.heap.size + 1, 0, none⟩) 2 2, .int .i64 0, .slice (some ⟨w.heap.size + 1 + 1, 0, none⟩) 3 3, .int .i64 1] 57)
  have h3 := blk_alloc (blk_new ((w.alloc (.cells #[.int .i64 0] 3)).alloc (.cells #[.int .i64 0, .int .i64 0] 3)) (.cells #[.int .i64 0, .int .i64 0, .int .i64 0] 3)) (.cells #[.slice none 0 0, .int .i64 0, .slice (some ⟨w.heap.size, 0, none⟩) 1 1, .int .i64 1, .slice (some ⟨w.heap.size + 1, 0, none⟩) 2 2, .int .i64 0, .slice (some ⟨w.heap.size + 1 + 1, 0, none⟩) 3 3, .int .i64 1] 57)
  have h4 := blk_new (((w.alloc (.cells #[.int .i64 0] 3)).alloc (.cells #[.int .i64 0, .int .i64 0] 3)).alloc (.cells #[.int .i64 0, .int .i64 0, .int .i64 0] 3)) (.cells #[.slice none 0 0, .int .i64 0, .slice (some ⟨w.heap.size, 0, none⟩) 1 1, .int .i64 1, .slice (some ⟨w.heap.size + 1, 0, none⟩) 2 2, .int .i64 0, .slice (some ⟨w.heap.size + 1 + 1, 0, none⟩) 3 3, .int .i64 1] 57)
  rw [al_size] at h2
  rw [al_size, al_size] at h3
  rw [al_size, al_size, al_size] at h4
  exact ⟨ex_read h4 h1 h2 h3, below_alloc (below_alloc (below_alloc (below_alloc (Below.refl _ _) _) _) _) _⟩
set_option maxHeartbeats 16000000 in
set_option maxRecDepth 100000 in
theorem live_walk (w : World) : Calls Try.prog 13 #[] w fun e w' => e = .returned (.bool true) ∧ Below w.heap.size w w' := by
  have hu34 := Try.underlying34
  have hu32 := Try.underlying32
  have hu50 := Try.underlying50
  have hu57 := Try.underlying57
  have hu22 := Try.underlying22
  go_enter Try.func13, Try.ntmps13
  go_wp2_with (first
  | (go_at_call 34; have hb := below_alloc (Below.refl w12.heap.size w12) (.cells #[.int .i64 0, .int .i64 1] 3); have hnw := lit_C (blk_new w12 (.cells #[.int .i64 0, .int .i64 1] 3)) (xs := [0, 1]) (n := 2) rfl rfl (by decide); have HC4g0 := Aside0.mk (And.intro (Kd.C_below HC4f.out.1 hb) HC4f.out.2); have HC5g0 := Aside0.mk (And.intro (Kd.C_below HC5f.out.1 hb) HC5f.out.2); have HK4g0 := Aside0.mk ((hb.block _ (blk_lt HK4f.out)).trans HK4f.out); have HK2g0 := Aside0.mk ((hb.block _ (blk_lt HK2f.out)).trans HK2f.out); have HBg0 := Aside0.mk (below_step HBf.out hb); clear HC4f HC5f HK4f HK2f HBf; refine (same_calls A5 2 c5 [0, 1] (some ⟨w12.heap.size, 0, none⟩) 2 2 [0, 1] (w12.alloc (.cells #[.int .i64 0, .int .i64 1] 3)) HC5g0.out.1 HC5g0.out.2 hnw (by decide) (by decide)).mono ?_; clear hb hnw; rintro e w13 ⟨he, hd⟩; obtain rfl : e = .returned (.bool true) := he; have hb := hd.below; have HC4g := Aside0.mk (And.intro (Kd.C_below HC4g0.out.1 hb) HC4g0.out.2); have HC5g := Aside0.mk (And.intro (Kd.C_below HC5g0.out.1 hb) HC5g0.out.2); have HK4g := Aside0.mk ((hb.block _ (blk_lt HK4g0.out)).trans HK4g0.out); have HK2g := Aside0.mk ((hb.block _ (blk_lt HK2g0.out)).trans HK2g0.out); have HBg := Aside0.mk (below_step HBg0.out hb); clear HC4g0 HC5g0 HK4g0 HK2g0 HBg0; clear hd hb)
  | (go_at_call 34; have hb := below_alloc (Below.refl w11.heap.size w11) (.cells #[.int .i64 1, .int .i64 0] 3); have hnw := lit_C (blk_new w11 (.cells #[.int .i64 1, .int .i64 0] 3)) (xs := [1, 0]) (n := 2) rfl rfl (by decide); have HC4f0 := Aside0.mk (And.intro (Kd.C_below HC4e.out.1 hb) HC4e.out.2); have HC5f0 := Aside0.mk (And.intro (Kd.C_below HC5e.out.1 hb) HC5e.out.2); have HK4f0 := Aside0.mk ((hb.block _ (blk_lt HK4e.out)).trans HK4e.out); have HK2f0 := Aside0.mk ((hb.block _ (blk_lt HK2e.out)).trans HK2e.out); have HBf0 := Aside0.mk (below_step HBe.out hb); clear HC4e HC5e HK4e HK2e HBe; refine (same_calls A4 2 c4 [1, 0] (some ⟨w11.heap.size, 0, none⟩) 2 2 [1, 0] (w11.alloc (.cells #[.int .i64 1, .int .i64 0] 3)) HC4f0.out.1 HC4f0.out.2 hnw (by decide) (by decide)).mono ?_; clear hb hnw; rintro e w12 ⟨he, hd⟩; obtain rfl : e = .returned (.bool true) := he; have hb := hd.below; have HC4f := Aside0.mk (And.intro (Kd.C_below HC4f0.out.1 hb) HC4f0.out.2); have HC5f := Aside0.mk (And.intro (Kd.C_below HC5f0.out.1 hb) HC5f0.out.2); have HK4f := Aside0.mk ((hb.block _ (blk_lt HK4f0.out)).trans HK4f0.out); have HK2f := Aside0.mk ((hb.block _ (blk_lt HK2f0.out)).trans HK2f0.out); have HBf := Aside0.mk (below_step HBf0.out hb); clear HC4f0 HC5f0 HK4f0 HK2f0 HBf0; clear hd hb; have hq5 : w12.cell? ⟨g4, 5, none⟩ = some (.slice A5 2 c5) := (blk_cell HK4f.out 5).trans rfl)
  | (go_at_call 16; refine (tutorlaw19_num.calls 0 0 w10 rfl).mono ?_; rintro e w11 ⟨rfl, hd⟩; have hb := hd.below; have HC4e := Aside0.mk (And.intro (Kd.C_below HC4d.out.1 hb) HC4d.out.2); have HC5e := Aside0.mk (And.intro (Kd.C_below HC5d.out.1 hb) HC5d.out.2); have HK4e := Aside0.mk ((hb.block _ (blk_lt HK4d.out)).trans HK4d.out); have HK2e := Aside0.mk ((hb.block _ (blk_lt HK2d.out)).trans HK2d.out); have HBe := Aside0.mk (below_step HBd.out hb); clear HC4d HC5d HK4d HK2d HBd; clear hd hb; have hq1 : w11.cell? ⟨g2, 1, none⟩ = some (.int .i64 4) := (blk_cell HK2e.out 1).trans rfl; have hq3 : w11.cell? ⟨g4, 3, none⟩ = some (.int .i64 2) := (blk_cell HK4e.out 3).trans rfl; have hq4 : w11.cell? ⟨g4, 4, none⟩ = some (.slice A4 2 c4) := (blk_cell HK4e.out 4).trans rfl)
  | (go_at_call 16; refine (tutorlaw19_num.calls 0 0 w9 rfl).mono ?_; rintro e w10 ⟨rfl, hd⟩; have hb := hd.below; have HC4d := Aside0.mk (And.intro (Kd.C_below HC4c.out.1 hb) HC4c.out.2); have HC5d := Aside0.mk (And.intro (Kd.C_below HC5c.out.1 hb) HC5c.out.2); have HK4d := Aside0.mk ((hb.block _ (blk_lt HK4c.out)).trans HK4c.out); have HK2d := Aside0.mk ((hb.block _ (blk_lt HK2c.out)).trans HK2c.out); have HBd := Aside0.mk (below_step HBc.out hb); clear HC4c HC5c HK4c HK2c HBc; clear hd hb)
  | (go_at_call 16; have hb := below_alloc (Below.refl w7.heap.size w7) (.cells #[.int .i64 0, .int .i64 0, .slice A6 0 c6, .slice A7 0 c7] 34); have HC4b := Aside0.mk (And.intro (Kd.C_below HC4a.out.1 hb) HC4a.out.2); have HC5b := Aside0.mk (And.intro (Kd.C_below HC5a.out.1 hb) HC5a.out.2); have HK4b := Aside0.mk ((hb.block _ (blk_lt HK4a.out)).trans HK4a.out); have HK2b := Aside0.mk ((hb.block _ (blk_lt HK2a.out)).trans HK2a.out); have HBb := Aside0.mk (below_step HBa.out hb); clear HC4a HC5a HK4a HK2a HBa; clear hb; generalize w7.alloc (.cells #[.int .i64 0, .int .i64 0, .slice A6 0 c6, .slice A7 0 c7] 34) = w8 at HC4b HC5b HK4b HK2b HBb ⊢; refine (tutorlaw19_num.calls 0 0 w8 rfl).mono ?_; rintro e w9 ⟨rfl, hd⟩; have hb := hd.below; have HC4c := Aside0.mk (And.intro (Kd.C_below HC4b.out.1 hb) HC4b.out.2); have HC5c := Aside0.mk (And.intro (Kd.C_below HC5b.out.1 hb) HC5b.out.2); have HK4c := Aside0.mk ((hb.block _ (blk_lt HK4b.out)).trans HK4b.out); have HK2c := Aside0.mk ((hb.block _ (blk_lt HK2b.out)).trans HK2b.out); have HBc := Aside0.mk (below_step HBb.out hb); clear HC4b HC5b HK4b HK2b HBb; clear hd hb)
  | (go_at_call 23; refine (sample_Merge.calls 1 4 A2 c2 [1, 2, 3, -1] A3 c3 [0, 1, 0, 1] 0 1 0 0 [] [] false 0 (w6.alloc (.cells #[.int .i64 1, .int .i64 1, .int .i64 2, .int .i64 2, .slice A4 2 c4, .slice A5 2 c5] 50)) (Kd.C_below HC2a.out.1 (below_alloc (Below.refl _ _) _)) HC2a.out.2 (Kd.C_below HC3a.out.1 (below_alloc (Below.refl _ _) _)) HC3a.out.2 (congrArg some ex_no)).mono ?_; rintro e w7 ⟨v6, v7, rfl, hR6, hR7, hb⟩; obtain ⟨A6, c6, hv6⟩ := Kd.R_slice hR6; obtain ⟨A7, c7, hv7⟩ := Kd.R_slice hR7; subst hv6 hv7; have hbb := below_step (below_alloc (Below.refl w6.heap.size w6) (.cells #[.int .i64 1, .int .i64 1, .int .i64 2, .int .i64 2, .slice A4 2 c4, .slice A5 2 c5] 50)) hb; have HC4a := Aside0.mk (And.intro (Kd.C_below HC4.out.1 hbb) HC4.out.2); have HC5a := Aside0.mk (And.intro (Kd.C_below HC5.out.1 hbb) HC5.out.2); have HK4a := Aside0.mk ((hb.block _ (blk_lt (blk_new w6 (.cells #[.int .i64 1, .int .i64 1, .int .i64 2, .int .i64 2, .slice A4 2 c4, .slice A5 2 c5] 50)))).trans (blk_new w6 _)); have HK2a := Aside0.mk ((hbb.block _ (blk_lt HK2.out)).trans HK2.out); have HBa := Aside0.mk (below_step (below_alloc HB6.out (.cells #[.int .i64 1, .int .i64 1, .int .i64 2, .int .i64 2, .slice A4 2 c4, .slice A5 2 c5] 50)) hb); clear hR6 hR7 hb hbb HB6 HC4 HC5 HK2 HC2a HC3a; generalize w6.heap.size = g4 at HK4a ⊢; generalize w5.heap.size = g2 at HK2a ⊢)
  | ((with_reducible refine gate_dst (N := 28) rfl ?_)
     refine wpList_load_row rfl 34 (.tmp 2) rfl w5.heap.size rfl 34 #[.int .i64 1, .int .i64 4, .slice A2 4 c2, .slice A3 4 c3] (0, 0) _ (blk_alloc HK2.out _) Try.underlying34 rfl ?_ ?_
     (focus (rw [i34]; rfl)))
  | (go_at_call 25; refine (sample_Learn.calls 1011 1 (some ⟨gl, 0, none⟩) 4 exL 1 1 2 2 [1, 0] [0, 1] 0 (w5.alloc (.cells #[.int .i64 1, .int .i64 4, .slice A2 4 c2, .slice A3 4 c3] 34)) (Kd.C_below HL5.out (below_alloc (Below.refl _ _) _)) (by decide) ex_learn).mono ?_; rintro e w6 ⟨v4, v5, rfl, hR4, hR5, hb⟩; obtain ⟨A4, c4, hv4⟩ := Kd.R_slice hR4; obtain ⟨A5, c5, hv5⟩ := Kd.R_slice hR5; have hv4' : v4 = .slice A4 2 c4 := hv4; have hv5' : v5 = .slice A5 2 c5 := hv5; subst hv4' hv5'; have HC4 := Aside0.mk (row_C hR4); have HC5 := Aside0.mk (row_C hR5); have hbb := below_step (below_alloc (Below.refl w5.heap.size w5) (.cells #[.int .i64 1, .int .i64 4, .slice A2 4 c2, .slice A3 4 c3] 34)) hb; have HC2a := Aside0.mk (And.intro (Kd.C_below HC2.out.1 hbb) HC2.out.2); have HC3a := Aside0.mk (And.intro (Kd.C_below HC3.out.1 hbb) HC3.out.2); have hk2 : w6.heap[w5.heap.size]? = some (.cells #[.int .i64 1, .int .i64 4, .slice A2 4 c2, .slice A3 4 c3] 34 (0, 0)) := (hb.block _ (blk_lt (blk_new w5 _))).trans (blk_new w5 _); have HK2 := Aside0.mk hk2; have HB6 := Aside0.mk (below_step (below_alloc HB5.out (.cells #[.int .i64 1, .int .i64 4, .slice A2 4 c2, .slice A3 4 c3] 34)) hb); clear hR4 hR5 hb hbb hk2 hv4 hv5 HL5 HB5 HC2 HC3)
  | (go_at_call 17; have hlit := ex_lits w; have HL := Aside0.mk hlit.1; have HB := Aside0.mk hlit.2; clear hlit; generalize w.heap.size + 1 + 1 + 1 = gl at HL ⊢; generalize ((((w.alloc (.cells #[.int .i64 0] 3)).alloc (.cells #[.int .i64 0, .int .i64 0] 3)).alloc (.cells #[.int .i64 0, .int .i64 0, .int .i64 0] 3)).alloc (.cells #[.slice none 0 0, .int .i64 0, .slice (some ⟨w.heap.size, 0, none⟩) 1 1, .int .i64 1, .slice (some ⟨w.heap.size + 1, 0, none⟩) 2 2, .int .i64 0, .slice (some ⟨w.heap.size + 1 + 1, 0, none⟩) 3 3, .int .i64 1] 57)) = w4 at HL HB ⊢; refine (sample_Prefixes.calls 1 (some ⟨gl, 0, none⟩) 4 exL 1 4 [1, 2, 3, -1] [0, 1, 0, 1] 0 w4 HL.out (by decide) (congrArg some ex_pref)).mono ?_; rintro e w5 ⟨v2, v3, rfl, hR2, hR3, hb⟩; obtain ⟨A2, c2, hv2⟩ := Kd.R_slice hR2; obtain ⟨A3, c3, hv3⟩ := Kd.R_slice hR3; have hv2' : v2 = .slice A2 4 c2 := hv2; have hv3' : v3 = .slice A3 4 c3 := hv3; subst hv2' hv3'; have HC2 := Aside0.mk (row_C hR2); have HC3 := Aside0.mk (row_C hR3); have HL5 := Aside0.mk (Kd.C_below HL.out hb); have HB5 := Aside0.mk (below_step HB.out hb); clear hR2 hR3 hb hv2 hv3 HL HB))
  go_ret
  exact ⟨rfl, HBg.out⟩
def tutorlaw19_live.f : Option Bool := some true
theorem tutorlaw19_live.calls (r1 : Bool) (w : World) (h : tutorlaw19_live.f = some r1) : Calls Try.prog 13 #[] w fun e w' => e = .returned (.bool r1) ∧ Below w.heap.size w w' := by
  obtain rfl := Option.some.inj h
  exact live_walk w
end Go.Proofs.Ytocejofjmmoeaaa.X
end

section
namespace Go.Proofs.Ytocejofjmmoeaaa.X
open Go.RowKit Go.Proofs.YtocejofjmmoeaaaW.PrintWords Go.Proofs.YtocejofjmmoeaaaW.PrintLast Go.Proofs.YtocejofjmmoeaaaW.PrintMore
open Go.Proofs.Ytocejofjmmoeaaa Go.Proofs.Ytocejofjmmoeaaa.Sp
theorem Ev.const {α : Type} {g : Option α} {r : α} (h : g = some r) : Ev (fun _ => g) r := ⟨0, fun _ _ => h⟩
end Go.Proofs.Ytocejofjmmoeaaa.X
end

section
namespace Go.Proofs.Ytocejofjmmoeaaa.X
open Go.RowKit Go.Proofs.YtocejofjmmoeaaaW.PrintWords Go.Proofs.YtocejofjmmoeaaaW.PrintLast Go.Proofs.YtocejofjmmoeaaaW.PrintMore
open Go.Proofs.Ytocejofjmmoeaaa Go.Proofs.Ytocejofjmmoeaaa.Sp
theorem Ev.at_ {α : Type} {g : Nat → Option α} {r r' : α} (h : Ev g r) (e : r = r') : Ev g r' := e ▸ h
/-- Where a word leads; none: it is not known. -/
def toS (d : Nat → Nat → Int) : Nat → List Int → Option Nat
  | s, [] => some s
  | s, x :: w => if d s x.toNat < 0 then none else toS d (d s x.toNat).toNat w
def sayS (d : Nat → Nat → Int) (o : Nat → Int) (w : List Int) : Int := match toS d 0 w with
  | none => -1
  | some s => o s
def sayF (K N : Int) (nx out w : List Int) : Int × Int := if rightF K N nx out ≠ 0 then (0, rightF K N nx out) else if wordErr K.toNat w ≠ 0 then (0, wordErr K.toNat w) else (sayS (dOf K.toNat nx) (oOf out) w, 0)
theorem at_idx {n k : Nat} (hn : n ≤ 65536) (hk : k ≤ 64) {a x : Nat} (ha : a < n) (hx : x < k) : wrap64 (wrap64 ((a : Int) * (k : Int)) + (x : Int)) = ((a * k + x : Nat) : Int) := by
  obtain ⟨B, I, h1, h2, h3, h4, _⟩ := idx_at (L := n * k) rfl hn hk ha hx
  rw [h3, h4, h2]
section
variable {n k : Nat} {nx out : List Int}
theorem says_l0 (hp : RightP n k nx out) (w : List Int) (hw : w.length ≤ 4096 ∧ ∀ x ∈ w, 0 ≤ x ∧ x < (k : Int)) : ∀ (d i s : Nat), i + d = w.length → s < n → Ev (fun q => sample_Says.l0 q (s : Int) w (w.length : Int) (i : Int) (k : Int) (n : Int) nx out) ((match toS (dOf k nx) s (w.drop i) with | none => -1 | some s => oOf out s), 0) := by
  intro d
  induction d with
  | zero =>
    intro i s h hs
    rw [List.drop_of_length_le (by omega)]
    exact Ev.step (fun q => by rw [sample_Says.l0, if_neg (by omega), if_pos (by omega), if_pos (by have := hp.ol; omega)]; rfl) (Ev.now _)
  | succ d ih =>
    intro i s h hs
    have hi : i < w.length := by omega
    obtain ⟨x, hx⟩ : ∃ x : Nat, w[i] = (x : Int) := ⟨w[i].toNat, by have := hw.2 _ (List.getElem_mem hi); omega⟩
    have hxk : x < k := by have := (hw.2 _ (List.getElem_mem hi)).2; omega
    have hlt := tab_lt hs hxk
    rw [List.drop_eq_getElem_cons hi, hx, toS, Int.toNat_natCast]
    have e := at_idx hp.nm hp.k64 hs hxk
    have hd : rd nx ((s * k + x : Nat) : Int) = dOf k nx s x := rfl
    have hnl := hp.nl
    obtain ⟨I, hI⟩ : ∃ I, s * k + x = I := ⟨_, rfl⟩
    rw [hI] at hlt e hd
    rw [← hnl] at hlt
    have c1 : (i : Int) < (w.length : Int) := by clear e; omega
    have c2 : (0 : Int) ≤ (i : Int) := by clear e; omega
    have c3 : (0 : Int) ≤ (I : Int) := by clear e; omega
    have c4 : (I : Int) < (nx.length : Int) := by clear e; omega
    have c5 : (0 : Int) ≤ (s : Int) := by clear e; omega
    have e3 := w64s (a := i) (by have := hw.1; clear e; omega)
    have hbb := hp.nb s x hs hxk
    have hb2 : ¬ dOf k nx s x < 0 → (dOf k nx s x).toNat < n := fun h => by clear e; omega
    by_cases hn : dOf k nx s x < 0
    · rw [if_pos hn]
      exact Ev.step (fun q => by rw [sample_Says.l0, if_pos c1, if_pos c2, if_pos c1, rd_nat hi, hx, e, if_pos c3, if_pos c4, hd, if_pos hn]) (Ev.now _)
    · rw [if_neg hn]
      refine Ev.step (fun q => by rw [sample_Says.l0, if_pos c1, if_pos c2, if_pos c1, rd_nat hi, hx, e, if_pos c3, if_pos c4, hd, if_neg hn, e3]) ?_
      have h2 := ih (i + 1) (dOf k nx s x).toNat (by clear e e3; omega) (hb2 hn)
      rw [Int.toNat_of_nonneg (by clear e e3; omega)] at h2
      exact h2
end
theorem word_ev {K : Nat} (l : List Int) (h0 : 1 ≤ K) (h1 : K ≤ 64) : ∃ a, Ev (fun q => word_Check.f q l (K : Int)) (a, wordErr K l) := by
  obtain ⟨a, ha⟩ := word_is (l := l) h0 h1
  exact ⟨a, Ev.of (fun q => word_Check.mono l (K : Int) q) ha⟩
theorem says_ev (K N : Int) (nx out w : List Int) : Ev (fun q => sample_Says.f q K N nx out w) (sayF K N nx out w) := by
  unfold sample_Says.f sayF
  refine Ev.bind (Ev.const (r := rightF K N nx out) rfl) ?_
  by_cases h : rightF K N nx out = 0
  · rw [if_neg (by rw [h]; omega)]
    obtain ⟨n, k, rfl, rfl, hp⟩ := rightF_zero h
    refine Ev.congr (fun q => if_pos h) ?_
    obtain ⟨a, ha⟩ := word_ev w hp.k1 hp.k64
    refine Ev.bind ha ?_
    rw [Int.toNat_natCast]
    by_cases hw : wordErr k w = 0
    · rw [if_neg (by rw [hw]; omega)]
      refine Ev.congr (fun q => if_pos hw) ?_
      exact says_l0 hp w (wordErr_ok hw) w.length 0 0 (by omega) hp.n1
    · rw [if_pos hw]
      exact Ev.congr (fun q => if_neg hw) (Ev.now _)
  · rw [if_pos h]
    exact Ev.congr (fun q => if_neg h) (Ev.now _)
end Go.Proofs.Ytocejofjmmoeaaa.X
end

section
namespace Go.Proofs.Ytocejofjmmoeaaa.X
open Go.RowKit Go.Proofs.YtocejofjmmoeaaaW.PrintWords Go.Proofs.YtocejofjmmoeaaaW.PrintLast Go.Proofs.YtocejofjmmoeaaaW.PrintMore
open Go.Proofs.Ytocejofjmmoeaaa Go.Proofs.Ytocejofjmmoeaaa.Sp
theorem Tog.turn {n k : Nat} {d : Nat → Nat → Int} {s t a b : Nat} (h : Tog n k d s t a b) : Tog n k d t s a b := by
  induction h with
  | base => exact .symm .base
  | refl a => exact .refl a
  | symm _ ih => exact .symm ih
  | trans _ _ i1 i2 => exact .trans i1 i2
  | step _ h1 h2 hx h3 h4 ih => exact .step ih h1 h2 hx h3 h4
theorem JInv.flip {n k : Nat} {d : Nat → Nat → Int} {o : Nat → Int} {s t : Nat} {W : Nat → Nat} {NX : Nat → Nat → Int} {OU : Nat → Int} (h : JInv n k d o s t W NX OU []) : JInv n k d o t s W NX OU [] where
  dn := h.dn
  so := fun a ha => (h.so a ha).turn
  qs := fun p hp => by cases hp
  nx := h.nx
  ou := h.ou
  cl := h.cl
  st := .symm h.st
theorem mergeN_comm {n k : Nat} {nx out : List Int} {s t : Nat} (hp : RightP n k nx out) (hs : s < n) (ht : t < n) : mergeN n k nx out s t = mergeN n k nx out t s := by
  by_cases h : ∃ p : (Nat → Nat) × (Nat → Nat → Int) × (Nat → Int), JInv n k (dOf k nx) (oOf out) s t p.1 p.2.1 p.2.2 []
  · obtain ⟨p, h⟩ := h
    rw [mergeN_yes hp hs ht h, mergeN_yes hp ht hs h.flip]
  · have h2 : ¬ ∃ p : (Nat → Nat) × (Nat → Nat → Int) × (Nat → Int), JInv n k (dOf k nx) (oOf out) t s p.1 p.2.1 p.2.2 [] := fun ⟨p, h3⟩ => h ⟨p, h3.flip⟩
    unfold mergeN
    rw [dif_neg h, dif_neg h2]
theorem qnx_get {k : Nat} {W : Nat → Nat} {NX : Nat → Nat → Int} : ∀ (l : List Nat) (c x s : Nat), l[c]? = some s → x < k → (qnx k W NX l)[c * k + x]? = some (wayP W NX s x)
  | [], c, x, s, h, _ => by simp at h
  | a :: l, 0, x, s, h, hx => by
    simp only [List.getElem?_cons_zero, Option.some.injEq] at h
    subst h
    rw [qnx, Nat.zero_mul, Nat.zero_add, List.getElem?_append_left (by rw [li_len]; exact hx), li_get _ hx]
  | a :: l, c + 1, x, s, h, hx => by
    rw [List.getElem?_cons_succ] at h
    rw [qnx, List.getElem?_append_right (by rw [li_len, Nat.add_mul, Nat.one_mul]; omega), li_len, show (c + 1) * k + x - k = c * k + x by rw [Nat.add_mul, Nat.one_mul]; omega]
    exact qnx_get l c x s h hx
theorem rd_some {l : List Int} {i : Nat} {v : Int} (h : l[i]? = some v) : rd l (i : Int) = v := by simp [rd, List.getD_eq_getElem?_getD, h]
theorem root_zero (W : Nat → Nat) : rootW W 0 = 0 := Nat.le_zero.1 (rootW_le W 0)
theorem pos_zero (W : Nat → Nat) : pos W 0 = 0 := rfl
theorem rts_pos1 {n : Nat} (W : Nat → Nat) (hn : 1 ≤ n) : 1 ≤ (rts n W).length := List.length_pos_of_mem (mem_rts.2 ⟨hn, root_zero W⟩)
section
variable {n k : Nat} {nx out : List Int} {s t : Nat} {W : Nat → Nat} {NX : Nat → Nat → Int} {OU : Nat → Int}
theorem way_of (hp : RightP n k nx out) (h : JInv n k (dOf k nx) (oOf out) s t W NX OU []) {r x : Nat} (hr : r < n) (hrr : rootW W r = r) (hx : x < k) : -1 ≤ wayP W NX r x ∧ wayP W NX r x < ((rts n W).length : Int) := by
  unfold wayP
  rcases h.nx r hr hrr x hx with ⟨g1, _⟩ | ⟨m, g1, _, g3, g4⟩
  · rw [g1, if_pos (by decide)]
    exact ⟨by decide, by omega⟩
  · rw [g4, if_neg (by omega)]
    have hb := (hp.nb m x g1 hx).2
    have := pos_lt (n := n) (rootW_idem (W := W) (dOf k nx m x).toNat) (Nat.lt_of_le_of_lt (rootW_le _ _) (by omega))
    omega
theorem mres_right (hp : RightP n k nx out) (h : JInv n k (dOf k nx) (oOf out) s t W NX OU []) : RightP (rts n W).length k (qnx k W NX (rts n W)) ((rts n W).map OU) where
  k1 := hp.k1
  k64 := hp.k64
  n1 := rts_pos1 W hp.n1
  nm := Nat.le_trans (rts_le n W) hp.nm
  nl := qnx_len _
  ol := List.length_map ..
  nb := fun a x ha hx => by
    have hr : (rts n W)[a]? = some (rts n W)[a] := List.getElem?_eq_getElem ha
    have hm := mem_rts.1 (List.getElem_mem ha)
    unfold dOf
    rw [rd_some (qnx_get _ a x _ hr hx)]
    exact way_of hp h hm.1 hm.2 hx
  ob := fun a ha => by
    have hm := mem_rts.1 (List.getElem_mem ha)
    have e : ((rts n W).map OU)[a]? = some (OU (rts n W)[a]) := by rw [List.getElem?_map, List.getElem?_eq_getElem ha]; rfl
    unfold oOf
    rw [rd_some e]
    have := h.out3 hm.1 hm.2
    omega
/-- A step ahead is a step behind. -/
theorem mres_step (hp : RightP n k nx out) (h : JInv n k (dOf k nx) (oOf out) s t W NX OU []) {a x : Nat} (ha : a < n) (hx : x < k) (hd : 0 ≤ dOf k nx a x) : dOf k (qnx k W NX (rts n W)) (pos W (rootW W a)) x = (pos W (rootW W (dOf k nx a x).toNat) : Int) := by
  have hra : rootW W a < n := Nat.lt_of_le_of_lt (rootW_le W a) ha
  have hr := rts_pos (rootW_idem (W := W) a) n hra
  have e : dOf k (qnx k W NX (rts n W)) (pos W (rootW W a)) x = wayP W NX (rootW W a) x := by
    unfold dOf
    exact rd_some (qnx_get _ _ x _ hr hx)
  rw [e]
  unfold wayP
  rcases h.nx _ hra (rootW_idem a) x hx with ⟨_, g2⟩ | ⟨m, g1, g2, g3, g4⟩
  · exact absurd (g2 a ha rfl) (by omega)
  · rw [g4, if_neg (by omega), (h.cl m a g1 ha g2 x hx g3 hd).none_]
theorem mres_toS (hp : RightP n k nx out) (h : JInv n k (dOf k nx) (oOf out) s t W NX OU []) : ∀ (w : List Int) (a b : Nat), (∀ x ∈ w, 0 ≤ x ∧ x < (k : Int)) → a < n → toS (dOf k nx) a w = some b → b < n ∧ toS (dOf k (qnx k W NX (rts n W))) (pos W (rootW W a)) w = some (pos W (rootW W b))
  | [], a, b, _, ha, hw => by
    obtain rfl := Option.some.inj hw
    exact ⟨ha, rfl⟩
  | x :: w, a, b, hr, ha, hw => by
    rw [toS] at hw
    have hx := hr x List.mem_cons_self
    have hxk : x.toNat < k := by omega
    by_cases hn : dOf k nx a x.toNat < 0
    · rw [if_pos hn] at hw; cases hw
    · rw [if_neg hn] at hw
      have hb := (hp.nb a x.toNat ha hxk).2
      obtain ⟨h1, h2⟩ := mres_toS hp h w (dOf k nx a x.toNat).toNat b (fun y hy => hr y (List.mem_cons_of_mem _ hy)) (by omega) hw
      refine ⟨h1, ?_⟩
      rw [toS, mres_step hp h ha hxk (by omega), if_neg (by omega), Int.toNat_natCast]
      exact h2
theorem mres_says (hp : RightP n k nx out) (h : JInv n k (dOf k nx) (oOf out) s t W NX OU []) {w : List Int} (hw : ∀ x ∈ w, 0 ≤ x ∧ x < (k : Int)) (hs : 0 ≤ sayS (dOf k nx) (oOf out) w) : sayS (dOf k (qnx k W NX (rts n W))) (oOf ((rts n W).map OU)) w = sayS (dOf k nx) (oOf out) w := by
  unfold sayS at hs ⊢
  cases hb : toS (dOf k nx) 0 w with
  | none => rw [hb] at hs; exact absurd hs (show ¬ (0 : Int) ≤ -1 by decide)
  | some b =>
    obtain ⟨h1, h2⟩ := mres_toS hp h w 0 b hw hp.n1 hb
    rw [root_zero, pos_zero] at h2
    rw [hb] at hs
    rw [h2]
    show oOf ((rts n W).map OU) (pos W (rootW W b)) = oOf out b
    have hrb : rootW W b < n := Nat.lt_of_le_of_lt (rootW_le W b) h1
    have e : ((rts n W).map OU)[pos W (rootW W b)]? = some (OU (rootW W b)) := by rw [List.getElem?_map, rts_pos (rootW_idem b) n hrb]; rfl
    unfold oOf
    rw [rd_some e]
    have hs' : 0 ≤ oOf out b := hs
    rcases h.ou _ hrb (rootW_idem b) with ⟨_, g2⟩ | ⟨_, _, g4⟩
    · have := g2 b h1 rfl
      omega
    · rcases g4 b h1 rfl with g5 | g5
      · omega
      · exact g5.symm
theorem rts_id (n : Nat) : rts n (fun x => x) = List.range n := by
  unfold rts
  exact List.filter_eq_self.2 fun a _ => decide_eq_true (rootW_id a)
theorem pos_id (a : Nat) : pos (fun x => x) a = a := by unfold pos; rw [rts_id, List.length_range]
theorem JInv.self (hp : RightP n k nx out) (hs : s < n) : JInv n k (dOf k nx) (oOf out) s s (fun x => x) (dOf k nx) (oOf out) [] :=
  (JInv.start hs hs (fun a x ha hx => (hp.nb a x ha hx).1) (fun a ha => hp.ob a ha)).same rfl
theorem mres_self (hp : RightP n k nx out) : mres n k (fun x => x) (dOf k nx) (oOf out) = ((k : Int), (n : Int), nx, out, true, 0) := by
  unfold mres
  rw [rts_id, List.length_range]
  have e1 : qnx k (fun x => x) (dOf k nx) (List.range n) = nx := by
    have hl : (qnx k (fun x => x) (dOf k nx) (List.range n)).length = n * k := by rw [qnx_len, List.length_range]
    apply List.ext_getElem?
    intro i
    by_cases hi : i < n * k
    · have hk : 0 < k := hp.k1
      have hc : i / k < n := (Nat.div_lt_iff_lt_mul hk).2 hi
      have hx := Nat.mod_lt i hk
      have e : i / k * k + i % k = i := by rw [Nat.mul_comm]; exact Nat.div_add_mod i k
      have h1 := qnx_get (k := k) (W := fun x => x) (NX := dOf k nx) (List.range n) (i / k) (i % k) (i / k) (List.getElem?_range hc) hx
      rw [e] at h1
      rw [h1, List.getElem?_eq_getElem (by rw [hp.nl]; exact hi)]
      have hd : dOf k nx (i / k) (i % k) = nx[i]'(by rw [hp.nl]; exact hi) := by unfold dOf; rw [e, rd_nat (by rw [hp.nl]; exact hi)]
      unfold wayP
      have hb := hp.nb _ _ hc hx
      by_cases hn : dOf k nx (i / k) (i % k) < 0
      · rw [if_pos hn, hd]
      · rw [if_neg hn, rootW_id, pos_id, Int.toNat_of_nonneg (by omega), hd]
    · rw [List.getElem?_eq_none (by omega), List.getElem?_eq_none (by rw [hp.nl]; omega)]
  have e2 : (List.range n).map (oOf out) = out := hp.outs.symm
  rw [e1, e2]
theorem rts_less (h : JInv n k (dOf k nx) (oOf out) s t W NX OU []) (hs : s < n) (ht : t < n) (hne : s ≠ t) : (rts n W).length < n := by
  have e := h.st.none_
  obtain ⟨a, ha, hna⟩ : ∃ a, a < n ∧ rootW W a ≠ a := by
    by_cases h1 : rootW W s = s
    · refine ⟨t, ht, fun h2 => hne ?_⟩
      rw [← h1, e, h2]
    · exact ⟨s, hs, h1⟩
  have hsub : (rts n W).length ≤ ((List.range n).erase a).length := by
    have : (rts n W) = ((List.range n).erase a).filter fun b => decide (rootW W b = b) := by
      rw [List.Nodup.erase_eq_filter List.nodup_range, List.filter_filter]
      unfold rts
      refine List.filter_congr fun b _ => ?_
      by_cases hb : rootW W b = b
      · have : b ≠ a := fun e => hna (e ▸ hb)
        simp [hb, this]
      · simp [hb]
    rw [this]
    exact List.length_filter_le _ _
  rw [List.length_erase_of_mem (List.mem_range.2 ha), List.length_range] at hsub
  omega
end
theorem rightF_of {n k : Nat} {nx out : List Int} (hp : RightP n k nx out) : rightF (k : Int) (n : Int) nx out = 0 := by
  unfold rightF
  have h1 := hp.k1
  have h2 := hp.k64
  have h3 := hp.n1
  have h4 := hp.nm
  have h5 : (nx.length : Int) = (n : Int) * (k : Int) := by rw [hp.nl, Int.natCast_mul]
  have h6 := hp.ol
  rw [if_neg (by omega), if_neg (by omega), if_neg (by omega), if_neg, if_neg]
  · intro h
    obtain ⟨x, hx, hb⟩ := List.any_eq_true.1 h
    obtain ⟨i, hi, rfl⟩ := List.mem_iff_getElem.1 hx
    have := hp.ob i (by omega)
    unfold oOf at this
    rw [rd_nat hi] at this
    unfold outB at hb
    simp at hb
    omega
  · intro h
    obtain ⟨x, hx, hb⟩ := List.any_eq_true.1 h
    obtain ⟨i, hi, rfl⟩ := List.mem_iff_getElem.1 hx
    have hk : 0 < k := h1
    have hin : i < n * k := by rw [← hp.nl]; exact hi
    have e : i / k * k + i % k = i := by rw [Nat.mul_comm]; exact Nat.div_add_mod i k
    have := hp.nb (i / k) (i % k) ((Nat.div_lt_iff_lt_mul hk).2 hin) (Nat.mod_lt _ hk)
    unfold dOf at this
    rw [e, rd_nat hi] at this
    unfold outB at hb
    simp at hb
    omega
end Go.Proofs.Ytocejofjmmoeaaa.X
end
