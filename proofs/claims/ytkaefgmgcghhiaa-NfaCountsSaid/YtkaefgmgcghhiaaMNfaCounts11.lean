/- Texts of the statement NfaCounts, one behind the other: Go functions as Lean functions, the machine's calls, the plain law. -/
import Derived.Test.YtkaefgmgcghhiaaMNfaCounts9
import Derived.Laws.EntriesVeiled
set_option linter.unusedVariables false
set_option linter.unusedSimpArgs false
section
namespace Go.Proofs.Ytkaefgmgcghhiaa.X
open Go.RowKit Go.Proofs.YtkaefgmgcghhiaaW.PrintWords Go.Proofs.YtkaefgmgcghhiaaW.PrintLast Go.Proofs.YtkaefgmgcghhiaaW.PrintMore
/-- The first edge that may not be. -/
def fI.e (K N : Int) : List S80 → Int → Int × Int
  | [], _ => (0, 0)
  | x :: r, i => if (!stB N x.f0) then (i, 32) else if (!stB N x.f2) then (i, 32) else if x.f1 < -1 then (i, 10) else if x.f1 ≥ K then (i, 10) else fI.e K N r (i + 1)
def fI.g (K N : Int) (S F : List Int) (E : List S80) : Int × Int :=
  if K < 1 then (0, 1) else if K > 64 then (0, 1) else if N < 1 then (0, 3) else if N > 1024 then (0, 3) else if (S.length : Int) > 65536 then (0, 3) else if (E.length : Int) > 65536 then (0, 3) else if (F.length : Int) ≠ N then (0, 31)
  else if idxBy (fun x => !stB N x) S ≥ 0 then (idxBy (fun x => !stB N x) S, 32) else if idxBy outB F ≥ 0 then (idxBy outB F, 33) else fI.e K N E 0
set_option maxHeartbeats 4000000 in
set_option maxRecDepth 100000 in
theorem Check_walk (K N : Int) (A2 : Option Addr) (c2 : Nat) (S : List Int) (A3 : Option Addr) (c3 : Nat) (F : List Int) (A4 : Option Addr) (c4 : Nat) (E : List S80) (r1 r2 : Int) (w : World)
    (hr2 : Kd.C (Kd.int .i64) w A2 S.length S) (hr3 : Kd.C (Kd.int .i64) w A3 F.length F) (hr4 : Kd.C k80 w A4 E.length E) (h : fI.g K N S F E = (r1, r2)) :
    Calls Try.prog 15 #[.agg #[.int .i64 K, .int .i64 N, .slice A2 S.length c2, .slice A3 F.length c3, .slice A4 E.length c4]] w fun e w' => e = .returned (.tuple #[.int .i64 r1, .int .i64 r2]) ∧ Below w.heap.size w w' := by
  unfold fI.g at h
  have hu25 := Try.underlying25
  have hu80 := Try.underlying80
  have hu81 := Try.underlying81
  have HS := aC.mk hr2
  have HF := aC.mk hr3
  have HE := aC.mk hr4
  have HH := aC.mk h
  clear hr2 hr3 hr4 h
  by_cases q1 : K < 1
  · have H := HH.out
    rw [if_pos q1] at H
    simp only [Prod.mk.injEq] at H
    obtain ⟨rfl, rfl⟩ := H
    go_enter Try.func15, Try.ntmps15
    go_wp2
    go_ret2
    exact ⟨rfl, by repeat (first | exact Below.refl _ _ | apply aH)⟩
  by_cases q2 : K > 64
  · have H := HH.out
    rw [if_neg q1, if_pos q2] at H
    simp only [Prod.mk.injEq] at H
    obtain ⟨rfl, rfl⟩ := H
    go_enter Try.func15, Try.ntmps15
    go_wp2
    go_ret2
    exact ⟨rfl, by repeat (first | exact Below.refl _ _ | apply aH)⟩
  by_cases q3 : N < 1
  · have H := HH.out
    rw [if_neg q1, if_neg q2, if_pos q3] at H
    simp only [Prod.mk.injEq] at H
    obtain ⟨rfl, rfl⟩ := H
    go_enter Try.func15, Try.ntmps15
    go_wp2
    go_ret2
    exact ⟨rfl, by repeat (first | exact Below.refl _ _ | apply aH)⟩
  by_cases q4 : N > 1024
  · have H := HH.out
    rw [if_neg q1, if_neg q2, if_neg q3, if_pos q4] at H
    simp only [Prod.mk.injEq] at H
    obtain ⟨rfl, rfl⟩ := H
    go_enter Try.func15, Try.ntmps15
    go_wp2
    go_ret2
    exact ⟨rfl, by repeat (first | exact Below.refl _ _ | apply aH)⟩
  by_cases q5 : (S.length : Int) > 65536
  · have H := HH.out
    rw [if_neg q1, if_neg q2, if_neg q3, if_neg q4, if_pos q5] at H
    simp only [Prod.mk.injEq] at H
    obtain ⟨rfl, rfl⟩ := H
    have q5b : decide (65536 < S.length) = true := decide_eq_true (by omega)
    go_enter Try.func15, Try.ntmps15
    go_wp2
    go_ret2
    exact ⟨rfl, by repeat (first | exact Below.refl _ _ | apply aH)⟩
  by_cases q6 : (E.length : Int) > 65536
  · have H := HH.out
    rw [if_neg q1, if_neg q2, if_neg q3, if_neg q4, if_neg q5, if_pos q6] at H
    simp only [Prod.mk.injEq] at H
    obtain ⟨rfl, rfl⟩ := H
    have q6b : decide (65536 < E.length) = true := decide_eq_true (by omega)
    have q5b : decide (65536 < S.length) = false := decide_eq_false (by omega)
    go_enter Try.func15, Try.ntmps15
    go_wp2
    go_ret2
    exact ⟨rfl, by repeat (first | exact Below.refl _ _ | apply aH)⟩
  by_cases q7 : (F.length : Int) ≠ N
  · have H := HH.out
    rw [if_neg q1, if_neg q2, if_neg q3, if_neg q4, if_neg q5, if_neg q6, if_pos q7] at H
    simp only [Prod.mk.injEq] at H
    obtain ⟨rfl, rfl⟩ := H
    have q7b : ((F.length : Int) != N) = true := by simpa using q7
    clear q7
    go_enter Try.func15, Try.ntmps15
    go_wp2
    go_ret2
    exact ⟨rfl, by repeat (first | exact Below.refl _ _ | apply aH)⟩
  have hS1 : decide (65536 < S.length) = false := decide_eq_false (by omega)
  have hE1 : decide (65536 < E.length) = false := decide_eq_false (by omega)
  have hS2 : decide (65536 < (S.length : Int)) = false := decide_eq_false (by omega)
  have hE2 : decide (65536 < (E.length : Int)) = false := decide_eq_false (by omega)
  have q7b : ((F.length : Int) != N) = false := by simpa using q7
  have H := HH.out
  rw [if_neg q1, if_neg q2, if_neg q3, if_neg q4, if_neg q5, if_neg q6, if_neg q7] at H
  clear HH
  have Q5 := aC.mk q5
  have Q6 := aC.mk q6
  have Q7 := aC.mk q7
  clear q5 q6 q7
  -- the two blocks that are laid first
  obtain ⟨W, hW⟩ : ∃ W, W = (w.alloc (.cells #[.int .i64 K, .int .i64 N, .slice A2 S.length c2, .slice A3 F.length c3, .slice A4 E.length c4] 25)).alloc (.cells #[.func (.func 52) #[] #[.pointer (some ⟨w.heap.size, 0, none⟩)]] 81) := ⟨_, rfl⟩
  have hWb : Below w.heap.size w W := by rw [hW]; exact aH (aH (Below.refl _ _) _) _
  have hWs : W.heap.size = w.heap.size + 2 := by rw [hW]; simp
  have hf : W.cell? ⟨w.heap.size + 1, 0, none⟩ = some (.func (.func 52) #[] #[.pointer (some ⟨w.heap.size, 0, none⟩)]) := by
    rw [hW, World.cell?_alloc_at _ _ _ _ (by simp)]
    rfl
  have hc0 : ∀ j v, #[Value.int .i64 K, .int .i64 N, .slice A2 S.length c2, .slice A3 F.length c3, .slice A4 E.length c4][j]? = some v → W.cell? ⟨w.heap.size, j, none⟩ = some v := by
    intro j v hj
    rw [hW, World.cell?_alloc_past _ _ _ (by simp), World.cell?_alloc_at _ _ _ _ rfl]
    exact hj
  have hK : W.cell? ⟨w.heap.size, 0, none⟩ = some (.int .i64 K) := hc0 0 _ rfl
  have hN : W.cell? ⟨w.heap.size, 1, none⟩ = some (.int .i64 N) := hc0 1 _ rfl
  have hc3 : W.cell? ⟨w.heap.size, 3, none⟩ = some (.slice A3 F.length c3) := hc0 3 _ rfl
  have hc4 : W.cell? ⟨w.heap.size, 4, none⟩ = some (.slice A4 E.length c4) := hc0 4 _ rfl
  have cS := fun (W' : World) (hb : Below W.heap.size W W') => IndexFunc_calls 54 #[.pointer (some ⟨w.heap.size + 1, 0, none⟩)] (fun x => !stB N x) A2 c2 S W' (Kd.ak (Kd.ak HS.out hWb) hb) enters54 (notState_pred N w.heap.size (w.heap.size + 1) W' (by have := hb.size; omega) (by have := hb.size; omega) ((hb.cell (p := ⟨w.heap.size + 1, 0, none⟩) (by show w.heap.size + 1 < W.heap.size; omega)).trans hf) ((hb.cell (p := ⟨w.heap.size, 1, none⟩) (by show w.heap.size < W.heap.size; omega)).trans hN))
  have cF := fun (W' : World) (hb : Below W.heap.size W W') => IndexFunc_calls 55 #[] outB A3 c3 F W' (Kd.ak (Kd.ak HF.out hWb) hb) enters55 (out_pred W')
  generalize hi5 : idxBy (fun x => !stB N x) S = i5 at H cS
  generalize hi6 : idxBy outB F = i6 at H cF
  have HF0 := aC.mk hf
  have HN0 := aC.mk hN
  have HC0 := aC.mk hc0
  have HWB := aC.mk hWb
  have HWS := aC.mk hWs
  have HEW := aC.mk (Kd.ak HE.out hWb)
  clear hi5 hi6 hN hc0 hWb hWs HS HF HE
  by_cases q8 : i5 ≥ 0
  · rw [if_pos q8] at H
    simp only [Prod.mk.injEq] at H
    obtain ⟨rfl, rfl⟩ := H
    go_enter Try.func15, Try.ntmps15
    go_wp2_with fail
    rw [← hW]
    clear hW
    refine (cS W (Below.refl _ _)).mono ?_
    rintro e w1 ⟨rfl, ⟨n1, rfl⟩⟩
    go_wp2
    go_ret2
    exact ⟨rfl, aG HWB.out _⟩
  · rw [if_neg q8] at H
    by_cases q9 : i6 ≥ 0
    · rw [if_pos q9] at H
      simp only [Prod.mk.injEq] at H
      obtain ⟨rfl, rfl⟩ := H
      go_enter Try.func15, Try.ntmps15
      go_wp2_with fail
      rw [← hW]
      clear hW
      refine (cS W (Below.refl _ _)).mono ?_
      rintro e w1 ⟨rfl, ⟨n1, rfl⟩⟩
      go_wp2_with (go_at_call 53; refine (cF _ (aG (Below.refl _ _) _)).mono ?_; rintro e w1 ⟨rfl, ⟨n2, rfl⟩⟩)
      go_ret2
      exact ⟨rfl, aG HWB.out _⟩
    · rw [if_neg q9] at H
      have HA := aC.mk H
      clear H
      go_enter Try.func15, Try.ntmps15
      go_wp2_with fail
      rw [← hW]
      clear hW
      refine (cS W (Below.refl _ _)).mono ?_
      rintro e w1 ⟨rfl, ⟨n1, rfl⟩⟩
      go_wp2_with (go_at_call 53; refine (cF _ (aG (Below.refl _ _) _)).mono ?_; rintro e w1 ⟨rfl, ⟨n2, rfl⟩⟩)
      go_loopw [59] (fun v59 wr => ∃ i : Nat, v59 = .int .i64 (i : Int) ∧ aC (i ≤ E.length) ∧ aC (Below W.heap.size W wr) ∧ aC (fI.e K N (E.drop i) (i : Int) = (r1, r2))) (fun v59 _ => E.length - (intOf v59).toNat)
      case atStart => exact ⟨0, rfl, ⟨by omega⟩, ⟨aG (Below.refl _ _) _⟩, ⟨HA.out⟩⟩
      case round =>
        clear HA
        obtain ⟨i, rfl, HI, HB, HA⟩ := hrel
        have hi := HI.out
        have H := HA.out
        clear HA
        by_cases hlt : i < E.length
        · have hd : E.drop i = ig E i :: E.drop (i + 1) := by
            rw [List.drop_eq_getElem_cons hlt]
            simp [ig, List.getD_eq_getElem?_getD, List.getElem?_eq_getElem hlt]
          rw [hd] at H
          simp only [fI.e] at H
          clear hd
          obtain ⟨ad, ead, hx0, hx1, hx2⟩ := at_T80 (Kd.ak HEW.out HB.out) (i : Int) (by omega) (by omega)
          cases ead
          rw [Int.toNat_natCast] at hx0 hx1 hx2
          have hfw : wr.cell? ⟨w.heap.size + 1, 0, none⟩ = some (.func (.func 52) #[] #[.pointer (some ⟨w.heap.size, 0, none⟩)]) := (HB.out.cell (p := ⟨w.heap.size + 1, 0, none⟩) (by have := HWS.out; show w.heap.size + 1 < W.heap.size; omega)).trans hf
          have hKw : wr.cell? ⟨w.heap.size, 0, none⟩ = some (.int .i64 K) := (HB.out.cell (p := ⟨w.heap.size, 0, none⟩) (by have := HWS.out; show w.heap.size < W.heap.size; omega)).trans hK
          have hle1 : w.heap.size < wr.heap.size := by have := HWS.out; have := HB.out.size; omega
          have hle2 : w.heap.size + 1 < wr.heap.size := by have := HWS.out; have := HB.out.size; omega
          have cA := fun (W' : World) (hb : Below W.heap.size W W') => state_calls N (ig E i).f0 w.heap.size W' ((hb.cell (p := ⟨w.heap.size, 1, none⟩) (by have := HWS.out; show w.heap.size < W.heap.size; omega)).trans HN0.out)
          have cC := fun (W' : World) (hb : Below W.heap.size W W') => state_calls N (ig E i).f2 w.heap.size W' ((hb.cell (p := ⟨w.heap.size, 1, none⟩) (by have := HWS.out; show w.heap.size < W.heap.size; omega)).trans HN0.out)
          generalize ig E i = x at H hx0 hx1 hx2 cA cC
          obtain ⟨xa, xb, xc⟩ := x
          simp only [] at H hx0 hx1 hx2 cA cC
          generalize stB N xa = b1 at H cA
          generalize stB N xc = b2 at H cC
          clear cS cF hf hK hc3 hc4
          have HLT := aC.mk hlt
          have hEb : E.length ≤ 65536 := by have := Q6.out; omega
          cases b1 with
          | false =>
            rw [if_pos (show (!false) = true from rfl)] at H
            simp only [Prod.mk.injEq] at H
            obtain ⟨rfl, rfl⟩ := H
            go_wp2_with (go_at_call 52; first | ((with_reducible refine (cA _ ?s1).mono ?_); (case s1 => exact aH HB.out _); rintro e w' ⟨rfl, rfl⟩) | ((with_reducible refine (cC _ ?s2).mono ?_); (case s2 => exact aH HB.out _); rintro e w' ⟨rfl, rfl⟩))
            go_ret2
            exact ⟨rfl, di HWB.out HWB.out.size (aH HB.out _)⟩
          | true =>
            rw [if_neg (by simp)] at H
            cases b2 with
            | false =>
              rw [if_pos (show (!false) = true from rfl)] at H
              simp only [Prod.mk.injEq] at H
              obtain ⟨rfl, rfl⟩ := H
              go_wp2_with (go_at_call 52; first | ((with_reducible refine (cA _ ?s1).mono ?_); (case s1 => exact aH HB.out _); rintro e w' ⟨rfl, rfl⟩) | ((with_reducible refine (cC _ ?s2).mono ?_); (case s2 => exact aH HB.out _); rintro e w' ⟨rfl, rfl⟩))
              go_ret2
              exact ⟨rfl, di HWB.out HWB.out.size (aH HB.out _)⟩
            | true =>
              rw [if_neg (by simp)] at H
              by_cases e1 : xb < -1
              · rw [if_pos e1] at H
                simp only [Prod.mk.injEq] at H
                obtain ⟨rfl, rfl⟩ := H
                go_wp2_with (go_at_call 52; first | ((with_reducible refine (cA _ ?s1).mono ?_); (case s1 => exact aH HB.out _); rintro e w' ⟨rfl, rfl⟩) | ((with_reducible refine (cC _ ?s2).mono ?_); (case s2 => exact aH HB.out _); rintro e w' ⟨rfl, rfl⟩))
                go_ret2
                exact ⟨rfl, di HWB.out HWB.out.size (aH HB.out _)⟩
              · rw [if_neg e1] at H
                by_cases e2 : xb ≥ K
                · rw [if_pos e2] at H
                  simp only [Prod.mk.injEq] at H
                  obtain ⟨rfl, rfl⟩ := H
                  go_wp2_with (go_at_call 52; first | ((with_reducible refine (cA _ ?s1).mono ?_); (case s1 => exact aH HB.out _); rintro e w' ⟨rfl, rfl⟩) | ((with_reducible refine (cC _ ?s2).mono ?_); (case s2 => exact aH HB.out _); rintro e w' ⟨rfl, rfl⟩))
                  go_ret2
                  exact ⟨rfl, di HWB.out HWB.out.size (aH HB.out _)⟩
                · rw [if_neg e2] at H
                  go_wp2_with (go_at_call 52; first | ((with_reducible refine (cA _ ?s1).mono ?_); (case s1 => exact aH HB.out _); rintro e w' ⟨rfl, rfl⟩) | ((with_reducible refine (cC _ ?s2).mono ?_); (case s2 => exact aH HB.out _); rintro e w' ⟨rfl, rfl⟩))
                  go_roundw
                  case rel => exact ⟨i + 1, by go_num, ⟨by have := HLT.out; omega⟩, ⟨aH HB.out _⟩, ⟨H⟩⟩
                  case measure => have := HLT.out; simp [intOf]; omega
        · rw [List.drop_of_length_le (by omega)] at H
          simp only [fI.e, Prod.mk.injEq] at H
          obtain ⟨rfl, rfl⟩ := H
          go_wp2
          go_ret2
          exact ⟨rfl, di HWB.out HWB.out.size HB.out⟩
end Go.Proofs.Ytkaefgmgcghhiaa.X
end
