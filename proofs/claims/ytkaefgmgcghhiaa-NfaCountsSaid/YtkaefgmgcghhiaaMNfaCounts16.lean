/- Texts of the statement NfaCounts, one behind the other: Go functions as Lean functions, the machine's calls, the plain law. -/
import Derived.Test.YtkaefgmgcghhiaaMNfaCounts4
import Derived.Test.YtkaefgmgcghhiaaMNfaCounts5
import Derived.Test.YtkaefgmgcghhiaaMNfaCounts14
import Derived.Deep.WholeRow
import Derived.Great.BuildSlice
import Derived.Laws.CopyOwn
set_option linter.unusedVariables false
set_option linter.unusedSimpArgs false
section
namespace Go.Proofs.Ytkaefgmgcghhiaa.X
open Go.RowKit Go.Proofs.YtkaefgmgcghhiaaW.PrintWords Go.Proofs.YtkaefgmgcghhiaaW.PrintLast Go.Proofs.YtkaefgmgcghhiaaW.PrintMore
theorem info88 : (Try.prog.info? 88).map (fun i => (i.zero, i.size)) = some (some (.agg (Array.replicate 16 (.int .u64 0))), 16) := by kernel_rfl
def clRow : List S80 → List Nat → List Int → Option (List Nat × List Int)
  | [], s, wt => some (s, wt)
  | x :: r, s, wt => if x.f1 = -1 then (if 0 ≤ x.f2 ∧ x.f2 < 1024 then (if mem s x.f2.toNat = true then clRow r s wt else if wt.length < 1099511627776 then clRow r (ins s x.f2.toNat) (wt ++ [x.f2]) else none) else none) else clRow r s wt
def clF (N : Int) (fr : List (List S80)) : Nat → List Nat → List Int → Option (List Nat)
  | 0, _, _ => none
  | k + 1, s, wt => if 0 < wt.length then (if wt.length < 1099511627776 ∧ 0 ≤ rd wt ((wt.length : Int) - 1) ∧ rd wt ((wt.length : Int) - 1) < N then (match clRow (fr.getD (rd wt ((wt.length : Int) - 1)).toNat []) s (wt.take (wt.length - 1)) with | none => none | some (s1, wt1) => clF N fr k s1 wt1) else none) else some s
theorem SetAt.below {w w1 : World} {b : Nat} {ws : List Nat} (h : SetAt w b ws) (hb : Below w.heap.size w w1) : SetAt w1 b ws := ⟨h.1, av h.2 hb⟩
/-- A set that is filled, what waits, and what stays. -/
def ClAt (w0 : World) (b b2 : Nat) (s : List Nat) (v : Value) (wt : List Int) (w : World) : Prop :=
  SetAt w b s ∧ Kd.R (Kd.int .i64) 3 w w0.heap.size (fun _ => True) v wt ∧ Below w0.heap.size w0 w ∧ w.heap[b2]? = some (.cells (Array.replicate 16 (.int .u64 0)) 88 (0, 0)) ∧ w0.heap.size ≤ b ∧ b2 ≠ b
theorem ClAt.below {w0 w w1 : World} {b b2 : Nat} {s : List Nat} {v : Value} {wt : List Int} (h : ClAt w0 b b2 s v wt w) (hb : Below w.heap.size w w1) : ClAt w0 b b2 s v wt w1 :=
  ⟨h.1.below hb, Kd.dz h.2.1 hb, di h.2.2.1 h.2.2.1.size hb, av h.2.2.2.1 hb, h.2.2.2.2⟩
theorem ClAt.put {w0 w w1 : World} {b b2 : Nat} {s s1 : List Nat} {v : Value} {wt : List Int} (h : ClAt w0 b b2 s v wt w) (hs : SetAt w1 b s1) (hb : Below b w w1) (hk : KeepBut w w1 b none) : ClAt w0 b b2 s1 v wt w1 := by
  have hne : some b ≠ v.ownBlock := Kd.jL h.2.1 h.1.2 (by decide)
  refine ⟨hs, Kd.dB (Kd.R_keep (Kd.j6 rfl h.2.1) hk (fun k hk he => hne (by rw [← hk, he]))) (fun _ _ => trivial), below_weaken h.2.2.1 h.2.2.2.2.1 hb, ?_, h.2.2.2.2⟩
  exact (hk.2 b2 (gq h.2.2.2.1) h.2.2.2.2.2 (by simp)).trans h.2.2.2.1
theorem ClAt.app {w0 w w1 : World} {b b2 : Nat} {s : List Nat} {v v1 : Value} {wt wt1 : List Int} (h : ClAt w0 b b2 s v wt w) (hr : Kd.R (Kd.int .i64) 3 w1 w0.heap.size (fun _ => True) v1 wt1) (hb : Below w0.heap.size w0 w1) (hg : w.grownBy w1 v.ownBlock) : ClAt w0 b b2 s v1 wt1 w1 :=
  ⟨⟨h.1.1, cZ h.1.2 hg (Kd.jL h.2.1 h.1.2 (by decide))⟩, hr, hb, cZ h.2.2.2.1 hg (Kd.jL h.2.1 h.2.2.2.1 (by decide)), h.2.2.2.2⟩
theorem ClAt.cut {w0 w : World} {b b2 : Nat} {s : List Nat} {A : Option Addr} {n c m : Nat} {wt : List Int} (h : ClAt w0 b b2 s (.slice A n c) wt w) (hm : m ≤ wt.length) : ClAt w0 b b2 s (.slice A m c) (wt.take m) w :=
  ⟨h.1, Kd.R_take h.2.1 hm, h.2.2⟩
set_option maxHeartbeats 4000000 in
set_option maxRecDepth 100000 in
theorem closed_walk (k rb c : Nat) (K N : Int) (sv fv ev v : Value) (fr : List (List S80)) (s t : List Nat) (wt : List Int) (w0 w : World) (base : Nat)
    (hN : 1 ≤ N ∧ N ≤ 1024) (hfr : (fr.length : Int) = N) (hfl : ∀ j, (fr.getD j []).length ≤ 65536) (hR : RunAt w0 base rb K N sv fv ev fr) (hB : Below w0.heap.size w0 w) (hs : IsSet s) (hw : Kd.R (Kd.int .i64) 3 w w0.heap.size (fun _ => True) v wt) (h : clF N fr k s wt = some t) :
    Calls Try.prog 90 #[.pointer (some ⟨rb, 0, none⟩), .agg (wordsOf s).toArray, v] w fun e w' => e = .returned (.agg (wordsOf t).toArray) ∧ IsSet t ∧ Below w0.heap.size w0 w' := by
  have hu80 := Try.underlying80
  have hu134 := Try.underlying134
  have hu132 := Try.underlying132
  have hu23 := Try.underlying23
  have hu22 := Try.underlying22
  obtain ⟨g, vs, hrb, hbr, hrow⟩ := hR
  have HRB := aC.mk hrb
  have HRO := aC.mk hrow
  have HB := aC.mk hB
  have HS := aC.mk hs
  have HW := aC.mk hw
  have HH := aC.mk h
  obtain ⟨hN1, hN2⟩ := hN
  obtain ⟨A0, c0, rfl⟩ := Kd.bu hw
  clear hrb hrow hB hs hw h
  obtain ⟨z88, i88⟩ := zero_of_info info88
  go_enter Try.func90, Try.ntmps90
  go_wp2
  have hC0 : ClAt w0 w.heap.size (w.heap.size + 1) s (.slice A0 wt.length c0) wt ((w.alloc (.cells (wordsOf s).toArray 88)).alloc (.cells (Array.replicate 16 (.int .u64 0)) 88)) := by
    have hb := aH (aH (Below.refl w.heap.size w) (.cells (wordsOf s).toArray 88)) (.cells (Array.replicate 16 (.int .u64 0)) 88)
    refine ⟨⟨HS.out, aW (dH _ _) _⟩, Kd.dz HW.out hb, di HB.out HB.out.size hb, ?_, HB.out.size, by omega⟩
    have h := dH (w.alloc (.cells (wordsOf s).toArray 88)) (.cells (Array.replicate 16 (.int .u64 0)) 88)
    simpa using h
  go_loopg [2] k (fun kq v2 wr => ∃ (s1 : List Nat) (wt1 : List Int), aC (clF N fr kq s1 wt1 = some t) ∧ aC (kq ≤ k) ∧ aC (ClAt w0 w.heap.size (w.heap.size + 1) s1 v2 wt1 wr))
  case atStart => exact ⟨s, wt, HH, ⟨Nat.le_refl _⟩, ⟨hC0⟩⟩
  case round =>
    clear HH hC0
    obtain ⟨s1, wt1, HA, HK1, HC⟩ := hrel
    cases gk with
    | zero => exact absurd HA.out (by simp [clF])
    | succ k1 =>
      have H := HA.out
      clear HA
      simp only [clF] at H
      obtain ⟨A1, c1, rfl⟩ := Kd.bu HC.out.2.1
      by_cases c2 : 0 < wt1.length
      · rw [if_pos c2] at H
        by_cases c3 : wt1.length < 1099511627776 ∧ 0 ≤ rd wt1 ((wt1.length : Int) - 1) ∧ rd wt1 ((wt1.length : Int) - 1) < N
        · rw [if_pos c3] at H
          obtain ⟨c3l, c3a, c3b⟩ := c3
          have c3n : (wt1.length : Int) ≤ 1099511627776 := by omega
          have c3m : 1 ≤ (wt1.length : Int) := by omega
          obtain ⟨ad, ead, hx⟩ := Kd.cz (Kd.bX HC.out.2.1).2.2 ((wt1.length : Int) - 1) (by omega) (by omega)
          cases ead
          rw [show ((wt1.length : Int) - 1).toNat = wt1.length - 1 by omega] at hx
          generalize rd wt1 ((wt1.length : Int) - 1) = i at H c3a c3b hx
          cases hq : clRow (fr.getD i.toNat []) s1 (wt1.take (wt1.length - 1)) with
          | none => rw [hq] at H; exact absurd H (by simp)
          | some p =>
            obtain ⟨s3, wt3⟩ := p
            rw [hq] at H
            simp only [] at H
            have HH := aC.mk H
            clear H
            have hrb := av HRB.out HC.out.2.2.1
            have hcell5 := (aD hrb 5).trans rfl
            obtain ⟨vr, hv⟩ : ∃ vr, vs[i.toNat]? = some vr := ⟨_, List.getElem?_eq_getElem (by rw [HRO.out.2.1]; omega)⟩
            have hl : fr[i.toNat]? = some (fr.getD i.toNat []) := by
              rw [List.getD_eq_getElem?_getD, List.getElem?_eq_getElem (by omega)]
              rfl
            have hR1 := HRO.out.2.2.2.1 i.toNat vr _ hv hl
            have hgc := (aD (av HRO.out.1 HC.out.2.2.1) i.toNat).trans (by simpa using hv)
            have hll := hfl i.toNat
            generalize fr.getD i.toNat [] = l at hq hR1 hl hll
            obtain ⟨A2, c2', rfl, hlc, hR2⟩ := Kd.R_reads hR1
            have HL2 := aC.mk (hR2)
            have HQ := aC.mk hq
            have hmx : max N 0 = N := by omega
            clear hR1 hR2 hq hv hl hrb
            have hcap := (Kd.bX HC.out.2.1).2.1
            have hcap2 : (wt1.length : Int) - 1 ≤ (c1 : Int) := by omega
            have hc1 : ¬ c1 = 0 := by omega
            have had0 : ad.add 0 = ad := by simp [Addr.add]
            have HAD := aC.mk had0
            have HC3 := aC.mk c3l
            go_wp2
            clear hcell5 hgc hx hcap hcap2 hc1 had0 hmx hu132 hu134
            go_loopw [32, 2] (fun v32 v2 wr2 => ∃ (j : Nat) (s2 : List Nat) (wt2 : List Int), v32 = .int .i64 (j : Int) ∧ aC (j ≤ l.length) ∧ aC (clRow (l.drop j) s2 wt2 = some (s3, wt3)) ∧ aC (ClAt w0 w.heap.size (w.heap.size + 1) s2 v2 wt2 wr2)) (fun v32 _ _ => l.length - (intOf v32).toNat)
            case atStart =>
              refine ⟨0, s1, _, rfl, ⟨by omega⟩, HQ, ⟨?_⟩⟩
              exact HC.out.cut (by omega)
            case round =>
              clear HQ HC
              obtain ⟨j, s2, wt2, rfl, HJ, HQ, HC⟩ := hrel
              obtain ⟨A3, c3', rfl⟩ := Kd.bu HC.out.2.1
              by_cases hlt : j < l.length
              · have HQ2 := HQ.out
                have hd : l.drop j = ig l j :: l.drop (j + 1) := by
                  rw [List.drop_eq_getElem_cons hlt]
                  simp [ig, List.getD_eq_getElem?_getD, List.getElem?_eq_getElem hlt]
                rw [hd] at HQ2
                clear HQ hd
                simp only [clRow] at HQ2
                obtain ⟨ad, ead, hx0, hx1, hx2⟩ := at_T80 (Kd.ak HL2.out HC.out.2.2.1) (j : Int) (by omega) (by omega)
                cases ead
                rw [Int.toNat_natCast] at hx0 hx1 hx2
                generalize ig l j = x at HQ2 hx0 hx1 hx2
                obtain ⟨xa, xb, xc⟩ := x
                simp only [] at HQ2 hx0 hx1 hx2
                have HLT := aC.mk hlt
                by_cases e1 : xb = -1
                · subst e1
                  rw [if_pos rfl] at HQ2
                  by_cases e2 : 0 ≤ xc ∧ xc < 1024
                  · rw [if_pos e2] at HQ2
                    obtain ⟨e2a, e2b⟩ := e2
                    have HX := dH wr (.cells #[.int .i64 xa, .int .i64 (-1), .int .i64 xc] 80)
                    have hC1 := HC.out.below (aH (Below.refl _ _) (.cells #[.int .i64 xa, .int .i64 (-1), .int .i64 xc] 80))
                    have hcall := has_calls w.heap.size xc s2 _ e2a e2b hC1.1
                    cases hm : mem s2 xc.toNat with
                    | true =>
                      rw [hm] at HQ2 hcall
                      rw [if_pos rfl] at HQ2
                      have HH2 := aC.mk HQ2
                      have HC1 := aC.mk hC1
                      clear HQ2 hm hC1 HX
                      go_wp2_with (go_at_call 88; refine hcall.mono ?_; rintro e w' ⟨rfl, rfl⟩)
                      go_roundw
                      case rel => exact ⟨j + 1, s2, wt2, by go_num, ⟨by have := HLT.out; omega⟩, HH2, HC1⟩
                      case measure => have := HLT.out; simp [intOf]; omega
                    | false =>
                      rw [hm] at HQ2 hcall
                      rw [if_neg (by simp)] at HQ2
                      by_cases e3 : wt2.length < 1099511627776
                      · rw [if_pos e3] at HQ2
                        have HH2 := aC.mk HQ2
                        have HC1 := aC.mk hC1
                        have hput := put_calls w.heap.size xc s2 _ e2a e2b hC1.1
                        have HXX := aC.mk HX
                        have hlt2 := gq HC.out.1.2
                        clear HQ2 hm hC1 HX HC
                        go_wp2_with (first | (go_at_call 88; refine hcall.mono ?_; rintro e w' ⟨rfl, rfl⟩) | (go_at_call 89; refine hput.mono ?_; rintro e w5 ⟨rfl, hs5, hb5, hk5⟩; have hC5 := HC1.out.put hs5 hb5 hk5; have hx5 := (aD ((hk5.2 wr.heap.size (gq HXX.out) (by omega) (by simp)).trans HXX.out) 2).trans rfl; clear hs5 hb5 hk5) | ((with_reducible refine dF (b := .append) (xs := #[.tmp 48, .tmp 51]) rfl ?_); at_builtin; (refine Kd.iP (Kd.int .i64) (w0 := w0) w0.heap.size rfl (.tmp 48) (.tmp 51) 22 3 (.int .i64 0) 8 rfl Try.underlying22 info3 rfl (by decide) (by omega) (.slice A3 wt2.length c3') wt2 xc [.int .i64 xc] (fun _ => True) (fun _ => False) rfl rfl ?aP (fun _ hk => hk.elim) ?aF ?aO ?aB ?aS ?aL ?_; (case aP => exact rfl); (case aB => exact hC5.2.2.1); (case aF => exact (fun _ _ => trivial)); (case aO => exact hC5.2.1); (case aS => exact hC5.2.2.1.size); (case aL => omega); intro v6 w6 ho hb hg hat; have HC6 := aC.mk (hC5.app ho hb hg); clear hC5 hx5 ho hb hg hat)))
                        go_roundw
                        case rel => exact ⟨j + 1, ins s2 xc.toNat, wt2 ++ [xc], by go_num, ⟨by have := HLT.out; omega⟩, HH2, HC6⟩
                        case measure => have := HLT.out; simp [intOf]; omega
                      · rw [if_neg e3] at HQ2; exact absurd HQ2 (by simp)
                  · rw [if_neg e2] at HQ2; exact absurd HQ2 (by simp)
                · rw [if_neg e1] at HQ2
                  have HH2 := aC.mk HQ2
                  have e1b : (xb == -1) = false := beq_eq_false_iff_ne.mpr e1
                  clear HQ2 e1
                  go_wp2
                  go_roundw
                  case rel => exact ⟨j + 1, s2, wt2, by go_num, ⟨by have := HLT.out; omega⟩, HH2, ⟨HC.out.below (aH (Below.refl _ _) _)⟩⟩
                  case measure => have := HLT.out; simp [intOf]; omega
              · have HQ2 := HQ.out
                rw [List.drop_of_length_le (by omega)] at HQ2
                simp only [clRow, Option.some.injEq, Prod.mk.injEq] at HQ2
                obtain ⟨rfl, rfl⟩ := HQ2
                have hlt' : ¬ ((j : Int) < (l.length : Int)) := by omega
                go_wp2
                go_roundg k1
                case rel => exact ⟨s2, wt2, HH, ⟨by have := HK1.out; omega⟩, HC⟩
                case measure => have := HK1.out; omega
        · rw [if_neg c3] at H; exact absurd H (by simp)
      · rw [if_neg c2] at H
        simp only [Option.some.injEq] at H
        subst H
        have hlw : (wordsOf s1).toArray.size = 16 := by simp [wordsOf, HC.out.1.1.1]
        have hone : ∀ q ∈ (wordsOf s1).toArray, q.oneCell' = true := by
          intro q hq
          simp only [wordsOf, List.mem_toArray, List.mem_map] at hq
          obtain ⟨n, _, rfl⟩ := hq
          rfl
        have c2b : ¬ (0 : Int) < (wt1.length : Int) := by omega
        go_wp2_with (first | ((with_reducible refine bK (N := 54) rfl ?_); refine wpList_load_row rfl 88 (.tmp 4) rfl w.heap.size rfl 88 (wordsOf s1).toArray (0, 0) _ HC.out.1.2 Try.underlying88 rfl ?_ ?_; (focus (rw [i88, hlw])); refine wpList_store_rowTo rfl 88 (.tmp 6) (.tmp 54) rfl rfl (w.heap.size + 1) (wordsOf s1).toArray rfl rfl 88 _ HC.out.2.2.2.1 ?_ ?_ ?_ ?_; (focus (rw [i88, hlw])); (focus (rw [hlw]; simp)); (focus (exact Array.all_eq_true_iff_forall_mem.2 hone))))
        have hblk := setRow_heap wr (w.heap.size + 1) _ (wordsOf s1).toArray 88 (0, 0) HC.out.2.2.2.1
        refine bodyPost_ret (results_cell_row rfl _ _ (w.heap.size + 1) 88 (wordsOf s1).toArray (0, 0) _ rfl hblk Try.underlying88 rfl (by rw [i88, hlw])) rfl ?_
        exact ⟨rfl, HC.out.1.1, below_setRow HC.out.2.2.1 (by have := HB.out.size; omega) _⟩
end Go.Proofs.Ytkaefgmgcghhiaa.X
end

section
namespace Go.Proofs.Ytkaefgmgcghhiaa.X
open Go.RowKit Go.Proofs.YtkaefgmgcghhiaaW.PrintWords Go.Proofs.YtkaefgmgcghhiaaW.PrintLast Go.Proofs.YtkaefgmgcghhiaaW.PrintMore
theorem RunAt.below {w w1 : World} {base rb : Nat} {K N : Int} {sv fv ev : Value} {fr : List (List S80)} (h : RunAt w base rb K N sv fv ev fr) (hb : Below w.heap.size w w1) : RunAt w1 base rb K N sv fv ev fr := by
  obtain ⟨g, vs, h1, h2, h3⟩ := h
  exact ⟨g, vs, av h1 hb, h2, h3.below hb⟩
def none16 : List Nat := List.replicate 16 0
theorem none16_set : IsSet none16 := ⟨by simp [none16], fun x hx => by rw [none16] at hx; rw [List.eq_of_mem_replicate hx]; omega⟩
theorem dx {s : List Nat} (h : IsSet s) : (wordsOf s).toArray.size = 16 := by simp [wordsOf, h.1]
theorem set_one (s : List Nat) : ((wordsOf s).toArray.all (·.oneCell')) = true := by
  refine Array.all_eq_true_iff_forall_mem.2 fun q hq => ?_
  simp only [wordsOf, List.mem_toArray, List.mem_map] at hq
  obtain ⟨n, _, rfl⟩ := hq
  rfl
def stRow : List Int → List Nat → List Int → Option (List Nat × List Int)
  | [], s, wt => some (s, wt)
  | i :: r, s, wt => if 0 ≤ i ∧ i < 1024 then (if mem s i.toNat = true then stRow r s wt else if wt.length < 1099511627776 then stRow r (ins s i.toNat) (wt ++ [i]) else none) else none
def startF (k : Nat) (N : Int) (fr : List (List S80)) (S : List Int) : Option (List Nat) :=
  match stRow S none16 [] with
  | none => none
  | some (s, wt) => clF N fr k s wt
set_option maxHeartbeats 4000000 in
set_option maxRecDepth 100000 in
theorem start_walk (k rb : Nat) (K N : Int) (A2 : Option Addr) (c2 : Nat) (S : List Int) (fv ev : Value) (fr : List (List S80)) (t : List Nat) (w : World) (base : Nat)
    (hN : 1 ≤ N ∧ N ≤ 1024) (hfr : (fr.length : Int) = N) (hfl : ∀ j, (fr.getD j []).length ≤ 65536) (hR : RunAt w base rb K N (.slice A2 S.length c2) fv ev fr) (hS : Kd.C (Kd.int .i64) w A2 S.length S) (hSl : S.length ≤ 65536) (h : startF k N fr S = some t) :
    Calls Try.prog 58 #[.pointer (some ⟨rb, 0, none⟩)] w fun e w' => e = .returned (.agg (wordsOf t).toArray) ∧ IsSet t ∧ Below w.heap.size w w' := by
  have hu134 := Try.underlying134
  have hu25 := Try.underlying25
  have hu22 := Try.underlying22
  cases hq : stRow S none16 [] with
  | none => rw [startF, hq] at h; exact absurd h (by simp)
  | some p =>
    obtain ⟨s3, wt3⟩ := p
    rw [startF, hq] at h
    simp only [] at h
    have HH := aC.mk h
    have HQ0 := aC.mk hq
    have HR := aC.mk hR
    have HS := aC.mk hS
    have HSL := aC.mk hSl
    clear h hq hS
    obtain ⟨g, vs, hrb, hbr, hrow⟩ := hR
    obtain ⟨z88, i88⟩ := zero_of_info info88
    have hcell2 := (aD hrb 2).trans rfl
    have hlt0 := gq hrb
    clear hrow
    go_enter Try.func58, Try.ntmps58
    go_wp2
    obtain ⟨W0, hW0⟩ : ∃ W0, W0 = w.alloc (.cells (Array.replicate 16 (.int .u64 0)) 88) := ⟨_, rfl⟩
    have hb0 : Below w.heap.size w W0 := by rw [hW0]; exact aH (Below.refl _ _) _
    have hs0 : W0.heap.size = w.heap.size + 1 := by rw [hW0]; simp
    have hC0 : ClAt W0 (w.heap.size + 1) w.heap.size none16 (.slice none 0 0) [] ((w.alloc (.cells (Array.replicate 16 (.int .u64 0)) 88)).alloc (.cells (Array.replicate 16 (.int .u64 0)) 88)) := by
      rw [← hW0, ← hs0]
      refine ⟨⟨none16_set, dH W0 _⟩, Kd.jq _ _ _ _ _, aH (Below.refl _ _) _, ?_, by omega, by omega⟩
      refine aW ?_ _
      rw [hW0]
      exact dH _ _
    have HB0 := aC.mk hb0
    have HS0 := aC.mk hs0
    have HW0 := aC.mk hW0
    clear hb0 hs0 hW0 hcell2
    go_loopw [13, 4] (fun v13 v4 wr => ∃ (j : Nat) (s2 : List Nat) (wt2 : List Int), v13 = .int .i64 (j : Int) ∧ aC (j ≤ S.length) ∧ aC (stRow (S.drop j) s2 wt2 = some (s3, wt3)) ∧ aC (ClAt W0 (w.heap.size + 1) w.heap.size s2 v4 wt2 wr)) (fun v13 _ _ => S.length - (intOf v13).toNat)
    case atStart => exact ⟨0, _, _, rfl, ⟨by omega⟩, HQ0, ⟨hC0⟩⟩
    case round =>
      clear hC0 HQ0
      obtain ⟨j, s2, wt2, rfl, HJ, HQ, HC⟩ := hrel
      obtain ⟨A3, c3', rfl⟩ := Kd.bu HC.out.2.1
      have hll := HSL.out
      by_cases hlt : j < S.length
      · have HQ2 := HQ.out
        have hd : S.drop j = rd S j :: S.drop (j + 1) := by
          rw [List.drop_eq_getElem_cons hlt]
          simp [rd, List.getD_eq_getElem?_getD, List.getElem?_eq_getElem hlt]
        rw [hd] at HQ2
        clear HQ hd
        simp only [stRow] at HQ2
        obtain ⟨ad, ead, hx⟩ := Kd.cz (Kd.ak (Kd.ak HS.out HB0.out) (below_weaken HC.out.2.2.1 (Nat.le_refl _) (Below.refl _ _))) (j : Int) (by omega) (by omega)
        cases ead
        rw [Int.toNat_natCast] at hx
        generalize rd S (j : Int) = xc at HQ2 hx
        have HLT := aC.mk hlt
        by_cases e2 : 0 ≤ xc ∧ xc < 1024
        · rw [if_pos e2] at HQ2
          obtain ⟨e2a, e2b⟩ := e2
          have hcall := has_calls (w.heap.size + 1) xc s2 _ e2a e2b HC.out.1
          cases hm : mem s2 xc.toNat with
          | true =>
            rw [hm] at HQ2 hcall
            rw [if_pos rfl] at HQ2
            have HH2 := aC.mk HQ2
            clear HQ2 hm
            go_wp2_with (go_at_call 88; refine hcall.mono ?_; rintro e w' ⟨rfl, rfl⟩)
            go_roundw
            case rel => exact ⟨j + 1, s2, wt2, by go_num, ⟨by have := HLT.out; omega⟩, HH2, HC⟩
            case measure => have := HLT.out; simp [intOf]; omega
          | false =>
            rw [hm] at HQ2 hcall
            rw [if_neg (by simp)] at HQ2
            by_cases e3 : wt2.length < 1099511627776
            · rw [if_pos e3] at HQ2
              have HH2 := aC.mk HQ2
              have hput := put_calls (w.heap.size + 1) xc s2 _ e2a e2b HC.out.1
              clear HQ2 hm
              go_wp2_with (first | (go_at_call 88; refine hcall.mono ?_; rintro e w' ⟨rfl, rfl⟩) | (go_at_call 89; refine hput.mono ?_; rintro e w5 ⟨rfl, hs5, hb5, hk5⟩; have hC5 := HC.out.put hs5 hb5 hk5; clear hs5 hb5 hk5) | ((with_reducible refine dF (b := .append) (xs := #[.tmp 22, .tmp 24]) rfl ?_); at_builtin; (refine Kd.iP (Kd.int .i64) (w0 := W0) W0.heap.size rfl (.tmp 22) (.tmp 24) 22 3 (.int .i64 0) 8 rfl Try.underlying22 info3 rfl (by decide) (by omega) (.slice A3 wt2.length c3') wt2 xc [.int .i64 xc] (fun _ => True) (fun _ => False) rfl rfl ?aP (fun _ hk => hk.elim) ?aF ?aO ?aB ?aS ?aL ?_; (case aP => exact rfl); (case aB => exact hC5.2.2.1); (case aF => exact (fun _ _ => trivial)); (case aO => exact hC5.2.1); (case aS => exact hC5.2.2.1.size); (case aL => omega); intro v6 w6 ho hb hg hat; have HC6 := aC.mk (hC5.app ho hb hg); clear hC5 ho hb hg hat)))
              go_roundw
              case rel => exact ⟨j + 1, ins s2 xc.toNat, wt2 ++ [xc], by go_num, ⟨by have := HLT.out; omega⟩, HH2, HC6⟩
              case measure => have := HLT.out; simp [intOf]; omega
            · rw [if_neg e3] at HQ2; exact absurd HQ2 (by simp)
        · rw [if_neg e2] at HQ2; exact absurd HQ2 (by simp)
      · have HQ2 := HQ.out
        rw [List.drop_of_length_le (by omega)] at HQ2
        simp only [stRow, Option.some.injEq, Prod.mk.injEq] at HQ2
        obtain ⟨rfl, rfl⟩ := HQ2
        have hlt' : ¬ ((j : Int) < (S.length : Int)) := by omega
        have hcl := closed_walk k rb 0 K N _ fv ev (.slice A3 wt2.length c3') fr s2 t wt2 W0 wr base hN hfr hfl (HR.out.below HB0.out) HC.out.2.2.1 HC.out.1.1 HC.out.2.1 HH.out
        have hz : W0.heap[w.heap.size]? = some (.cells (Array.replicate 16 (.int .u64 0)) 88 (0, 0)) := by rw [HW0.out]; exact dH _ _
        have HZ := aC.mk hz
        clear hz
        go_wp2_with (first | ((with_reducible refine bK (N := 28) rfl ?_); refine wpList_load_row rfl 88 (.tmp 3) rfl (w.heap.size + 1) rfl 88 (wordsOf s2).toArray (0, 0) _ HC.out.1.2 Try.underlying88 rfl ?_ ?_; (focus (rw [i88, dx HC.out.1.1]))) | (go_at_call 90; refine hcl.mono ?_; rintro e w8 ⟨rfl, ht, hb8⟩; have HT := aC.mk ht; have HB8 := aC.mk hb8; clear ht hb8) | ((with_reducible refine dW (t := 88) (p := 2) rfl ?_); refine wpList_store_rowTo rfl 88 (.tmp 2) (.tmp 30) rfl rfl w.heap.size (wordsOf t).toArray rfl rfl 88 _ (av HZ.out HB8.out) ?_ ?_ (set_one t) ?_; (focus (rw [i88, dx HT.out])); (focus (rw [dx HT.out]; simp))))
        have hblk := setRow_heap w8 w.heap.size _ (wordsOf t).toArray 88 (0, 0) (av HZ.out HB8.out)
        refine bodyPost_ret (results_cell_row rfl _ _ w.heap.size 88 (wordsOf t).toArray (0, 0) _ rfl hblk Try.underlying88 rfl (by rw [i88, dx HT.out])) rfl ?_
        exact ⟨rfl, HT.out, below_setRow (di HB0.out HB0.out.size HB8.out) (Nat.le_refl _) _⟩
end Go.Proofs.Ytkaefgmgcghhiaa.X
end

section
namespace Go.Proofs.Ytkaefgmgcghhiaa.X
open Go.RowKit Go.Proofs.YtkaefgmgcghhiaaW.PrintWords Go.Proofs.YtkaefgmgcghhiaaW.PrintLast Go.Proofs.YtkaefgmgcghhiaaW.PrintMore
def spRow (sy : Int) : List S80 → List Nat → List Int → Option (List Nat × List Int)
  | [], s, wt => some (s, wt)
  | x :: r, s, wt => if x.f1 = sy then (if 0 ≤ x.f2 ∧ x.f2 < 1024 then (if mem s x.f2.toNat = true then spRow sy r s wt else if wt.length < 1099511627776 then spRow sy r (ins s x.f2.toNat) (wt ++ [x.f2]) else none) else none) else spRow sy r s wt
def spF (fr : List (List S80)) (s : List Nat) (sy : Int) : List Nat → List Nat → List Int → Option (List Nat × List Int)
  | [], t, wt => some (t, wt)
  | i :: r, t, wt => if mem s i = true then (match spRow sy (fr.getD i []) t wt with | none => none | some (t1, wt1) => spF fr s sy r t1 wt1) else spF fr s sy r t wt
def stepF (k : Nat) (N : Int) (fr : List (List S80)) (s : List Nat) (sy : Int) : Option (List Nat) :=
  match spF fr s sy (List.range N.toNat) none16 [] with
  | none => none
  | some (t, wt) => clF N fr k t wt
set_option maxHeartbeats 8000000 in
set_option maxRecDepth 100000 in
theorem step_walk (k rb : Nat) (K N : Int) (sv fv ev : Value) (fr : List (List S80)) (s t : List Nat) (sy : Int) (w : World) (base : Nat)
    (hN : 1 ≤ N ∧ N ≤ 1024) (hfr : (fr.length : Int) = N) (hfl : ∀ j, (fr.getD j []).length ≤ 65536) (hR : RunAt w base rb K N sv fv ev fr) (hs : IsSet s) (h : stepF k N fr s sy = some t) :
    Calls Try.prog 59 #[.pointer (some ⟨rb, 0, none⟩), .agg (wordsOf s).toArray, .int .i64 sy] w fun e w' => e = .returned (.agg (wordsOf t).toArray) ∧ IsSet t ∧ Below w.heap.size w w' := by
  have hu134 := Try.underlying134
  have hu132 := Try.underlying132
  have hu80 := Try.underlying80
  have hu25 := Try.underlying25
  have hu23 := Try.underlying23
  have hu22 := Try.underlying22
  cases hq : spF fr s sy (List.range N.toNat) none16 [] with
  | none => rw [stepF, hq] at h; exact absurd h (by simp)
  | some p =>
    obtain ⟨s3, wt3⟩ := p
    rw [stepF, hq] at h
    simp only [] at h
    have HH := aC.mk h
    have HQ0 := aC.mk hq
    have HR := aC.mk hR
    have HSS := aC.mk hs
    have HFR := aC.mk hfr
    have HFL := aC.mk hfl
    obtain ⟨hN1, hN2⟩ := hN
    have HN := aC.mk (And.intro hN1 hN2)
    clear h hq hs hfr hfl
    obtain ⟨g, vs, hrb, hbr, hrow⟩ := hR
    have HRB := aC.mk hrb
    have HRO := aC.mk hrow
    obtain ⟨z88, i88⟩ := zero_of_info info88
    have hcell1 : w.cell? ⟨rb, 1, none⟩ = some (.int .i64 N) := (aD hrb 1).trans rfl
    have hlt0 := gq hrb
    have hcellx : (((w.alloc (.cells (wordsOf s).toArray 88)).alloc (.cells (Array.replicate 16 (.int .u64 0)) 88)).alloc (.cells (Array.replicate 16 (.int .u64 0)) 88)).cell? ⟨rb, 1, none⟩ = some (.int .i64 N) := ((aH (aH (aH (Below.refl w.heap.size w) _) _) _).cell (p := ⟨rb, 1, none⟩) hlt0).trans hcell1
    clear hrow hrb
    go_enter Try.func59, Try.ntmps59
    go_wp2
    obtain ⟨W0, hW0⟩ : ∃ W0, W0 = (w.alloc (.cells (wordsOf s).toArray 88)).alloc (.cells (Array.replicate 16 (.int .u64 0)) 88) := ⟨_, rfl⟩
    have hb0 : Below w.heap.size w W0 := by rw [hW0]; exact aH (aH (Below.refl _ _) _) _
    have hs0 : W0.heap.size = w.heap.size + 1 + 1 := by rw [hW0]; simp
    have hset0 : SetAt W0 w.heap.size s := ⟨HSS.out, by rw [hW0]; exact aW (dH _ _) _⟩
    have hz0 : W0.heap[w.heap.size + 1]? = some (.cells (Array.replicate 16 (.int .u64 0)) 88 (0, 0)) := by
      rw [hW0]
      have h := dH (w.alloc (.cells (wordsOf s).toArray 88)) (.cells (Array.replicate 16 (.int .u64 0)) 88)
      simpa using h
    have hC0 : ClAt W0 (w.heap.size + 1 + 1) (w.heap.size + 1) none16 (.slice none 0 0) [] (((w.alloc (.cells (wordsOf s).toArray 88)).alloc (.cells (Array.replicate 16 (.int .u64 0)) 88)).alloc (.cells (Array.replicate 16 (.int .u64 0)) 88)) := by
      rw [← hW0, ← hs0]
      refine ⟨⟨none16_set, dH W0 _⟩, Kd.jq _ _ _ _ _, aH (Below.refl _ _) _, aW hz0 _, by omega, by omega⟩
    have HB0 := aC.mk hb0
    have HS0 := aC.mk hs0
    have HW0 := aC.mk hW0
    have HSET := aC.mk hset0
    have HZ := aC.mk hz0
    have HR0 := aC.mk (HR.out.below hb0)
    have HRB0 := aC.mk (av HRB.out hb0)
    have HRO0 := aC.mk (HRO.out.below hb0)
    clear hb0 hs0 hcell1 hcellx hset0 hz0 HRB HRO
    clear hW0
    go_loopw [17, 8] (fun v17 v8 wr => ∃ (i : Nat) (s2 : List Nat) (wt2 : List Int), v17 = .int .i64 (i : Int) ∧ aC (i ≤ N.toNat) ∧ aC (spF fr s sy ((List.range N.toNat).drop i) s2 wt2 = some (s3, wt3)) ∧ aC (ClAt W0 (w.heap.size + 1 + 1) (w.heap.size + 1) s2 v8 wt2 wr)) (fun v17 _ _ => N.toNat - (intOf v17).toNat)
    case atStart => exact ⟨0, _, _, rfl, ⟨by omega⟩, HQ0, ⟨hC0⟩⟩
    case round =>
      clear hC0 HQ0
      obtain ⟨i, s2, wt2, rfl, HI, HQ, HC⟩ := hrel
      obtain ⟨A3, c3', rfl⟩ := Kd.bu HC.out.2.1
      by_cases hlt : i < N.toNat
      · have HQ2 := HQ.out
        have hd : (List.range N.toNat).drop i = i :: (List.range N.toNat).drop (i + 1) := by
          rw [List.drop_eq_getElem_cons (by simpa using hlt)]
          simp
        rw [hd] at HQ2
        clear HQ hd
        simp only [spF] at HQ2
        have hlt' : (i : Int) < N := by omega
        have HLT := aC.mk hlt
        have hcall := has_calls w.heap.size (i : Int) s _ (by omega) (by omega) (HSET.out.below HC.out.2.2.1)
        rw [Int.toNat_natCast] at hcall
        cases hm : mem s i with
        | false =>
          rw [hm] at HQ2 hcall
          rw [if_neg (by simp)] at HQ2
          have HH2 := aC.mk HQ2
          clear HQ2 hm
          go_wp2_with (go_at_call 88; refine hcall.mono ?_; rintro e w' ⟨rfl, rfl⟩)
          go_roundw
          case rel => exact ⟨i + 1, s2, wt2, by go_num, ⟨by have := HLT.out; omega⟩, HH2, HC⟩
          case measure => have := HLT.out; simp [intOf]; omega
        | true =>
          rw [hm] at HQ2 hcall
          rw [if_pos rfl] at HQ2
          cases hq : spRow sy (fr.getD i []) s2 wt2 with
          | none => rw [hq] at HQ2; exact absurd HQ2 (by simp)
          | some p =>
            obtain ⟨s5, wt5⟩ := p
            rw [hq] at HQ2
            simp only [] at HQ2
            have HH2 := aC.mk HQ2
            clear HQ2 hm
            have hrb := av HRB0.out HC.out.2.2.1
            have hcell5 := (aD hrb 5).trans rfl
            have hfr := HFR.out
            obtain ⟨vr, hv⟩ : ∃ vr, vs[i]? = some vr := ⟨_, List.getElem?_eq_getElem (by rw [HRO0.out.2.1]; omega)⟩
            have hl : fr[i]? = some (fr.getD i []) := by
              rw [List.getD_eq_getElem?_getD, List.getElem?_eq_getElem (by omega)]
              rfl
            have hR1 := HRO0.out.2.2.2.1 i vr _ hv hl
            have hgc : wr.cell? ⟨g, i, none⟩ = some vr := (aD (av HRO0.out.1 HC.out.2.2.1) i).trans (by simpa using hv)
            have hll := HFL.out i
            generalize fr.getD i [] = l at hq hR1 hl hll
            obtain ⟨A2, c2', rfl, hlc, hR2⟩ := Kd.R_reads hR1
            have HL2 := aC.mk hR2
            have HQ := aC.mk hq
            have hmx : max N 0 = N := by omega
            clear hR1 hR2 hq hv hl hrb hfr
            go_wp2_with (go_at_call 88; refine hcall.mono ?_; rintro e w' ⟨rfl, rfl⟩)
            clear hcell5 hgc hmx hcall
            go_loopw [31, 8] (fun v31 v8 wr2 => ∃ (j : Nat) (s2 : List Nat) (wt2 : List Int), v31 = .int .i64 (j : Int) ∧ aC (j ≤ l.length) ∧ aC (spRow sy (l.drop j) s2 wt2 = some (s5, wt5)) ∧ aC (ClAt W0 (w.heap.size + 1 + 1) (w.heap.size + 1) s2 v8 wt2 wr2)) (fun v31 _ _ => l.length - (intOf v31).toNat)
            case atStart => exact ⟨0, s2, _, rfl, ⟨by omega⟩, HQ, HC⟩
            case round =>
              clear HQ HC
              obtain ⟨j, s2, wt2, rfl, HJ, HQ, HC⟩ := hrel
              obtain ⟨A3, c3', rfl⟩ := Kd.bu HC.out.2.1
              by_cases hlt2 : j < l.length
              · have HQ2 := HQ.out
                have hd : l.drop j = ig l j :: l.drop (j + 1) := by
                  rw [List.drop_eq_getElem_cons hlt2]
                  simp [ig, List.getD_eq_getElem?_getD, List.getElem?_eq_getElem hlt2]
                rw [hd] at HQ2
                clear HQ hd
                simp only [spRow] at HQ2
                obtain ⟨ad, ead, hx0, hx1, hx2⟩ := at_T80 (Kd.ak HL2.out HC.out.2.2.1) (j : Int) (by omega) (by omega)
                cases ead
                rw [Int.toNat_natCast] at hx0 hx1 hx2
                generalize ig l j = x at HQ2 hx0 hx1 hx2
                obtain ⟨xa, xb, xc⟩ := x
                simp only [] at HQ2 hx0 hx1 hx2
                have HLT2 := aC.mk hlt2
                by_cases e1 : xb = sy
                · subst e1
                  rw [if_pos rfl] at HQ2
                  by_cases e2 : 0 ≤ xc ∧ xc < 1024
                  · rw [if_pos e2] at HQ2
                    obtain ⟨e2a, e2b⟩ := e2
                    have HX := dH wr (.cells #[.int .i64 xa, .int .i64 xb, .int .i64 xc] 80)
                    have hC1 := HC.out.below (aH (Below.refl _ _) (.cells #[.int .i64 xa, .int .i64 xb, .int .i64 xc] 80))
                    have hcall := has_calls (w.heap.size + 1 + 1) xc s2 _ e2a e2b hC1.1
                    cases hm : mem s2 xc.toNat with
                    | true =>
                      rw [hm] at HQ2 hcall
                      rw [if_pos rfl] at HQ2
                      have HH4 := aC.mk HQ2
                      have HC1 := aC.mk hC1
                      clear HQ2 hm hC1 HX
                      go_wp2_with (go_at_call 88; refine hcall.mono ?_; rintro e w' ⟨rfl, rfl⟩)
                      go_roundw
                      case rel => exact ⟨j + 1, s2, wt2, by go_num, ⟨by have := HLT2.out; omega⟩, HH4, HC1⟩
                      case measure => have := HLT2.out; simp [intOf]; omega
                    | false =>
                      rw [hm] at HQ2 hcall
                      rw [if_neg (by simp)] at HQ2
                      by_cases e3 : wt2.length < 1099511627776
                      · rw [if_pos e3] at HQ2
                        have HH4 := aC.mk HQ2
                        have HC1 := aC.mk hC1
                        have hput := put_calls (w.heap.size + 1 + 1) xc s2 _ e2a e2b hC1.1
                        have HXX := aC.mk HX
                        have hlt3 := gq HC.out.1.2
                        clear HQ2 hm hC1 HX HC
                        go_wp2_with (first | (go_at_call 88; refine hcall.mono ?_; rintro e w' ⟨rfl, rfl⟩) | (go_at_call 89; refine hput.mono ?_; rintro e w5 ⟨rfl, hs5, hb5, hk5⟩; have hC5 := HC1.out.put hs5 hb5 hk5; have hx5 := (aD ((hk5.2 wr.heap.size (gq HXX.out) (by omega) (by simp)).trans HXX.out) 2).trans rfl; clear hs5 hb5 hk5) | ((with_reducible refine dF (b := .append) (xs := #[.tmp 48, .tmp 51]) rfl ?_); at_builtin; (refine Kd.iP (Kd.int .i64) (w0 := W0) W0.heap.size rfl (.tmp 48) (.tmp 51) 22 3 (.int .i64 0) 8 rfl Try.underlying22 info3 rfl (by decide) (by omega) (.slice A3 wt2.length c3') wt2 xc [.int .i64 xc] (fun _ => True) (fun _ => False) rfl rfl ?aP (fun _ hk => hk.elim) ?aF ?aO ?aB ?aS ?aL ?_; (case aP => exact rfl); (case aB => exact hC5.2.2.1); (case aF => exact (fun _ _ => trivial)); (case aO => exact hC5.2.1); (case aS => exact hC5.2.2.1.size); (case aL => omega); intro v6 w6 ho hb hg hat; have HC6 := aC.mk (hC5.app ho hb hg); clear hC5 hx5 ho hb hg hat)))
                        go_roundw
                        case rel => exact ⟨j + 1, ins s2 xc.toNat, wt2 ++ [xc], by go_num, ⟨by have := HLT2.out; omega⟩, HH4, HC6⟩
                        case measure => have := HLT2.out; simp [intOf]; omega
                      · rw [if_neg e3] at HQ2; exact absurd HQ2 (by simp)
                  · rw [if_neg e2] at HQ2; exact absurd HQ2 (by simp)
                · rw [if_neg e1] at HQ2
                  have HH4 := aC.mk HQ2
                  have e1b : (xb == sy) = false := beq_eq_false_iff_ne.mpr e1
                  clear HQ2 e1
                  go_wp2
                  go_roundw
                  case rel => exact ⟨j + 1, s2, wt2, by go_num, ⟨by have := HLT2.out; omega⟩, HH4, ⟨HC.out.below (aH (Below.refl _ _) _)⟩⟩
                  case measure => have := HLT2.out; simp [intOf]; omega
              · have HQ2 := HQ.out
                rw [List.drop_of_length_le (by omega)] at HQ2
                simp only [spRow, Option.some.injEq, Prod.mk.injEq] at HQ2
                obtain ⟨rfl, rfl⟩ := HQ2
                have hlt' : ¬ ((j : Int) < (l.length : Int)) := by omega
                go_wp2
                go_roundw
                case rel => exact ⟨i + 1, s2, wt2, by go_num, ⟨by have := HLT.out; omega⟩, HH2, HC⟩
                case measure => have := HLT.out; simp [intOf]; omega
      · have HQ2 := HQ.out
        rw [List.drop_of_length_le (by simp; omega)] at HQ2
        simp only [spF, Option.some.injEq, Prod.mk.injEq] at HQ2
        obtain ⟨rfl, rfl⟩ := HQ2
        have hlt' : ¬ ((i : Int) < N) := by omega
        have hcl := closed_walk k rb 0 K N sv fv ev (.slice A3 wt2.length c3') fr s2 t wt2 W0 wr base HN.out HFR.out HFL.out HR0.out HC.out.2.2.1 HC.out.1.1 HC.out.2.1 HH.out
        go_wp2_with (first | ((with_reducible refine bK (N := 56) rfl ?_); refine wpList_load_row rfl 88 (.tmp 7) rfl (w.heap.size + 1 + 1) rfl 88 (wordsOf s2).toArray (0, 0) _ HC.out.1.2 Try.underlying88 rfl ?_ ?_; (focus (rw [i88, dx HC.out.1.1]))) | (go_at_call 90; refine hcl.mono ?_; rintro e w8 ⟨rfl, ht, hb8⟩; have HT := aC.mk ht; have HB8 := aC.mk hb8; clear ht hb8) | ((with_reducible refine dW (t := 88) (p := 6) rfl ?_); refine wpList_store_rowTo rfl 88 (.tmp 6) (.tmp 58) rfl rfl (w.heap.size + 1) (wordsOf t).toArray rfl rfl 88 _ (av HZ.out HB8.out) ?_ ?_ (set_one t) ?_; (focus (rw [i88, dx HT.out])); (focus (rw [dx HT.out]; simp))))
        have hblk := setRow_heap w8 (w.heap.size + 1) _ (wordsOf t).toArray 88 (0, 0) (av HZ.out HB8.out)
        refine bodyPost_ret (results_cell_row rfl _ _ (w.heap.size + 1) 88 (wordsOf t).toArray (0, 0) _ rfl hblk Try.underlying88 rfl (by rw [i88, dx HT.out])) rfl ?_
        exact ⟨rfl, HT.out, below_setRow (di HB0.out HB0.out.size HB8.out) (by omega) _⟩
end Go.Proofs.Ytkaefgmgcghhiaa.X
end

section
namespace Go.Proofs.Ytkaefgmgcghhiaa.X
open Go.RowKit Go.Proofs.YtkaefgmgcghhiaaW.PrintWords Go.Proofs.YtkaefgmgcghhiaaW.PrintLast Go.Proofs.YtkaefgmgcghhiaaW.PrintMore
def fiRow (s : List Nat) : List Int → Nat → Int
  | [], _ => 0
  | f :: r, i => if f = 1 then (if mem s i = true then 1 else fiRow s r (i + 1)) else fiRow s r (i + 1)
set_option maxHeartbeats 4000000 in
set_option maxRecDepth 100000 in
theorem final_walk (rb : Nat) (K N : Int) (A3 : Option Addr) (c3 : Nat) (F : List Int) (sv ev : Value) (fr : List (List S80)) (s : List Nat) (w : World) (base : Nat)
    (hFl : F.length ≤ 1024) (hR : RunAt w base rb K N sv (.slice A3 F.length c3) ev fr) (hF : Kd.C (Kd.int .i64) w A3 F.length F) (hs : IsSet s) :
    Calls Try.prog 60 #[.pointer (some ⟨rb, 0, none⟩), .agg (wordsOf s).toArray] w fun e w' => e = .returned (.int .i64 (fiRow s F 0)) ∧ Below w.heap.size w w' := by
  have hu134 := Try.underlying134
  have hu25 := Try.underlying25
  have hu22 := Try.underlying22
  obtain ⟨g, vs, hrb, hbr, hrow⟩ := hR
  have hcell3 : w.cell? ⟨rb, 3, none⟩ = some (.slice A3 F.length c3) := (aD hrb 3).trans rfl
  have hlt0 := gq hrb
  obtain ⟨r, hr⟩ : ∃ r, fiRow s F 0 = r := ⟨_, rfl⟩
  have HH := aC.mk hr
  have HF := aC.mk hF
  have HS := aC.mk hs
  rw [hr]
  clear hrow hrb hr hF hs
  go_enter Try.func60, Try.ntmps60
  go_wp2
  have hset : SetAt (w.alloc (.cells (wordsOf s).toArray 88)) w.heap.size s := ⟨HS.out, dH _ _⟩
  have hb0 := aH (Below.refl w.heap.size w) (.cells (wordsOf s).toArray 88)
  generalize w.alloc (.cells (wordsOf s).toArray 88) = W0 at hset hb0 ⊢
  have HSET := aC.mk hset
  have HB0 := aC.mk hb0
  clear hset hb0 hcell3
  go_loopw [13] (fun v13 wr => ∃ (i : Nat), v13 = .int .i64 (i : Int) ∧ aC (i ≤ F.length) ∧ aC (fiRow s (F.drop i) i = r) ∧ aC (wr = W0)) (fun v13 _ => F.length - (intOf v13).toNat)
  case atStart => exact ⟨0, rfl, ⟨by omega⟩, HH, ⟨rfl⟩⟩
  case round =>
    clear HH
    obtain ⟨i, rfl, HI, HH, HW⟩ := hrel
    have hw := HW.out
    subst hw
    clear HW
    have hi := HI.out
    by_cases hlt : i < F.length
    · have H := HH.out
      have hd : F.drop i = rd F i :: F.drop (i + 1) := by
        rw [List.drop_eq_getElem_cons hlt]
        simp [rd, List.getD_eq_getElem?_getD, List.getElem?_eq_getElem hlt]
      rw [hd] at H
      clear HH hd
      simp only [fiRow] at H
      obtain ⟨ad, ead, hx⟩ := Kd.cz (Kd.ak HF.out HB0.out) (i : Int) (by omega) (by omega)
      cases ead
      rw [Int.toNat_natCast] at hx
      generalize rd F (i : Int) = f at H hx
      have HLT := aC.mk hlt
      have hcall := has_calls w.heap.size (i : Int) s _ (by omega) (by omega) HSET.out
      rw [Int.toNat_natCast] at hcall
      by_cases e1 : f = 1
      · subst e1
        rw [if_pos rfl] at H
        cases hm : mem s i with
        | true =>
          rw [hm] at H hcall
          rw [if_pos rfl] at H
          subst H
          go_wp2_with (go_at_call 88; refine hcall.mono ?_; rintro e w' ⟨rfl, rfl⟩)
          go_ret
          exact ⟨rfl, HB0.out⟩
        | false =>
          rw [hm] at H hcall
          rw [if_neg (by simp)] at H
          have HH := aC.mk H
          clear H
          go_wp2_with (go_at_call 88; refine hcall.mono ?_; rintro e w' ⟨rfl, rfl⟩)
          go_roundw
          case rel => exact ⟨i + 1, by go_num, ⟨by have := HLT.out; omega⟩, HH, ⟨by first | trivial | rfl⟩⟩
          case measure => have := HLT.out; simp [intOf]; omega
      · rw [if_neg e1] at H
        have HH := aC.mk H
        have e1b : (f == 1) = false := beq_eq_false_iff_ne.mpr e1
        clear H e1
        go_wp2
        go_roundw
        case rel => exact ⟨i + 1, by go_num, ⟨by have := HLT.out; omega⟩, HH, ⟨by first | trivial | rfl⟩⟩
        case measure => have := HLT.out; simp [intOf]; omega
    · have H := HH.out
      rw [List.drop_of_length_le (by omega)] at H
      simp only [fiRow] at H
      subst H
      have hlt' : ¬ ((i : Int) < (F.length : Int)) := by omega
      go_wp2
      go_ret
      exact ⟨rfl, HB0.out⟩
/-- The sets along a word. -/
def runF (k : Nat) (N : Int) (fr : List (List S80)) : List Int → List Nat → Option (List Nat)
  | [], s => some s
  | x :: r, s => match stepF k N fr s x with | none => none | some t => runF k N fr r t
def accF (k : Nat) (K N : Int) (S F : List Int) (E : List S80) (u : List Int) : Option (Bool × Int) :=
  if (fI.g K N S F E).2 ≠ 0 then some (false, (fI.g K N S F E).2) else
  match fE.f k u K with
  | none => none
  | some (_, e) => if e ≠ 0 then some (false, e) else
    match startF k N (rowsOf N.toNat E) S with
    | none => none
    | some s => match runF k N (rowsOf N.toNat E) u s with
      | none => none
      | some t => some (fiRow t F 0 == 1, 0)
end Go.Proofs.Ytkaefgmgcghhiaa.X
end

section
namespace Go.Proofs.Ytkaefgmgcghhiaa.X
open Go.RowKit Go.Proofs.YtkaefgmgcghhiaaW.PrintWords Go.Proofs.YtkaefgmgcghhiaaW.PrintLast Go.Proofs.YtkaefgmgcghhiaaW.PrintMore
theorem check_e (K N : Int) : ∀ (E : List S80) (i : Int), (fI.e K N E i).2 = 0 → ∀ x ∈ E, 0 ≤ x.f0 ∧ x.f0 < N ∧ 0 ≤ x.f2 ∧ x.f2 < N ∧ -1 ≤ x.f1 ∧ x.f1 < K
  | [], _, _, x, hx => by cases hx
  | y :: r, i, h, x, hx => by
    simp only [fI.e] at h
    have hst : ∀ a : Int, (!stB N a) = false → 0 ≤ a ∧ a < N := by
      intro a ha
      simpa [stB] using ha
    by_cases h1 : (!stB N y.f0) = true
    · rw [if_pos h1] at h; exact absurd h (by simp)
    rw [if_neg h1] at h
    by_cases h2 : (!stB N y.f2) = true
    · rw [if_pos h2] at h; exact absurd h (by simp)
    rw [if_neg h2] at h
    by_cases h3 : y.f1 < -1
    · rw [if_pos h3] at h; exact absurd h (by simp)
    rw [if_neg h3] at h
    by_cases h4 : y.f1 ≥ K
    · rw [if_pos h4] at h; exact absurd h (by simp)
    rw [if_neg h4] at h
    rcases List.mem_cons.1 hx with rfl | hx
    · have a1 := hst _ (by simpa using h1)
      have a2 := hst _ (by simpa using h2)
      exact ⟨a1.1, a1.2, a2.1, a2.2, by omega, by omega⟩
    · exact check_e K N r _ h x hx
structure RightN (K N : Int) (S F : List Int) (E : List S80) : Prop where
  k : 1 ≤ K ∧ K ≤ 64
  n : 1 ≤ N ∧ N ≤ 1024
  sl : S.length ≤ 65536
  el : E.length ≤ 65536
  fl : (F.length : Int) = N
  s : ∀ x ∈ S, 0 ≤ x ∧ x < N
  f : ∀ x ∈ F, x = 0 ∨ x = 1
  e : ∀ x ∈ E, 0 ≤ x.f0 ∧ x.f0 < N ∧ 0 ≤ x.f2 ∧ x.f2 < N ∧ -1 ≤ x.f1 ∧ x.f1 < K
theorem idxBy_neg {p : Int → Bool} {l : List Int} (h : ¬ idxBy p l ≥ 0) : ∀ x ∈ l, p x = false := by
  intro x hx
  unfold idxBy at h
  cases hq : l.findIdx? p with
  | none => exact Bool.eq_false_iff.mpr (fun he => by have := List.findIdx?_eq_none_iff.1 hq x hx; rw [this] at he; cases he)
  | some j => rw [hq] at h; exact absurd (Int.natCast_nonneg j) h
theorem check_ok {K N : Int} {S F : List Int} {E : List S80} (h : (fI.g K N S F E).2 = 0) : RightN K N S F E := by
  unfold fI.g at h
  by_cases q1 : K < 1
  · rw [if_pos q1] at h; exact absurd h (by simp)
  rw [if_neg q1] at h
  by_cases q2 : K > 64
  · rw [if_pos q2] at h; exact absurd h (by simp)
  rw [if_neg q2] at h
  by_cases q3 : N < 1
  · rw [if_pos q3] at h; exact absurd h (by simp)
  rw [if_neg q3] at h
  by_cases q4 : N > 1024
  · rw [if_pos q4] at h; exact absurd h (by simp)
  rw [if_neg q4] at h
  by_cases q5 : (S.length : Int) > 65536
  · rw [if_pos q5] at h; exact absurd h (by simp)
  rw [if_neg q5] at h
  by_cases q6 : (E.length : Int) > 65536
  · rw [if_pos q6] at h; exact absurd h (by simp)
  rw [if_neg q6] at h
  by_cases q7 : (F.length : Int) ≠ N
  · rw [if_pos q7] at h; exact absurd h (by simp)
  rw [if_neg q7] at h
  by_cases q8 : idxBy (fun x => !stB N x) S ≥ 0
  · rw [if_pos q8] at h; exact absurd h (by simp)
  rw [if_neg q8] at h
  by_cases q9 : idxBy outB F ≥ 0
  · rw [if_pos q9] at h; exact absurd h (by simp)
  rw [if_neg q9] at h
  refine ⟨by omega, by omega, by omega, by omega, by omega, ?_, ?_, check_e K N E 0 h⟩
  · intro x hx
    have h1 := idxBy_neg q8 x hx
    simpa [stB] using h1
  · intro x hx
    have h1 := idxBy_neg q9 x hx
    simp only [outB, Bool.and_eq_false_iff, decide_eq_false_iff_not] at h1
    omega
theorem word_short {k : Nat} {u : List Int} {K e1 e2 : Int} (h : fE.f k u K = some (e1, e2)) (he : e2 = 0) : u.length ≤ 4096 := by
  unfold fE.f at h
  cases hq : gy.f K with
  | none => rw [hq] at h; exact absurd h (by simp)
  | some b =>
    rw [hq, Option.bind_some] at h
    by_cases hb : b = true
    · rw [if_pos hb] at h
      by_cases hl : (u.length : Int) > 4096
      · rw [if_pos hl] at h
        simp only [Option.some.injEq, Prod.mk.injEq] at h
        omega
      · omega
    · rw [if_neg hb] at h
      simp only [Option.some.injEq, Prod.mk.injEq] at h
      omega
set_option maxHeartbeats 4000000 in
set_option maxRecDepth 100000 in
theorem Accepts_walk (k : Nat) (K N : Int) (A2 : Option Addr) (c2 : Nat) (S : List Int) (A3 : Option Addr) (c3 : Nat) (F : List Int) (A4 : Option Addr) (c4 : Nat) (E : List S80) (A5 : Option Addr) (c5 : Nat) (u : List Int) (b : Bool) (r : Int) (w : World)
    (hr2 : Kd.C (Kd.int .i64) w A2 S.length S) (hr3 : Kd.C (Kd.int .i64) w A3 F.length F) (hr4 : Kd.C k80 w A4 E.length E) (hr5 : Kd.C (Kd.int .i64) w A5 u.length u) (hc2 : S.length ≤ c2) (hc3 : F.length ≤ c3) (hc4 : E.length ≤ c4) (hc5 : u.length ≤ c5) (h : accF k K N S F E u = some (b, r)) :
    Calls Try.prog 20 #[.agg #[.int .i64 K, .int .i64 N, .slice A2 S.length c2, .slice A3 F.length c3, .slice A4 E.length c4], .slice A5 u.length c5] w fun e w' => e = .returned (.tuple #[.bool b, .int .i64 r]) ∧ Below w.heap.size w w' := by
  have hu25 := Try.underlying25
  have hu80 := Try.underlying80
  have hu88 := Try.underlying88
  unfold accF at h
  obtain ⟨p0, p1, hp⟩ : ∃ p0 p1, fI.g K N S F E = (p0, p1) := ⟨_, _, rfl⟩
  have hchk := fun (W : World) (hb : Below w.heap.size w W) => Check_walk K N A2 c2 S A3 c3 F A4 c4 E p0 p1 W (Kd.ak hr2 hb) (Kd.ak hr3 hb) (Kd.ak hr4 hb) hp
  have hok : p1 = 0 → RightN K N S F E := fun he => check_ok (by rw [hp]; exact he)
  rw [hp] at h
  simp only [] at h
  have H2 := aC.mk hr2
  have H3 := aC.mk hr3
  have H4 := aC.mk hr4
  have H5 := aC.mk hr5
  clear hr2 hr3 hr4 hr5 hp hc2 hc3 hc4
  by_cases q1 : p1 ≠ 0
  · rw [if_pos q1] at h
    simp only [Option.some.injEq, Prod.mk.injEq] at h
    obtain ⟨rfl, rfl⟩ := h
    have q1b : (p1 != 0) = true := by simpa using q1
    clear hok q1
    go_enter Try.func20, Try.ntmps20
    go_wp2_with (go_at_call 15; refine (hchk _ (aH (Below.refl _ _) _)).mono ?_; rintro e w1 ⟨rfl, hb1⟩)
    go_ret2
    exact ⟨rfl, ah (aH (Below.refl _ _) _) hb1⟩
  · rw [if_neg q1] at h
    have q0 : p1 = 0 := by omega
    subst q0
    have HOK := aC.mk (hok rfl)
    clear q1 hok
    cases hw : fE.f k u K with
    | none => rw [hw] at h; exact absurd h (by simp)
    | some p =>
      obtain ⟨e1, e2⟩ := p
      rw [hw] at h
      simp only [] at h
      have hwc := fun (W : World) (hb : Below w.heap.size w W) => fE.calls k A5 c5 u K e1 e2 W (Kd.ak H5.out hb) hc5 hw
      have hul : e2 = 0 → u.length ≤ 4096 := fun he => word_short hw he
      clear hw
      by_cases q2 : e2 ≠ 0
      · rw [if_pos q2] at h
        simp only [Option.some.injEq, Prod.mk.injEq] at h
        obtain ⟨rfl, rfl⟩ := h
        have q2b : (e2 != 0) = true := by simpa using q2
        clear q2
        go_enter Try.func20, Try.ntmps20
        go_wp2_with (first | (go_at_call 15; refine (hchk _ (aH (Below.refl _ _) _)).mono ?_; rintro e w1 ⟨rfl, hb1⟩; have HB1 := aC.mk (ah (aH (Below.refl w.heap.size w) (.cells #[.int .i64 K, .int .i64 N, .slice A2 S.length c2, .slice A3 F.length c3, .slice A4 E.length c4] 25)) hb1); have hbx := av (dH w (.cells #[.int .i64 K, .int .i64 N, .slice A2 S.length c2, .slice A3 F.length c3, .slice A4 E.length c4] 25)) hb1; have HBX := aC.mk hbx; have hx0 : w1.cell? ⟨w.heap.size, 0, none⟩ = some (.int .i64 K) := (aD hbx 0).trans rfl; have hx1 : w1.cell? ⟨w.heap.size, 1, none⟩ = some (.int .i64 N) := (aD hbx 1).trans rfl; have hx2 : w1.cell? ⟨w.heap.size, 2, none⟩ = some (.slice A2 S.length c2) := (aD hbx 2).trans rfl; have hx3 : w1.cell? ⟨w.heap.size, 3, none⟩ = some (.slice A3 F.length c3) := (aD hbx 3).trans rfl; have hx4 : w1.cell? ⟨w.heap.size, 4, none⟩ = some (.slice A4 E.length c4) := (aD hbx 4).trans rfl; clear hb1 hbx) | (go_at_call 56; refine (hwc _ HB1.out).mono ?_; rintro e w2 ⟨rfl, ⟨n2, rfl⟩⟩))
        go_ret2
        exact ⟨rfl, aG HB1.out _⟩
      · rw [if_neg q2] at h
        have q0 : e2 = 0 := by omega
        subst q0
        have HUL := aC.mk (hul rfl)
        clear q2 hul
        have hfr : ((rowsOf N.toNat E).length : Int) = N := by rw [rows_length]; have := HOK.out.n; omega
        have hfl : ∀ j, ((rowsOf N.toNat E).getD j []).length ≤ 65536 := fun j => Nat.le_trans (rows_short _ _ _) HOK.out.el
        have hnr := fun (W : World) (hb : Below w.heap.size w W) => newRunner_walk K N A2 c2 S A3 c3 F A4 c4 E W (Kd.ak H4.out hb) HOK.out.n HOK.out.el (fun x hx => ⟨(HOK.out.e x hx).1, (HOK.out.e x hx).2.1⟩)
        generalize rowsOf N.toNat E = fr at h hfr hfl hnr
        have HFR := aC.mk hfr
        have HFL := aC.mk hfl
        clear hfr hfl
        cases hs : startF k N fr S with
        | none => rw [hs] at h; exact absurd h (by simp)
        | some s =>
          rw [hs] at h
          simp only [] at h
          have HSF := aC.mk hs
          clear hs
          cases ht : runF k N fr u s with
          | none => rw [ht] at h; exact absurd h (by simp)
          | some t =>
            rw [ht] at h
            simp only [Option.some.injEq, Prod.mk.injEq] at h
            obtain ⟨rfl, rfl⟩ := h
            have HT := aC.mk ht
            clear ht
            obtain ⟨z88, i88⟩ := zero_of_info info88
            go_enter Try.func20, Try.ntmps20
            go_wp2_with (first | (go_at_call 15; refine (hchk _ (aH (Below.refl _ _) _)).mono ?_; rintro e w1 ⟨rfl, hb1⟩; have HB1 := aC.mk (ah (aH (Below.refl w.heap.size w) (.cells #[.int .i64 K, .int .i64 N, .slice A2 S.length c2, .slice A3 F.length c3, .slice A4 E.length c4] 25)) hb1); have hbx := av (dH w (.cells #[.int .i64 K, .int .i64 N, .slice A2 S.length c2, .slice A3 F.length c3, .slice A4 E.length c4] 25)) hb1; have HBX := aC.mk hbx; have hx0 : w1.cell? ⟨w.heap.size, 0, none⟩ = some (.int .i64 K) := (aD hbx 0).trans rfl; have hx1 : w1.cell? ⟨w.heap.size, 1, none⟩ = some (.int .i64 N) := (aD hbx 1).trans rfl; have hx2 : w1.cell? ⟨w.heap.size, 2, none⟩ = some (.slice A2 S.length c2) := (aD hbx 2).trans rfl; have hx3 : w1.cell? ⟨w.heap.size, 3, none⟩ = some (.slice A3 F.length c3) := (aD hbx 3).trans rfl; have hx4 : w1.cell? ⟨w.heap.size, 4, none⟩ = some (.slice A4 E.length c4) := (aD hbx 4).trans rfl; clear hb1 hbx) | (go_at_call 56; refine (hwc _ HB1.out).mono ?_; rintro e w2 ⟨rfl, ⟨n2, rfl⟩⟩; have HB2 := aC.mk (aG HB1.out n2)) | (go_at_call 57; refine (hnr _ HB2.out).mono ?_; rintro e w3 ⟨rb, rfl, hR3, hb3⟩; have HR3 := aC.mk hR3; have HB3 := aC.mk (ah HB2.out hb3); clear hR3 hb3) | (go_at_call 58; refine (start_walk k rb K N A2 c2 S _ _ fr s w3 _ HOK.out.n HFR.out HFL.out HR3.out (Kd.ak H2.out HB3.out) HOK.out.sl HSF.out).mono ?_; rintro e w4 ⟨rfl, hs4, hb4⟩; have HS4 := aC.mk hs4; have HR4 := aC.mk (HR3.out.below hb4); have HB4 := aC.mk (ah HB3.out hb4); clear hs4 hb4) | ((with_reducible refine dW (t := 88) (p := 11) rfl ?_); refine wpList_store_rowTo rfl 88 (.tmp 11) (.tmp 35) rfl rfl w4.heap.size (wordsOf s).toArray rfl rfl 88 _ (dH w4 _) ?_ ?_ (set_one s) ?_; (focus (rw [i88, dx HS4.out])); (focus (rw [dx HS4.out]; simp)); rw [World.setRow_alloc_new]))
            have hC0 : SetAt (w4.alloc (.cells (wordsOf s).toArray 88)) w4.heap.size s := ⟨HS4.out, dH _ _⟩
            have hD0 := aH (Below.refl w4.heap.size w4) (.cells (wordsOf s).toArray 88)
            clear hx0 hx1 hx2 hx3 hx4
            go_loopw [38] (fun v38 wr => ∃ (i : Nat) (s2 : List Nat), v38 = .int .i64 (i : Int) ∧ aC (i ≤ u.length) ∧ aC (runF k N fr (u.drop i) s2 = some t) ∧ aC (SetAt wr w4.heap.size s2) ∧ aC (Below w4.heap.size w4 wr)) (fun v38 _ => u.length - (intOf v38).toNat)
            case atStart => exact ⟨0, s, rfl, ⟨by omega⟩, HT, ⟨hC0⟩, ⟨hD0⟩⟩
            case round =>
              clear hC0 hD0 HT
              obtain ⟨i, s2, rfl, HI, HT, HC, HD⟩ := hrel
              by_cases hlt : i < u.length
              · have H := HT.out
                have hd : u.drop i = rd u i :: u.drop (i + 1) := by
                  rw [List.drop_eq_getElem_cons hlt]
                  simp [rd, List.getD_eq_getElem?_getD, List.getElem?_eq_getElem hlt]
                rw [hd] at H
                clear HT hd
                simp only [runF] at H
                obtain ⟨ad, ead, hx⟩ := Kd.cz (Kd.ak (Kd.ak H5.out HB4.out) HD.out) (i : Int) (by omega) (by omega)
                cases ead
                rw [Int.toNat_natCast] at hx
                generalize rd u (i : Int) = y at H hx
                have HLT := aC.mk hlt
                cases hq : stepF k N fr s2 y with
                | none => rw [hq] at H; exact absurd H (by simp)
                | some s3 =>
                  rw [hq] at H
                  simp only [] at H
                  have HT := aC.mk H
                  clear H
                  have hul := HUL.out
                  have hst := step_walk k rb K N _ _ _ fr s2 s3 y wr _ HOK.out.n HFR.out HFL.out (HR4.out.below HD.out) HC.out.1 hq
                  clear hq
                  go_wp2_with (first | ((with_reducible refine bK (N := 43) rfl ?_); refine wpList_load_row rfl 88 (.tmp 11) rfl w4.heap.size rfl 88 (wordsOf s2).toArray (0, 0) _ HC.out.2 Try.underlying88 rfl ?_ ?_; (focus (rw [i88, dx HC.out.1]))) | (go_at_call 59; refine hst.mono ?_; rintro e w8 ⟨rfl, ht, hb8⟩; have HT8 := aC.mk ht; have HB8 := aC.mk hb8; clear ht hb8) | ((with_reducible refine dW (t := 88) (p := 11) rfl ?_); refine wpList_store_rowTo rfl 88 (.tmp 11) (.tmp 45) rfl rfl w4.heap.size (wordsOf s3).toArray rfl rfl 88 _ (av HC.out.2 HB8.out) ?_ ?_ (set_one s3) ?_; (focus (rw [i88, dx HT8.out])); (focus (rw [dx HC.out.1, dx HT8.out]))))
                  have hC2 : SetAt (w8.setRow w4.heap.size (wordsOf s3).toArray) w4.heap.size s3 := ⟨HT8.out, setRow_heap w8 w4.heap.size _ (wordsOf s3).toArray 88 (0, 0) (av HC.out.2 HB8.out)⟩
                  have hD2 : Below w4.heap.size w4 (w8.setRow w4.heap.size (wordsOf s3).toArray) := below_setRow (di HD.out HD.out.size HB8.out) (Nat.le_refl _) _
                  go_roundw
                  case rel => exact ⟨i + 1, s3, by go_num, ⟨by have := HLT.out; omega⟩, HT, ⟨hC2⟩, ⟨hD2⟩⟩
                  case measure => have := HLT.out; simp [intOf]; omega
              · have H := HT.out
                rw [List.drop_of_length_le (by omega)] at H
                simp only [runF, Option.some.injEq] at H
                subst H
                have hlt' : ¬ ((i : Int) < (u.length : Int)) := by omega
                have hfw := final_walk rb K N A3 c3 F _ _ fr s2 wr _ (by have h1 := HOK.out.fl; have h2 := HOK.out.n; omega) (HR4.out.below HD.out) (Kd.ak (Kd.ak H3.out HB4.out) HD.out) HC.out.1
                go_wp2_with (first | ((with_reducible refine bK (N := 48) rfl ?_); refine wpList_load_row rfl 88 (.tmp 11) rfl w4.heap.size rfl 88 (wordsOf s2).toArray (0, 0) _ HC.out.2 Try.underlying88 rfl ?_ ?_; (focus (rw [i88, dx HC.out.1]))) | (go_at_call 60; refine hfw.mono ?_; rintro e w8 ⟨rfl, hb8⟩; have HB8 := aC.mk hb8; clear hb8))
                go_ret2
                exact ⟨rfl, di HB4.out HB4.out.size (di HD.out HD.out.size HB8.out)⟩
end Go.Proofs.Ytkaefgmgcghhiaa.X
end

section
namespace Go.Proofs.Ytkaefgmgcghhiaa.X
open Go.RowKit Go.Proofs.YtkaefgmgcghhiaaW.PrintWords Go.Proofs.YtkaefgmgcghhiaaW.PrintLast Go.Proofs.YtkaefgmgcghhiaaW.PrintMore
/-- Come to from a set by empty edges. -/
inductive EC (E : List S80) (P : Int → Prop) : Int → Prop
  | base {i : Int} (h : P i) : EC E P i
  | step {x : S80} (hx : x ∈ E) (hb : x.f1 = -1) (h : EC E P x.f0) : EC E P x.f2
theorem EC.mono {E : List S80} {P Q : Int → Prop} (hPQ : ∀ i, P i → Q i) {i : Int} (h : EC E P i) : EC E Q i := by
  induction h with
  | base h => exact .base (hPQ _ h)
  | step hx hb _ ih => exact .step hx hb ih
/-- A set of the program holds just these states. -/
def SetIs (N : Int) (s : List Nat) (P : Int → Prop) : Prop := IsSet s ∧ ∀ j : Nat, mem s j = true ↔ (j : Int) < N ∧ P (j : Int)
end Go.Proofs.Ytkaefgmgcghhiaa.X
end

section
namespace Go.Proofs.Ytkaefgmgcghhiaa.X
open Go.RowKit Go.Proofs.YtkaefgmgcghhiaaW.PrintWords Go.Proofs.YtkaefgmgcghhiaaW.PrintLast Go.Proofs.YtkaefgmgcghhiaaW.PrintMore
/-- Does a set accept? -/
def Fin (F : List Int) (P : Int → Prop) : Prop := ∃ j : Nat, F[j]? = some 1 ∧ P (j : Int)
end Go.Proofs.Ytkaefgmgcghhiaa.X
end

section
namespace Go.Proofs.Ytkaefgmgcghhiaa.X
open Go.RowKit Go.Proofs.YtkaefgmgcghhiaaW.PrintWords Go.Proofs.YtkaefgmgcghhiaaW.PrintLast Go.Proofs.YtkaefgmgcghhiaaW.PrintMore
theorem w64q {i : Nat} (h : i < 4611686018427387904) : wrap64 ((i : Int) + 1) = ((i + 1 : Nat) : Int) := by unfold wrap64; omega
theorem rdq {xs : List Int} {i : Nat} (h : i < xs.length) : rd xs (i : Int) = xs[i] := by simp [rd, List.getD_eq_getElem?_getD, List.getElem?_eq_getElem h]
def at_ (b : List Bool) (j : Nat) : Prop := b.getD j false = true
instance (b : List Bool) (j : Nat) : Decidable (at_ b j) := inferInstanceAs (Decidable (_ = true))
end Go.Proofs.Ytkaefgmgcghhiaa.X
end
