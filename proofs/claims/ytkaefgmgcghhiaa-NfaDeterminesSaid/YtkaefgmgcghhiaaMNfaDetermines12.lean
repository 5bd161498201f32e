/- Texts of the statement NfaDetermines, one behind the other: Go functions as Lean functions, the machine's calls, the plain law. -/
import Derived.Test.YtkaefgmgcghhiaaMNfaDetermines4
import Derived.Test.YtkaefgmgcghhiaaMNfaDetermines5
import Derived.Test.YtkaefgmgcghhiaaMNfaDetermines6
import Derived.Test.YtkaefgmgcghhiaaMNfaDetermines10
import Derived.Deep.WholeRow
import Derived.Great.BuildSlice
import Derived.Laws.CopyOwn
set_option linter.unusedVariables false
set_option linter.unusedSimpArgs false
section
namespace Go.Proofs.Ytkaefgmgcghhiaa.X
open Go.RowKit Go.Proofs.YtkaefgmgcghhiaaW.PrintWords Go.Proofs.YtkaefgmgcghhiaaW.PrintLast Go.Proofs.YtkaefgmgcghhiaaW.PrintMore
theorem info88 : (Try.prog.info? 88).map (fun i => (i.zero, i.size)) = some (some (.agg (Array.replicate 16 (.int .u64 0))), 16) := by kernel_rfl
def clRow : List S80 → List Nat → List Int → Option (List Nat × List Int)
  | [], s, wt => some (s, wt)
  | x :: r, s, wt => if x.f1 = -1 then (if 0 ≤ x.f2 ∧ x.f2 < 1024 then (if mem s x.f2.toNat = true then clRow r s wt else if wt.length < 1099511627776 then clRow r (ins s x.f2.toNat) (wt ++ [x.f2]) else none) else none) else clRow r s wt
def clF (N : Int) (fr : List (List S80)) : Nat → List Nat → List Int → Option (List Nat)
  | 0, _, _ => none
  | k + 1, s, wt => if 0 < wt.length then (if wt.length < 1099511627776 ∧ 0 ≤ rd wt ((wt.length : Int) - 1) ∧ rd wt ((wt.length : Int) - 1) < N then (match clRow (fr.getD (rd wt ((wt.length : Int) - 1)).toNat []) s (wt.take (wt.length - 1)) with | none => none | some (s1, wt1) => clF N fr k s1 wt1) else none) else some s
theorem SetAt.below {w w1 : World} {b : Nat} {ws : List Nat} (h : SetAt w b ws) (hb : Below w.heap.size w w1) : SetAt w1 b ws := ⟨h.1, blk_below h.2 hb⟩
/-- A set that is filled, what waits, and what stays. -/
def ClAt (w0 : World) (b b2 : Nat) (s : List Nat) (v : Value) (wt : List Int) (w : World) : Prop :=
  SetAt w b s ∧ Kd.R (Kd.int .i64) 3 w w0.heap.size (fun _ => True) v wt ∧ Below w0.heap.size w0 w ∧ w.heap[b2]? = some (.cells (Array.replicate 16 (.int .u64 0)) 88 (0, 0)) ∧ w0.heap.size ≤ b ∧ b2 ≠ b
theorem ClAt.below {w0 w w1 : World} {b b2 : Nat} {s : List Nat} {v : Value} {wt : List Int} (h : ClAt w0 b b2 s v wt w) (hb : Below w.heap.size w w1) : ClAt w0 b b2 s v wt w1 :=
  ⟨h.1.below hb, Kd.R_below h.2.1 hb, below_then h.2.2.1 h.2.2.1.size hb, blk_below h.2.2.2.1 hb, h.2.2.2.2⟩
theorem ClAt.put {w0 w w1 : World} {b b2 : Nat} {s s1 : List Nat} {v : Value} {wt : List Int} (h : ClAt w0 b b2 s v wt w) (hs : SetAt w1 b s1) (hb : Below b w w1) (hk : KeepBut w w1 b none) : ClAt w0 b b2 s1 v wt w1 := by
  have hne : some b ≠ v.ownBlock := Kd.R_ne h.2.1 h.1.2 (by decide)
  refine ⟨hs, Kd.R_mono (Kd.R_keep (Kd.R_tight rfl h.2.1) hk (fun k hk he => hne (by rw [← hk, he]))) (fun _ _ => trivial), below_weaken h.2.2.1 h.2.2.2.2.1 hb, ?_, h.2.2.2.2⟩
  exact (hk.2 b2 (blk_lt h.2.2.2.1) h.2.2.2.2.2 (by simp)).trans h.2.2.2.1
theorem ClAt.app {w0 w w1 : World} {b b2 : Nat} {s : List Nat} {v v1 : Value} {wt wt1 : List Int} (h : ClAt w0 b b2 s v wt w) (hr : Kd.R (Kd.int .i64) 3 w1 w0.heap.size (fun _ => True) v1 wt1) (hb : Below w0.heap.size w0 w1) (hg : w.grownBy w1 v.ownBlock) : ClAt w0 b b2 s v1 wt1 w1 :=
  ⟨⟨h.1.1, blk_grown h.1.2 hg (Kd.R_ne h.2.1 h.1.2 (by decide))⟩, hr, hb, blk_grown h.2.2.2.1 hg (Kd.R_ne h.2.1 h.2.2.2.1 (by decide)), h.2.2.2.2⟩
theorem ClAt.cut {w0 w : World} {b b2 : Nat} {s : List Nat} {A : Option Addr} {n c m : Nat} {wt : List Int} (h : ClAt w0 b b2 s (.slice A n c) wt w) (hm : m ≤ wt.length) : ClAt w0 b b2 s (.slice A m c) (wt.take m) w :=
  ⟨h.1, Kd.R_take h.2.1 hm, h.2.2⟩
set_option maxHeartbeats 4000000 in
set_option maxRecDepth 100000 in
theorem closed_walk (k rb c : Nat) (K N : Int) (sv fv ev v : Value) (fr : List (List S80)) (s t : List Nat) (wt : List Int) (w0 w : World) (base : Nat)
    (hN : 1 ≤ N ∧ N ≤ 1024) (hfr : (fr.length : Int) = N) (hfl : ∀ j, (fr.getD j []).length ≤ 65536) (hR : RunAt w0 base rb K N sv fv ev fr) (hB : Below w0.heap.size w0 w) (hs : IsSet s) (hw : Kd.R (Kd.int .i64) 3 w w0.heap.size (fun _ => True) v wt) (h : clF N fr k s wt = some t) :
    Calls Try.prog 90 #[.pointer (some ⟨rb, 0, none⟩), .agg (wordsOf s).toArray, v] w fun e w' => e = .returned (.agg (wordsOf t).toArray) ∧ IsSet t ∧ Below w0.heap.size w0 w' := by
  have hu80 := Try.underlying80
  have hu134 := Try.underlying134
  have hu132 := Try.underlying132
  have hu23 := Try.underlying23
  have hu22 := Try.underlying22
  obtain ⟨g, vs, hrb, hbr, hrow⟩ := hR
  have HRB := Aside0.mk hrb
  have HRO := Aside0.mk hrow
  have HB := Aside0.mk hB
  have HS := Aside0.mk hs
  have HW := Aside0.mk hw
  have HH := Aside0.mk h
  obtain ⟨hN1, hN2⟩ := hN
  obtain ⟨A0, c0, rfl⟩ := Kd.R_slice hw
  clear hrb hrow hB hs hw h
  obtain ⟨z88, i88⟩ := zero_of_info info88
  go_enter Try.func90, Try.ntmps90
  go_wp2
  have hC0 : ClAt w0 w.heap.size (w.heap.size + 1) s (.slice A0 wt.length c0) wt ((w.alloc (.cells (wordsOf s).toArray 88)).alloc (.cells (Array.replicate 16 (.int .u64 0)) 88)) := by
    have hb := below_alloc (below_alloc (Below.refl w.heap.size w) (.cells (wordsOf s).toArray 88)) (.cells (Array.replicate 16 (.int .u64 0)) 88)
    refine ⟨⟨HS.out, blk_alloc (blk_new _ _) _⟩, Kd.R_below HW.out hb, below_then HB.out HB.out.size hb, ?_, HB.out.size, by omega⟩
    have h := blk_new (w.alloc (.cells (wordsOf s).toArray 88)) (.cells (Array.replicate 16 (.int .u64 0)) 88)
    simpa using h
  go_loopg [2] k (fun kq v2 wr => ∃ (s1 : List Nat) (wt1 : List Int), Aside0 (clF N fr kq s1 wt1 = some t) ∧ Aside0 (kq ≤ k) ∧ Aside0 (ClAt w0 w.heap.size (w.heap.size + 1) s1 v2 wt1 wr))
  case atStart => exact ⟨s, wt, HH, ⟨Nat.le_refl _⟩, ⟨hC0⟩⟩
  case round =>
    clear HH hC0
    obtain ⟨s1, wt1, HA, HK1, HC⟩ := hrel
    cases gk with
    | zero => exact absurd HA.out (by simp [clF])
    | succ k1 =>
      have H := HA.out
      clear HA
      simp only [clF] at H
      obtain ⟨A1, c1, rfl⟩ := Kd.R_slice HC.out.2.1
      by_cases c2 : 0 < wt1.length
      · rw [if_pos c2] at H
        by_cases c3 : wt1.length < 1099511627776 ∧ 0 ≤ rd wt1 ((wt1.length : Int) - 1) ∧ rd wt1 ((wt1.length : Int) - 1) < N
        · rw [if_pos c3] at H
          obtain ⟨c3l, c3a, c3b⟩ := c3
          have c3n : (wt1.length : Int) ≤ 1099511627776 := by omega
          have c3m : 1 ≤ (wt1.length : Int) := by omega
          obtain ⟨ad, ead, hx⟩ := Kd.at_int (Kd.R_reads' HC.out.2.1).2.2 ((wt1.length : Int) - 1) (by omega) (by omega)
          cases ead
          rw [show ((wt1.length : Int) - 1).toNat = wt1.length - 1 by omega] at hx
          generalize rd wt1 ((wt1.length : Int) - 1) = i at H c3a c3b hx
          cases hq : clRow (fr.getD i.toNat []) s1 (wt1.take (wt1.length - 1)) with
          | none => rw [hq] at H; exact absurd H (by simp)
          | some p =>
            obtain ⟨s3, wt3⟩ := p
            rw [hq] at H
            simp only [] at H
            have HH := Aside0.mk H
            clear H
            have hrb := blk_below HRB.out HC.out.2.2.1
            have hcell5 := (blk_cell hrb 5).trans rfl
            obtain ⟨vr, hv⟩ : ∃ vr, vs[i.toNat]? = some vr := ⟨_, List.getElem?_eq_getElem (by rw [HRO.out.2.1]; omega)⟩
            have hl : fr[i.toNat]? = some (fr.getD i.toNat []) := by
              rw [List.getD_eq_getElem?_getD, List.getElem?_eq_getElem (by omega)]
              rfl
            have hR1 := HRO.out.2.2.2.1 i.toNat vr _ hv hl
            have hgc := (blk_cell (blk_below HRO.out.1 HC.out.2.2.1) i.toNat).trans (by simpa using hv)
            have hll := hfl i.toNat
            generalize fr.getD i.toNat [] = l at hq hR1 hl hll
            obtain ⟨A2, c2', rfl, hlc, hR2⟩ := Kd.R_reads hR1
            have HL2 := Aside0.mk (hR2)
            have HQ := Aside0.mk hq
            have hmx : max N 0 = N := by omega
            clear hR1 hR2 hq hv hl hrb
            have hcap := (Kd.R_reads' HC.out.2.1).2.1
            have hcap2 : (wt1.length : Int) - 1 ≤ (c1 : Int) := by omega
            have hc1 : ¬ c1 = 0 := by omega
            have had0 : ad.add 0 = ad := by simp [Addr.add]
            have HAD := Aside0.mk had0
            have HC3 := Aside0.mk c3l
            go_wp2
            clear hcell5 hgc hx hcap hcap2 hc1 had0 hmx hu132 hu134
            go_loopw [32, 2] (fun v32 v2 wr2 => ∃ (j : Nat) (s2 : List Nat) (wt2 : List Int), v32 = .int .i64 (j : Int) ∧ Aside0 (j ≤ l.length) ∧ Aside0 (clRow (l.drop j) s2 wt2 = some (s3, wt3)) ∧ Aside0 (ClAt w0 w.heap.size (w.heap.size + 1) s2 v2 wt2 wr2)) (fun v32 _ _ => l.length - (intOf v32).toNat)
            case atStart =>
              refine ⟨0, s1, _, rfl, ⟨by omega⟩, HQ, ⟨?_⟩⟩
              exact HC.out.cut (by omega)
            case round =>
              clear HQ HC
              obtain ⟨j, s2, wt2, rfl, HJ, HQ, HC⟩ := hrel
              obtain ⟨A3, c3', rfl⟩ := Kd.R_slice HC.out.2.1
              by_cases hlt : j < l.length
              · have HQ2 := HQ.out
                have hd : l.drop j = rd_T80 l j :: l.drop (j + 1) := by
                  rw [List.drop_eq_getElem_cons hlt]
                  simp [rd_T80, List.getD_eq_getElem?_getD, List.getElem?_eq_getElem hlt]
                rw [hd] at HQ2
                clear HQ hd
                simp only [clRow] at HQ2
                obtain ⟨ad, ead, hx0, hx1, hx2⟩ := at_T80 (Kd.C_below HL2.out HC.out.2.2.1) (j : Int) (by omega) (by omega)
                cases ead
                rw [Int.toNat_natCast] at hx0 hx1 hx2
                generalize rd_T80 l j = x at HQ2 hx0 hx1 hx2
                obtain ⟨xa, xb, xc⟩ := x
                simp only [] at HQ2 hx0 hx1 hx2
                have HLT := Aside0.mk hlt
                by_cases e1 : xb = -1
                · subst e1
                  rw [if_pos rfl] at HQ2
                  by_cases e2 : 0 ≤ xc ∧ xc < 1024
                  · rw [if_pos e2] at HQ2
                    obtain ⟨e2a, e2b⟩ := e2
                    have HX := blk_new wr (.cells #[.int .i64 xa, .int .i64 (-1), .int .i64 xc] 80)
                    have hC1 := HC.out.below (below_alloc (Below.refl _ _) (.cells #[.int .i64 xa, .int .i64 (-1), .int .i64 xc] 80))
                    have hcall := has_calls w.heap.size xc s2 _ e2a e2b hC1.1
                    cases hm : mem s2 xc.toNat with
                    | true =>
                      rw [hm] at HQ2 hcall
                      rw [if_pos rfl] at HQ2
                      have HH2 := Aside0.mk HQ2
                      have HC1 := Aside0.mk hC1
                      clear HQ2 hm hC1 HX
                      go_wp2_with (go_at_call 88; refine hcall.mono ?_; rintro e w' ⟨rfl, rfl⟩)
                      go_roundw
                      case rel => exact ⟨j + 1, s2, wt2, by go_num, ⟨by have := HLT.out; omega⟩, HH2, HC1⟩
                      case measure => have := HLT.out; simp [intOf]; omega
                    | false =>
                      rw [hm] at HQ2 hcall
                      rw [if_neg (by simp)] at HQ2
                      by_cases e3 : wt2.length < 1099511627776
                      · rw [if_pos e3] at HQ2
                        have HH2 := Aside0.mk HQ2
                        have HC1 := Aside0.mk hC1
                        have hput := put_calls w.heap.size xc s2 _ e2a e2b hC1.1
                        have HXX := Aside0.mk HX
                        have hlt2 := blk_lt HC.out.1.2
                        clear HQ2 hm hC1 HX HC
                        go_wp2_with (first | (go_at_call 88; refine hcall.mono ?_; rintro e w' ⟨rfl, rfl⟩) | (go_at_call 89; refine hput.mono ?_; rintro e w5 ⟨rfl, hs5, hb5, hk5⟩; have hC5 := HC1.out.put hs5 hb5 hk5; have hx5 := (blk_cell ((hk5.2 wr.heap.size (blk_lt HXX.out) (by omega) (by simp)).trans HXX.out) 2).trans rfl; clear hs5 hb5 hk5) | ((with_reducible refine gate_builtin (b := .append) (xs := #[.tmp 48, .tmp 51]) rfl ?_); at_builtin; (refine Kd.R_append (Kd.int .i64) (w0 := w0) w0.heap.size rfl (.tmp 48) (.tmp 51) 22 3 (.int .i64 0) 8 rfl Try.underlying22 info3 rfl (by decide) (by omega) (.slice A3 wt2.length c3') wt2 xc [.int .i64 xc] (fun _ => True) (fun _ => False) rfl rfl ?aP (fun _ hk => hk.elim) ?aF ?aO ?aB ?aS ?aL ?_; (case aP => exact rfl); (case aB => exact hC5.2.2.1); (case aF => exact (fun _ _ => trivial)); (case aO => exact hC5.2.1); (case aS => exact hC5.2.2.1.size); (case aL => omega); intro v6 w6 ho hb hg hat; have HC6 := Aside0.mk (hC5.app ho hb hg); clear hC5 hx5 ho hb hg hat)))
                        go_roundw
                        case rel => exact ⟨j + 1, ins s2 xc.toNat, wt2 ++ [xc], by go_num, ⟨by have := HLT.out; omega⟩, HH2, HC6⟩
                        case measure => have := HLT.out; simp [intOf]; omega
                      · rw [if_neg e3] at HQ2; exact absurd HQ2 (by simp)
                  · rw [if_neg e2] at HQ2; exact absurd HQ2 (by simp)
                · rw [if_neg e1] at HQ2
                  have HH2 := Aside0.mk HQ2
                  have e1b : (xb == -1) = false := beq_eq_false_iff_ne.mpr e1
                  clear HQ2 e1
                  go_wp2
                  go_roundw
                  case rel => exact ⟨j + 1, s2, wt2, by go_num, ⟨by have := HLT.out; omega⟩, HH2, ⟨HC.out.below (below_alloc (Below.refl _ _) _)⟩⟩
                  case measure => have := HLT.out; simp [intOf]; omega
              · have HQ2 := HQ.out
                rw [List.drop_of_length_le (by omega)] at HQ2
                simp only [clRow, Option.some.injEq, Prod.mk.injEq] at HQ2
                obtain ⟨rfl, rfl⟩ := HQ2
                have hlt' : ¬ ((j : Int) < (l.length : Int)) := by omega
                go_wp2
                go_roundg k1
                case rel => exact ⟨s2, wt2, HH, ⟨by have := HK1.out; omega⟩, HC⟩
                case measure => have := HK1.out; omega
        · rw [if_neg c3] at H; exact absurd H (by simp)
      · rw [if_neg c2] at H
        simp only [Option.some.injEq] at H
        subst H
        have hlw : (wordsOf s1).toArray.size = 16 := by simp [wordsOf, HC.out.1.1.1]
        have hone : ∀ q ∈ (wordsOf s1).toArray, q.oneCell' = true := by
          intro q hq
          simp only [wordsOf, List.mem_toArray, List.mem_map] at hq
          obtain ⟨n, _, rfl⟩ := hq
          rfl
        have c2b : ¬ (0 : Int) < (wt1.length : Int) := by omega
        go_wp2_with (first | ((with_reducible refine gate_dst (N := 54) rfl ?_); refine wpList_load_row rfl 88 (.tmp 4) rfl w.heap.size rfl 88 (wordsOf s1).toArray (0, 0) _ HC.out.1.2 Try.underlying88 rfl ?_ ?_; (focus (rw [i88, hlw])); refine wpList_store_rowTo rfl 88 (.tmp 6) (.tmp 54) rfl rfl (w.heap.size + 1) (wordsOf s1).toArray rfl rfl 88 _ HC.out.2.2.2.1 ?_ ?_ ?_ ?_; (focus (rw [i88, hlw])); (focus (rw [hlw]; simp)); (focus (exact Array.all_eq_true_iff_forall_mem.2 hone))))
        have hblk := setRow_heap wr (w.heap.size + 1) _ (wordsOf s1).toArray 88 (0, 0) HC.out.2.2.2.1
        refine bodyPost_ret (results_cell_row rfl _ _ (w.heap.size + 1) 88 (wordsOf s1).toArray (0, 0) _ rfl hblk Try.underlying88 rfl (by rw [i88, hlw])) rfl ?_
        exact ⟨rfl, HC.out.1.1, below_setRow HC.out.2.2.1 (by have := HB.out.size; omega) _⟩
end Go.Proofs.Ytkaefgmgcghhiaa.X
end

section
namespace Go.Proofs.Ytkaefgmgcghhiaa.X
open Go.RowKit Go.Proofs.YtkaefgmgcghhiaaW.PrintWords Go.Proofs.YtkaefgmgcghhiaaW.PrintLast Go.Proofs.YtkaefgmgcghhiaaW.PrintMore
theorem RunAt.below {w w1 : World} {base rb : Nat} {K N : Int} {sv fv ev : Value} {fr : List (List S80)} (h : RunAt w base rb K N sv fv ev fr) (hb : Below w.heap.size w w1) : RunAt w1 base rb K N sv fv ev fr := by
  obtain ⟨g, vs, h1, h2, h3⟩ := h
  exact ⟨g, vs, blk_below h1 hb, h2, h3.below hb⟩
def none16 : List Nat := List.replicate 16 0
theorem none16_set : IsSet none16 := ⟨by simp [none16], fun x hx => by rw [none16] at hx; rw [List.eq_of_mem_replicate hx]; omega⟩
theorem set_len {s : List Nat} (h : IsSet s) : (wordsOf s).toArray.size = 16 := by simp [wordsOf, h.1]
theorem set_one (s : List Nat) : ((wordsOf s).toArray.all (·.oneCell')) = true := by
  refine Array.all_eq_true_iff_forall_mem.2 fun q hq => ?_
  simp only [wordsOf, List.mem_toArray, List.mem_map] at hq
  obtain ⟨n, _, rfl⟩ := hq
  rfl
def stRow : List Int → List Nat → List Int → Option (List Nat × List Int)
  | [], s, wt => some (s, wt)
  | i :: r, s, wt => if 0 ≤ i ∧ i < 1024 then (if mem s i.toNat = true then stRow r s wt else if wt.length < 1099511627776 then stRow r (ins s i.toNat) (wt ++ [i]) else none) else none
def startF (k : Nat) (N : Int) (fr : List (List S80)) (S : List Int) : Option (List Nat) :=
  match stRow S none16 [] with
  | none => none
  | some (s, wt) => clF N fr k s wt
set_option maxHeartbeats 4000000 in
set_option maxRecDepth 100000 in
theorem start_walk (k rb : Nat) (K N : Int) (A2 : Option Addr) (c2 : Nat) (S : List Int) (fv ev : Value) (fr : List (List S80)) (t : List Nat) (w : World) (base : Nat)
    (hN : 1 ≤ N ∧ N ≤ 1024) (hfr : (fr.length : Int) = N) (hfl : ∀ j, (fr.getD j []).length ≤ 65536) (hR : RunAt w base rb K N (.slice A2 S.length c2) fv ev fr) (hS : Kd.C (Kd.int .i64) w A2 S.length S) (hSl : S.length ≤ 65536) (h : startF k N fr S = some t) :
    Calls Try.prog 58 #[.pointer (some ⟨rb, 0, none⟩)] w fun e w' => e = .returned (.agg (wordsOf t).toArray) ∧ IsSet t ∧ Below w.heap.size w w' := by
  have hu134 := Try.underlying134
  have hu25 := Try.underlying25
  have hu22 := Try.underlying22
  cases hq : stRow S none16 [] with
  | none => rw [startF, hq] at h; exact absurd h (by simp)
  | some p =>
    obtain ⟨s3, wt3⟩ := p
    rw [startF, hq] at h
    simp only [] at h
    have HH := Aside0.mk h
    have HQ0 := Aside0.mk hq
    have HR := Aside0.mk hR
    have HS := Aside0.mk hS
    have HSL := Aside0.mk hSl
    clear h hq hS
    obtain ⟨g, vs, hrb, hbr, hrow⟩ := hR
    obtain ⟨z88, i88⟩ := zero_of_info info88
    have hcell2 := (blk_cell hrb 2).trans rfl
    have hlt0 := blk_lt hrb
    clear hrow
    go_enter Try.func58, Try.ntmps58
    go_wp2
    obtain ⟨W0, hW0⟩ : ∃ W0, W0 = w.alloc (.cells (Array.replicate 16 (.int .u64 0)) 88) := ⟨_, rfl⟩
    have hb0 : Below w.heap.size w W0 := by rw [hW0]; exact below_alloc (Below.refl _ _) _
    have hs0 : W0.heap.size = w.heap.size + 1 := by rw [hW0]; simp
    have hC0 : ClAt W0 (w.heap.size + 1) w.heap.size none16 (.slice none 0 0) [] ((w.alloc (.cells (Array.replicate 16 (.int .u64 0)) 88)).alloc (.cells (Array.replicate 16 (.int .u64 0)) 88)) := by
      rw [← hW0, ← hs0]
      refine ⟨⟨none16_set, blk_new W0 _⟩, Kd.R_nil _ _ _ _ _, below_alloc (Below.refl _ _) _, ?_, by omega, by omega⟩
      refine blk_alloc ?_ _
      rw [hW0]
      exact blk_new _ _
    have HB0 := Aside0.mk hb0
    have HS0 := Aside0.mk hs0
    have HW0 := Aside0.mk hW0
    clear hb0 hs0 hW0 hcell2
    go_loopw [13, 4] (fun v13 v4 wr => ∃ (j : Nat) (s2 : List Nat) (wt2 : List Int), v13 = .int .i64 (j : Int) ∧ Aside0 (j ≤ S.length) ∧ Aside0 (stRow (S.drop j) s2 wt2 = some (s3, wt3)) ∧ Aside0 (ClAt W0 (w.heap.size + 1) w.heap.size s2 v4 wt2 wr)) (fun v13 _ _ => S.length - (intOf v13).toNat)
    case atStart => exact ⟨0, _, _, rfl, ⟨by omega⟩, HQ0, ⟨hC0⟩⟩
    case round =>
      clear hC0 HQ0
      obtain ⟨j, s2, wt2, rfl, HJ, HQ, HC⟩ := hrel
      obtain ⟨A3, c3', rfl⟩ := Kd.R_slice HC.out.2.1
      have hll := HSL.out
      by_cases hlt : j < S.length
      · have HQ2 := HQ.out
        have hd : S.drop j = rd S j :: S.drop (j + 1) := by
          rw [List.drop_eq_getElem_cons hlt]
          simp [rd, List.getD_eq_getElem?_getD, List.getElem?_eq_getElem hlt]
        rw [hd] at HQ2
        clear HQ hd
        simp only [stRow] at HQ2
        obtain ⟨ad, ead, hx⟩ := Kd.at_int (Kd.C_below (Kd.C_below HS.out HB0.out) (below_weaken HC.out.2.2.1 (Nat.le_refl _) (Below.refl _ _))) (j : Int) (by omega) (by omega)
        cases ead
        rw [Int.toNat_natCast] at hx
        generalize rd S (j : Int) = xc at HQ2 hx
        have HLT := Aside0.mk hlt
        by_cases e2 : 0 ≤ xc ∧ xc < 1024
        · rw [if_pos e2] at HQ2
          obtain ⟨e2a, e2b⟩ := e2
          have hcall := has_calls (w.heap.size + 1) xc s2 _ e2a e2b HC.out.1
          cases hm : mem s2 xc.toNat with
          | true =>
            rw [hm] at HQ2 hcall
            rw [if_pos rfl] at HQ2
            have HH2 := Aside0.mk HQ2
            clear HQ2 hm
            go_wp2_with (go_at_call 88; refine hcall.mono ?_; rintro e w' ⟨rfl, rfl⟩)
            go_roundw
            case rel => exact ⟨j + 1, s2, wt2, by go_num, ⟨by have := HLT.out; omega⟩, HH2, HC⟩
            case measure => have := HLT.out; simp [intOf]; omega
          | false =>
            rw [hm] at HQ2 hcall
            rw [if_neg (by simp)] at HQ2
            by_cases e3 : wt2.length < 1099511627776
            · rw [if_pos e3] at HQ2
              have HH2 := Aside0.mk HQ2
              have hput := put_calls (w.heap.size + 1) xc s2 _ e2a e2b HC.out.1
              clear HQ2 hm
              go_wp2_with (first | (go_at_call 88; refine hcall.mono ?_; rintro e w' ⟨rfl, rfl⟩) | (go_at_call 89; refine hput.mono ?_; rintro e w5 ⟨rfl, hs5, hb5, hk5⟩; have hC5 := HC.out.put hs5 hb5 hk5; clear hs5 hb5 hk5) | ((with_reducible refine gate_builtin (b := .append) (xs := #[.tmp 22, .tmp 24]) rfl ?_); at_builtin; (refine Kd.R_append (Kd.int .i64) (w0 := W0) W0.heap.size rfl (.tmp 22) (.tmp 24) 22 3 (.int .i64 0) 8 rfl Try.underlying22 info3 rfl (by decide) (by omega) (.slice A3 wt2.length c3') wt2 xc [.int .i64 xc] (fun _ => True) (fun _ => False) rfl rfl ?aP (fun _ hk => hk.elim) ?aF ?aO ?aB ?aS ?aL ?_; (case aP => exact rfl); (case aB => exact hC5.2.2.1); (case aF => exact (fun _ _ => trivial)); (case aO => exact hC5.2.1); (case aS => exact hC5.2.2.1.size); (case aL => omega); intro v6 w6 ho hb hg hat; have HC6 := Aside0.mk (hC5.app ho hb hg); clear hC5 ho hb hg hat)))
              go_roundw
              case rel => exact ⟨j + 1, ins s2 xc.toNat, wt2 ++ [xc], by go_num, ⟨by have := HLT.out; omega⟩, HH2, HC6⟩
              case measure => have := HLT.out; simp [intOf]; omega
            · rw [if_neg e3] at HQ2; exact absurd HQ2 (by simp)
        · rw [if_neg e2] at HQ2; exact absurd HQ2 (by simp)
      · have HQ2 := HQ.out
        rw [List.drop_of_length_le (by omega)] at HQ2
        simp only [stRow, Option.some.injEq, Prod.mk.injEq] at HQ2
        obtain ⟨rfl, rfl⟩ := HQ2
        have hlt' : ¬ ((j : Int) < (S.length : Int)) := by omega
        have hcl := closed_walk k rb 0 K N _ fv ev (.slice A3 wt2.length c3') fr s2 t wt2 W0 wr base hN hfr hfl (HR.out.below HB0.out) HC.out.2.2.1 HC.out.1.1 HC.out.2.1 HH.out
        have hz : W0.heap[w.heap.size]? = some (.cells (Array.replicate 16 (.int .u64 0)) 88 (0, 0)) := by rw [HW0.out]; exact blk_new _ _
        have HZ := Aside0.mk hz
        clear hz
        go_wp2_with (first | ((with_reducible refine gate_dst (N := 28) rfl ?_); refine wpList_load_row rfl 88 (.tmp 3) rfl (w.heap.size + 1) rfl 88 (wordsOf s2).toArray (0, 0) _ HC.out.1.2 Try.underlying88 rfl ?_ ?_; (focus (rw [i88, set_len HC.out.1.1]))) | (go_at_call 90; refine hcl.mono ?_; rintro e w8 ⟨rfl, ht, hb8⟩; have HT := Aside0.mk ht; have HB8 := Aside0.mk hb8; clear ht hb8) | ((with_reducible refine gate_store (t := 88) (p := 2) rfl ?_); refine wpList_store_rowTo rfl 88 (.tmp 2) (.tmp 30) rfl rfl w.heap.size (wordsOf t).toArray rfl rfl 88 _ (blk_below HZ.out HB8.out) ?_ ?_ (set_one t) ?_; (focus (rw [i88, set_len HT.out])); (focus (rw [set_len HT.out]; simp))))
        have hblk := setRow_heap w8 w.heap.size _ (wordsOf t).toArray 88 (0, 0) (blk_below HZ.out HB8.out)
        refine bodyPost_ret (results_cell_row rfl _ _ w.heap.size 88 (wordsOf t).toArray (0, 0) _ rfl hblk Try.underlying88 rfl (by rw [i88, set_len HT.out])) rfl ?_
        exact ⟨rfl, HT.out, below_setRow (below_then HB0.out HB0.out.size HB8.out) (Nat.le_refl _) _⟩
end Go.Proofs.Ytkaefgmgcghhiaa.X
end

section
namespace Go.Proofs.Ytkaefgmgcghhiaa.X
open Go.RowKit Go.Proofs.YtkaefgmgcghhiaaW.PrintWords Go.Proofs.YtkaefgmgcghhiaaW.PrintLast Go.Proofs.YtkaefgmgcghhiaaW.PrintMore
def spRow (sy : Int) : List S80 → List Nat → List Int → Option (List Nat × List Int)
  | [], s, wt => some (s, wt)
  | x :: r, s, wt => if x.f1 = sy then (if 0 ≤ x.f2 ∧ x.f2 < 1024 then (if mem s x.f2.toNat = true then spRow sy r s wt else if wt.length < 1099511627776 then spRow sy r (ins s x.f2.toNat) (wt ++ [x.f2]) else none) else none) else spRow sy r s wt
def spF (fr : List (List S80)) (s : List Nat) (sy : Int) : List Nat → List Nat → List Int → Option (List Nat × List Int)
  | [], t, wt => some (t, wt)
  | i :: r, t, wt => if mem s i = true then (match spRow sy (fr.getD i []) t wt with | none => none | some (t1, wt1) => spF fr s sy r t1 wt1) else spF fr s sy r t wt
def stepF (k : Nat) (N : Int) (fr : List (List S80)) (s : List Nat) (sy : Int) : Option (List Nat) :=
  match spF fr s sy (List.range N.toNat) none16 [] with
  | none => none
  | some (t, wt) => clF N fr k t wt
set_option maxHeartbeats 8000000 in
set_option maxRecDepth 100000 in
theorem step_walk (k rb : Nat) (K N : Int) (sv fv ev : Value) (fr : List (List S80)) (s t : List Nat) (sy : Int) (w : World) (base : Nat)
    (hN : 1 ≤ N ∧ N ≤ 1024) (hfr : (fr.length : Int) = N) (hfl : ∀ j, (fr.getD j []).length ≤ 65536) (hR : RunAt w base rb K N sv fv ev fr) (hs : IsSet s) (h : stepF k N fr s sy = some t) :
    Calls Try.prog 59 #[.pointer (some ⟨rb, 0, none⟩), .agg (wordsOf s).toArray, .int .i64 sy] w fun e w' => e = .returned (.agg (wordsOf t).toArray) ∧ IsSet t ∧ Below w.heap.size w w' := by
  have hu134 := Try.underlying134
  have hu132 := Try.underlying132
  have hu80 := Try.underlying80
  have hu25 := Try.underlying25
  have hu23 := Try.underlying23
  have hu22 := Try.underlying22
  cases hq : spF fr s sy (List.range N.toNat) none16 [] with
  | none => rw [stepF, hq] at h; exact absurd h (by simp)
  | some p =>
    obtain ⟨s3, wt3⟩ := p
    rw [stepF, hq] at h
    simp only [] at h
    have HH := Aside0.mk h
    have HQ0 := Aside0.mk hq
    have HR := Aside0.mk hR
    have HSS := Aside0.mk hs
    have HFR := Aside0.mk hfr
    have HFL := Aside0.mk hfl
    obtain ⟨hN1, hN2⟩ := hN
    have HN := Aside0.mk (And.intro hN1 hN2)
    clear h hq hs hfr hfl
    obtain ⟨g, vs, hrb, hbr, hrow⟩ := hR
    have HRB := Aside0.mk hrb
    have HRO := Aside0.mk hrow
    obtain ⟨z88, i88⟩ := zero_of_info info88
    have hcell1 : w.cell? ⟨rb, 1, none⟩ = some (.int .i64 N) := (blk_cell hrb 1).trans rfl
    have hlt0 := blk_lt hrb
    have hcellx : (((w.alloc (.cells (wordsOf s).toArray 88)).alloc (.cells (Array.replicate 16 (.int .u64 0)) 88)).alloc (.cells (Array.replicate 16 (.int .u64 0)) 88)).cell? ⟨rb, 1, none⟩ = some (.int .i64 N) := ((below_alloc (below_alloc (below_alloc (Below.refl w.heap.size w) _) _) _).cell (p := ⟨rb, 1, none⟩) hlt0).trans hcell1
    clear hrow hrb
    go_enter Try.func59, Try.ntmps59
    go_wp2
    obtain ⟨W0, hW0⟩ : ∃ W0, W0 = (w.alloc (.cells (wordsOf s).toArray 88)).alloc (.cells (Array.replicate 16 (.int .u64 0)) 88) := ⟨_, rfl⟩
    have hb0 : Below w.heap.size w W0 := by rw [hW0]; exact below_alloc (below_alloc (Below.refl _ _) _) _
    have hs0 : W0.heap.size = w.heap.size + 1 + 1 := by rw [hW0]; simp
    have hset0 : SetAt W0 w.heap.size s := ⟨HSS.out, by rw [hW0]; exact blk_alloc (blk_new _ _) _⟩
    have hz0 : W0.heap[w.heap.size + 1]? = some (.cells (Array.replicate 16 (.int .u64 0)) 88 (0, 0)) := by
      rw [hW0]
      have h := blk_new (w.alloc (.cells (wordsOf s).toArray 88)) (.cells (Array.replicate 16 (.int .u64 0)) 88)
      simpa using h
    have hC0 : ClAt W0 (w.heap.size + 1 + 1) (w.heap.size + 1) none16 (.slice none 0 0) [] (((w.alloc (.cells (wordsOf s).toArray 88)).alloc (.cells (Array.replicate 16 (.int .u64 0)) 88)).alloc (.cells (Array.replicate 16 (.int .u64 0)) 88)) := by
      rw [← hW0, ← hs0]
      refine ⟨⟨none16_set, blk_new W0 _⟩, Kd.R_nil _ _ _ _ _, below_alloc (Below.refl _ _) _, blk_alloc hz0 _, by omega, by omega⟩
    have HB0 := Aside0.mk hb0
    have HS0 := Aside0.mk hs0
    have HW0 := Aside0.mk hW0
    have HSET := Aside0.mk hset0
    have HZ := Aside0.mk hz0
    have HR0 := Aside0.mk (HR.out.below hb0)
    have HRB0 := Aside0.mk (blk_below HRB.out hb0)
    have HRO0 := Aside0.mk (HRO.out.below hb0)
    clear hb0 hs0 hcell1 hcellx hset0 hz0 HRB HRO
    clear hW0
    go_loopw [17, 8] (fun v17 v8 wr => ∃ (i : Nat) (s2 : List Nat) (wt2 : List Int), v17 = .int .i64 (i : Int) ∧ Aside0 (i ≤ N.toNat) ∧ Aside0 (spF fr s sy ((List.range N.toNat).drop i) s2 wt2 = some (s3, wt3)) ∧ Aside0 (ClAt W0 (w.heap.size + 1 + 1) (w.heap.size + 1) s2 v8 wt2 wr)) (fun v17 _ _ => N.toNat - (intOf v17).toNat)
    case atStart => exact ⟨0, _, _, rfl, ⟨by omega⟩, HQ0, ⟨hC0⟩⟩
    case round =>
      clear hC0 HQ0
      obtain ⟨i, s2, wt2, rfl, HI, HQ, HC⟩ := hrel
      obtain ⟨A3, c3', rfl⟩ := Kd.R_slice HC.out.2.1
      by_cases hlt : i < N.toNat
      · have HQ2 := HQ.out
        have hd : (List.range N.toNat).drop i = i :: (List.range N.toNat).drop (i + 1) := by
          rw [List.drop_eq_getElem_cons (by simpa using hlt)]
          simp
        rw [hd] at HQ2
        clear HQ hd
        simp only [spF] at HQ2
        have hlt' : (i : Int) < N := by omega
        have HLT := Aside0.mk hlt
        have hcall := has_calls w.heap.size (i : Int) s _ (by omega) (by omega) (HSET.out.below HC.out.2.2.1)
        rw [Int.toNat_natCast] at hcall
        cases hm : mem s i with
        | false =>
          rw [hm] at HQ2 hcall
          rw [if_neg (by simp)] at HQ2
          have HH2 := Aside0.mk HQ2
          clear HQ2 hm
          go_wp2_with (go_at_call 88; refine hcall.mono ?_; rintro e w' ⟨rfl, rfl⟩)
          go_roundw
          case rel => exact ⟨i + 1, s2, wt2, by go_num, ⟨by have := HLT.out; omega⟩, HH2, HC⟩
          case measure => have := HLT.out; simp [intOf]; omega
        | true =>
          rw [hm] at HQ2 hcall
          rw [if_pos rfl] at HQ2
          cases hq : spRow sy (fr.getD i []) s2 wt2 with
          | none => rw [hq] at HQ2; exact absurd HQ2 (by simp)
          | some p =>
            obtain ⟨s5, wt5⟩ := p
            rw [hq] at HQ2
            simp only [] at HQ2
            have HH2 := Aside0.mk HQ2
            clear HQ2 hm
            have hrb := blk_below HRB0.out HC.out.2.2.1
            have hcell5 := (blk_cell hrb 5).trans rfl
            have hfr := HFR.out
            obtain ⟨vr, hv⟩ : ∃ vr, vs[i]? = some vr := ⟨_, List.getElem?_eq_getElem (by rw [HRO0.out.2.1]; omega)⟩
            have hl : fr[i]? = some (fr.getD i []) := by
              rw [List.getD_eq_getElem?_getD, List.getElem?_eq_getElem (by omega)]
              rfl
            have hR1 := HRO0.out.2.2.2.1 i vr _ hv hl
            have hgc : wr.cell? ⟨g, i, none⟩ = some vr := (blk_cell (blk_below HRO0.out.1 HC.out.2.2.1) i).trans (by simpa using hv)
            have hll := HFL.out i
            generalize fr.getD i [] = l at hq hR1 hl hll
            obtain ⟨A2, c2', rfl, hlc, hR2⟩ := Kd.R_reads hR1
            have HL2 := Aside0.mk hR2
            have HQ := Aside0.mk hq
            have hmx : max N 0 = N := by omega
            clear hR1 hR2 hq hv hl hrb hfr
            go_wp2_with (go_at_call 88; refine hcall.mono ?_; rintro e w' ⟨rfl, rfl⟩)
            clear hcell5 hgc hmx hcall
            go_loopw [31, 8] (fun v31 v8 wr2 => ∃ (j : Nat) (s2 : List Nat) (wt2 : List Int), v31 = .int .i64 (j : Int) ∧ Aside0 (j ≤ l.length) ∧ Aside0 (spRow sy (l.drop j) s2 wt2 = some (s5, wt5)) ∧ Aside0 (ClAt W0 (w.heap.size + 1 + 1) (w.heap.size + 1) s2 v8 wt2 wr2)) (fun v31 _ _ => l.length - (intOf v31).toNat)
            case atStart => exact ⟨0, s2, _, rfl, ⟨by omega⟩, HQ, HC⟩
            case round =>
              clear HQ HC
              obtain ⟨j, s2, wt2, rfl, HJ, HQ, HC⟩ := hrel
              obtain ⟨A3, c3', rfl⟩ := Kd.R_slice HC.out.2.1
              by_cases hlt2 : j < l.length
              · have HQ2 := HQ.out
                have hd : l.drop j = rd_T80 l j :: l.drop (j + 1) := by
                  rw [List.drop_eq_getElem_cons hlt2]
                  simp [rd_T80, List.getD_eq_getElem?_getD, List.getElem?_eq_getElem hlt2]
                rw [hd] at HQ2
                clear HQ hd
                simp only [spRow] at HQ2
                obtain ⟨ad, ead, hx0, hx1, hx2⟩ := at_T80 (Kd.C_below HL2.out HC.out.2.2.1) (j : Int) (by omega) (by omega)
                cases ead
                rw [Int.toNat_natCast] at hx0 hx1 hx2
                generalize rd_T80 l j = x at HQ2 hx0 hx1 hx2
                obtain ⟨xa, xb, xc⟩ := x
                simp only [] at HQ2 hx0 hx1 hx2
                have HLT2 := Aside0.mk hlt2
                by_cases e1 : xb = sy
                · subst e1
                  rw [if_pos rfl] at HQ2
                  by_cases e2 : 0 ≤ xc ∧ xc < 1024
                  · rw [if_pos e2] at HQ2
                    obtain ⟨e2a, e2b⟩ := e2
                    have HX := blk_new wr (.cells #[.int .i64 xa, .int .i64 xb, .int .i64 xc] 80)
                    have hC1 := HC.out.below (below_alloc (Below.refl _ _) (.cells #[.int .i64 xa, .int .i64 xb, .int .i64 xc] 80))
                    have hcall := has_calls (w.heap.size + 1 + 1) xc s2 _ e2a e2b hC1.1
                    cases hm : mem s2 xc.toNat with
                    | true =>
                      rw [hm] at HQ2 hcall
                      rw [if_pos rfl] at HQ2
                      have HH4 := Aside0.mk HQ2
                      have HC1 := Aside0.mk hC1
                      clear HQ2 hm hC1 HX
                      go_wp2_with (go_at_call 88; refine hcall.mono ?_; rintro e w' ⟨rfl, rfl⟩)
                      go_roundw
                      case rel => exact ⟨j + 1, s2, wt2, by go_num, ⟨by have := HLT2.out; omega⟩, HH4, HC1⟩
                      case measure => have := HLT2.out; simp [intOf]; omega
                    | false =>
                      rw [hm] at HQ2 hcall
                      rw [if_neg (by simp)] at HQ2
                      by_cases e3 : wt2.length < 1099511627776
                      · rw [if_pos e3] at HQ2
                        have HH4 := Aside0.mk HQ2
                        have HC1 := Aside0.mk hC1
                        have hput := put_calls (w.heap.size + 1 + 1) xc s2 _ e2a e2b hC1.1
                        have HXX := Aside0.mk HX
                        have hlt3 := blk_lt HC.out.1.2
                        clear HQ2 hm hC1 HX HC
                        go_wp2_with (first | (go_at_call 88; refine hcall.mono ?_; rintro e w' ⟨rfl, rfl⟩) | (go_at_call 89; refine hput.mono ?_; rintro e w5 ⟨rfl, hs5, hb5, hk5⟩; have hC5 := HC1.out.put hs5 hb5 hk5; have hx5 := (blk_cell ((hk5.2 wr.heap.size (blk_lt HXX.out) (by omega) (by simp)).trans HXX.out) 2).trans rfl; clear hs5 hb5 hk5) | ((with_reducible refine gate_builtin (b := .append) (xs := #[.tmp 48, .tmp 51]) rfl ?_); at_builtin; (refine Kd.R_append (Kd.int .i64) (w0 := W0) W0.heap.size rfl (.tmp 48) (.tmp 51) 22 3 (.int .i64 0) 8 rfl Try.underlying22 info3 rfl (by decide) (by omega) (.slice A3 wt2.length c3') wt2 xc [.int .i64 xc] (fun _ => True) (fun _ => False) rfl rfl ?aP (fun _ hk => hk.elim) ?aF ?aO ?aB ?aS ?aL ?_; (case aP => exact rfl); (case aB => exact hC5.2.2.1); (case aF => exact (fun _ _ => trivial)); (case aO => exact hC5.2.1); (case aS => exact hC5.2.2.1.size); (case aL => omega); intro v6 w6 ho hb hg hat; have HC6 := Aside0.mk (hC5.app ho hb hg); clear hC5 hx5 ho hb hg hat)))
                        go_roundw
                        case rel => exact ⟨j + 1, ins s2 xc.toNat, wt2 ++ [xc], by go_num, ⟨by have := HLT2.out; omega⟩, HH4, HC6⟩
                        case measure => have := HLT2.out; simp [intOf]; omega
                      · rw [if_neg e3] at HQ2; exact absurd HQ2 (by simp)
                  · rw [if_neg e2] at HQ2; exact absurd HQ2 (by simp)
                · rw [if_neg e1] at HQ2
                  have HH4 := Aside0.mk HQ2
                  have e1b : (xb == sy) = false := beq_eq_false_iff_ne.mpr e1
                  clear HQ2 e1
                  go_wp2
                  go_roundw
                  case rel => exact ⟨j + 1, s2, wt2, by go_num, ⟨by have := HLT2.out; omega⟩, HH4, ⟨HC.out.below (below_alloc (Below.refl _ _) _)⟩⟩
                  case measure => have := HLT2.out; simp [intOf]; omega
              · have HQ2 := HQ.out
                rw [List.drop_of_length_le (by omega)] at HQ2
                simp only [spRow, Option.some.injEq, Prod.mk.injEq] at HQ2
                obtain ⟨rfl, rfl⟩ := HQ2
                have hlt' : ¬ ((j : Int) < (l.length : Int)) := by omega
                go_wp2
                go_roundw
                case rel => exact ⟨i + 1, s2, wt2, by go_num, ⟨by have := HLT.out; omega⟩, HH2, HC⟩
                case measure => have := HLT.out; simp [intOf]; omega
      · have HQ2 := HQ.out
        rw [List.drop_of_length_le (by simp; omega)] at HQ2
        simp only [spF, Option.some.injEq, Prod.mk.injEq] at HQ2
        obtain ⟨rfl, rfl⟩ := HQ2
        have hlt' : ¬ ((i : Int) < N) := by omega
        have hcl := closed_walk k rb 0 K N sv fv ev (.slice A3 wt2.length c3') fr s2 t wt2 W0 wr base HN.out HFR.out HFL.out HR0.out HC.out.2.2.1 HC.out.1.1 HC.out.2.1 HH.out
        go_wp2_with (first | ((with_reducible refine gate_dst (N := 56) rfl ?_); refine wpList_load_row rfl 88 (.tmp 7) rfl (w.heap.size + 1 + 1) rfl 88 (wordsOf s2).toArray (0, 0) _ HC.out.1.2 Try.underlying88 rfl ?_ ?_; (focus (rw [i88, set_len HC.out.1.1]))) | (go_at_call 90; refine hcl.mono ?_; rintro e w8 ⟨rfl, ht, hb8⟩; have HT := Aside0.mk ht; have HB8 := Aside0.mk hb8; clear ht hb8) | ((with_reducible refine gate_store (t := 88) (p := 6) rfl ?_); refine wpList_store_rowTo rfl 88 (.tmp 6) (.tmp 58) rfl rfl (w.heap.size + 1) (wordsOf t).toArray rfl rfl 88 _ (blk_below HZ.out HB8.out) ?_ ?_ (set_one t) ?_; (focus (rw [i88, set_len HT.out])); (focus (rw [set_len HT.out]; simp))))
        have hblk := setRow_heap w8 (w.heap.size + 1) _ (wordsOf t).toArray 88 (0, 0) (blk_below HZ.out HB8.out)
        refine bodyPost_ret (results_cell_row rfl _ _ (w.heap.size + 1) 88 (wordsOf t).toArray (0, 0) _ rfl hblk Try.underlying88 rfl (by rw [i88, set_len HT.out])) rfl ?_
        exact ⟨rfl, HT.out, below_setRow (below_then HB0.out HB0.out.size HB8.out) (by omega) _⟩
end Go.Proofs.Ytkaefgmgcghhiaa.X
end

section
namespace Go.Proofs.Ytkaefgmgcghhiaa.X
open Go.RowKit Go.Proofs.YtkaefgmgcghhiaaW.PrintWords Go.Proofs.YtkaefgmgcghhiaaW.PrintLast Go.Proofs.YtkaefgmgcghhiaaW.PrintMore
def fiRow (s : List Nat) : List Int → Nat → Int
  | [], _ => 0
  | f :: r, i => if f = 1 then (if mem s i = true then 1 else fiRow s r (i + 1)) else fiRow s r (i + 1)
set_option maxHeartbeats 4000000 in
set_option maxRecDepth 100000 in
theorem final_walk (rb : Nat) (K N : Int) (A3 : Option Addr) (c3 : Nat) (F : List Int) (sv ev : Value) (fr : List (List S80)) (s : List Nat) (w : World) (base : Nat)
    (hFl : F.length ≤ 1024) (hR : RunAt w base rb K N sv (.slice A3 F.length c3) ev fr) (hF : Kd.C (Kd.int .i64) w A3 F.length F) (hs : IsSet s) :
    Calls Try.prog 60 #[.pointer (some ⟨rb, 0, none⟩), .agg (wordsOf s).toArray] w fun e w' => e = .returned (.int .i64 (fiRow s F 0)) ∧ Below w.heap.size w w' := by
  have hu134 := Try.underlying134
  have hu25 := Try.underlying25
  have hu22 := Try.underlying22
  obtain ⟨g, vs, hrb, hbr, hrow⟩ := hR
  have hcell3 : w.cell? ⟨rb, 3, none⟩ = some (.slice A3 F.length c3) := (blk_cell hrb 3).trans rfl
  have hlt0 := blk_lt hrb
  obtain ⟨r, hr⟩ : ∃ r, fiRow s F 0 = r := ⟨_, rfl⟩
  have HH := Aside0.mk hr
  have HF := Aside0.mk hF
  have HS := Aside0.mk hs
  rw [hr]
  clear hrow hrb hr hF hs
  go_enter Try.func60, Try.ntmps60
  go_wp2
  have hset : SetAt (w.alloc (.cells (wordsOf s).toArray 88)) w.heap.size s := ⟨HS.out, blk_new _ _⟩
  have hb0 := below_alloc (Below.refl w.heap.size w) (.cells (wordsOf s).toArray 88)
  generalize w.alloc (.cells (wordsOf s).toArray 88) = W0 at hset hb0 ⊢
  have HSET := Aside0.mk hset
  have HB0 := Aside0.mk hb0
  clear hset hb0 hcell3
  go_loopw [13] (fun v13 wr => ∃ (i : Nat), v13 = .int .i64 (i : Int) ∧ Aside0 (i ≤ F.length) ∧ Aside0 (fiRow s (F.drop i) i = r) ∧ Aside0 (wr = W0)) (fun v13 _ => F.length - (intOf v13).toNat)
  case atStart => exact ⟨0, rfl, ⟨by omega⟩, HH, ⟨rfl⟩⟩
  case round =>
    clear HH
    obtain ⟨i, rfl, HI, HH, HW⟩ := hrel
    have hw := HW.out
    subst hw
    clear HW
    have hi := HI.out
    by_cases hlt : i < F.length
    · have H := HH.out
      have hd : F.drop i = rd F i :: F.drop (i + 1) := by
        rw [List.drop_eq_getElem_cons hlt]
        simp [rd, List.getD_eq_getElem?_getD, List.getElem?_eq_getElem hlt]
      rw [hd] at H
      clear HH hd
      simp only [fiRow] at H
      obtain ⟨ad, ead, hx⟩ := Kd.at_int (Kd.C_below HF.out HB0.out) (i : Int) (by omega) (by omega)
      cases ead
      rw [Int.toNat_natCast] at hx
      generalize rd F (i : Int) = f at H hx
      have HLT := Aside0.mk hlt
      have hcall := has_calls w.heap.size (i : Int) s _ (by omega) (by omega) HSET.out
      rw [Int.toNat_natCast] at hcall
      by_cases e1 : f = 1
      · subst e1
        rw [if_pos rfl] at H
        cases hm : mem s i with
        | true =>
          rw [hm] at H hcall
          rw [if_pos rfl] at H
          subst H
          go_wp2_with (go_at_call 88; refine hcall.mono ?_; rintro e w' ⟨rfl, rfl⟩)
          go_ret
          exact ⟨rfl, HB0.out⟩
        | false =>
          rw [hm] at H hcall
          rw [if_neg (by simp)] at H
          have HH := Aside0.mk H
          clear H
          go_wp2_with (go_at_call 88; refine hcall.mono ?_; rintro e w' ⟨rfl, rfl⟩)
          go_roundw
          case rel => exact ⟨i + 1, by go_num, ⟨by have := HLT.out; omega⟩, HH, ⟨by first | trivial | rfl⟩⟩
          case measure => have := HLT.out; simp [intOf]; omega
      · rw [if_neg e1] at H
        have HH := Aside0.mk H
        have e1b : (f == 1) = false := beq_eq_false_iff_ne.mpr e1
        clear H e1
        go_wp2
        go_roundw
        case rel => exact ⟨i + 1, by go_num, ⟨by have := HLT.out; omega⟩, HH, ⟨by first | trivial | rfl⟩⟩
        case measure => have := HLT.out; simp [intOf]; omega
    · have H := HH.out
      rw [List.drop_of_length_le (by omega)] at H
      simp only [fiRow] at H
      subst H
      have hlt' : ¬ ((i : Int) < (F.length : Int)) := by omega
      go_wp2
      go_ret
      exact ⟨rfl, HB0.out⟩
/-- The sets along a word. -/
def runF (k : Nat) (N : Int) (fr : List (List S80)) : List Int → List Nat → Option (List Nat)
  | [], s => some s
  | x :: r, s => match stepF k N fr s x with | none => none | some t => runF k N fr r t
def accF (k : Nat) (K N : Int) (S F : List Int) (E : List S80) (u : List Int) : Option (Bool × Int) :=
  if (nfa_Check.g K N S F E).2 ≠ 0 then some (false, (nfa_Check.g K N S F E).2) else
  match word_Check.f k u K with
  | none => none
  | some (_, e) => if e ≠ 0 then some (false, e) else
    match startF k N (rowsOf N.toNat E) S with
    | none => none
    | some s => match runF k N (rowsOf N.toNat E) u s with
      | none => none
      | some t => some (fiRow t F 0 == 1, 0)
end Go.Proofs.Ytkaefgmgcghhiaa.X
end

section
namespace Go.Proofs.Ytkaefgmgcghhiaa.X
open Go.RowKit Go.Proofs.YtkaefgmgcghhiaaW.PrintWords Go.Proofs.YtkaefgmgcghhiaaW.PrintLast Go.Proofs.YtkaefgmgcghhiaaW.PrintMore
theorem check_e (K N : Int) : ∀ (E : List S80) (i : Int), (nfa_Check.e K N E i).2 = 0 → ∀ x ∈ E, 0 ≤ x.f0 ∧ x.f0 < N ∧ 0 ≤ x.f2 ∧ x.f2 < N ∧ -1 ≤ x.f1 ∧ x.f1 < K
  | [], _, _, x, hx => by cases hx
  | y :: r, i, h, x, hx => by
    simp only [nfa_Check.e] at h
    have hst : ∀ a : Int, (!stB N a) = false → 0 ≤ a ∧ a < N := by
      intro a ha
      simpa [stB] using ha
    by_cases h1 : (!stB N y.f0) = true
    · rw [if_pos h1] at h; exact absurd h (by simp)
    rw [if_neg h1] at h
    by_cases h2 : (!stB N y.f2) = true
    · rw [if_pos h2] at h; exact absurd h (by simp)
    rw [if_neg h2] at h
    by_cases h3 : y.f1 < -1
    · rw [if_pos h3] at h; exact absurd h (by simp)
    rw [if_neg h3] at h
    by_cases h4 : y.f1 ≥ K
    · rw [if_pos h4] at h; exact absurd h (by simp)
    rw [if_neg h4] at h
    rcases List.mem_cons.1 hx with rfl | hx
    · have a1 := hst _ (by simpa using h1)
      have a2 := hst _ (by simpa using h2)
      exact ⟨a1.1, a1.2, a2.1, a2.2, by omega, by omega⟩
    · exact check_e K N r _ h x hx
structure RightN (K N : Int) (S F : List Int) (E : List S80) : Prop where
  k : 1 ≤ K ∧ K ≤ 64
  n : 1 ≤ N ∧ N ≤ 1024
  sl : S.length ≤ 65536
  el : E.length ≤ 65536
  fl : (F.length : Int) = N
  s : ∀ x ∈ S, 0 ≤ x ∧ x < N
  f : ∀ x ∈ F, x = 0 ∨ x = 1
  e : ∀ x ∈ E, 0 ≤ x.f0 ∧ x.f0 < N ∧ 0 ≤ x.f2 ∧ x.f2 < N ∧ -1 ≤ x.f1 ∧ x.f1 < K
theorem idxBy_neg {p : Int → Bool} {l : List Int} (h : ¬ idxBy p l ≥ 0) : ∀ x ∈ l, p x = false := by
  intro x hx
  unfold idxBy at h
  cases hq : l.findIdx? p with
  | none => exact Bool.eq_false_iff.mpr (fun he => by have := List.findIdx?_eq_none_iff.1 hq x hx; rw [this] at he; cases he)
  | some j => rw [hq] at h; exact absurd (Int.natCast_nonneg j) h
theorem check_ok {K N : Int} {S F : List Int} {E : List S80} (h : (nfa_Check.g K N S F E).2 = 0) : RightN K N S F E := by
  unfold nfa_Check.g at h
  by_cases q1 : K < 1
  · rw [if_pos q1] at h; exact absurd h (by simp)
  rw [if_neg q1] at h
  by_cases q2 : K > 64
  · rw [if_pos q2] at h; exact absurd h (by simp)
  rw [if_neg q2] at h
  by_cases q3 : N < 1
  · rw [if_pos q3] at h; exact absurd h (by simp)
  rw [if_neg q3] at h
  by_cases q4 : N > 1024
  · rw [if_pos q4] at h; exact absurd h (by simp)
  rw [if_neg q4] at h
  by_cases q5 : (S.length : Int) > 65536
  · rw [if_pos q5] at h; exact absurd h (by simp)
  rw [if_neg q5] at h
  by_cases q6 : (E.length : Int) > 65536
  · rw [if_pos q6] at h; exact absurd h (by simp)
  rw [if_neg q6] at h
  by_cases q7 : (F.length : Int) ≠ N
  · rw [if_pos q7] at h; exact absurd h (by simp)
  rw [if_neg q7] at h
  by_cases q8 : idxBy (fun x => !stB N x) S ≥ 0
  · rw [if_pos q8] at h; exact absurd h (by simp)
  rw [if_neg q8] at h
  by_cases q9 : idxBy outB F ≥ 0
  · rw [if_pos q9] at h; exact absurd h (by simp)
  rw [if_neg q9] at h
  refine ⟨by omega, by omega, by omega, by omega, by omega, ?_, ?_, check_e K N E 0 h⟩
  · intro x hx
    have h1 := idxBy_neg q8 x hx
    simpa [stB] using h1
  · intro x hx
    have h1 := idxBy_neg q9 x hx
    simp only [outB, Bool.and_eq_false_iff, decide_eq_false_iff_not] at h1
    omega
theorem word_short {k : Nat} {u : List Int} {K e1 e2 : Int} (h : word_Check.f k u K = some (e1, e2)) (he : e2 = 0) : u.length ≤ 4096 := by
  unfold word_Check.f at h
  cases hq : word_alphabet.f K with
  | none => rw [hq] at h; exact absurd h (by simp)
  | some b =>
    rw [hq, Option.bind_some] at h
    by_cases hb : b = true
    · rw [if_pos hb] at h
      by_cases hl : (u.length : Int) > 4096
      · rw [if_pos hl] at h
        simp only [Option.some.injEq, Prod.mk.injEq] at h
        omega
      · omega
    · rw [if_neg hb] at h
      simp only [Option.some.injEq, Prod.mk.injEq] at h
      omega
set_option maxHeartbeats 4000000 in
set_option maxRecDepth 100000 in
theorem Accepts_walk (k : Nat) (K N : Int) (A2 : Option Addr) (c2 : Nat) (S : List Int) (A3 : Option Addr) (c3 : Nat) (F : List Int) (A4 : Option Addr) (c4 : Nat) (E : List S80) (A5 : Option Addr) (c5 : Nat) (u : List Int) (b : Bool) (r : Int) (w : World)
    (hr2 : Kd.C (Kd.int .i64) w A2 S.length S) (hr3 : Kd.C (Kd.int .i64) w A3 F.length F) (hr4 : Kd.C k80 w A4 E.length E) (hr5 : Kd.C (Kd.int .i64) w A5 u.length u) (hc2 : S.length ≤ c2) (hc3 : F.length ≤ c3) (hc4 : E.length ≤ c4) (hc5 : u.length ≤ c5) (h : accF k K N S F E u = some (b, r)) :
    Calls Try.prog 20 #[.agg #[.int .i64 K, .int .i64 N, .slice A2 S.length c2, .slice A3 F.length c3, .slice A4 E.length c4], .slice A5 u.length c5] w fun e w' => e = .returned (.tuple #[.bool b, .int .i64 r]) ∧ Below w.heap.size w w' := by
  have hu25 := Try.underlying25
  have hu80 := Try.underlying80
  have hu88 := Try.underlying88
  unfold accF at h
  obtain ⟨p0, p1, hp⟩ : ∃ p0 p1, nfa_Check.g K N S F E = (p0, p1) := ⟨_, _, rfl⟩
  have hchk := fun (W : World) (hb : Below w.heap.size w W) => Check_walk K N A2 c2 S A3 c3 F A4 c4 E p0 p1 W (Kd.C_below hr2 hb) (Kd.C_below hr3 hb) (Kd.C_below hr4 hb) hp
  have hok : p1 = 0 → RightN K N S F E := fun he => check_ok (by rw [hp]; exact he)
  rw [hp] at h
  simp only [] at h
  have H2 := Aside0.mk hr2
  have H3 := Aside0.mk hr3
  have H4 := Aside0.mk hr4
  have H5 := Aside0.mk hr5
  clear hr2 hr3 hr4 hr5 hp hc2 hc3 hc4
  by_cases q1 : p1 ≠ 0
  · rw [if_pos q1] at h
    simp only [Option.some.injEq, Prod.mk.injEq] at h
    obtain ⟨rfl, rfl⟩ := h
    have q1b : (p1 != 0) = true := by simpa using q1
    clear hok q1
    go_enter Try.func20, Try.ntmps20
    go_wp2_with (go_at_call 15; refine (hchk _ (below_alloc (Below.refl _ _) _)).mono ?_; rintro e w1 ⟨rfl, hb1⟩)
    go_ret2
    exact ⟨rfl, below_step (below_alloc (Below.refl _ _) _) hb1⟩
  · rw [if_neg q1] at h
    have q0 : p1 = 0 := by omega
    subst q0
    have HOK := Aside0.mk (hok rfl)
    clear q1 hok
    cases hw : word_Check.f k u K with
    | none => rw [hw] at h; exact absurd h (by simp)
    | some p =>
      obtain ⟨e1, e2⟩ := p
      rw [hw] at h
      simp only [] at h
      have hwc := fun (W : World) (hb : Below w.heap.size w W) => word_Check.calls k A5 c5 u K e1 e2 W (Kd.C_below H5.out hb) hc5 hw
      have hul : e2 = 0 → u.length ≤ 4096 := fun he => word_short hw he
      clear hw
      by_cases q2 : e2 ≠ 0
      · rw [if_pos q2] at h
        simp only [Option.some.injEq, Prod.mk.injEq] at h
        obtain ⟨rfl, rfl⟩ := h
        have q2b : (e2 != 0) = true := by simpa using q2
        clear q2
        go_enter Try.func20, Try.ntmps20
        go_wp2_with (first | (go_at_call 15; refine (hchk _ (below_alloc (Below.refl _ _) _)).mono ?_; rintro e w1 ⟨rfl, hb1⟩; have HB1 := Aside0.mk (below_step (below_alloc (Below.refl w.heap.size w) (.cells #[.int .i64 K, .int .i64 N, .slice A2 S.length c2, .slice A3 F.length c3, .slice A4 E.length c4] 25)) hb1); have hbx := blk_below (blk_new w (.cells #[.int .i64 K, .int .i64 N, .slice A2 S.length c2, .slice A3 F.length c3, .slice A4 E.length c4] 25)) hb1; have HBX := Aside0.mk hbx; have hx0 : w1.cell? ⟨w.heap.size, 0, none⟩ = some (.int .i64 K) := (blk_cell hbx 0).trans rfl; have hx1 : w1.cell? ⟨w.heap.size, 1, none⟩ = some (.int .i64 N) := (blk_cell hbx 1).trans rfl; have hx2 : w1.cell? ⟨w.heap.size, 2, none⟩ = some (.slice A2 S.length c2) := (blk_cell hbx 2).trans rfl; have hx3 : w1.cell? ⟨w.heap.size, 3, none⟩ = some (.slice A3 F.length c3) := (blk_cell hbx 3).trans rfl; have hx4 : w1.cell? ⟨w.heap.size, 4, none⟩ = some (.slice A4 E.length c4) := (blk_cell hbx 4).trans rfl; clear hb1 hbx) | (go_at_call 56; refine (hwc _ HB1.out).mono ?_; rintro e w2 ⟨rfl, ⟨n2, rfl⟩⟩))
        go_ret2
        exact ⟨rfl, pw_below_drewN HB1.out _⟩
      · rw [if_neg q2] at h
        have q0 : e2 = 0 := by omega
        subst q0
        have HUL := Aside0.mk (hul rfl)
        clear q2 hul
        have hfr : ((rowsOf N.toNat E).length : Int) = N := by rw [rows_length]; have := HOK.out.n; omega
        have hfl : ∀ j, ((rowsOf N.toNat E).getD j []).length ≤ 65536 := fun j => Nat.le_trans (rows_short _ _ _) HOK.out.el
        have hnr := fun (W : World) (hb : Below w.heap.size w W) => newRunner_walk K N A2 c2 S A3 c3 F A4 c4 E W (Kd.C_below H4.out hb) HOK.out.n HOK.out.el (fun x hx => ⟨(HOK.out.e x hx).1, (HOK.out.e x hx).2.1⟩)
        generalize rowsOf N.toNat E = fr at h hfr hfl hnr
        have HFR := Aside0.mk hfr
        have HFL := Aside0.mk hfl
        clear hfr hfl
        cases hs : startF k N fr S with
        | none => rw [hs] at h; exact absurd h (by simp)
        | some s =>
          rw [hs] at h
          simp only [] at h
          have HSF := Aside0.mk hs
          clear hs
          cases ht : runF k N fr u s with
          | none => rw [ht] at h; exact absurd h (by simp)
          | some t =>
            rw [ht] at h
            simp only [Option.some.injEq, Prod.mk.injEq] at h
            obtain ⟨rfl, rfl⟩ := h
            have HT := Aside0.mk ht
            clear ht
            obtain ⟨z88, i88⟩ := zero_of_info info88
            go_enter Try.func20, Try.ntmps20
            go_wp2_with (first | (go_at_call 15; refine (hchk _ (below_alloc (Below.refl _ _) _)).mono ?_; rintro e w1 ⟨rfl, hb1⟩; have HB1 := Aside0.mk (below_step (below_alloc (Below.refl w.heap.size w) (.cells #[.int .i64 K, .int .i64 N, .slice A2 S.length c2, .slice A3 F.length c3, .slice A4 E.length c4] 25)) hb1); have hbx := blk_below (blk_new w (.cells #[.int .i64 K, .int .i64 N, .slice A2 S.length c2, .slice A3 F.length c3, .slice A4 E.length c4] 25)) hb1; have HBX := Aside0.mk hbx; have hx0 : w1.cell? ⟨w.heap.size, 0, none⟩ = some (.int .i64 K) := (blk_cell hbx 0).trans rfl; have hx1 : w1.cell? ⟨w.heap.size, 1, none⟩ = some (.int .i64 N) := (blk_cell hbx 1).trans rfl; have hx2 : w1.cell? ⟨w.heap.size, 2, none⟩ = some (.slice A2 S.length c2) := (blk_cell hbx 2).trans rfl; have hx3 : w1.cell? ⟨w.heap.size, 3, none⟩ = some (.slice A3 F.length c3) := (blk_cell hbx 3).trans rfl; have hx4 : w1.cell? ⟨w.heap.size, 4, none⟩ = some (.slice A4 E.length c4) := (blk_cell hbx 4).trans rfl; clear hb1 hbx) | (go_at_call 56; refine (hwc _ HB1.out).mono ?_; rintro e w2 ⟨rfl, ⟨n2, rfl⟩⟩; have HB2 := Aside0.mk (pw_below_drewN HB1.out n2)) | (go_at_call 57; refine (hnr _ HB2.out).mono ?_; rintro e w3 ⟨rb, rfl, hR3, hb3⟩; have HR3 := Aside0.mk hR3; have HB3 := Aside0.mk (below_step HB2.out hb3); clear hR3 hb3) | (go_at_call 58; refine (start_walk k rb K N A2 c2 S _ _ fr s w3 _ HOK.out.n HFR.out HFL.out HR3.out (Kd.C_below H2.out HB3.out) HOK.out.sl HSF.out).mono ?_; rintro e w4 ⟨rfl, hs4, hb4⟩; have HS4 := Aside0.mk hs4; have HR4 := Aside0.mk (HR3.out.below hb4); have HB4 := Aside0.mk (below_step HB3.out hb4); clear hs4 hb4) | ((with_reducible refine gate_store (t := 88) (p := 11) rfl ?_); refine wpList_store_rowTo rfl 88 (.tmp 11) (.tmp 35) rfl rfl w4.heap.size (wordsOf s).toArray rfl rfl 88 _ (blk_new w4 _) ?_ ?_ (set_one s) ?_; (focus (rw [i88, set_len HS4.out])); (focus (rw [set_len HS4.out]; simp)); rw [World.setRow_alloc_new]))
            have hC0 : SetAt (w4.alloc (.cells (wordsOf s).toArray 88)) w4.heap.size s := ⟨HS4.out, blk_new _ _⟩
            have hD0 := below_alloc (Below.refl w4.heap.size w4) (.cells (wordsOf s).toArray 88)
            clear hx0 hx1 hx2 hx3 hx4
            go_loopw [38] (fun v38 wr => ∃ (i : Nat) (s2 : List Nat), v38 = .int .i64 (i : Int) ∧ Aside0 (i ≤ u.length) ∧ Aside0 (runF k N fr (u.drop i) s2 = some t) ∧ Aside0 (SetAt wr w4.heap.size s2) ∧ Aside0 (Below w4.heap.size w4 wr)) (fun v38 _ => u.length - (intOf v38).toNat)
            case atStart => exact ⟨0, s, rfl, ⟨by omega⟩, HT, ⟨hC0⟩, ⟨hD0⟩⟩
            case round =>
              clear hC0 hD0 HT
              obtain ⟨i, s2, rfl, HI, HT, HC, HD⟩ := hrel
              by_cases hlt : i < u.length
              · have H := HT.out
                have hd : u.drop i = rd u i :: u.drop (i + 1) := by
                  rw [List.drop_eq_getElem_cons hlt]
                  simp [rd, List.getD_eq_getElem?_getD, List.getElem?_eq_getElem hlt]
                rw [hd] at H
                clear HT hd
                simp only [runF] at H
                obtain ⟨ad, ead, hx⟩ := Kd.at_int (Kd.C_below (Kd.C_below H5.out HB4.out) HD.out) (i : Int) (by omega) (by omega)
                cases ead
                rw [Int.toNat_natCast] at hx
                generalize rd u (i : Int) = y at H hx
                have HLT := Aside0.mk hlt
                cases hq : stepF k N fr s2 y with
                | none => rw [hq] at H; exact absurd H (by simp)
                | some s3 =>
                  rw [hq] at H
                  simp only [] at H
                  have HT := Aside0.mk H
                  clear H
                  have hul := HUL.out
                  have hst := step_walk k rb K N _ _ _ fr s2 s3 y wr _ HOK.out.n HFR.out HFL.out (HR4.out.below HD.out) HC.out.1 hq
                  clear hq
                  go_wp2_with (first | ((with_reducible refine gate_dst (N := 43) rfl ?_); refine wpList_load_row rfl 88 (.tmp 11) rfl w4.heap.size rfl 88 (wordsOf s2).toArray (0, 0) _ HC.out.2 Try.underlying88 rfl ?_ ?_; (focus (rw [i88, set_len HC.out.1]))) | (go_at_call 59; refine hst.mono ?_; rintro e w8 ⟨rfl, ht, hb8⟩; have HT8 := Aside0.mk ht; have HB8 := Aside0.mk hb8; clear ht hb8) | ((with_reducible refine gate_store (t := 88) (p := 11) rfl ?_); refine wpList_store_rowTo rfl 88 (.tmp 11) (.tmp 45) rfl rfl w4.heap.size (wordsOf s3).toArray rfl rfl 88 _ (blk_below HC.out.2 HB8.out) ?_ ?_ (set_one s3) ?_; (focus (rw [i88, set_len HT8.out])); (focus (rw [set_len HC.out.1, set_len HT8.out]))))
                  have hC2 : SetAt (w8.setRow w4.heap.size (wordsOf s3).toArray) w4.heap.size s3 := ⟨HT8.out, setRow_heap w8 w4.heap.size _ (wordsOf s3).toArray 88 (0, 0) (blk_below HC.out.2 HB8.out)⟩
                  have hD2 : Below w4.heap.size w4 (w8.setRow w4.heap.size (wordsOf s3).toArray) := below_setRow (below_then HD.out HD.out.size HB8.out) (Nat.le_refl _) _
                  go_roundw
                  case rel => exact ⟨i + 1, s3, by go_num, ⟨by have := HLT.out; omega⟩, HT, ⟨hC2⟩, ⟨hD2⟩⟩
                  case measure => have := HLT.out; simp [intOf]; omega
              · have H := HT.out
                rw [List.drop_of_length_le (by omega)] at H
                simp only [runF, Option.some.injEq] at H
                subst H
                have hlt' : ¬ ((i : Int) < (u.length : Int)) := by omega
                have hfw := final_walk rb K N A3 c3 F _ _ fr s2 wr _ (by have h1 := HOK.out.fl; have h2 := HOK.out.n; omega) (HR4.out.below HD.out) (Kd.C_below (Kd.C_below H3.out HB4.out) HD.out) HC.out.1
                go_wp2_with (first | ((with_reducible refine gate_dst (N := 48) rfl ?_); refine wpList_load_row rfl 88 (.tmp 11) rfl w4.heap.size rfl 88 (wordsOf s2).toArray (0, 0) _ HC.out.2 Try.underlying88 rfl ?_ ?_; (focus (rw [i88, set_len HC.out.1]))) | (go_at_call 60; refine hfw.mono ?_; rintro e w8 ⟨rfl, hb8⟩; have HB8 := Aside0.mk hb8; clear hb8))
                go_ret2
                exact ⟨rfl, below_then HB4.out HB4.out.size (below_then HD.out HD.out.size HB8.out)⟩
end Go.Proofs.Ytkaefgmgcghhiaa.X
end

section
namespace Go.Proofs.Ytkaefgmgcghhiaa.X
open Go.RowKit Go.Proofs.YtkaefgmgcghhiaaW.PrintWords Go.Proofs.YtkaefgmgcghhiaaW.PrintLast Go.Proofs.YtkaefgmgcghhiaaW.PrintMore
/-- Come to from a set by empty edges. -/
inductive EC (E : List S80) (P : Int → Prop) : Int → Prop
  | base {i : Int} (h : P i) : EC E P i
  | step {x : S80} (hx : x ∈ E) (hb : x.f1 = -1) (h : EC E P x.f0) : EC E P x.f2
theorem EC.within {E : List S80} {P Q : Int → Prop} (hP : ∀ i, P i → Q i) (hE : ∀ x ∈ E, x.f1 = -1 → Q x.f0 → Q x.f2) {i : Int} (h : EC E P i) : Q i := by
  induction h with
  | base h => exact hP _ h
  | step hx hb _ ih => exact hE _ hx hb ih
def cnt (s : List Nat) : Nat := (List.range 1024).countP (mem s)
theorem cnt_le (s : List Nat) : cnt s ≤ 1024 := by
  have := List.countP_le_length (p := mem s) (l := List.range 1024)
  simpa [cnt] using this
theorem countP_one {p : Nat → Bool} (i : Nat) (hp : p i = false) : ∀ l : List Nat, l.Nodup → l.countP (fun j => decide (j = i) || p j) = l.countP p + (if i ∈ l then 1 else 0)
  | [], _ => by simp
  | x :: l, h => by
    have hn := List.nodup_cons.1 h
    rw [List.countP_cons, List.countP_cons, countP_one i hp l hn.2]
    by_cases hx : x = i
    · subst hx
      simp [hn.1, hp]
    · have hx' : ¬ i = x := fun h => hx h.symm
      simp only [hx, decide_false, Bool.false_or, List.mem_cons, hx', false_or]
      omega
theorem cnt_ins {s : List Nat} (hs : IsSet s) {i : Nat} (hi : i < 1024) (hn : mem s i = false) : cnt (ins s i) = cnt s + 1 := by
  have : mem (ins s i) = fun j => decide (j = i) || mem s j := funext fun j => mem_ins hs i j hi
  unfold cnt
  rw [this, countP_one i hn _ List.nodup_range, if_pos (by simpa using hi)]
theorem cnt_none : cnt none16 = 0 := by decide +kernel
theorem mem_none (j : Nat) : mem none16 j = false := by
  unfold mem none16
  rw [List.getD_eq_getElem?_getD]
  by_cases h : j / 64 < 16
  · rw [List.getElem?_replicate, if_pos h]; simp
  · rw [List.getElem?_eq_none (by simp; omega)]; simp
/-- One row of edges, whichever of them count. -/
theorem rowBy (c : S80 → Prop) (f : List S80 → List Nat → List Int → Option (List Nat × List Int)) [DecidablePred c]
    (hnil : ∀ s wt, f [] s wt = some (s, wt))
    (hcons : ∀ x r s wt, f (x :: r) s wt = if c x then (if 0 ≤ x.f2 ∧ x.f2 < 1024 then (if mem s x.f2.toNat = true then f r s wt else if wt.length < 1099511627776 then f r (ins s x.f2.toNat) (wt ++ [x.f2]) else none) else none) else f r s wt) :
    ∀ (l : List S80) (s : List Nat) (wt : List Int), IsSet s → (∀ x ∈ l, 0 ≤ x.f2 ∧ x.f2 < 1024) → wt.length + l.length < 1099511627776 →
      ∃ s1 ad, f l s wt = some (s1, wt ++ ad) ∧ IsSet s1 ∧ (∀ j, mem s1 j = true ↔ mem s j = true ∨ ∃ x ∈ l, c x ∧ x.f2.toNat = j) ∧ (∀ a ∈ ad, ∃ x ∈ l, c x ∧ x.f2 = a) ∧
        (∀ j, mem s1 j = true → mem s j = true ∨ (j : Int) ∈ ad) ∧ (∀ a ∈ ad, mem s1 a.toNat = true) ∧ cnt s1 = cnt s + ad.length
  | [], s, wt, hs, _, _ => ⟨s, [], by rw [hnil]; simp, hs, by simp, by simp, by simp, by simp, by simp⟩
  | x :: r, s, wt, hs, hl, hw => by
    have hx := hl x (by simp)
    have hr : ∀ y ∈ r, 0 ≤ y.f2 ∧ y.f2 < 1024 := fun y hy => hl y (by simp [hy])
    simp only [List.length_cons] at hw
    rw [hcons]
    by_cases hc : c x
    · rw [if_pos hc, if_pos hx]
      by_cases hm : mem s x.f2.toNat = true
      · rw [if_pos hm]
        obtain ⟨s1, ad, h1, h2, h3, h4, h5, h6, h7⟩ := rowBy c f hnil hcons r s wt hs hr (by omega)
        refine ⟨s1, ad, h1, h2, fun j => ?_, fun a ha => ?_, h5, h6, h7⟩
        · rw [h3 j]
          constructor
          · rintro (h | ⟨y, hy, hcy, rfl⟩)
            · exact .inl h
            · exact .inr ⟨y, by simp [hy], hcy, rfl⟩
          · rintro (h | ⟨y, hy, hcy, rfl⟩)
            · exact .inl h
            · rcases List.mem_cons.1 hy with rfl | hy
              · exact .inl hm
              · exact .inr ⟨y, hy, hcy, rfl⟩
        · obtain ⟨y, hy, h⟩ := h4 a ha
          exact ⟨y, by simp [hy], h⟩
      · rw [if_neg hm, if_pos (by omega)]
        have hb : x.f2.toNat < 1024 := by omega
        have hm' : mem s x.f2.toNat = false := by simpa using hm
        obtain ⟨s1, ad, h1, h2, h3, h4, h5, h6, h7⟩ := rowBy c f hnil hcons r (ins s x.f2.toNat) (wt ++ [x.f2]) (ins_isSet hs _) hr (by simp; omega)
        have hmi : ∀ j, mem (ins s x.f2.toNat) j = true ↔ j = x.f2.toNat ∨ mem s j = true := by
          intro j
          rw [mem_ins hs _ _ hb]
          simp
        refine ⟨s1, x.f2 :: ad, by rw [h1]; simp, h2, fun j => ?_, fun a ha => ?_, fun j hj => ?_, fun a ha => ?_, ?_⟩
        · rw [h3 j, hmi j]
          constructor
          · rintro ((rfl | h) | ⟨y, hy, hcy, rfl⟩)
            · exact .inr ⟨x, by simp, hc, rfl⟩
            · exact .inl h
            · exact .inr ⟨y, by simp [hy], hcy, rfl⟩
          · rintro (h | ⟨y, hy, hcy, rfl⟩)
            · exact .inl (.inr h)
            · rcases List.mem_cons.1 hy with rfl | hy
              · exact .inl (.inl rfl)
              · exact .inr ⟨y, hy, hcy, rfl⟩
        · rcases List.mem_cons.1 ha with rfl | ha
          · exact ⟨x, by simp, hc, rfl⟩
          · obtain ⟨y, hy, h⟩ := h4 a ha
            exact ⟨y, by simp [hy], h⟩
        · rcases h5 j hj with h | h
          · rcases (hmi j).1 h with rfl | h
            · right
              have : ((x.f2.toNat : Nat) : Int) = x.f2 := by omega
              simp [this]
            · exact .inl h
          · exact .inr (by simp [h])
        · rcases List.mem_cons.1 ha with rfl | ha
          · exact (h3 _).2 (.inl ((hmi _).2 (.inl rfl)))
          · exact h6 a ha
        · rw [h7, cnt_ins hs hb hm', List.length_cons]
          omega
    · rw [if_neg hc]
      obtain ⟨s1, ad, h1, h2, h3, h4, h5, h6, h7⟩ := rowBy c f hnil hcons r s wt hs hr (by omega)
      refine ⟨s1, ad, h1, h2, fun j => ?_, fun a ha => ?_, h5, h6, h7⟩
      · rw [h3 j]
        constructor
        · rintro (h | ⟨y, hy, hcy, rfl⟩)
          · exact .inl h
          · exact .inr ⟨y, by simp [hy], hcy, rfl⟩
        · rintro (h | ⟨y, hy, hcy, rfl⟩)
          · exact .inl h
          · rcases List.mem_cons.1 hy with rfl | hy
            · exact absurd hcy hc
            · exact .inr ⟨y, hy, hcy, rfl⟩
      · obtain ⟨y, hy, h⟩ := h4 a ha
        exact ⟨y, by simp [hy], h⟩
theorem getD_rows {N : Int} {E : List S80} (hE : ∀ x ∈ E, 0 ≤ x.f0 ∧ x.f0 < N) {i : Int} (h0 : 0 ≤ i) (h1 : i < N) {x : S80} : x ∈ (rowsOf N.toNat E).getD i.toNat [] ↔ x ∈ E ∧ x.f0 = i := by
  rw [rows_get _ _ _ (by omega)]
  simp only [List.mem_filter, beq_iff_eq]
  constructor
  · rintro ⟨h, he⟩
    have := hE x h
    exact ⟨h, by omega⟩
  · rintro ⟨h, rfl⟩
    exact ⟨h, rfl⟩
/-- The program's closure: with enough rounds it ends, and holds what is come to. -/
theorem clF_spec {N : Int} (hN : 1 ≤ N ∧ N ≤ 1024) {E : List S80} (hEl : E.length ≤ 65536) (hE : ∀ x ∈ E, 0 ≤ x.f0 ∧ x.f0 < N ∧ 0 ≤ x.f2 ∧ x.f2 < N) (P : Int → Prop) :
    ∀ (k : Nat) (s : List Nat) (wt : List Int), IsSet s → (∀ a ∈ wt, 0 ≤ a ∧ a < N ∧ mem s a.toNat = true) → (∀ j, mem s j = true → (j : Int) < N ∧ EC E P (j : Int)) →
      (∀ i, 0 ≤ i → i < N → P i → mem s i.toNat = true) → (∀ x ∈ E, x.f1 = -1 → mem s x.f0.toNat = true → x.f0 ∈ wt ∨ mem s x.f2.toNat = true) → wt.length ≤ cnt s → 2 * (1024 - cnt s) + wt.length < k →
      ∃ t, clF N (rowsOf N.toNat E) k s wt = some t ∧ IsSet t ∧ (∀ j, mem t j = true → (j : Int) < N ∧ EC E P (j : Int)) ∧ (∀ i, 0 ≤ i → i < N → P i → mem t i.toNat = true) ∧ (∀ x ∈ E, x.f1 = -1 → mem t x.f0.toNat = true → mem t x.f2.toNat = true) := by
  intro k
  induction k with
  | zero => intro s wt _ _ _ _ _ _ h; omega
  | succ k ih =>
    intro s wt hs hw hsnd hbase hcl hwc hk
    rw [clF]
    by_cases h0 : 0 < wt.length
    · have hc := cnt_le s
      have hlast : rd wt ((wt.length : Int) - 1) ∈ wt := by
        have : ((wt.length : Int) - 1).toNat = wt.length - 1 := by omega
        unfold rd
        rw [this, List.getD_eq_getElem?_getD, List.getElem?_eq_getElem (by omega)]
        exact List.getElem_mem _
      have hlq : wt = wt.take (wt.length - 1) ++ [rd wt ((wt.length : Int) - 1)] := by
        have h1 : ((wt.length : Int) - 1).toNat = wt.length - 1 := by omega
        unfold rd
        rw [h1, List.getD_eq_getElem?_getD, List.getElem?_eq_getElem (by omega)]
        have h2 := List.take_succ_eq_append_getElem (l := wt) (i := wt.length - 1) (by omega)
        rw [Nat.sub_add_cancel (by omega), List.take_length] at h2
        exact h2
      generalize hi : rd wt ((wt.length : Int) - 1) = i at hlast hlq
      obtain ⟨hi0, hi1, him⟩ := hw i hlast
      rw [if_pos h0, if_pos ⟨by omega, hi0, hi1⟩]
      have hrow : ∀ x ∈ (rowsOf N.toNat E).getD i.toNat [], 0 ≤ x.f2 ∧ x.f2 < 1024 := by
        intro x hx
        have := hE x ((getD_rows (fun x hx => ⟨(hE x hx).1, (hE x hx).2.1⟩) hi0 hi1).1 hx).1
        omega
      have hrl := rows_short N.toNat E i.toNat
      have htl : (wt.take (wt.length - 1)).length = wt.length - 1 := by rw [List.length_take]; omega
      obtain ⟨s1, ad, g1, g2, g3, g4, g5, g6, g7⟩ := rowBy (fun x => x.f1 = -1) clRow (fun _ _ => rfl) (fun _ _ _ _ => rfl) _ s (wt.take (wt.length - 1)) hs hrow (by omega)
      have hcl1 := cnt_le s1
      have hmem := fun x => getD_rows (N := N) (E := E) (fun x hx => ⟨(hE x hx).1, (hE x hx).2.1⟩) hi0 hi1 (x := x)
      rw [g1]
      simp only []
      refine ih s1 _ g2 ?_ ?_ ?_ ?_ ?_ ?_
      · intro a ha
        rcases List.mem_append.1 ha with ha | ha
        · obtain ⟨b0, b1, b2⟩ := hw a (List.mem_of_mem_take ha)
          exact ⟨b0, b1, (g3 _).2 (.inl b2)⟩
        · obtain ⟨x, hx, _, rfl⟩ := g4 a ha
          have := hE x ((hmem x).1 hx).1
          exact ⟨this.2.2.1, this.2.2.2, g6 _ ha⟩
      · intro j hj
        rcases (g3 j).1 hj with h | ⟨x, hx, hb, rfl⟩
        · exact hsnd j h
        · have h1 := (hmem x).1 hx
          have h2 := hE x h1.1
          have h3 : ((x.f2.toNat : Nat) : Int) = x.f2 := by omega
          rw [h3]
          refine ⟨h2.2.2.2, EC.step h1.1 hb ?_⟩
          have h4 := (hsnd _ him).2
          have h5 : ((i.toNat : Nat) : Int) = x.f0 := by omega
          rwa [h5] at h4
      · intro i' h0' h1' hP
        exact (g3 _).2 (.inl (hbase i' h0' h1' hP))
      · intro x hx hb hm
        rcases g5 _ hm with h | h
        · rcases hcl x hx hb h with h | h
          · rw [hlq] at h
            rcases List.mem_append.1 h with h | h
            · exact .inl (List.mem_append.2 (.inl h))
            · have he : x.f0 = i := by simpa using h
              exact .inr ((g3 _).2 (.inr ⟨x, (hmem x).2 ⟨hx, he⟩, hb, rfl⟩))
          · exact .inr ((g3 _).2 (.inl h))
        · have := hE x hx
          have h3 : ((x.f0.toNat : Nat) : Int) = x.f0 := by omega
          rw [h3] at h
          exact .inl (List.mem_append.2 (.inr h))
      · rw [List.length_append, htl, g7]
        omega
      · rw [List.length_append, htl]
        omega
    · rw [if_neg h0]
      have hw0 : wt = [] := List.eq_nil_of_length_eq_zero (by omega)
      subst hw0
      exact ⟨s, rfl, hs, hsnd, hbase, fun x hx hb hm => (hcl x hx hb hm).resolve_left (by simp)⟩
/-- A set of the program holds just these states. -/
def SetIs (N : Int) (s : List Nat) (P : Int → Prop) : Prop := IsSet s ∧ ∀ j : Nat, mem s j = true ↔ (j : Int) < N ∧ P (j : Int)
theorem clF_is {N : Int} (hN : 1 ≤ N ∧ N ≤ 1024) {E : List S80} (hEl : E.length ≤ 65536) (hE : ∀ x ∈ E, 0 ≤ x.f0 ∧ x.f0 < N ∧ 0 ≤ x.f2 ∧ x.f2 < N) (P : Int → Prop) (hP : ∀ i, P i → 0 ≤ i ∧ i < N) {k : Nat} {s : List Nat} {wt : List Int} (hs : SetIs N s P) (hw : ∀ a ∈ wt, 0 ≤ a ∧ a < N ∧ mem s a.toNat = true)
    (hall : ∀ j, mem s j = true → (j : Int) ∈ wt) (hwc : wt.length ≤ cnt s) (hk : 4000 < k) : ∃ t, clF N (rowsOf N.toNat E) k s wt = some t ∧ SetIs N t (EC E P) := by
  have hcl := cnt_le s
  obtain ⟨t, h1, h2, h3, h4, h5⟩ := clF_spec hN hEl hE P k s wt hs.1 hw (fun j hj => ⟨((hs.2 j).1 hj).1, .base ((hs.2 j).1 hj).2⟩)
    (fun i h0 h1 hp => (hs.2 _).2 ⟨by omega, by rwa [Int.toNat_of_nonneg h0]⟩)
    (fun x hx hb hm => by
      have := hall _ hm
      have h0 := hE x hx
      rw [Int.toNat_of_nonneg h0.1] at this
      exact .inl this) hwc (by omega)
  refine ⟨t, h1, h2, fun j => ⟨h3 j, fun ⟨hj, he⟩ => ?_⟩⟩
  have : 0 ≤ (j : Int) ∧ (j : Int) < N ∧ mem t (j : Int).toNat = true := by
    refine EC.within (Q := fun i => 0 ≤ i ∧ i < N ∧ mem t i.toNat = true) (fun i hi => ?_) (fun x hx hb hq => ?_) he
    · have := hP i hi
      exact ⟨this.1, this.2, h4 i this.1 this.2 hi⟩
    · have := hE x hx
      exact ⟨this.2.2.1, this.2.2.2, h5 x hx hb hq.2.2⟩
  simpa using this.2.2
end Go.Proofs.Ytkaefgmgcghhiaa.X
end

section
namespace Go.Proofs.Ytkaefgmgcghhiaa.X
open Go.RowKit Go.Proofs.YtkaefgmgcghhiaaW.PrintWords Go.Proofs.YtkaefgmgcghhiaaW.PrintLast Go.Proofs.YtkaefgmgcghhiaaW.PrintMore
theorem startF_is {K N : Int} {S F : List Int} {E : List S80} (R : RightN K N S F E) {k : Nat} (hk : 4000 < k) : ∃ t, startF k N (rowsOf N.toNat E) S = some t ∧ SetIs N t (EC E (fun i => i ∈ S)) := by
  have hN := R.n
  have hS := R.s
  have hmap : (S.map fun i => (⟨0, 0, i⟩ : S80)).map (·.f2) = S := by rw [List.map_map]; exact List.map_id S
  obtain ⟨s1, ad, g1, g2, g3, g4, g5, g6, g7⟩ := rowBy (fun _ => True) (fun l => stRow (l.map (·.f2))) (fun _ _ => rfl) (fun x r s wt => by simp [stRow]) (S.map fun i => (⟨0, 0, i⟩ : S80)) none16 [] none16_set
    (by intro x hx; obtain ⟨i, hi, rfl⟩ := List.mem_map.1 hx; have := hS i hi; simp only []; omega) (by have := R.sl; simp; omega)
  simp only [hmap] at g1
  have h3 : ∀ j : Nat, mem s1 j = true ↔ (j : Int) < N ∧ (j : Int) ∈ S := by
    intro j
    rw [g3 j, mem_none]
    constructor
    · rintro (h | ⟨x, hx, _, rfl⟩)
      · cases h
      · obtain ⟨i, hi, rfl⟩ := List.mem_map.1 hx
        have := hS i hi
        have h2 : ((i.toNat : Nat) : Int) = i := by omega
        simp only [h2]
        exact ⟨by omega, hi⟩
    · rintro ⟨_, h⟩
      exact .inr ⟨⟨0, 0, (j : Int)⟩, List.mem_map.2 ⟨_, h, rfl⟩, trivial, by simp⟩
  unfold startF
  rw [g1]
  simp only [List.nil_append]
  refine clF_is hN R.el (fun x hx => by have := R.e x hx; omega) _ (fun i hi => hS i hi) ⟨g2, h3⟩ ?_ ?_ ?_ hk
  · intro a ha
    obtain ⟨x, hx, _, rfl⟩ := g4 a ha
    obtain ⟨i, hi, rfl⟩ := List.mem_map.1 hx
    exact ⟨(hS i hi).1, (hS i hi).2, g6 _ ha⟩
  · intro j hj
    rcases g5 j hj with h | h
    · rw [mem_none] at h; cases h
    · exact h
  · rw [g7, cnt_none]
    omega
theorem spF_spec {N : Int} (hN : 1 ≤ N ∧ N ≤ 1024) {E : List S80} (hEl : E.length ≤ 65536) (hE : ∀ x ∈ E, 0 ≤ x.f0 ∧ x.f0 < N ∧ 0 ≤ x.f2 ∧ x.f2 < N) (s : List Nat) (sy : Int) :
    ∀ (l : List Nat) (t : List Nat) (wt : List Int), IsSet t → (∀ i ∈ l, i < N.toNat) → (∀ a ∈ wt, 0 ≤ a ∧ a < N ∧ mem t a.toNat = true) → (∀ j, mem t j = true → (j : Int) ∈ wt) → wt.length ≤ cnt t →
      ∃ t1 wt1, spF (rowsOf N.toNat E) s sy l t wt = some (t1, wt1) ∧ IsSet t1 ∧ (∀ j, mem t1 j = true ↔ mem t j = true ∨ ∃ x ∈ E, x.f1 = sy ∧ x.f0.toNat ∈ l ∧ mem s x.f0.toNat = true ∧ x.f2.toNat = j) ∧
        (∀ a ∈ wt1, 0 ≤ a ∧ a < N ∧ mem t1 a.toNat = true) ∧ (∀ j, mem t1 j = true → (j : Int) ∈ wt1) ∧ wt1.length ≤ cnt t1
  | [], t, wt, ht, _, hw, hall, hc => ⟨t, wt, rfl, ht, by simp, hw, hall, hc⟩
  | i :: l, t, wt, ht, hl, hw, hall, hc => by
    have hi := hl i (by simp)
    have hr : ∀ i' ∈ l, i' < N.toNat := fun i' h => hl i' (by simp [h])
    have hct := cnt_le t
    simp only [spF]
    by_cases hm : mem s i = true
    · rw [if_pos hm]
      have hmem := fun x => getD_rows (N := N) (E := E) (fun x hx => ⟨(hE x hx).1, (hE x hx).2.1⟩) (i := (i : Int)) (by omega) (by omega) (x := x)
      rw [Int.toNat_natCast] at hmem
      have hrl := rows_short N.toNat E i
      obtain ⟨s1, ad, g1, g2, g3, g4, g5, g6, g7⟩ := rowBy (fun x => x.f1 = sy) (spRow sy) (fun _ _ => rfl) (fun _ _ _ _ => rfl) ((rowsOf N.toNat E).getD i []) t wt ht (fun x hx => by have := hE x ((hmem x).1 hx).1; omega) (by omega)
      rw [g1]
      simp only []
      have q1 : ∀ a ∈ wt ++ ad, 0 ≤ a ∧ a < N ∧ mem s1 a.toNat = true := by
        intro a ha
        rcases List.mem_append.1 ha with ha | ha
        · obtain ⟨b0, b1, b2⟩ := hw a ha
          exact ⟨b0, b1, (g3 _).2 (.inl b2)⟩
        · obtain ⟨x, hx, _, rfl⟩ := g4 a ha
          have := hE x ((hmem x).1 hx).1
          exact ⟨this.2.2.1, this.2.2.2, g6 _ ha⟩
      have q2 : ∀ j, mem s1 j = true → (j : Int) ∈ wt ++ ad := by
        intro j hj
        rcases g5 j hj with h | h
        · exact List.mem_append.2 (.inl (hall j h))
        · exact List.mem_append.2 (.inr h)
      have q3 : (wt ++ ad).length ≤ cnt s1 := by
        rw [List.length_append, g7]
        omega
      obtain ⟨t1, wt1, k1, k2, k3, k4, k5, k6⟩ := spF_spec hN hEl hE s sy l s1 (wt ++ ad) g2 hr q1 q2 q3
      refine ⟨t1, wt1, k1, k2, fun j => ?_, k4, k5, k6⟩
      rw [k3 j, g3 j]
      constructor
      · rintro ((h | ⟨x, hx, hb, rfl⟩) | ⟨x, hx, hb, hxl, h⟩)
        · exact .inl h
        · have h1 := (hmem x).1 hx
          have h2 : x.f0.toNat = i := by omega
          exact .inr ⟨x, h1.1, hb, by simp [h2], by rw [h2]; exact hm, rfl⟩
        · exact .inr ⟨x, hx, hb, by simp [hxl], h⟩
      · rintro (h | ⟨x, hx, hb, hxl, h, rfl⟩)
        · exact .inl (.inl h)
        · rcases List.mem_cons.1 hxl with he | hxl
          · have := hE x hx
            exact .inl (.inr ⟨x, (hmem x).2 ⟨hx, by omega⟩, hb, rfl⟩)
          · exact .inr ⟨x, hx, hb, hxl, h, rfl⟩
    · rw [if_neg hm]
      obtain ⟨t1, wt1, k1, k2, k3, k4, k5, k6⟩ := spF_spec hN hEl hE s sy l t wt ht hr hw hall hc
      refine ⟨t1, wt1, k1, k2, fun j => ?_, k4, k5, k6⟩
      rw [k3 j]
      constructor
      · rintro (h | ⟨x, hx, hb, hxl, h⟩)
        · exact .inl h
        · exact .inr ⟨x, hx, hb, by simp [hxl], h⟩
      · rintro (h | ⟨x, hx, hb, hxl, h, rfl⟩)
        · exact .inl h
        · rcases List.mem_cons.1 hxl with he | hxl
          · rw [he] at h; exact absurd h hm
          · exact .inr ⟨x, hx, hb, hxl, h, rfl⟩
/-- What a symbol leads to, without what is come to by empty edges. -/
def Onto (E : List S80) (sy : Int) (P : Int → Prop) (i : Int) : Prop := ∃ x ∈ E, x.f1 = sy ∧ P x.f0 ∧ x.f2 = i
theorem stepF_is {K N : Int} {S F : List Int} {E : List S80} (R : RightN K N S F E) {k : Nat} (hk : 4000 < k) {s : List Nat} {P : Int → Prop} (hs : SetIs N s P) (sy : Int) : ∃ t, stepF k N (rowsOf N.toNat E) s sy = some t ∧ SetIs N t (EC E (Onto E sy P)) := by
  have hN := R.n
  have hE : ∀ x ∈ E, 0 ≤ x.f0 ∧ x.f0 < N ∧ 0 ≤ x.f2 ∧ x.f2 < N := fun x hx => by have := R.e x hx; omega
  obtain ⟨t1, wt1, k1, k2, k3, k4, k5, k6⟩ := spF_spec hN R.el hE s sy (List.range N.toNat) none16 [] none16_set (by simp) (by simp) (fun j hj => by rw [mem_none] at hj; cases hj) (by simp)
  have h3 : ∀ j : Nat, mem t1 j = true ↔ (j : Int) < N ∧ Onto E sy P (j : Int) := by
    intro j
    rw [k3 j, mem_none]
    constructor
    · rintro (h | ⟨x, hx, hb, _, h, rfl⟩)
      · cases h
      · have h1 := hE x hx
        have h2 := ((hs.2 _).1 h).2
        rw [Int.toNat_of_nonneg h1.1] at h2
        rw [Int.toNat_of_nonneg h1.2.2.1]
        exact ⟨h1.2.2.2, x, hx, hb, h2, rfl⟩
    · rintro ⟨_, x, hx, hb, h, he⟩
      have h1 := hE x hx
      refine .inr ⟨x, hx, hb, by rw [List.mem_range]; omega, (hs.2 _).2 ⟨by omega, by rwa [Int.toNat_of_nonneg h1.1]⟩, by omega⟩
  unfold stepF
  rw [k1]
  simp only []
  exact clF_is hN R.el hE _ (fun i hi => by obtain ⟨x, hx, _, _, rfl⟩ := hi; have := hE x hx; omega) ⟨k2, h3⟩ k4 k5 k6 hk
theorem fiRow_is (s : List Nat) : ∀ (F : List Int) (i : Nat), (fiRow s F i = 1 ∧ ∃ j, F[j]? = some 1 ∧ mem s (i + j) = true) ∨ (fiRow s F i = 0 ∧ ¬ ∃ j, F[j]? = some 1 ∧ mem s (i + j) = true)
  | [], i => .inr ⟨rfl, by simp⟩
  | f :: r, i => by
    simp only [fiRow]
    have hs : (∃ j, (f :: r)[j]? = some 1 ∧ mem s (i + j) = true) ↔ (f = 1 ∧ mem s i = true) ∨ ∃ j, r[j]? = some 1 ∧ mem s (i + 1 + j) = true := by
      constructor
      · rintro ⟨j, h1, h2⟩
        cases j with
        | zero => exact .inl ⟨by simpa using h1, h2⟩
        | succ j => exact .inr ⟨j, by simpa using h1, by rw [show i + 1 + j = i + (j + 1) by omega]; exact h2⟩
      · rintro (⟨h1, h2⟩ | ⟨j, h1, h2⟩)
        · exact ⟨0, by simpa using h1, h2⟩
        · exact ⟨j + 1, by simpa using h1, by rw [show i + (j + 1) = i + 1 + j by omega]; exact h2⟩
    rw [hs]
    by_cases h1 : f = 1
    · rw [if_pos h1]
      by_cases h2 : mem s i = true
      · rw [if_pos h2]
        exact .inl ⟨rfl, .inl ⟨h1, h2⟩⟩
      · rw [if_neg h2]
        rcases fiRow_is s r (i + 1) with ⟨e, h⟩ | ⟨e, h⟩
        · exact .inl ⟨e, .inr h⟩
        · exact .inr ⟨e, fun q => q.elim (fun q => h2 q.2) h⟩
    · rw [if_neg h1]
      rcases fiRow_is s r (i + 1) with ⟨e, h⟩ | ⟨e, h⟩
      · exact .inl ⟨e, .inr h⟩
      · exact .inr ⟨e, fun q => q.elim (fun q => h1 q.1) h⟩
/-- Does a set accept? -/
def Fin (F : List Int) (P : Int → Prop) : Prop := ∃ j : Nat, F[j]? = some 1 ∧ P (j : Int)
theorem fi_is {N : Int} {s : List Nat} {P : Int → Prop} (hs : SetIs N s P) {F : List Int} (hF : (F.length : Int) = N) : (fiRow s F 0 = 1 ∧ Fin F P) ∨ (fiRow s F 0 = 0 ∧ ¬ Fin F P) := by
  have he : (∃ j, F[j]? = some 1 ∧ mem s (0 + j) = true) ↔ Fin F P := by
    constructor
    · rintro ⟨j, h1, h2⟩
      rw [Nat.zero_add] at h2
      exact ⟨j, h1, ((hs.2 j).1 h2).2⟩
    · rintro ⟨j, h1, h2⟩
      have := (List.getElem?_eq_some_iff.1 h1).1
      exact ⟨j, h1, by rw [Nat.zero_add]; exact (hs.2 j).2 ⟨by omega, h2⟩⟩
  rcases fiRow_is s F 0 with ⟨e, h⟩ | ⟨e, h⟩
  · exact .inl ⟨e, he.1 h⟩
  · exact .inr ⟨e, fun q => h (he.2 q)⟩
end Go.Proofs.Ytkaefgmgcghhiaa.X
end

section
namespace Go.Proofs.Ytkaefgmgcghhiaa.X
open Go.RowKit Go.Proofs.YtkaefgmgcghhiaaW.PrintWords Go.Proofs.YtkaefgmgcghhiaaW.PrintLast Go.Proofs.YtkaefgmgcghhiaaW.PrintMore
theorem w64q {i : Nat} (h : i < 4611686018427387904) : wrap64 ((i : Int) + 1) = ((i + 1 : Nat) : Int) := by unfold wrap64; omega
theorem rdq {xs : List Int} {i : Nat} (h : i < xs.length) : rd xs (i : Int) = xs[i] := by simp [rd, List.getD_eq_getElem?_getD, List.getElem?_eq_getElem h]
theorem T80q {xs : List S80} {i : Nat} (h : i < xs.length) : rd_T80 xs (i : Int) = xs[i] := by simp [rd_T80, List.getD_eq_getElem?_getD, List.getElem?_eq_getElem h]
def at_ (b : List Bool) (j : Nat) : Prop := b.getD j false = true
instance (b : List Bool) (j : Nat) : Decidable (at_ b j) := inferInstanceAs (Decidable (_ = true))
theorem rdOf_at {b : List Bool} {i : Int} : rdOf false b i = true ↔ at_ b i.toNat := Iff.rfl
theorem at_lt {b : List Bool} {j : Nat} (h : at_ b j) : j < b.length := by
  unfold at_ at h
  rw [List.getD_eq_getElem?_getD] at h
  by_cases hj : j < b.length
  · exact hj
  · rw [List.getElem?_eq_none (by omega)] at h
    simp at h
theorem at_set {b : List Bool} {i : Nat} (hi : i < b.length) (j : Nat) : at_ (b.set i true) j ↔ j = i ∨ at_ b j := by
  unfold at_
  rw [List.getD_eq_getElem?_getD, List.getD_eq_getElem?_getD, List.getElem?_set]
  by_cases h : i = j
  · subst h
    simp [hi]
  · have h' : ¬ j = i := fun e => h e.symm
    simp [h, h']
theorem at_false (n j : Nat) : ¬ at_ (List.replicate n false) j := by
  unfold at_
  rw [List.getD_eq_getElem?_getD, List.getElem?_replicate]
  split <;> simp
/-- One time round all edges. -/
def pass : List S80 → List Bool → Bool → List Bool × Bool
  | [], b, fl => (b, fl)
  | x :: r, b, fl => if x.f1 = -1 ∧ at_ b x.f0.toNat ∧ ¬ at_ b x.f2.toNat then pass r (b.set x.f2.toNat true) true else pass r b fl
theorem pass_len : ∀ (l : List S80) (b : List Bool) (fl : Bool), (pass l b fl).1.length = b.length
  | [], _, _ => rfl
  | x :: r, b, fl => by
    rw [pass]
    split
    · rw [pass_len r]; simp
    · exact pass_len r b fl
theorem l1_pass (K N : Int) (S F : List Int) (E : List S80) (hb : E.length ≤ 100000) (n : Nat) (hE : ∀ x ∈ E, 0 ≤ x.f0 ∧ x.f0.toNat < n ∧ 0 ≤ x.f2 ∧ x.f2.toNat < n) : ∀ (d m i : Nat) (b : List Bool) (fl : Bool), b.length = n → i + d = E.length →
    tutorref17_closed.l1 (m + d + 1) b fl (i : Int) K N S F E = tutorref17_closed.l0 m (pass (E.drop i) b fl).1 (pass (E.drop i) b fl).2 K N S F E := by
  intro d
  induction d with
  | zero =>
    intro m i b fl hl h
    rw [tutorref17_closed.l1, if_neg (by omega), List.drop_of_length_le (by omega)]
    rfl
  | succ d ih =>
    intro m i b fl hl h
    have hi : i < E.length := by omega
    have hx := hE E[i] (List.getElem_mem hi)
    rw [show m + (d + 1) + 1 = (m + d + 1) + 1 by omega, tutorref17_closed.l1, if_pos (by omega), if_pos (by omega), T80q hi, List.drop_eq_getElem_cons hi, pass, w64q (by omega)]
    generalize E[i] = x at hx
    simp only [rdOf_at]
    by_cases h1 : x.f1 = -1
    · rw [if_pos h1, if_pos hx.1, if_pos (by omega)]
      by_cases h2 : at_ b x.f0.toNat
      · rw [if_pos h2, if_pos hx.2.2.1, if_pos (by omega)]
        by_cases h3 : at_ b x.f2.toNat
        · rw [if_pos h3, if_neg (fun h => h.2.2 h3)]
          exact ih m (i + 1) b fl hl (by omega)
        · rw [if_neg h3, if_pos ⟨h1, h2, h3⟩]
          exact ih m (i + 1) _ true (by simpa using hl) (by omega)
      · rw [if_neg h2, if_neg (fun h => h2 h.2.1)]
        exact ih m (i + 1) b fl hl (by omega)
    · rw [if_neg h1, if_neg (fun h => h1 h.1)]
      exact ih m (i + 1) b fl hl (by omega)
theorem pass_grow : ∀ (l : List S80) (b : List Bool) (fl : Bool), (∀ x ∈ l, x.f2.toNat < b.length) → ∀ j, at_ b j → at_ (pass l b fl).1 j
  | [], _, _, _, _, h => h
  | x :: r, b, fl, hl, j, h => by
    rw [pass]
    split
    · exact pass_grow r _ true (fun y hy => by simpa using hl y (by simp [hy])) j ((at_set (hl x (by simp)) j).2 (.inr h))
    · exact pass_grow r b fl (fun y hy => hl y (by simp [hy])) j h
theorem pass_sound (Q : Nat → Prop) : ∀ (l : List S80) (b : List Bool) (fl : Bool), (∀ x ∈ l, x.f2.toNat < b.length) → (∀ x ∈ l, x.f1 = -1 → Q x.f0.toNat → Q x.f2.toNat) → (∀ j, at_ b j → Q j) → ∀ j, at_ (pass l b fl).1 j → Q j
  | [], _, _, _, _, hb, j, h => hb j h
  | x :: r, b, fl, hl, hc, hb, j, h => by
    rw [pass] at h
    split at h
    · rename_i hx
      refine pass_sound Q r _ true (fun y hy => by simpa using hl y (by simp [hy])) (fun y hy => hc y (by simp [hy])) (fun j hj => ?_) j h
      rcases (at_set (hl x (by simp)) j).1 hj with rfl | hj
      · exact hc x (by simp) hx.1 (hb _ hx.2.1)
      · exact hb j hj
    · exact pass_sound Q r b fl (fun y hy => hl y (by simp [hy])) (fun y hy => hc y (by simp [hy])) hb j h
theorem pass_true : ∀ (l : List S80) (b : List Bool), (pass l b true).2 = true
  | [], _ => rfl
  | x :: r, b => by
    rw [pass]
    split <;> exact pass_true r _
theorem pass_still : ∀ (l : List S80) (b : List Bool), (pass l b false).2 = false → (pass l b false).1 = b ∧ ∀ x ∈ l, x.f1 = -1 → at_ b x.f0.toNat → at_ b x.f2.toNat
  | [], _, _ => ⟨rfl, by simp⟩
  | x :: r, b, h => by
    rw [pass] at h ⊢
    by_cases hx : x.f1 = -1 ∧ at_ b x.f0.toNat ∧ ¬ at_ b x.f2.toNat
    · rw [if_pos hx, pass_true] at h
      cases h
    · rw [if_neg hx] at h ⊢
      obtain ⟨h1, h2⟩ := pass_still r b h
      refine ⟨h1, fun y hy hb ha => ?_⟩
      rcases List.mem_cons.1 hy with rfl | hy
      · exact Decidable.byContradiction fun hn => hx ⟨hb, ha, hn⟩
      · exact h2 y hy hb ha
theorem count_set {b : List Bool} {i : Nat} (hi : i < b.length) (hn : ¬ at_ b i) : (b.set i true).count false + 1 = b.count false := by
  have hb : b[i] = false := by
    unfold at_ at hn
    rw [List.getD_eq_getElem?_getD, List.getElem?_eq_getElem hi] at hn
    simpa using hn
  have h1 : 1 ≤ b.count false := List.count_pos_iff.2 (hb ▸ List.getElem_mem hi)
  rw [List.count_set hi, hb]
  simp
  omega
theorem pass_count : ∀ (l : List S80) (b : List Bool) (fl : Bool), (∀ x ∈ l, x.f2.toNat < b.length) → (pass l b fl).1.count false ≤ b.count false ∧ ((pass l b fl).2 = true → fl = true ∨ (pass l b fl).1.count false < b.count false)
  | [], b, fl, _ => ⟨Nat.le_refl _, fun h => .inl h⟩
  | x :: r, b, fl, hl => by
    have hr : ∀ y ∈ r, y.f2.toNat < b.length := fun y hy => hl y (by simp [hy])
    rw [pass]
    by_cases hx : x.f1 = -1 ∧ at_ b x.f0.toNat ∧ ¬ at_ b x.f2.toNat
    · rw [if_pos hx]
      have h1 := count_set (hl x (by simp)) hx.2.2
      have h2 := (pass_count r (b.set x.f2.toNat true) true (fun y hy => by simpa using hr y hy)).1
      exact ⟨by omega, fun _ => .inr (by omega)⟩
    · rw [if_neg hx]
      exact pass_count r b fl hr
theorem closed_spec (K N : Int) (S F : List Int) (E : List S80) (hb : E.length ≤ 100000) (n : Nat) (hE : ∀ x ∈ E, 0 ≤ x.f0 ∧ x.f0.toNat < n ∧ 0 ≤ x.f2 ∧ x.f2.toNat < n) : ∀ (c k : Nat) (b : List Bool), b.length = n → b.count false ≤ c → (c + 1) * (E.length + 2) < k →
    ∃ r, tutorref17_closed.l0 k b true K N S F E = some r ∧ r.length = n ∧ (∀ j, at_ b j → at_ r j) ∧ (∀ x ∈ E, x.f1 = -1 → at_ r x.f0.toNat → at_ r x.f2.toNat) ∧
      (∀ Q : Nat → Prop, (∀ j, at_ b j → Q j) → (∀ x ∈ E, x.f1 = -1 → Q x.f0.toNat → Q x.f2.toNat) → ∀ j, at_ r j → Q j) := by
  intro c
  induction c with
  | zero =>
    intro k b hl hc hk
    obtain ⟨m, rfl⟩ : ∃ m, k = (m + 1 + E.length + 1) + 1 := ⟨k - E.length - 3, by omega⟩
    have hl2 : ∀ x ∈ E, x.f2.toNat < b.length := fun x hx => by rw [hl]; exact (hE x hx).2.2.2
    rw [tutorref17_closed.l0, if_pos rfl]
    have := l1_pass K N S F E hb n hE E.length (m + 1) 0 b false hl (by omega)
    rw [List.drop_zero] at this
    rw [show ((0 : Int)) = ((0 : Nat) : Int) from rfl, this]
    have hcn := pass_count E b false hl2
    have hst := pass_still E b
    cases hf : (pass E b false).2 with
    | true =>
      have := hcn.2 hf
      simp at this
      omega
    | false =>
      obtain ⟨h1, h2⟩ := hst hf
      rw [h1, tutorref17_closed.l0, if_neg (by simp)]
      exact ⟨b, rfl, hl, fun _ h => h, h2, fun Q hQ _ => hQ⟩
  | succ c ih =>
    intro k b hl hc hk
    have hk2 : (c + 1 + 1) * (E.length + 2) = (c + 1) * (E.length + 2) + (E.length + 2) := by rw [Nat.succ_mul]
    obtain ⟨m, rfl⟩ : ∃ m, k = (m + 1 + E.length + 1) + 1 := ⟨k - E.length - 3, by omega⟩
    have hl2 : ∀ x ∈ E, x.f2.toNat < b.length := fun x hx => by rw [hl]; exact (hE x hx).2.2.2
    rw [tutorref17_closed.l0, if_pos rfl]
    have := l1_pass K N S F E hb n hE E.length (m + 1) 0 b false hl (by omega)
    rw [List.drop_zero] at this
    rw [show ((0 : Int)) = ((0 : Nat) : Int) from rfl, this]
    have hcn := pass_count E b false hl2
    have hst := pass_still E b
    cases hf : (pass E b false).2 with
    | true =>
      have h2 := hcn.2 hf
      simp only [Bool.false_eq_true, false_or] at h2
      obtain ⟨r, g1, g2, g3, g4, g5⟩ := ih (m + 1) (pass E b false).1 (by rw [pass_len]; exact hl) (by omega) (by omega)
      exact ⟨r, g1, g2, fun j hj => g3 j (pass_grow E b false hl2 j hj), g4, fun Q hQ hc2 => g5 Q (pass_sound Q E b false hl2 hc2 hQ) hc2⟩
    | false =>
      obtain ⟨h1, h2⟩ := hst hf
      rw [h1, tutorref17_closed.l0, if_neg (by simp)]
      exact ⟨b, rfl, hl, fun _ h => h, h2, fun Q hQ _ => hQ⟩
/-- A set of the reference holds just these states. -/
def BoolIs (N : Int) (b : List Bool) (P : Int → Prop) : Prop := b.length = N.toNat ∧ ∀ j : Nat, at_ b j ↔ (j : Int) < N ∧ P (j : Int)
theorem closed_is {K N : Int} {S F : List Int} {E : List S80} (hN : 1 ≤ N ∧ N ≤ 1024) (hEl : E.length ≤ 65536) (hE : ∀ x ∈ E, 0 ≤ x.f0 ∧ x.f0 < N ∧ 0 ≤ x.f2 ∧ x.f2 < N) {P : Int → Prop} {b : List Bool} (hs : BoolIs N b P) {k : Nat} (hk : 100000000 ≤ k) :
    ∃ r, tutorref17_closed.f k K N S F E b = some r ∧ BoolIs N r (EC E P) := by
  have hE' : ∀ x ∈ E, 0 ≤ x.f0 ∧ x.f0.toNat < N.toNat ∧ 0 ≤ x.f2 ∧ x.f2.toNat < N.toNat := fun x hx => by have := hE x hx; omega
  have hmul : (N.toNat + 1) * (E.length + 2) ≤ 1025 * 65538 := Nat.mul_le_mul (by omega) (by omega)
  obtain ⟨r, g1, g2, g3, g4, g5⟩ := closed_spec K N S F E (by omega) N.toNat hE' N.toNat k b hs.1 (by have := List.count_le_length (a := false) (l := b); rw [hs.1] at this; exact this) (by omega)
  refine ⟨r, g1, g2, fun j => ⟨fun hj => ⟨by have := at_lt hj; omega, ?_⟩, fun ⟨hj, he⟩ => ?_⟩⟩
  · refine g5 (fun j => EC E P (j : Int)) (fun j hj => .base ((hs.2 j).1 hj).2) (fun x hx hb hq => ?_) j hj
    have := hE x hx
    rw [Int.toNat_of_nonneg this.1] at hq
    rw [Int.toNat_of_nonneg this.2.2.1]
    exact .step hx hb hq
  · have : 0 ≤ (j : Int) → (j : Int) < N → at_ r (j : Int).toNat := by
      refine EC.within (Q := fun i => 0 ≤ i → i < N → at_ r i.toNat) (fun i hi h0 h1 => ?_) (fun x hx hb hq _ _ => ?_) he
      · exact g3 _ ((hs.2 _).2 ⟨by omega, by rwa [Int.toNat_of_nonneg h0]⟩)
      · have := hE x hx
        exact g4 x hx hb (hq this.1 this.2.1)
    simpa using this (by omega) hj
def setAll (S : List Int) (b : List Bool) : List Bool := S.foldl (fun b i => b.set i.toNat true) b
theorem setAll_len : ∀ (S : List Int) (b : List Bool), (setAll S b).length = b.length
  | [], _ => rfl
  | x :: r, b => by
    show (setAll r (b.set x.toNat true)).length = _
    rw [setAll_len r]
    simp
theorem setAll_at : ∀ (S : List Int) (b : List Bool), (∀ i ∈ S, i.toNat < b.length) → ∀ j, at_ (setAll S b) j ↔ at_ b j ∨ ∃ i ∈ S, i.toNat = j
  | [], b, _, j => by simp [setAll]
  | x :: r, b, h, j => by
    show at_ (setAll r (b.set x.toNat true)) j ↔ _
    rw [setAll_at r _ (fun i hi => by simpa using h i (by simp [hi])) j, at_set (h x (by simp)) j]
    constructor
    · rintro ((rfl | h) | ⟨i, hi, rfl⟩)
      · exact .inr ⟨x, by simp, rfl⟩
      · exact .inl h
      · exact .inr ⟨i, by simp [hi], rfl⟩
    · rintro (h | ⟨i, hi, rfl⟩)
      · exact .inl (.inr h)
      · rcases List.mem_cons.1 hi with rfl | hi
        · exact .inl (.inl rfl)
        · exact .inr ⟨i, hi, rfl⟩
theorem start_l0 (K N : Int) (S F : List Int) (E : List S80) (hb : S.length ≤ 100000) (n : Nat) (hS : ∀ i ∈ S, 0 ≤ i ∧ i.toNat < n) : ∀ (d m i : Nat) (b : List Bool), b.length = n → i + d = S.length →
    tutorref17_start.l0 (m + d + 1) b (i : Int) K N S F E = (tutorref17_closed.f m K N S F E (setAll (S.drop i) b)).bind fun t => some t := by
  intro d
  induction d with
  | zero =>
    intro m i b hl h
    rw [tutorref17_start.l0, if_neg (by omega), List.drop_of_length_le (by omega)]
    rfl
  | succ d ih =>
    intro m i b hl h
    have hi : i < S.length := by omega
    have hx := hS S[i] (List.getElem_mem hi)
    rw [show m + (d + 1) + 1 = (m + d + 1) + 1 by omega, tutorref17_start.l0, if_pos (by omega), if_pos (by omega), rdq hi, List.drop_eq_getElem_cons hi, w64q (by omega), if_pos hx.1, if_pos (by omega)]
    exact ih m (i + 1) _ (by simpa using hl) (by omega)
theorem start_is {K N : Int} {S F : List Int} {E : List S80} (R : RightN K N S F E) {k : Nat} (hk : 200000000 ≤ k) : ∃ r, tutorref17_start.f k K N S F E = some r ∧ BoolIs N r (EC E (fun i => i ∈ S)) := by
  have hN := R.n
  have hS : ∀ i ∈ S, 0 ≤ i ∧ i.toNat < N.toNat := fun i hi => by have := R.s i hi; omega
  have hSl := R.sl
  obtain ⟨m, rfl⟩ : ∃ m, k = m + S.length + 1 := ⟨k - S.length - 1, by omega⟩
  have h1 := start_l0 K N S F E (by omega) N.toNat hS S.length m 0 (List.replicate N.toNat false) (by simp) (by omega)
  rw [List.drop_zero] at h1
  unfold tutorref17_start.f
  rw [if_pos (by omega), if_pos (by omega), show ((0 : Int)) = ((0 : Nat) : Int) from rfl, h1]
  have hB : BoolIs N (setAll S (List.replicate N.toNat false)) (fun i => i ∈ S) := by
    refine ⟨by rw [setAll_len]; simp, fun j => ?_⟩
    rw [setAll_at _ _ (fun i hi => by simpa using (hS i hi).2)]
    constructor
    · rintro (h | ⟨i, hi, rfl⟩)
      · exact absurd h (at_false _ _)
      · have := hS i hi
        rw [Int.toNat_of_nonneg this.1]
        exact ⟨by omega, hi⟩
    · rintro ⟨_, h⟩
      exact .inr ⟨_, h, by simp⟩
  obtain ⟨r, g1, g2⟩ := closed_is (K := K) (S := S) (F := F) hN R.el (fun x hx => by have := R.e x hx; omega) hB (k := m) (by omega)
  exact ⟨r, by rw [g1]; rfl, g2⟩
def stepAll (sy : Int) (s : List Bool) (E : List S80) (b : List Bool) : List Bool := setAll ((E.filter fun x => decide (x.f1 = sy ∧ at_ s x.f0.toNat)).map (·.f2)) b
theorem step_l0 (K N : Int) (S F : List Int) (E : List S80) (hb : E.length ≤ 100000) (n : Nat) (hE : ∀ x ∈ E, 0 ≤ x.f0 ∧ x.f0.toNat < n ∧ 0 ≤ x.f2 ∧ x.f2.toNat < n) (s : List Bool) (hs : s.length = n) (sy : Int) : ∀ (d m i : Nat) (b : List Bool), b.length = n → i + d = E.length →
    tutorref17_step.l0 (m + d + 1) s sy b (i : Int) K N S F E = (tutorref17_closed.f m K N S F E (stepAll sy s (E.drop i) b)).bind fun t => some t := by
  intro d
  induction d with
  | zero =>
    intro m i b hl h
    rw [tutorref17_step.l0, if_neg (by omega), List.drop_of_length_le (by omega)]
    rfl
  | succ d ih =>
    intro m i b hl h
    have hi : i < E.length := by omega
    have hx := hE E[i] (List.getElem_mem hi)
    rw [show m + (d + 1) + 1 = (m + d + 1) + 1 by omega, tutorref17_step.l0, if_pos (by omega), if_pos (by omega), T80q hi, List.drop_eq_getElem_cons hi, w64q (by omega)]
    generalize E[i] = x at hx
    simp only [rdOf_at]
    by_cases h1 : x.f1 = sy
    · rw [if_pos h1, if_pos hx.1, if_pos (by omega)]
      by_cases h2 : at_ s x.f0.toNat
      · rw [if_pos h2, if_pos hx.2.2.1, if_pos (by omega)]
        have : stepAll sy s (x :: E.drop (i + 1)) b = stepAll sy s (E.drop (i + 1)) (b.set x.f2.toNat true) := by
          unfold stepAll
          rw [List.filter_cons_of_pos (by simp [h1, h2])]
          rfl
        rw [this]
        exact ih m (i + 1) _ (by simpa using hl) (by omega)
      · rw [if_neg h2]
        have : stepAll sy s (x :: E.drop (i + 1)) b = stepAll sy s (E.drop (i + 1)) b := by
          unfold stepAll
          rw [List.filter_cons_of_neg (by simp [h2])]
        rw [this]
        exact ih m (i + 1) _ hl (by omega)
    · rw [if_neg h1]
      have : stepAll sy s (x :: E.drop (i + 1)) b = stepAll sy s (E.drop (i + 1)) b := by
        unfold stepAll
        rw [List.filter_cons_of_neg (by simp [h1])]
      rw [this]
      exact ih m (i + 1) _ hl (by omega)
theorem step_is {K N : Int} {S F : List Int} {E : List S80} (R : RightN K N S F E) {k : Nat} (hk : 200000000 ≤ k) {s : List Bool} {P : Int → Prop} (hs : BoolIs N s P) (sy : Int) : ∃ r, tutorref17_step.f k K N S F E s sy = some r ∧ BoolIs N r (EC E (Onto E sy P)) := by
  have hN := R.n
  have hEl := R.el
  have hE : ∀ x ∈ E, 0 ≤ x.f0 ∧ x.f0 < N ∧ 0 ≤ x.f2 ∧ x.f2 < N := fun x hx => by have := R.e x hx; omega
  have hE' : ∀ x ∈ E, 0 ≤ x.f0 ∧ x.f0.toNat < N.toNat ∧ 0 ≤ x.f2 ∧ x.f2.toNat < N.toNat := fun x hx => by have := hE x hx; omega
  obtain ⟨m, rfl⟩ : ∃ m, k = m + E.length + 1 := ⟨k - E.length - 1, by omega⟩
  have h1 := step_l0 K N S F E (by omega) N.toNat hE' s hs.1 sy E.length m 0 (List.replicate N.toNat false) (by simp) (by omega)
  rw [List.drop_zero] at h1
  unfold tutorref17_step.f
  rw [if_pos (by omega), if_pos (by omega), show ((0 : Int)) = ((0 : Nat) : Int) from rfl, h1]
  have hB : BoolIs N (stepAll sy s E (List.replicate N.toNat false)) (Onto E sy P) := by
    refine ⟨by unfold stepAll; rw [setAll_len]; simp, fun j => ?_⟩
    unfold stepAll
    rw [setAll_at _ _ (fun i hi => by obtain ⟨x, hx, rfl⟩ := List.mem_map.1 hi; simpa using (hE' x (List.mem_filter.1 hx).1).2.2.2)]
    constructor
    · rintro (h | ⟨i, hi, rfl⟩)
      · exact absurd h (at_false _ _)
      · obtain ⟨x, hx, rfl⟩ := List.mem_map.1 hi
        obtain ⟨hx, hc⟩ := List.mem_filter.1 hx
        have := hE x hx
        have hc := of_decide_eq_true hc
        have h2 := ((hs.2 _).1 hc.2).2
        rw [Int.toNat_of_nonneg this.1] at h2
        rw [Int.toNat_of_nonneg this.2.2.1]
        exact ⟨this.2.2.2, x, hx, hc.1, h2, rfl⟩
    · rintro ⟨_, x, hx, hb, hp, he⟩
      have := hE x hx
      refine .inr ⟨x.f2, List.mem_map.2 ⟨x, List.mem_filter.2 ⟨hx, decide_eq_true ⟨hb, (hs.2 _).2 ⟨by omega, by rwa [Int.toNat_of_nonneg this.1]⟩⟩⟩, rfl⟩, by omega⟩
  obtain ⟨r, g1, g2⟩ := closed_is (K := K) (S := S) (F := F) hN R.el hE hB (k := m) (by omega)
  exact ⟨r, by rw [g1]; rfl, g2⟩
open Classical in
theorem final_l0 (K N : Int) (S F : List Int) (E : List S80) (hN : 1 ≤ N ∧ N ≤ 1024) (hF : (F.length : Int) = N) (b : List Bool) (hb : b.length = N.toNat) : ∀ (d k i : Nat), i + d = N.toNat → d < k →
    tutorref17_final.l0 k b (i : Int) K N S F E = some (decide (∃ j, i ≤ j ∧ j < N.toNat ∧ at_ b j ∧ F[j]? = some 1)) := by
  intro d
  induction d with
  | zero =>
    intro k i h hk
    obtain ⟨k, rfl⟩ : ∃ m, k = m + 1 := ⟨k - 1, by omega⟩
    rw [tutorref17_final.l0, if_neg (by omega)]
    congr 1
    exact (decide_eq_false (fun ⟨j, h1, h2, _⟩ => by omega)).symm
  | succ d ih =>
    intro k i h hk
    obtain ⟨k, rfl⟩ : ∃ m, k = m + 1 := ⟨k - 1, by omega⟩
    have hi : i < F.length := by omega
    have hq := ih k (i + 1) (by omega) (by omega)
    rw [tutorref17_final.l0, if_pos (by omega), if_pos (by omega), if_pos (by omega), rdq hi, w64q (by omega), hq]
    simp only [rdOf_at, Int.toNat_natCast]
    have hget : F[i]? = some F[i] := List.getElem?_eq_getElem hi
    by_cases h1 : at_ b i
    · rw [if_pos h1, if_pos (by omega)]
      by_cases h2 : F[i] = 1
      · rw [if_pos h2]
        congr 1
        exact (decide_eq_true ⟨i, by omega, by omega, h1, by rw [hget, h2]⟩).symm
      · rw [if_neg h2]
        congr 1
        refine decide_eq_decide.2 ⟨fun ⟨j, a, b, c⟩ => ⟨j, by omega, b, c⟩, fun ⟨j, a, b, c, e⟩ => ⟨j, ?_, b, c, e⟩⟩
        rcases Nat.lt_or_eq_of_le a with h | rfl
        · omega
        · rw [hget] at e
          exact absurd (Option.some.inj e) h2
    · rw [if_neg h1]
      congr 1
      refine decide_eq_decide.2 ⟨fun ⟨j, a, b, c⟩ => ⟨j, by omega, b, c⟩, fun ⟨j, a, b, c, e⟩ => ⟨j, ?_, b, c, e⟩⟩
      rcases Nat.lt_or_eq_of_le a with h | rfl
      · omega
      · exact absurd c h1
open Classical in
theorem final_is {K N : Int} {S F : List Int} {E : List S80} (R : RightN K N S F E) {k : Nat} (hk : 2000 ≤ k) {s : List Bool} {P : Int → Prop} (hs : BoolIs N s P) : tutorref17_final.f k K N S F E s = some (decide (Fin F P)) := by
  have hN := R.n
  have hF := R.fl
  have h := final_l0 K N S F E hN hF s hs.1 N.toNat k 0 (by omega) (by omega)
  unfold tutorref17_final.f
  rw [show ((0 : Int)) = ((0 : Nat) : Int) from rfl, h]
  congr 1
  refine decide_eq_decide.2 ⟨fun ⟨j, _, b, c, e⟩ => ⟨j, e, ((hs.2 j).1 c).2⟩, fun ⟨j, e, c⟩ => ?_⟩
  have := (List.getElem?_eq_some_iff.1 e).1
  exact ⟨j, by omega, by omega, (hs.2 j).2 ⟨by omega, c⟩, e⟩
end Go.Proofs.Ytkaefgmgcghhiaa.X
end
