/- Texts of the statement NfaMeets, one behind the other: Go functions as Lean functions, the machine's calls, the plain law. -/
import Derived.Test.YtkaefgmgcghhiaaMNfaMeets4
import Derived.Test.YtkaefgmgcghhiaaMNfaMeets5
import Derived.Test.YtkaefgmgcghhiaaMNfaMeets12
import Derived.Test.YtkaefgmgcghhiaaMNfaMeets14
set_option linter.unusedVariables false
set_option linter.unusedSimpArgs false
section
namespace Go.Proofs.Ytkaefgmgcghhiaa.X
open Go.RowKit Go.Proofs.YtkaefgmgcghhiaaW.PrintWords Go.Proofs.YtkaefgmgcghhiaaW.PrintLast Go.Proofs.YtkaefgmgcghhiaaW.PrintMore
def numsA (xs : List Int) : Array Value := (xs.map (Value.int .i64)).toArray
def cnX (K : Int) (nxl now : List Int) (s : Nat) : List Nat → Int → Option Int
  | [], sum => some sum
  | x :: r, sum => if (0 ≤ wrap64 (wrap64 ((s : Int) * K) + (x : Int)) ∧ wrap64 (wrap64 ((s : Int) * K) + (x : Int)) < (nxl.length : Int)) ∧ (0 ≤ rd nxl (wrap64 (wrap64 ((s : Int) * K) + (x : Int))) ∧ rd nxl (wrap64 (wrap64 ((s : Int) * K) + (x : Int))) < (now.length : Int))
    then cnX K nxl now s r (min (wrap64 (sum + rd now (rd nxl (wrap64 (wrap64 ((s : Int) * K) + (x : Int)))))) 1099511627777) else none
def cnS (K : Int) (nxl now : List Int) : List Nat → List Int → Option (List Int)
  | [], nx => some nx
  | s :: r, nx => match cnX K nxl now s (List.range K.toNat) 0 with
    | none => none
    | some sum => cnS K nxl now r (nx.set s sum)
def cnN (K N : Int) (nxl : List Int) : Nat → List Int → List Int → Option (List Int)
  | 0, now, _ => some now
  | n + 1, now, nx => match cnS K nxl now (List.range N.toNat) nx with
    | none => none
    | some nx1 => cnN K N nxl n nx1 nx1
def cnG (k : Nat) (kd K O N : Int) (nxl out : List Int) (n : Int) : Option (Int × Int) :=
  match nfa_dfa.f k kd K O N nxl out with
  | none => none
  | some e => if e ≠ 0 then some (0, e) else if n < 0 then some (0, 1) else if n > 4096 then some (0, 1) else
    if (1 ≤ N ∧ N ≤ 1024) ∧ (1 ≤ K ∧ K ≤ 64) ∧ (out.length : Int) = N then (match cnN K N nxl n.toNat out (List.replicate N.toNat 0) with
      | none => none
      | some now => if rd now 0 > 1099511627776 then some (0, 11) else some (rd now 0, 0)) else none
theorem nums_cell {w : World} {g : Nat} {xs : List Int} (h : w.heap[g]? = some (.cells (numsA xs) 3 (0, 0))) (j : Nat) (hj : j < xs.length) : w.cell? ⟨g, j, none⟩ = some (.int .i64 (rd xs j)) := by
  rw [blk_cell h]
  simp [numsA, rd, List.getD_eq_getElem?_getD, List.getElem?_eq_getElem hj]
theorem nums_set {w : World} {g : Nat} {xs : List Int} (h : w.heap[g]? = some (.cells (numsA xs) 3 (0, 0))) (j : Nat) (v : Int) : (w.setCell ⟨g, j, none⟩ (.int .i64 v)).heap[g]? = some (.cells (numsA (xs.set j v)) 3 (0, 0)) := by
  refine blk_put h j _ ?_
  simp [numsA, List.map_set]
theorem copy_row {d s : List Int} (h : s.length = d.length) : ((numsA d).toList.take 0 ++ (s.map (Value.int .i64) ++ (numsA d).toList.drop (0 + (s.map (Value.int .i64)).length))).toArray = numsA s := by
  simp [numsA, h]
theorem made_nums (n : Nat) : madeCells #[Value.int .i64 0] n = numsA (List.replicate n 0) := by
  apply Array.ext'
  simp only [madeCells, numsA]
  apply List.ext_getElem
  · simp
  · intro i h1 h2
    simp [Nat.mod_one]
theorem fresh_make {ops : Array Oper} {rest : List Oper} {o : Oper} {a : Act} {Q : Exit → Act → World → Prop} {W : World} (hgd : o.guard = none) {x : Operand} (ho : o.op = .makeSlice 22 x x) {N : Int} (hx : a.eval x = .int .i64 N) (h0 : 0 ≤ N) (h1 : N ≤ 1024)
    (h : ∀ w1, w1.heap[W.heap.size]? = some (.cells (numsA (List.replicate N.toNat 0)) 3 (0, 0)) → Below W.heap.size W w1 → wpList Try.prog ops Q rest (a.put o.dst (.slice (some ⟨W.heap.size, 0, none⟩) N.toNat N.toNat)) w1) : wpList Try.prog ops Q (o :: rest) a W := by
  have hmk := print_make_int 22 3 (.int .i64 0) 8 Try.underlying22 info3 rfl (by decide) N h0 (by omega) W
  refine Kd.event_run hgd (v := .slice (some ⟨W.heap.size, 0, none⟩) N.toNat N.toNat) (w1 := W.alloc (.cells (madeCells #[.int .i64 0] N.toNat) 3)) ?_ (h _ ?_ (below_alloc (Below.refl _ _) _))
  · unfold execOp
    simp [ho, hx, hmk, Result.andThen]
  · rw [← made_nums]
    exact blk_new W _
/-- copy(d, s) of two whole rows of one length. -/
theorem copy_whole {ops : Array Oper} {rest : List Oper} {o : Oper} {a : Act} {Q : Exit → Act → World → Prop} {W : World} (hgd : o.guard = none) (x y : Operand) (ho : o.op = .call { callee := .builtin .copy, args := #[x, y], argTypes := #[22, 22] })
    {g n m cd cs : Nat} {ad : Addr} {d s : List Int} (hx : a.eval x = .slice (some ⟨g, 0, none⟩) n cd) (hy : a.eval y = .slice (some ad) m cs) (hm : m = n) (hd : d.length = n) (hs : s.length = n)
    (hg : W.heap[g]? = some (.cells (numsA d) 3 (0, 0))) (hsrc : ∀ j v, (s.map (Value.int .i64))[j]? = some v → W.cell? (ad.add j) = some v)
    (h : ∀ w1, w1.heap[g]? = some (.cells (numsA s) 3 (0, 0)) → W.grownBy w1 (some g) → wpList Try.prog ops Q rest (a.put o.dst (goInt n)) w1) : wpList Try.prog ops Q (o :: rest) a W := by
  subst hm
  refine wpList_copy_own hgd x y 22 22 ho 3 Try.underlying22 (by kernel_rfl) g 0 m cd ad m cs hx hy (numsA d) 3 hg (s.map (Value.int .i64)) (by simp [hs]) hsrc (by simp [numsA, hs, hd]) (fun v hv => by
    obtain ⟨m, _, rfl⟩ := List.mem_map.1 hv
    rfl) ?_
  have hl : (s.map (Value.int .i64)).length = m := by simp [hs]
  rw [hl]
  refine h _ ?_ (grown_setRow _ _ _)
  have h2 := copy_row (d := d) (s := s) (by omega)
  rw [hl] at h2
  rw [h2]
  exact setRow_heap W g _ _ 3 (0, 0) hg
theorem nums_src {w : World} {g : Nat} {xs : List Int} (h : w.heap[g]? = some (.cells (numsA xs) 3 (0, 0))) : ∀ j v, (xs.map (Value.int .i64))[j]? = some v → w.cell? ((⟨g, 0, none⟩ : Addr).add j) = some v := by
  intro j v hj
  rw [Addr.add_mid, Nat.zero_add, blk_cell h]
  simpa [numsA] using hj
theorem args_src {w : World} {ad : Addr} {xs : List Int} {n : Nat} (h : Kd.C (Kd.int .i64) w (some ad) n xs) (hn : n = xs.length) : ∀ j v, (xs.map (Value.int .i64))[j]? = some v → w.cell? (ad.add j) = some v := by
  intro j v hj
  obtain ⟨x, hx, rfl⟩ := (by simpa using hj : ∃ x, xs[j]? = some x ∧ Value.int .i64 x = v)
  have hl := (List.getElem?_eq_some_iff.1 hx).1
  obtain ⟨ad2, e2, hc⟩ := Kd.at_int h (j : Int) (by omega) (by omega)
  cases e2
  rw [Int.toNat_natCast] at hc
  rw [hc]
  simp [rd, List.getD_eq_getElem?_getD, hx]
end Go.Proofs.Ytkaefgmgcghhiaa.X
end

section
namespace Go.Proofs.Ytkaefgmgcghhiaa.X
open Go.RowKit Go.Proofs.YtkaefgmgcghhiaaW.PrintWords Go.Proofs.YtkaefgmgcghhiaaW.PrintLast Go.Proofs.YtkaefgmgcghhiaaW.PrintMore
theorem min_flip (a c : Int) : (if c < a then c else a) = min a c := by
  split <;> omega
attribute [local go_sem] max2_int min2_int max_two min_two max_three min_three max_four min_four
set_option maxHeartbeats 8000000 in
set_option maxRecDepth 100000 in
theorem Count_walk (k : Nat) (kd K O N : Int) (A4 : Option Addr) (c4 : Nat) (nxl : List Int) (A5 : Option Addr) (c5 : Nat) (out : List Int) (n : Int) (r1 r2 : Int) (w : World)
    (hr4 : Kd.C (Kd.int .i64) w A4 nxl.length nxl) (hc4 : nxl.length ≤ c4) (hr5 : Kd.C (Kd.int .i64) w A5 out.length out) (hc5 : out.length ≤ c5) (h : cnG k kd K O N nxl out n = some (r1, r2)) :
    Calls Try.prog 39 #[.agg #[.int .i64 kd, .int .i64 K, .int .i64 O, .int .i64 N, .slice A4 nxl.length c4, .slice A5 out.length c5], .int .i64 n] w fun e w' => e = .returned (.tuple #[.int .i64 r1, .int .i64 r2]) ∧ Below w.heap.size w w' := by
  have hu43 := Try.underlying43
  have hu22 := Try.underlying22
  unfold cnG at h
  cases hd : nfa_dfa.f k kd K O N nxl out with
  | none => rw [hd] at h; exact absurd h (by simp)
  | some e0 =>
    rw [hd] at h
    simp only [] at h
    have hdf := fun (W : World) (hb : Below w.heap.size w W) => nfa_dfa.calls k kd K O N A4 c4 nxl A5 c5 out e0 W (Kd.C_below hr4 hb) hc4 (Kd.C_below hr5 hb) hc5 hd
    have H4 := Aside0.mk hr4
    have H5 := Aside0.mk hr5
    clear hr4 hr5 hd
    by_cases q1 : e0 ≠ 0
    · rw [if_pos q1] at h
      simp only [Option.some.injEq, Prod.mk.injEq] at h
      obtain ⟨rfl, rfl⟩ := h
      have q1b : (e0 != 0) = true := by simpa using q1
      clear q1
      go_enter Try.func39, Try.ntmps39
      go_wp2_with (go_at_call 68; refine (hdf _ (below_alloc (Below.refl _ _) _)).mono ?_; rintro e w1 ⟨rfl, hb1⟩)
      go_ret2
      exact ⟨rfl, below_step (below_alloc (Below.refl _ _) _) hb1⟩
    · rw [if_neg q1] at h
      have q0 : e0 = 0 := by omega
      subst q0
      clear q1
      by_cases q2 : n < 0
      · rw [if_pos q2] at h
        simp only [Option.some.injEq, Prod.mk.injEq] at h
        obtain ⟨rfl, rfl⟩ := h
        go_enter Try.func39, Try.ntmps39
        go_wp2_with (go_at_call 68; refine (hdf _ (below_alloc (Below.refl _ _) _)).mono ?_; rintro e w1 ⟨rfl, hb1⟩)
        go_ret2
        exact ⟨rfl, below_step (below_alloc (Below.refl _ _) _) hb1⟩
      · rw [if_neg q2] at h
        by_cases q3 : n > 4096
        · rw [if_pos q3] at h
          simp only [Option.some.injEq, Prod.mk.injEq] at h
          obtain ⟨rfl, rfl⟩ := h
          go_enter Try.func39, Try.ntmps39
          go_wp2_with (go_at_call 68; refine (hdf _ (below_alloc (Below.refl _ _) _)).mono ?_; rintro e w1 ⟨rfl, hb1⟩)
          go_ret2
          exact ⟨rfl, below_step (below_alloc (Below.refl _ _) _) hb1⟩
        · rw [if_neg q3] at h
          by_cases q4 : (1 ≤ N ∧ N ≤ 1024) ∧ (1 ≤ K ∧ K ≤ 64) ∧ (out.length : Int) = N
          · rw [if_pos q4] at h
            obtain ⟨⟨hN1, hN2⟩, ⟨hK1, hK2⟩, hol⟩ := q4
            cases hcn : cnN K N nxl n.toNat out (List.replicate N.toNat 0) with
            | none => rw [hcn] at h; exact absurd h (by simp)
            | some now0 =>
              rw [hcn] at h
              simp only [] at h
              have HH := Aside0.mk h
              have HCN := Aside0.mk hcn
              clear h hcn
              have HOL2 : Aside0 (out.length = N.toNat) := ⟨by omega⟩
              obtain ⟨ad5, e5, _⟩ := Kd.at_int H5.out 0 (by omega) (by omega)
              cases e5
              go_enter Try.func39, Try.ntmps39
              go_wp2_with (first | (go_at_call 68; refine (hdf _ (below_alloc (Below.refl _ _) _)).mono ?_; rintro e w1 ⟨rfl, hb1⟩; have HB1 := Aside0.mk (below_step (below_alloc (Below.refl w.heap.size w) (.cells #[.int .i64 kd, .int .i64 K, .int .i64 O, .int .i64 N, .slice A4 nxl.length c4, .slice (some ad5) out.length c5] 43)) hb1); have hbx := blk_below (blk_new w (.cells #[.int .i64 kd, .int .i64 K, .int .i64 O, .int .i64 N, .slice A4 nxl.length c4, .slice (some ad5) out.length c5] 43)) hb1; have HBX := Aside0.mk hbx; have hx3 : w1.cell? ⟨w.heap.size, 3, none⟩ = some (.int .i64 N) := (blk_cell hbx 3).trans rfl; have hx5 : w1.cell? ⟨w.heap.size, 5, none⟩ = some (.slice (some ad5) out.length c5) := (blk_cell hbx 5).trans rfl; clear hb1 hbx) | ((with_reducible refine gate_dst (N := 25) rfl ?_); (refine fresh_make rfl rfl rfl (by omega) hN2 ?_; intro w2 hg2 hb2; have HB2 := Aside0.mk (below_step HB1.out hb2); have HG2 := Aside0.mk hg2; have HBX2 := Aside0.mk (blk_below HBX.out hb2); have hx3 : w2.cell? ⟨w.heap.size, 3, none⟩ = some (.int .i64 N) := (blk_cell HBX2.out 3).trans rfl; have hx5 : w2.cell? ⟨w.heap.size, 5, none⟩ = some (.slice (some ad5) out.length c5) := (blk_cell HBX2.out 5).trans rfl; clear hg2 hb2)) | ((with_reducible refine gate_builtin (b := .copy) (xs := #[.tmp 26, .tmp 28]) rfl ?_); (refine copy_whole rfl (.tmp 26) (.tmp 28) rfl rfl rfl HOL2.out (by simp) HOL2.out HG2.out (args_src (Kd.C_below H5.out HB2.out) (by omega)) ?_; intro w3 hg3 hgr3; have HG3 := Aside0.mk hg3; have HB3 := Aside0.mk (pw_below_grown HB2.out _ HB2.out.size hgr3 (fun k hk => by injection hk with hk; rw [← hk]; exact HB1.out.size)); have HBX3 := Aside0.mk (blk_grown HBX2.out hgr3 (fun he => by injection he with he; have := blk_lt HBX.out; omega)); have hx3 : w3.cell? ⟨w.heap.size, 3, none⟩ = some (.int .i64 N) := (blk_cell HBX3.out 3).trans rfl; clear hg3 hgr3)) | ((with_reducible refine gate_dst (N := 32) rfl ?_); (refine fresh_make rfl rfl rfl (by omega) hN2 ?_; intro w4 hg4 hb4; have HB4 := Aside0.mk (below_step HB3.out hb4); have HG4 := Aside0.mk hg4; have HG34 := Aside0.mk (blk_below HG3.out hb4); have HBX4 := Aside0.mk (blk_below HBX3.out hb4); clear hg4 hb4)))
              clear hx3 hdf
              have HNB := Aside0.mk hol
              clear hol
              have hg1 : w1.heap.size ≠ w3.heap.size := by
                have := blk_lt HG3.out
                omega
              have hb12 : w.heap.size < w1.heap.size := blk_lt HBX.out
              generalize hg2q : w3.heap.size = g2 at HG4 hg1 ⊢
              have hlt2 : w.heap.size < g2 := by have := HB3.out.size; have := blk_lt HBX3.out; omega
              have hle2 : w.heap.size ≤ g2 := by omega
              generalize hg1q : w1.heap.size = g1 at HG34 hg1 hb12 ⊢
              clear hg1q hg2q
              go_loopw [34] (fun v34 wr => ∃ (i : Nat) (now nx : List Int), v34 = .int .i64 (i : Int) ∧ Aside0 (i ≤ n.toNat) ∧ Aside0 (cnN K N nxl (n.toNat - i) now nx = some now0) ∧ Aside0 (wr.heap[g1]? = some (.cells (numsA now) 3 (0, 0))) ∧ Aside0 (wr.heap[g2]? = some (.cells (numsA nx) 3 (0, 0))) ∧ Aside0 (wr.heap[w.heap.size]? = some (.cells #[.int .i64 kd, .int .i64 K, .int .i64 O, .int .i64 N, .slice A4 nxl.length c4, .slice (some ad5) out.length c5] 43 (0, 0))) ∧ Aside0 (Below w.heap.size w wr) ∧ Aside0 (now.length = N.toNat ∧ nx.length = N.toNat)) (fun v34 _ => n.toNat - (intOf v34).toNat)
              case atStart => exact ⟨0, out, List.replicate N.toNat 0, rfl, ⟨by omega⟩, by simpa using HCN, HG34, HG4, HBX4, HB4, ⟨HOL2.out, by simp⟩⟩
              case round =>
                clear HCN HG34 HG4 HBX4 HB4 HB3 HBX3 HG3 HBX2 HG2 HB2 HBX HB1 HOL2 HNB
                obtain ⟨i, now, nx, rfl, HI, HF, HG1, HG2, HBX, HB, HLN⟩ := hrel
                by_cases hlt : i < n.toNat
                · have H := HF.out
                  obtain ⟨m, hm⟩ : ∃ m, n.toNat - i = m + 1 := ⟨n.toNat - i - 1, by omega⟩
                  have hm2 : n.toNat - (i + 1) = m := by omega
                  rw [hm] at H
                  clear HF
                  simp only [cnN] at H
                  cases hcs : cnS K nxl now (List.range N.toNat) nx with
                  | none => rw [hcs] at H; exact absurd H (by simp)
                  | some nx1 =>
                    rw [hcs] at H
                    simp only [] at H
                    have HH2 := Aside0.mk H
                    have HCS := Aside0.mk hcs
                    have HM2 := Aside0.mk hm2
                    have HLT := Aside0.mk hlt
                    have hlt' : (i : Int) < n := by omega
                    have hx3 : wr.cell? ⟨w.heap.size, 3, none⟩ = some (.int .i64 N) := (blk_cell HBX.out 3).trans rfl
                    clear H hcs hm hm2
                    have hmx : max N 0 = N := by omega
                    go_wp2
                    clear hx3
                    go_loopw [38] (fun v38 wr2 => ∃ (q : Nat) (nx2 : List Int), v38 = .int .i64 (q : Int) ∧ Aside0 (q ≤ N.toNat) ∧ Aside0 (cnS K nxl now ((List.range N.toNat).drop q) nx2 = some nx1) ∧ Aside0 (wr2.heap[g1]? = some (.cells (numsA now) 3 (0, 0))) ∧ Aside0 (wr2.heap[g2]? = some (.cells (numsA nx2) 3 (0, 0))) ∧ Aside0 (wr2.heap[w.heap.size]? = some (.cells #[.int .i64 kd, .int .i64 K, .int .i64 O, .int .i64 N, .slice A4 nxl.length c4, .slice (some ad5) out.length c5] 43 (0, 0))) ∧ Aside0 (Below w.heap.size w wr2) ∧ Aside0 (now.length = N.toNat ∧ nx2.length = N.toNat)) (fun v38 _ => N.toNat - (intOf v38).toNat)
                    case atStart => exact ⟨0, nx, rfl, ⟨by omega⟩, HCS, HG1, HG2, HBX, HB, HLN⟩
                    case round =>
                      clear HCS HG1 HG2 HBX HB HLN
                      obtain ⟨q, nx2, rfl, HQI, HCS, HG1, HG2, HBX, HB, HLN⟩ := hrel
                      by_cases hq : q < N.toNat
                      · have H := HCS.out
                        have hd : (List.range N.toNat).drop q = q :: (List.range N.toNat).drop (q + 1) := by
                          rw [List.drop_eq_getElem_cons (by simpa using hq)]
                          simp
                        rw [hd] at H
                        clear HCS hd
                        simp only [cnS] at H
                        cases hcx : cnX K nxl now q (List.range K.toNat) 0 with
                        | none => rw [hcx] at H; exact absurd H (by simp)
                        | some sum =>
                          rw [hcx] at H
                          simp only [] at H
                          have HCS := Aside0.mk H
                          have HCX := Aside0.mk hcx
                          have HQ := Aside0.mk hq
                          have hq' : (q : Int) < N := by omega
                          have hx1 : wr.cell? ⟨w.heap.size, 1, none⟩ = some (.int .i64 K) := (blk_cell HBX.out 1).trans rfl
                          have hx4 : wr.cell? ⟨w.heap.size, 4, none⟩ = some (.slice A4 nxl.length c4) := (blk_cell HBX.out 4).trans rfl
                          clear H hcx
                          go_wp2
                          go_loopw [43, 10] (fun v43 v10 wr2 => ∃ (x : Nat) (sm : Int), v43 = .int .i64 (x : Int) ∧ v10 = .int .i64 sm ∧ Aside0 (x ≤ K.toNat) ∧ Aside0 (cnX K nxl now q ((List.range K.toNat).drop x) sm = some sum) ∧ Aside0 (wr2 = wr)) (fun v43 _ _ => K.toNat - (intOf v43).toNat)
                          case atStart => exact ⟨0, 0, rfl, rfl, ⟨by omega⟩, HCX, ⟨by first | trivial | rfl⟩⟩
                          case round =>
                            clear HCX
                            obtain ⟨x, sm, rfl, rfl, HXI, HCX, HWR⟩ := hrel
                            have hwr := HWR.out
                            subst hwr
                            clear HWR
                            by_cases hxk : x < K.toNat
                            · have H := HCX.out
                              have hd : (List.range K.toNat).drop x = x :: (List.range K.toNat).drop (x + 1) := by
                                rw [List.drop_eq_getElem_cons (by simpa using hxk)]
                                simp
                              rw [hd] at H
                              clear HCX hd
                              simp only [cnX] at H
                              obtain ⟨ji, hji⟩ : ∃ j_ : Int, wrap64 (wrap64 ((q : Int) * K) + (x : Int)) = j_ := ⟨_, rfl⟩
                              rw [hji] at H
                              have hjiw : IntKind.i64.wrap (wrap64 ((q : Int) * K) + (x : Int)) = ji := (i64_w _).trans hji
                              by_cases c1 : (0 ≤ ji ∧ ji < (nxl.length : Int)) ∧ (0 ≤ rd nxl ji ∧ rd nxl ji < (now.length : Int))
                              · rw [if_pos c1] at H
                                obtain ⟨⟨c1a, c1b⟩, c1c, c1d⟩ := c1
                                obtain ⟨ad4, e4, hxa⟩ := Kd.at_int (Kd.C_below H4.out HB.out) ji c1a c1b
                                cases e4
                                generalize rd nxl ji = t at H c1c c1d hxa
                                have ht : (t.toNat : Int) = t := Int.toNat_of_nonneg c1c
                                have hnt := nums_cell HG1.out t.toNat (by omega)
                                rw [ht] at hnt
                                have htN : t < N := by have := HLN.out.1; omega
                                generalize rd now t = y at H hnt
                                have HCX := Aside0.mk H
                                have HXK := Aside0.mk hxk
                                have hxk' : (x : Int) < K := by omega
                                clear H ht c1d
                                go_wp2
                                go_roundw
                                case rel => exact ⟨x + 1, min (wrap64 (sm + y)) 1099511627777, by go_num, by rw [min_flip], ⟨by have := HXK.out; omega⟩, HCX, ⟨trivial⟩⟩
                                case measure => have := HXK.out; simp [intOf]; omega
                              · rw [if_neg c1] at H; exact absurd H (by simp)
                            · have H := HCX.out
                              rw [List.drop_of_length_le (by simp; omega)] at H
                              simp only [cnX, Option.some.injEq] at H
                              subst H
                              have hxk' : ¬ ((x : Int) < K) := by omega
                              have hcl := nums_cell HG2.out q (by have := HLN.out.2; have := HQ.out; omega)
                              have hfz := blk_frozen HG2.out q
                              go_wp2
                              go_roundw
                              case rel => exact ⟨q + 1, nx2.set q sm, by go_num, ⟨by have := HQ.out; omega⟩, HCS, ⟨blk_far HG1.out (by show g1 ≠ g2; exact hg1) _⟩, ⟨nums_set HG2.out q sm⟩, ⟨blk_far HBX.out (by show w.heap.size ≠ g2; omega) _⟩, ⟨below_set HB.out hle2⟩, ⟨HLN.out.1, by rw [List.length_set]; exact HLN.out.2⟩⟩
                              case measure => have := HQ.out; simp [intOf]; omega
                      · have H := HCS.out
                        rw [List.drop_of_length_le (by simp; omega)] at H
                        simp only [cnS, Option.some.injEq] at H
                        subst H
                        have hq' : ¬ ((q : Int) < N) := by omega
                        go_wp2_with ((with_reducible refine gate_builtin (b := .copy) (xs := #[.tmp 68, .tmp 69]) rfl ?_); (refine copy_whole rfl (.tmp 68) (.tmp 69) rfl rfl rfl rfl HLN.out.1 HLN.out.2 HG1.out (nums_src HG2.out) ?_; intro w5 hg5 hgr5; have HG5 := Aside0.mk hg5; have HG25 := Aside0.mk (blk_grown HG2.out hgr5 (fun he => by injection he with he; exact hg1 he.symm)); have HBX5 := Aside0.mk (blk_grown HBX.out hgr5 (fun he => by injection he with he; omega)); have HB5 := Aside0.mk (pw_below_grown HB.out _ HB.out.size hgr5 (fun k hk => by injection hk with hk; omega)); clear hg5 hgr5))
                        have hlt3 := HLT.out
                        refine ⟨⟨_, _, _, _, ⟨i + 1, rfl, ⟨by omega⟩, nx2, nx2, ⟨by rw [HM2.out]; exact HH2.out⟩, HG5, HG25, ⟨HLN.out.2, HLN.out.2⟩⟩, rfl, rfl, rfl, by go_num⟩, ?_⟩
                        simp [intOf]
                        omega
                · have hlt' : ¬ ((i : Int) < n) := by omega
                  have H := HF.out
                  have h0 : n.toNat - i = 0 := by omega
                  rw [h0] at H
                  simp only [cnN, Option.some.injEq] at H
                  subst H
                  have hr := HH.out
                  have hnl := HLN.out.1
                  have hc0 := nums_cell HG1.out 0 (by omega)
                  rw [Int.natCast_zero] at hc0
                  clear hnl h0
                  by_cases q5 : rd now 0 > 1099511627776
                  · rw [if_pos q5] at hr
                    simp only [Option.some.injEq, Prod.mk.injEq] at hr
                    obtain ⟨rfl, rfl⟩ := hr
                    go_wp2
                    go_ret2
                    exact ⟨rfl, HB.out⟩
                  · rw [if_neg q5] at hr
                    simp only [Option.some.injEq, Prod.mk.injEq] at hr
                    obtain ⟨rfl, rfl⟩ := hr
                    go_wp2
                    go_ret2
                    exact ⟨rfl, HB.out⟩
          · rw [if_neg q4] at h; exact absurd h (by simp)
end Go.Proofs.Ytkaefgmgcghhiaa.X
end

section
namespace Go.Proofs.Ytkaefgmgcghhiaa.X
open Go.RowKit Go.Proofs.YtkaefgmgcghhiaaW.PrintWords Go.Proofs.YtkaefgmgcghhiaaW.PrintLast Go.Proofs.YtkaefgmgcghhiaaW.PrintMore
def big : Nat := 200000
def nfa_Accepts.f (a0_0 a0_1 : Int) (l0_2 l0_3 : List Int) (l0_4 : List S80) (l1 : List Int) : Option (Bool × Int) := accF big a0_0 a0_1 l0_2 l0_3 l0_4 l1
theorem nfa_Accepts.calls (a0_0 : Int) (a0_1 : Int) (A0_2 : Option Addr) (c0_2 : Nat) (l0_2 : List Int) (A0_3 : Option Addr) (c0_3 : Nat) (l0_3 : List Int) (A0_4 : Option Addr) (c0_4 : Nat) (l0_4 : List (S80)) (A1 : Option Addr) (c1 : Nat) (l1 : List Int) (r1 : Bool) (r2 : Int) (w : World) (hr0_2 : Kd.C (Kd.int .i64) w A0_2 l0_2.length l0_2) (hc0_2 : l0_2.length ≤ c0_2) (hr0_3 : Kd.C (Kd.int .i64) w A0_3 l0_3.length l0_3) (hc0_3 : l0_3.length ≤ c0_3) (hr0_4 : Kd.C k80 w A0_4 l0_4.length l0_4) (hc0_4 : l0_4.length ≤ c0_4) (hr1 : Kd.C (Kd.int .i64) w A1 l1.length l1) (hc1 : l1.length ≤ c1) (h : nfa_Accepts.f a0_0 a0_1 l0_2 l0_3 l0_4 l1 = some (r1, r2)) :
    Calls Try.prog 20 #[.agg #[.int .i64 a0_0, .int .i64 a0_1, .slice A0_2 l0_2.length c0_2, .slice A0_3 l0_3.length c0_3, .slice A0_4 l0_4.length c0_4], .slice A1 l1.length c1] w fun e w' => e = .returned (.tuple #[.bool r1, .int .i64 r2]) ∧ Below w.heap.size w w' :=
  Accepts_walk big a0_0 a0_1 A0_2 c0_2 l0_2 A0_3 c0_3 l0_3 A0_4 c0_4 l0_4 A1 c1 l1 r1 r2 w hr0_2 hr0_3 hr0_4 hr1 hc0_2 hc0_3 hc0_4 hc1 h
def nfa_Determine.f (a0_0 a0_1 : Int) (l0_2 l0_3 : List Int) (l0_4 : List S80) : Option (Int × Int × Int × Int × List Int × List Int × Int) := detG big a0_0 a0_1 l0_2 l0_3 l0_4
theorem nfa_Determine.calls (a0_0 : Int) (a0_1 : Int) (A0_2 : Option Addr) (c0_2 : Nat) (l0_2 : List Int) (A0_3 : Option Addr) (c0_3 : Nat) (l0_3 : List Int) (A0_4 : Option Addr) (c0_4 : Nat) (l0_4 : List (S80)) (r1 : Int) (r2 : Int) (r3 : Int) (r4 : Int) (r5 : List Int) (r6 : List Int) (r7 : Int) (w : World) (hr0_2 : Kd.C (Kd.int .i64) w A0_2 l0_2.length l0_2) (hc0_2 : l0_2.length ≤ c0_2) (hr0_3 : Kd.C (Kd.int .i64) w A0_3 l0_3.length l0_3) (hc0_3 : l0_3.length ≤ c0_3) (hr0_4 : Kd.C k80 w A0_4 l0_4.length l0_4) (hc0_4 : l0_4.length ≤ c0_4) (h : nfa_Determine.f a0_0 a0_1 l0_2 l0_3 l0_4 = some (r1, r2, r3, r4, r5, r6, r7)) :
    Calls Try.prog 22 #[.agg #[.int .i64 a0_0, .int .i64 a0_1, .slice A0_2 l0_2.length c0_2, .slice A0_3 l0_3.length c0_3, .slice A0_4 l0_4.length c0_4]] w fun e w' => ∃ v4_ v5_ : Value, e = .returned (.tuple #[.agg #[.int .i64 r1, .int .i64 r2, .int .i64 r3, .int .i64 r4, v4_, v5_], .int .i64 r7]) ∧ Kd.R (Kd.int .i64) 3 w' w.heap.size (fun k_ => some k_ ≠ (v5_ : Value).ownBlock) v4_ r5 ∧ Kd.R (Kd.int .i64) 3 w' w.heap.size (fun k_ => some k_ ≠ (v4_ : Value).ownBlock) v5_ r6 ∧ Below w.heap.size w w' :=
  Determine_walk big a0_0 a0_1 A0_2 c0_2 l0_2 A0_3 c0_3 l0_3 A0_4 c0_4 l0_4 r1 r2 r3 r4 r5 r6 r7 w hr0_2 hr0_3 hr0_4 h
def nfa_Count.f (a0_0 a0_1 a0_2 a0_3 : Int) (l0_4 l0_5 : List Int) (a1 : Int) : Option (Int × Int) := cnG big a0_0 a0_1 a0_2 a0_3 l0_4 l0_5 a1
theorem nfa_Count.calls (a0_0 : Int) (a0_1 : Int) (a0_2 : Int) (a0_3 : Int) (A0_4 : Option Addr) (c0_4 : Nat) (l0_4 : List Int) (A0_5 : Option Addr) (c0_5 : Nat) (l0_5 : List Int) (a1 : Int) (r1 : Int) (r2 : Int) (w : World) (hr0_4 : Kd.C (Kd.int .i64) w A0_4 l0_4.length l0_4) (hc0_4 : l0_4.length ≤ c0_4) (hr0_5 : Kd.C (Kd.int .i64) w A0_5 l0_5.length l0_5) (hc0_5 : l0_5.length ≤ c0_5) (h : nfa_Count.f a0_0 a0_1 a0_2 a0_3 l0_4 l0_5 a1 = some (r1, r2)) :
    Calls Try.prog 39 #[.agg #[.int .i64 a0_0, .int .i64 a0_1, .int .i64 a0_2, .int .i64 a0_3, .slice A0_4 l0_4.length c0_4, .slice A0_5 l0_5.length c0_5], .int .i64 a1] w fun e w' => e = .returned (.tuple #[.int .i64 r1, .int .i64 r2]) ∧ Below w.heap.size w w' :=
  Count_walk big a0_0 a0_1 a0_2 a0_3 A0_4 c0_4 l0_4 A0_5 c0_5 l0_5 a1 r1 r2 w hr0_4 hc0_4 hr0_5 hc0_5 h
end Go.Proofs.Ytkaefgmgcghhiaa.X
end

section
namespace Go.Proofs.Ytkaefgmgcghhiaa.X
open Go.RowKit Go.Proofs.YtkaefgmgcghhiaaW.PrintWords Go.Proofs.YtkaefgmgcghhiaaW.PrintLast Go.Proofs.YtkaefgmgcghhiaaW.PrintMore
def nfa_Meet.f (a0_0 a0_1 a0_2 a0_3 : Int) (l0_4 l0_5 : List Int) (a1_0 a1_1 a1_2 a1_3 : Int) (l1_4 l1_5 : List Int) (a2 : Int) : Option (Int × Int × Int × Int × List Int × List Int × Int) := mtG big a0_0 a0_1 a0_2 a0_3 l0_4 l0_5 a1_0 a1_1 a1_2 a1_3 l1_4 l1_5 a2
theorem nfa_Meet.calls (a0_0 : Int) (a0_1 : Int) (a0_2 : Int) (a0_3 : Int) (A0_4 : Option Addr) (c0_4 : Nat) (l0_4 : List Int) (A0_5 : Option Addr) (c0_5 : Nat) (l0_5 : List Int) (a1_0 : Int) (a1_1 : Int) (a1_2 : Int) (a1_3 : Int) (A1_4 : Option Addr) (c1_4 : Nat) (l1_4 : List Int) (A1_5 : Option Addr) (c1_5 : Nat) (l1_5 : List Int) (a2 : Int) (r1 : Int) (r2 : Int) (r3 : Int) (r4 : Int) (r5 : List Int) (r6 : List Int) (r7 : Int) (w : World) (hr0_4 : Kd.C (Kd.int .i64) w A0_4 l0_4.length l0_4) (hc0_4 : l0_4.length ≤ c0_4) (hr0_5 : Kd.C (Kd.int .i64) w A0_5 l0_5.length l0_5) (hc0_5 : l0_5.length ≤ c0_5) (hr1_4 : Kd.C (Kd.int .i64) w A1_4 l1_4.length l1_4) (hc1_4 : l1_4.length ≤ c1_4) (hr1_5 : Kd.C (Kd.int .i64) w A1_5 l1_5.length l1_5) (hc1_5 : l1_5.length ≤ c1_5) (h : nfa_Meet.f a0_0 a0_1 a0_2 a0_3 l0_4 l0_5 a1_0 a1_1 a1_2 a1_3 l1_4 l1_5 a2 = some (r1, r2, r3, r4, r5, r6, r7)) :
    Calls Try.prog 30 #[.agg #[.int .i64 a0_0, .int .i64 a0_1, .int .i64 a0_2, .int .i64 a0_3, .slice A0_4 l0_4.length c0_4, .slice A0_5 l0_5.length c0_5], .agg #[.int .i64 a1_0, .int .i64 a1_1, .int .i64 a1_2, .int .i64 a1_3, .slice A1_4 l1_4.length c1_4, .slice A1_5 l1_5.length c1_5], .int .i64 a2] w fun e w' => ∃ v4_ v5_ : Value, e = .returned (.tuple #[.agg #[.int .i64 r1, .int .i64 r2, .int .i64 r3, .int .i64 r4, v4_, v5_], .int .i64 r7]) ∧ Kd.R (Kd.int .i64) 3 w' w.heap.size (fun k_ => some k_ ≠ (v5_ : Value).ownBlock) v4_ r5 ∧ Kd.R (Kd.int .i64) 3 w' w.heap.size (fun k_ => some k_ ≠ (v4_ : Value).ownBlock) v5_ r6 ∧ Below w.heap.size w w' :=
  Meet_walk big a0_0 a0_1 a0_2 a0_3 A0_4 c0_4 l0_4 A0_5 c0_5 l0_5 a1_0 a1_1 a1_2 a1_3 A1_4 c1_4 l1_4 A1_5 c1_5 l1_5 a2 r1 r2 r3 r4 r5 r6 r7 w hr0_4 hc0_4 hr0_5 hc0_5 hr1_4 hc1_4 hr1_5 hc1_5 h
end Go.Proofs.Ytkaefgmgcghhiaa.X
end

section
namespace Go.Proofs.Ytkaefgmgcghhiaa.X
set_option maxRecDepth 100000
theorem liveA : nfa_Accepts.f 2 2 [0] [0, 1] [⟨0, 0, 0⟩, ⟨0, 1, 0⟩, ⟨0, 1, 1⟩] [0, 1] = some (true, 0) := by decide +kernel
theorem liveD : nfa_Determine.f 2 2 [0] [0, 1] [⟨0, 0, 0⟩, ⟨0, 1, 0⟩, ⟨0, 1, 1⟩] = some (1, 2, 2, 2, [0, 1, 0, 1], [0, 1], 0) := by kernel_rfl
theorem liveC : nfa_Count.f 1 2 2 2 [0, 1, 0, 1] [0, 1] 3 = some (4, 0) := by decide +kernel
end Go.Proofs.Ytkaefgmgcghhiaa.X
end

section
namespace Go.Proofs.Ytkaefgmgcghhiaa.X
open Go.RowKit Go.Proofs.YtkaefgmgcghhiaaW.PrintWords Go.Proofs.YtkaefgmgcghhiaaW.PrintLast Go.Proofs.YtkaefgmgcghhiaaW.PrintMore
theorem w64 {i : Int} (h0 : -9223372036854775808 ≤ i) (h : i ≤ 9223372036854775807) : wrap64 i = i := by unfold wrap64; omega
theorem w64s {i : Nat} (h : i < 4611686018427387904) : wrap64 ((i : Int) + 1) = ((i + 1 : Nat) : Int) := by rw [w64 (by omega) (by omega)]; rfl
theorem rd_nat {xs : List Int} {i : Nat} (h : i < xs.length) : rd xs (i : Int) = xs[i] := by simp [rd, List.getD_eq_getElem?_getD, List.getElem?_eq_getElem h]
theorem same_l0 (a b : List Int) (hl : a.length = b.length) (hb : a.length ≤ 4611686018427387903) : ∀ (d k i : Nat), i + d = a.length → d < k → tutorref01_Same.l0 k a b (i : Int) = some (decide (a.drop i = b.drop i)) := by
  intro d
  induction d with
  | zero =>
    intro k i h hk
    obtain ⟨k, rfl⟩ : ∃ m, k = m + 1 := ⟨k - 1, by omega⟩
    simp only [tutorref01_Same.l0]
    rw [if_neg (by omega), List.drop_of_length_le (by omega), List.drop_of_length_le (by omega)]
    rfl
  | succ d ih =>
    intro k i h hk
    obtain ⟨k, rfl⟩ : ∃ m, k = m + 1 := ⟨k - 1, by omega⟩
    simp only [tutorref01_Same.l0]
    have hda : a.drop i = a[i]'(by omega) :: a.drop (i + 1) := List.drop_eq_getElem_cons (by omega)
    have hdb : b.drop i = b[i]'(by omega) :: b.drop (i + 1) := List.drop_eq_getElem_cons (by omega)
    rw [if_pos (by omega), if_pos (by omega), if_pos (by omega), rd_nat (by omega), rd_nat (by omega), hda, hdb]
    by_cases he : a[i]'(by omega) = b[i]'(by omega)
    · rw [if_pos he, w64s (by omega), ih k (i + 1) (by omega) (by omega), he]
      congr 1
      exact decide_eq_decide.2 ⟨fun h => by rw [h], fun h => (List.cons.inj h).2⟩
    · rw [if_neg he]
      congr 1
      exact (decide_eq_false (fun h => he (List.cons.inj h).1)).symm
theorem same_f {a b : List Int} {k : Nat} (hb : a.length ≤ 4611686018427387903) (hk : a.length < k) : tutorref01_Same.f k a b = some (decide (a = b)) := by
  unfold tutorref01_Same.f
  by_cases hl : a.length = b.length
  · rw [if_pos (by omega)]
    have := same_l0 a b hl hb a.length k 0 (by omega) hk
    simpa using this
  · rw [if_neg (by omega)]
    have : a ≠ b := fun h => hl (by rw [h])
    simp [this]
end Go.Proofs.Ytkaefgmgcghhiaa.X
end

section
namespace Go.Proofs.Ytkaefgmgcghhiaa.X
open Go.RowKit Go.Proofs.YtkaefgmgcghhiaaW.PrintWords Go.Proofs.YtkaefgmgcghhiaaW.PrintLast Go.Proofs.YtkaefgmgcghhiaaW.PrintMore
/-- Rows of sets, and where their symbols lead, so far. -/
structure Det (k : Nat) (K N : Int) (F : List Int) (fr : List (List S80)) (s0 : List Nat) (i : Nat) (row : List (List Nat)) (nx out : List Int) : Prop where
  first : row[0]? = some s0
  sets : ∀ s ∈ row, ∃ P, SetIs N s P
  nodup : row.Nodup
  len : i ≤ row.length ∧ row.length ≤ 1024
  nxl : nx.length = i * K.toNat
  outl : out.length = i
  next : ∀ a x, a < i → x < K.toNat → ∃ s t n, row[a]? = some s ∧ stepF k N fr s (x : Int) = some t ∧ nx[a * K.toNat + x]? = some ((n : Nat) : Int) ∧ row[n]? = some t
  says : ∀ a, a < i → ∃ s, row[a]? = some s ∧ out[a]? = some (fiRow s F 0)
theorem get_app {α : Type} {l : List α} {i : Nat} {a : α} (h : l[i]? = some a) (r : List α) : (l ++ r)[i]? = some a := by
  have := (List.getElem?_eq_some_iff.1 h).1
  rw [List.getElem?_append_left this]
  exact h
end Go.Proofs.Ytkaefgmgcghhiaa.X
end

section
namespace Go.Proofs.Ytkaefgmgcghhiaa.X
open Go.RowKit Go.Proofs.YtkaefgmgcghhiaaW.PrintWords Go.Proofs.YtkaefgmgcghhiaaW.PrintLast Go.Proofs.YtkaefgmgcghhiaaW.PrintMore
/-- A right acceptor. -/
structure RightD (K N : Int) (nx out : List Int) : Prop where
  k : 1 ≤ K ∧ K ≤ 64
  n : 1 ≤ N ∧ N ≤ 1024
  nxl : nx.length = N.toNat * K.toNat
  outl : out.length = N.toNat
  nxr : ∀ x ∈ nx, 0 ≤ x ∧ x < N
  outr : ∀ x ∈ out, 0 ≤ x ∧ x < 2
theorem toNat_mul {a b : Int} (ha : 0 ≤ a) (hb : 0 ≤ b) : ((a.toNat * b.toNat : Nat) : Int) = a * b := by
  rw [Int.natCast_mul, Int.toNat_of_nonneg ha, Int.toNat_of_nonneg hb]
theorem RightD.size {K N : Int} {nx out : List Int} (R : RightD K N nx out) : nx.length ≤ 65536 := by
  have h1 := R.k
  have h2 := R.n
  rw [R.nxl]
  exact Nat.mul_le_mul (show N.toNat ≤ 1024 by omega) (show K.toNat ≤ 64 by omega)
theorem idx_lt {K N : Int} {nx out : List Int} (R : RightD K N nx out) {a : Nat} {x : Int} (ha : a < N.toNat) (h0 : 0 ≤ x) (h1 : x < K) : a * K.toNat + x.toNat < nx.length := by
  rw [R.nxl]
  have : (a + 1) * K.toNat ≤ N.toNat * K.toNat := Nat.mul_le_mul_right _ ha
  rw [Nat.succ_mul] at this
  omega
theorem idx_eq {K N : Int} {nx out : List Int} (R : RightD K N nx out) {a : Nat} {x : Int} (ha : a < N.toNat) (h0 : 0 ≤ x) (h1 : x < K) : wrap64 (wrap64 ((a : Int) * K) + x) = ((a * K.toNat + x.toNat : Nat) : Int) := by
  have h2 := idx_lt R ha h0 h1
  have h3 := R.size
  have h4 := R.k
  have h5 : ((a * K.toNat : Nat) : Int) = (a : Int) * K := by rw [Int.natCast_mul, Int.toNat_of_nonneg (by omega)]
  have h6 : wrap64 ((a : Int) * K) = ((a * K.toNat : Nat) : Int) := by rw [← h5]; exact w64 (by omega) (by omega)
  rw [h6, w64 (by omega) (by omega)]
  omega
end Go.Proofs.Ytkaefgmgcghhiaa.X
end

section
namespace Go.Proofs.Ytkaefgmgcghhiaa.X
open Go.RowKit Go.Proofs.YtkaefgmgcghhiaaW.PrintWords Go.Proofs.YtkaefgmgcghhiaaW.PrintLast Go.Proofs.YtkaefgmgcghhiaaW.PrintMore
theorem right_of_mcheck {K N : Int} {nx out : List Int} (h : (mcheck 1 K 2 N nx out).2 = 0) : RightD K N nx out := by
  obtain ⟨h1, h2, h3⟩ := mcheck_ok h
  obtain ⟨_, hK, _, hN, _, h4, h5⟩ := head_bounds h1
  rw [if_pos rfl] at h5
  refine ⟨hK, hN, ?_, by omega, h2, h3⟩
  have := toNat_mul (a := N) (b := K) (by omega) (by omega)
  omega
theorem mtI_eq {K N : Int} {nx out : List Int} (R : RightD K N nx out) {s : Int} (h0 : 0 ≤ s) (h1 : s < N) {x : Nat} (hx : x < K.toNat) : mtI K s x = ((s.toNat * K.toNat + x : Nat) : Int) ∧ s.toNat * K.toNat + x < nx.length := by
  have hn := R.n
  have h2 := idx_eq R (a := s.toNat) (x := (x : Int)) (by omega) (by omega) (by omega)
  have h3 := idx_lt R (a := s.toNat) (x := (x : Int)) (by omega) (by omega) (by omega)
  rw [Int.toNat_natCast] at h2 h3
  rw [Int.toNat_of_nonneg h0] at h2
  exact ⟨h2, h3⟩
def stepP (K : Int) (aN bN : List Int) (p : Int × Int) (x : Nat) : Int × Int := (rd aN ((p.1.toNat * K.toNat + x : Nat) : Int), rd bN ((p.2.toNat * K.toNat + x : Nat) : Int))
structure PairOk (NA NB : Int) (p : Int × Int) : Prop where
  a0 : 0 ≤ p.1
  a1 : p.1 < NA
  b0 : 0 ≤ p.2
  b1 : p.2 < NB
structure Two (K NA NB : Int) (aN aO bN bO : List Int) : Prop where
  a : RightD K NA aN aO
  b : RightD K NB bN bO
theorem Two.step {K NA NB : Int} {aN aO bN bO : List Int} (R : Two K NA NB aN aO bN bO) {p : Int × Int} (hp : PairOk NA NB p) {x : Nat} (hx : x < K.toNat) : PairOk NA NB (stepP K aN bN p x) := by
  have h1 := (mtI_eq R.a hp.a0 hp.a1 hx).2
  have h2 := (mtI_eq R.b hp.b0 hp.b1 hx).2
  have h3 := R.a.nxr _ (List.getElem_mem h1)
  have h4 := R.b.nxr _ (List.getElem_mem h2)
  exact ⟨by show 0 ≤ rd aN _; rw [rdj h1]; omega, by show rd aN _ < _; rw [rdj h1]; omega, by show 0 ≤ rd bN _; rw [rdj h2]; omega, by show rd bN _ < _; rw [rdj h2]; omega⟩
theorem PairOk.key {NA NB : Int} (ha : NA ≤ 1024) (hb : NB ≤ 1024) {p : Int × Int} (h : PairOk NA NB p) : okP p = true := by
  have h1 := h.a0; have h2 := h.a1; have h3 := h.b0; have h4 := h.b1
  simp only [okP, Bool.and_eq_true, decide_eq_true_eq]
  omega
structure Met (K NA NB : Int) (aN aO bN bO : List Int) (op : Int) (i : Nat) (row : List (Int × Int)) (nx out : List Int) : Prop where
  first : row[0]? = some (0, 0)
  prs : ∀ p ∈ row, PairOk NA NB p
  nodup : row.Nodup
  len : i ≤ row.length ∧ row.length ≤ 1024
  nxl : nx.length = i * K.toNat
  outl : out.length = i
  next : ∀ a x, a < i → x < K.toNat → ∃ p n, row[a]? = some p ∧ nx[a * K.toNat + x]? = some ((n : Nat) : Int) ∧ row[n]? = some (stepP K aN bN p x)
  says : ∀ a, a < i → ∃ p, row[a]? = some p ∧ out[a]? = some (mtO aO bO op p)
theorem not_mem_of_none' {α : Type} [BEq α] [LawfulBEq α] {row : List α} {t : α} (h : row.findIdx? (· == t) = none) : t ∉ row := by
  intro hm
  have := List.findIdx?_eq_none_iff.1 h t hm
  simp at this
/-- One state's symbols. -/
theorem mtIn_spec {K NA NB : Int} {aN aO bN bO : List Int} (R : Two K NA NB aN aO bN bO) {p : Int × Int} (hp : PairOk NA NB p) (i : Nat) (hi : i < 1024) :
    ∀ (d x : Nat) (row : List (Int × Int)) (nx : List Int), x + d = K.toNat → row[i]? = some p → row.Nodup → row.length ≤ 1024 → (∀ p ∈ row, PairOk NA NB p) → nx.length = i * K.toNat + x →
      (∀ y, y < x → ∃ n, nx[i * K.toNat + y]? = some ((n : Nat) : Int) ∧ row[n]? = some (stepP K aN bN p y)) →
      mtIn K aN bN p ((List.range K.toNat).drop x) row nx = some none ∨
      ∃ row1 nx1, mtIn K aN bN p ((List.range K.toNat).drop x) row nx = some (some (row1, nx1)) ∧ row <+: row1 ∧ nx <+: nx1 ∧ row1.Nodup ∧ row1.length ≤ 1024 ∧ (∀ p ∈ row1, PairOk NA NB p) ∧ nx1.length = (i + 1) * K.toNat ∧
        (∀ y, y < K.toNat → ∃ n, nx1[i * K.toNat + y]? = some ((n : Nat) : Int) ∧ row1[n]? = some (stepP K aN bN p y)) := by
  intro d
  induction d with
  | zero =>
    intro x row nx hx hsi hnd hl hset hnx hdone
    rw [List.drop_of_length_le (by simp; omega), mtIn]
    refine .inr ⟨row, nx, rfl, List.prefix_refl _, List.prefix_refl _, hnd, hl, hset, ?_, fun y hy => hdone y (by omega)⟩
    rw [hnx, Nat.succ_mul]
    omega
  | succ d ih =>
    intro x row nx hx hsi hnd hl hset hnx hdone
    have hK := R.a.k
    have hNA := R.a.n
    have hNB := R.b.n
    have hxl : x < (List.range K.toNat).length := by simp; omega
    have hxk : x < K.toNat := by omega
    obtain ⟨e1, l1⟩ := mtI_eq R.a hp.a0 hp.a1 hxk
    obtain ⟨e2, l2⟩ := mtI_eq R.b hp.b0 hp.b1 hxk
    have hst := R.step hp hxk
    have hmul : i * K.toNat ≤ 1024 * 64 := Nat.mul_le_mul (by omega) (by omega)
    rw [List.drop_eq_getElem_cons hxl, mtIn, List.getElem_range, e1, e2, if_pos (by omega)]
    have ht : (rd aN ((p.1.toNat * K.toNat + x : Nat) : Int), rd bN ((p.2.toNat * K.toNat + x : Nat) : Int)) = stepP K aN bN p x := rfl
    rw [ht]
    generalize stepP K aN bN p x = t at hst ht ⊢
    rw [if_pos ⟨hst.key (by omega) (by omega), by omega⟩]
    cases hf : row.findIdx? (· == t) with
    | some j =>
      simp only []
      obtain ⟨hjl, hjt, _⟩ := List.findIdx?_eq_some_iff_getElem.1 hf
      have hjt' : row[j]? = some t := by rw [List.getElem?_eq_getElem hjl]; simpa using hjt
      have q1 : ∀ y, y < x + 1 → ∃ n, (nx ++ [(j : Int)])[i * K.toNat + y]? = some ((n : Nat) : Int) ∧ row[n]? = some (stepP K aN bN p y) := by
        intro y hy
        by_cases hy2 : y < x
        · obtain ⟨n, e2, e3⟩ := hdone y hy2
          exact ⟨n, get_app e2 _, e3⟩
        · obtain rfl : y = x := by omega
          exact ⟨j, by rw [← hnx, List.getElem?_concat_length], by rw [hjt', ← ht]; rfl⟩
      rcases ih (x + 1) row (nx ++ [(j : Int)]) (by omega) hsi hnd hl hset (by simp [hnx]; omega) q1 with h | ⟨row1, nx1, h1, h2, h3, h4⟩
      · exact .inl h
      · exact .inr ⟨row1, nx1, h1, h2, (List.prefix_append _ _).trans h3, h4⟩
    | none =>
      simp only []
      have hnot := not_mem_of_none' hf
      by_cases hfull : row.length = 1024
      · rw [if_pos hfull]
        exact .inl rfl
      · rw [if_neg hfull]
        have hnd1 : (row ++ [t]).Nodup := by
          rw [List.nodup_append]
          exact ⟨hnd, by simp, fun a ha b hb => by
            simp only [List.mem_singleton] at hb
            subst hb
            exact fun e => hnot (e ▸ ha)⟩
        have q1 : ∀ s ∈ row ++ [t], PairOk NA NB s := by
          intro s' hs'
          rcases List.mem_append.1 hs' with h | h
          · exact hset s' h
          · simp only [List.mem_singleton] at h
            exact h ▸ hst
        have q2 : ∀ y, y < x + 1 → ∃ n, (nx ++ [(row.length : Int)])[i * K.toNat + y]? = some ((n : Nat) : Int) ∧ (row ++ [t])[n]? = some (stepP K aN bN p y) := by
          intro y hy
          by_cases hy2 : y < x
          · obtain ⟨n, e2, e3⟩ := hdone y hy2
            exact ⟨n, get_app e2 _, get_app e3 _⟩
          · obtain rfl : y = x := by omega
            exact ⟨row.length, by rw [← hnx, List.getElem?_concat_length], by rw [List.getElem?_concat_length, ← ht]; rfl⟩
        rcases ih (x + 1) (row ++ [t]) (nx ++ [(row.length : Int)]) (by omega) (get_app hsi _) hnd1 (by simp; omega) q1 (by simp [hnx]; omega) q2 with h | ⟨row1, nx1, h1, h2, h3, h4⟩
        · exact .inl h
        · exact .inr ⟨row1, nx1, h1, (List.prefix_append _ _).trans h2, (List.prefix_append _ _).trans h3, h4⟩
/-- What is said is 0 or 1. -/
theorem said01 {op s : Int} (h0 : 0 ≤ op) (h1 : op ≤ 15) (h2 : 0 ≤ s) (h3 : s ≤ 3) : 0 ≤ Go.bits .and .i64 (shr .i64 op s) 1 ∧ Go.bits .and .i64 (shr .i64 op s) 1 < 2 := by
  have h : ∀ o : _root_.Fin 16, ∀ t : _root_.Fin 4, 0 ≤ Go.bits .and .i64 (shr .i64 (o.1 : Int) (t.1 : Int)) 1 ∧ Go.bits .and .i64 (shr .i64 (o.1 : Int) (t.1 : Int)) 1 < 2 := by decide +kernel
  have := h ⟨op.toNat, by omega⟩ ⟨s.toNat, by omega⟩
  simp only [Int.toNat_of_nonneg h0, Int.toNat_of_nonneg h2] at this
  exact this
theorem out_at' {K N : Int} {nx out : List Int} (R : RightD K N nx out) {s : Int} (h0 : 0 ≤ s) (h1 : s < N) : 0 ≤ rd out s ∧ rd out s < 2 := by
  have hl := R.outl
  have hs : s = ((s.toNat : Nat) : Int) := by omega
  rw [hs, rdj (by omega)]
  exact R.outr _ (List.getElem_mem _)
theorem Two.sh {K NA NB : Int} {aN aO bN bO : List Int} (R : Two K NA NB aN aO bN bO) {p : Int × Int} (hp : PairOk NA NB p) : wrap64 (wrap64 (2 * rd aO p.1) + rd bO p.2) = 2 * rd aO p.1 + rd bO p.2 ∧ 0 ≤ 2 * rd aO p.1 + rd bO p.2 ∧ 2 * rd aO p.1 + rd bO p.2 ≤ 3 := by
  have h1 := out_at' R.a hp.a0 hp.a1
  have h2 := out_at' R.b hp.b0 hp.b1
  rw [w64i (i := 2 * rd aO p.1) (by omega) (by omega), w64i (by omega) (by omega)]
  omega
theorem Two.out {K NA NB : Int} {aN aO bN bO : List Int} (R : Two K NA NB aN aO bN bO) {op : Int} (h0 : 0 ≤ op) (h1 : op ≤ 15) {p : Int × Int} (hp : PairOk NA NB p) : 0 ≤ mtO aO bO op p ∧ mtO aO bO op p < 2 := by
  obtain ⟨e, h2, h3⟩ := R.sh hp
  unfold mtO
  rw [e]
  exact said01 h0 h1 h2 h3
theorem mtF_spec {K NA NB : Int} {aN aO bN bO : List Int} (R : Two K NA NB aN aO bN bO) (op : Int) : ∀ (d q i : Nat) (row : List (Int × Int)) (nx out : List Int), i + d = 1024 → d < q → Met K NA NB aN aO bN bO op i row nx out →
    mtF K aN aO bN bO op q i row nx out = some none ∨
    ∃ row1 nx1 out1, mtF K aN aO bN bO op q i row nx out = some (some (row1, nx1, out1)) ∧ Met K NA NB aN aO bN bO op row1.length row1 nx1 out1 := by
  intro d
  induction d with
  | zero =>
    intro q i row nx out hi hq D
    obtain ⟨q, rfl⟩ : ∃ m, q = m + 1 := ⟨q - 1, by omega⟩
    have := D.len
    rw [mtF, if_neg (by omega)]
    have he : row.length = i := by omega
    exact .inr ⟨row, nx, out, rfl, by rw [he]; exact D⟩
  | succ d ih =>
    intro q i row nx out hi hq D
    obtain ⟨q, rfl⟩ : ∃ m, q = m + 1 := ⟨q - 1, by omega⟩
    have hlen := D.len
    have hNA := R.a.n
    have hNB := R.b.n
    rw [mtF]
    by_cases hlt : i < row.length
    · rw [if_pos hlt]
      have hgi : row[i]? = some row[i] := List.getElem?_eq_getElem hlt
      have hgd : row.getD i (0, 0) = row[i] := by rw [List.getD_eq_getElem?_getD, hgi]; rfl
      have hp := D.prs row[i] (List.getElem_mem hlt)
      rw [hgd]
      obtain ⟨e, h2, h3⟩ := R.sh hp
      have hol := D.outl
      have hal := R.a.outl
      have hbl := R.b.outl
      have h4 := hp.a0; have h5 := hp.a1; have h6 := hp.b0; have h7 := hp.b1
      rw [e, if_pos (by omega)]
      have hin := mtIn_spec R hp i (by omega) K.toNat 0 row nx (by omega) hgi D.nodup hlen.2 D.prs (by rw [D.nxl]; rfl) (fun y hy => by omega)
      rw [List.drop_zero] at hin
      rcases hin with h | ⟨row1, nx1, h1, h2, h3, h4, h5, h6, h7, h8⟩
      · rw [h]
        exact .inl rfl
      · rw [h1]
        simp only []
        have hpl := h2.length_le
        have hget : ∀ {a : Nat} {s : Int × Int}, row[a]? = some s → row1[a]? = some s := by
          intro a s h
          obtain ⟨r, rfl⟩ := h2
          exact get_app h r
        have hgetn : ∀ {a : Nat} {z : Int}, nx[a]? = some z → nx1[a]? = some z := by
          intro a z h
          obtain ⟨r, rfl⟩ := h3
          exact get_app h r
        have D1 : Met K NA NB aN aO bN bO op (i + 1) row1 nx1 (out ++ [mtO aO bO op row[i]]) := by
          refine ⟨hget D.first, h6, h4, ⟨by omega, h5⟩, h7, by simp [D.outl], fun a x ha hx => ?_, fun a ha => ?_⟩
          · by_cases hai : a < i
            · obtain ⟨p, n, e1, e3, e4⟩ := D.next a x hai hx
              exact ⟨p, n, hget e1, hgetn e3, hget e4⟩
            · obtain rfl : a = i := by omega
              obtain ⟨n, e2, e3⟩ := h8 x hx
              exact ⟨row[a], n, hget hgi, e2, e3⟩
          · by_cases hai : a < i
            · obtain ⟨s, e1, e2⟩ := D.says a hai
              exact ⟨s, hget e1, get_app e2 _⟩
            · obtain rfl : a = i := by omega
              have hc := List.getElem?_concat_length (l := out) (a := mtO aO bO op row[a])
              rw [D.outl] at hc
              exact ⟨row[a], hget hgi, hc⟩
        exact ih q (i + 1) row1 nx1 _ (by omega) (by omega) D1
    · rw [if_neg hlt]
      have he : row.length = i := by omega
      exact .inr ⟨row, nx, out, rfl, by rw [he]; exact D⟩
theorem met_start {K NA NB : Int} {aN aO bN bO : List Int} (R : Two K NA NB aN aO bN bO) (op : Int) : Met K NA NB aN aO bN bO op 0 [(0, 0)] [] [] :=
  ⟨rfl, fun p h => by
    simp only [List.mem_singleton] at h
    have h1 := R.a.n; have h2 := R.b.n
    subst h
    exact ⟨by simp, by simp; omega, by simp, by simp; omega⟩, by simp, by simp, by simp, rfl, fun a x ha => by omega, fun a ha => by omega⟩
theorem Met.right {K NA NB : Int} {aN aO bN bO : List Int} (R : Two K NA NB aN aO bN bO) {op : Int} (h0 : 0 ≤ op) (h1 : op ≤ 15) {row : List (Int × Int)} {nx out : List Int} (D : Met K NA NB aN aO bN bO op row.length row nx out) : RightD K (row.length : Int) nx out := by
  have hk := R.a.k
  have hl := D.len
  have hpos : 0 < row.length := (List.getElem?_eq_some_iff.1 D.first).1
  refine ⟨hk, by omega, by rw [D.nxl]; simp, by rw [D.outl]; simp, fun x hx => ?_, fun x hx => ?_⟩
  · obtain ⟨j, hj⟩ := List.getElem?_of_mem hx
    have hjl := (List.getElem?_eq_some_iff.1 hj).1
    rw [D.nxl] at hjl
    have hd : j / K.toNat < row.length := Nat.div_lt_of_lt_mul (by rw [Nat.mul_comm]; exact hjl)
    obtain ⟨s, n, _, e3, e4⟩ := D.next (j / K.toNat) (j % K.toNat) hd (Nat.mod_lt _ (by omega))
    rw [Nat.mul_comm, Nat.div_add_mod, hj] at e3
    have := (List.getElem?_eq_some_iff.1 e4).1
    have e5 := Option.some.inj e3
    omega
  · obtain ⟨j, hj⟩ := List.getElem?_of_mem hx
    have hjl := (List.getElem?_eq_some_iff.1 hj).1
    rw [D.outl] at hjl
    obtain ⟨s, e1, e2⟩ := D.says j hjl
    rw [hj] at e2
    have e5 := Option.some.inj e2
    rw [e5]
    exact R.out h0 h1 (D.prs s (List.mem_of_getElem? e1))
end Go.Proofs.Ytkaefgmgcghhiaa.X
end

section
namespace Go.Proofs.Ytkaefgmgcghhiaa.X
open Go.RowKit Go.Proofs.YtkaefgmgcghhiaaW.PrintWords Go.Proofs.YtkaefgmgcghhiaaW.PrintLast Go.Proofs.YtkaefgmgcghhiaaW.PrintMore
def code (NB : Int) (p : Int × Int) : Int := p.1 * NB + p.2
theorem code_div {NA NB : Int} {p : Int × Int} (h : PairOk NA NB p) : code NB p / NB = p.1 ∧ code NB p % NB = p.2 := by
  have h1 := h.b0; have h2 := h.b1
  unfold code
  rw [Int.add_comm, Int.add_mul_ediv_right _ _ (by omega), Int.add_mul_emod_self_right, Int.ediv_eq_zero_of_lt h1 h2, Int.emod_eq_of_lt h1 h2]
  omega
theorem code_inj {NA NB : Int} {p q : Int × Int} (hp : PairOk NA NB p) (hq : PairOk NA NB q) (h : code NB p = code NB q) : p = q := by
  have h1 := code_div hp
  have h2 := code_div hq
  rw [h] at h1
  exact Prod.ext (h1.1.symm.trans h2.1) (h1.2.symm.trans h2.2)
theorem code_lt {NA NB : Int} {p : Int × Int} (h : PairOk NA NB p) : 0 ≤ code NB p ∧ code NB p < NA * NB := by
  have h1 := h.a0; have h2 := h.a1; have h3 := h.b0; have h4 := h.b1
  have h5 : 0 ≤ p.1 * NB := Int.mul_nonneg h1 (by omega)
  have h6 : (p.1 + 1) * NB ≤ NA * NB := Int.mul_le_mul_of_nonneg_right (by omega) (by omega)
  rw [Int.add_mul, Int.one_mul] at h6
  unfold code
  omega
theorem rd_set {l : List Int} {i j : Int} (hi : 0 ≤ i) (hj : 0 ≤ j) (hl : i < l.length) (v : Int) : rd (l.set i.toNat v) j = if i = j then v else rd l j := by
  unfold rd
  by_cases h : i = j
  · subst h
    rw [if_pos rfl, List.getD_eq_getElem?_getD, List.getElem?_set_self (by omega)]
    rfl
  · rw [if_neg h, List.getD_eq_getElem?_getD, List.getElem?_set_ne (by omega), List.getD_eq_getElem?_getD]
/-- Where each pair stands, counted from 1 on. -/
def spotP (row : List (Int × Int)) (p : Int × Int) : Int := match row.findIdx? (· == p) with | some j => (j : Int) + 1 | none => 0
structure Plc (NA NB : Int) (row : List (Int × Int)) (pl : List Int) : Prop where
  len : (pl.length : Int) = NA * NB
  at_ : ∀ p, PairOk NA NB p → rd pl (code NB p) = spotP row p
theorem spot_snoc {row : List (Int × Int)} {t : Int × Int} (ht : row.findIdx? (· == t) = none) (p : Int × Int) : spotP (row ++ [t]) p = if t = p then (row.length : Int) + 1 else spotP row p := by
  unfold spotP
  rw [List.findIdx?_append]
  by_cases h : t = p
  · subst h
    rw [ht, if_pos rfl]
    simp
  · rw [if_neg h]
    have : ([t].findIdx? fun x => x == p) = none := by simp [h]
    rw [this]
    cases row.findIdx? (· == p) <;> rfl
theorem Plc.snoc {NA NB : Int} {row : List (Int × Int)} {pl : List Int} (h : Plc NA NB row pl) {t : Int × Int} (ht : PairOk NA NB t) (hn : row.findIdx? (· == t) = none) : Plc NA NB (row ++ [t]) (pl.set (code NB t).toNat ((row.length : Int) + 1)) := by
  have hc := code_lt ht
  refine ⟨by rw [List.length_set]; exact h.len, fun p hp => ?_⟩
  have hcp := code_lt hp
  rw [rd_set hc.1 hcp.1 (by rw [h.len]; exact hc.2), spot_snoc hn, h.at_ p hp]
  by_cases e : t = p
  · rw [if_pos e, if_pos (by rw [e])]
  · rw [if_neg e, if_neg (fun h => e (code_inj ht hp h))]
theorem rmP_is {K NA NB : Int} {aN aO bN bO : List Int} (R : Two K NA NB aN aO bN bO) {p : Int × Int} (hp : PairOk NA NB p) {x : Nat} (hx : x < K.toNat) : rmP K NB aN bN p.1 p.2 x = code NB (rd aN (mtI K p.1 x), rd bN (mtI K p.2 x)) ∧ PairOk NA NB (rd aN (mtI K p.1 x), rd bN (mtI K p.2 x)) := by
  obtain ⟨e1, l1⟩ := mtI_eq R.a hp.a0 hp.a1 hx
  obtain ⟨e2, l2⟩ := mtI_eq R.b hp.b0 hp.b1 hx
  have hs := R.step hp hx
  have hs' : PairOk NA NB (rd aN (mtI K p.1 x), rd bN (mtI K p.2 x)) := by rw [e1, e2]; exact hs
  refine ⟨?_, hs'⟩
  have hNA := R.a.n
  have hNB := R.b.n
  have hc := code_lt hs'
  have hm : NA * NB ≤ 1024 * 1024 := Int.mul_le_mul hNA.2 hNB.2 (by omega) (by omega)
  unfold rmP
  unfold code at hc ⊢
  simp only [] at hc ⊢
  have h1 := hs'.b0; have h2 := hs'.b1
  simp only [] at h1 h2
  rw [w64i (i := rd aN (mtI K p.1 x) * NB) (by omega) (by omega), w64i (by omega) (by omega)]
theorem rmIn_of {K NA NB : Int} {aN aO bN bO : List Int} (R : Two K NA NB aN aO bN bO) {p : Int × Int} (hp : PairOk NA NB p) :
    ∀ (l : List Nat) (row : List (Int × Int)) (nx pl : List Int) (res : Option (List (Int × Int) × List Int)), (∀ x ∈ l, x < K.toNat) → row.length ≤ 1024 → Plc NA NB row pl → mtIn K aN bN p l row nx = some res →
      (res = none ∧ rmIn K NB aN bN p.1 p.2 l pl (row.map (code NB)) nx = some none) ∨
      ∃ row1 nx1 pl1, res = some (row1, nx1) ∧ rmIn K NB aN bN p.1 p.2 l pl (row.map (code NB)) nx = some (some (pl1, row1.map (code NB), nx1)) ∧ Plc NA NB row1 pl1 ∧ row1.length ≤ 1024
  | [], row, nx, pl, res, _, hl, hP, h => by
    rw [mtIn] at h
    obtain rfl := Option.some.inj h
    exact .inr ⟨row, nx, pl, rfl, rfl, hP, hl⟩
  | x :: l, row, nx, pl, res, hx, hl, hP, h => by
    have hxk := hx x (by simp)
    obtain ⟨e, hs⟩ := rmP_is R hp hxk
    have hc := code_lt hs
    have hat := hP.at_ _ hs
    have hlen := hP.len
    rw [mtIn] at h
    rw [rmIn, e]
    generalize (rd aN (mtI K p.1 x), rd bN (mtI K p.2 x)) = t at h hs hc hat ⊢
    split at h
    · rename_i c1
      rw [if_pos c1]
      split at h
      · rename_i c2
        rw [if_pos ⟨⟨hc.1, by rw [hlen]; exact hc.2⟩, c2.2, by simp; omega⟩, hat]
        cases hf : row.findIdx? (· == t) with
        | some j =>
          rw [hf] at h
          simp only [] at h
          have hj := (List.findIdx?_eq_some_iff_getElem.1 hf).1
          have hsp : spotP row t = (j : Int) + 1 := by unfold spotP; rw [hf]
          rw [hsp, if_neg (by omega), if_neg (by simp; omega), w64i (by omega) (by omega)]
          have := rmIn_of R hp l row (nx ++ [(j : Int)]) pl res (fun y hy => hx y (by simp [hy])) hl hP h
          rw [show (j : Int) + 1 - 1 = (j : Int) by omega]
          exact this
        | none =>
          rw [hf] at h
          simp only [] at h
          have hsp : spotP row t = 0 := by unfold spotP; rw [hf]
          rw [hsp, if_pos rfl]
          by_cases hfull : row.length = 1024
          · rw [if_pos hfull] at h
            obtain rfl := Option.some.inj h
            exact .inl ⟨rfl, by rw [if_pos (by simp; omega)]⟩
          · rw [if_neg hfull] at h
            rw [if_neg (by simp; omega), rd_set hc.1 hc.1 (by rw [hlen]; exact hc.2), if_pos rfl, List.length_map, w64i (by omega) (by omega)]
            have hP1 := hP.snoc hs hf
            have := rmIn_of R hp l (row ++ [t]) (nx ++ [(row.length : Int)]) _ res (fun y hy => hx y (by simp [hy])) (by simp; omega) hP1 h
            rw [show (row.length : Int) + 1 - 1 = (row.length : Int) by omega]
            rw [List.map_append] at this
            exact this
      · exact absurd h (by simp)
    · exact absurd h (by simp)
theorem mtIn_prs {K NA NB : Int} {aN aO bN bO : List Int} (R : Two K NA NB aN aO bN bO) {p : Int × Int} (hp : PairOk NA NB p) :
    ∀ (l : List Nat) (row : List (Int × Int)) (nx : List Int) (row1 : List (Int × Int)) (nx1 : List Int), (∀ x ∈ l, x < K.toNat) → (∀ p ∈ row, PairOk NA NB p) → mtIn K aN bN p l row nx = some (some (row1, nx1)) → ∀ p ∈ row1, PairOk NA NB p
  | [], row, nx, row1, nx1, _, hs, h => by
    simp only [mtIn, Option.some.injEq, Prod.mk.injEq] at h
    rw [← h.1]
    exact hs
  | x :: l, row, nx, row1, nx1, hx, hs, h => by
    obtain ⟨_, ht⟩ := rmP_is R hp (hx x (by simp))
    rw [mtIn] at h
    generalize (rd aN (mtI K p.1 x), rd bN (mtI K p.2 x)) = t at h ht
    split at h
    · split at h
      · cases hf : row.findIdx? (· == t) with
        | some j =>
          rw [hf] at h
          exact mtIn_prs R hp l row _ row1 nx1 (fun y hy => hx y (by simp [hy])) hs h
        | none =>
          rw [hf] at h
          simp only [] at h
          split at h
          · exact absurd h (by simp)
          · refine mtIn_prs R hp l _ _ row1 nx1 (fun y hy => hx y (by simp [hy])) (fun q hq => ?_) h
            rcases List.mem_append.1 hq with hq | hq
            · exact hs q hq
            · simp only [List.mem_singleton] at hq
              exact hq ▸ ht
      · exact absurd h (by simp)
    · exact absurd h (by simp)
theorem rmF_of {K NA NB : Int} {aN aO bN bO : List Int} (R : Two K NA NB aN aO bN bO) (op : Int) :
    ∀ (q i : Nat) (row : List (Int × Int)) (nx out pl : List Int) (res : Option (List (Int × Int) × List Int × List Int)), row.length ≤ 1024 → (∀ p ∈ row, PairOk NA NB p) → Plc NA NB row pl → mtF K aN aO bN bO op q i row nx out = some res →
      rmF K NB aN aO bN bO op q i pl (row.map (code NB)) nx out = some (res.map fun z => (z.1.map (code NB), z.2.1, z.2.2))
  | 0, i, row, nx, out, pl, res, _, _, _, h => by simp [mtF] at h
  | q + 1, i, row, nx, out, pl, res, hl, hset, hP, h => by
    rw [mtF] at h
    rw [rmF, List.length_map]
    by_cases hi : i < row.length
    · rw [if_pos hi] at h ⊢
      have hg : row.getD i (0, 0) = row[i] := by rw [List.getD_eq_getElem?_getD, List.getElem?_eq_getElem hi]; rfl
      rw [hg] at h
      have hp := hset row[i] (List.getElem_mem hi)
      have hr : rd (row.map (code NB)) (i : Int) = code NB row[i] := by rw [rdj (by simpa using hi)]; simp
      have hd := code_div hp
      have hc := code_lt hp
      have hNA := R.a.n
      have hNB := R.b.n
      have hm : NA * NB ≤ 1024 * 1024 := Int.mul_le_mul hNA.2 hNB.2 (by omega) (by omega)
      rw [hr, hd.1, hd.2]
      generalize row[i] = p at h hp hc
      split at h
      · rename_i c
        rw [if_pos ⟨⟨hc.1, by omega, by omega⟩, ⟨c.1.1.2, c.1.2.2⟩, c.2⟩]
        cases hin : mtIn K aN bN p (List.range K.toNat) row nx with
        | none => rw [hin] at h; exact absurd h (by simp)
        | some ires =>
          rw [hin] at h
          rcases rmIn_of R hp (List.range K.toNat) row nx pl ires (fun x hx => by simpa using hx) hl hP hin with ⟨e1, e2⟩ | ⟨row1, nx1, pl1, e1, e2, e3, e4⟩
          · subst e1
            simp only [] at h
            rw [e2]
            obtain rfl := Option.some.inj h
            rfl
          · subst e1
            simp only [] at h
            rw [e2]
            have hset1 : ∀ q ∈ row1, PairOk NA NB q := by
              have := mtIn_prs R hp (List.range K.toNat) row nx row1 nx1 (fun x hx => by simpa using hx) hset hin
              exact this
            exact rmF_of R op q (i + 1) row1 nx1 _ pl1 res e4 hset1 e3 h
      · exact absurd h (by simp)
    · rw [if_neg hi] at h ⊢
      obtain rfl := Option.some.inj h
      rfl
theorem rm_is {aK aS aO aN : Int} {anx aout : List Int} {bK bS bO bN : Int} {bnx bout : List Int} {op : Int} (ha4 : ∀ x ∈ anx, In64 x) (ha5 : ∀ x ∈ aout, In64 x) (hb4 : ∀ x ∈ bnx, In64 x) (hb5 : ∀ x ∈ bout, In64 x) {k : Nat} (hk : 200000 ≤ k) :
    ∃ r1 r2 r3 r4 r5 r6 r7, mtG k aK aS aO aN anx aout bK bS bO bN bnx bout op = some (r1, r2, r3, r4, r5, r6, r7) ∧ rmG k aK aS aO aN anx aout bK bS bO bN bnx bout op = some (r1, r2, r3, r4, r5, r6, r7) ∧ r5.length ≤ 65536 ∧ r6.length ≤ 65536 := by
  unfold mtG rmG
  rw [mach_prog ha4 ha5 hk, mach_prog hb4 hb5 hk]
  simp only []
  by_cases h1 : (mcheck aK aS aO aN anx aout).2 = 0
  · by_cases h2 : (mcheck bK bS bO bN bnx bout).2 = 0
    · have hA : ¬ (mcheck aK aS aO aN anx aout).2 ≠ 0 := fun h => h h1
      have hB : ¬ (mcheck bK bS bO bN bnx bout).2 ≠ 0 := fun h => h h2
      rw [if_neg hA, if_neg hB, if_neg hA, if_neg hB]
      by_cases h3 : aK ≠ 1 ∨ bK ≠ 1
      · rw [if_pos h3, if_pos h3]; exact ⟨_, _, _, _, _, _, _, rfl, rfl, by simp, by simp⟩
      · rw [if_neg h3, if_neg h3]
        by_cases h4 : aS ≠ bS ∨ op < 0 ∨ op > 15
        · rw [if_pos h4, if_pos h4]; exact ⟨_, _, _, _, _, _, _, rfl, rfl, by simp, by simp⟩
        · rw [if_neg h4, if_neg h4]
          have e1 : aK = 1 := by omega
          have e2 : bK = 1 := by omega
          have e3 : bS = aS := by omega
          subst e1; subst e2; subst e3
          have e4 := (head_bounds (mcheck_ok h1).1).2.2.2.2.1 rfl
          have e5 := (head_bounds (mcheck_ok h2).1).2.2.2.2.1 rfl
          subst e4; subst e5
          have R : Two bS aN bN anx aout bnx bout := ⟨right_of_mcheck h1, right_of_mcheck h2⟩
          have hA := R.a.n
          have hB := R.b.n
          have hS := R.a.k
          have hS0 : 0 ≤ op ∧ op ≤ 15 := by omega
          have hpos : 0 < aN * bN := Int.mul_pos (by omega) (by omega)
          rw [if_pos ⟨⟨by omega, by omega⟩, ⟨by omega, by omega⟩, by omega, by omega⟩]
          have hst := met_start R op
          have hP0 : Plc aN bN [(0, 0)] ((List.replicate (aN * bN).toNat (0 : Int)).set 0 1) := by
            refine ⟨by rw [List.length_set, List.length_replicate]; omega, fun p hp => ?_⟩
            have hc := code_lt hp
            have hz : PairOk aN bN (0, 0) := hst.prs _ (by simp)
            have h0 : code bN (0, 0) = 0 := by unfold code; simp
            have := rd_set (l := List.replicate (aN * bN).toNat (0 : Int)) (i := 0) (j := code bN p) (by omega) hc.1 (by rw [List.length_replicate]; omega) 1
            rw [Int.toNat_zero] at this
            rw [this]
            unfold spotP
            by_cases e : ((0, 0) : Int × Int) = p
            · subst e
              rw [h0, if_pos rfl]
              simp
            · rw [if_neg (fun h => e (code_inj hz hp (h0.trans h)))]
              have hr : rd (List.replicate (aN * bN).toNat (0 : Int)) (code bN p) = 0 := by
                unfold rd
                rw [List.getD_eq_getElem?_getD, List.getElem?_replicate]
                split <;> rfl
              rw [hr]
              simp [e]
          have hmap : [((0 : Int), (0 : Int))].map (code bN) = [0] := by simp [code]
          have key := fun res => rmF_of R op k 0 [(0, 0)] [] [] ((List.replicate (aN * bN).toNat (0 : Int)).set 0 1) res
          rw [hmap] at key
          rcases mtF_spec R op 1024 k 0 [(0, 0)] [] [] (by omega) (by omega) hst with h | ⟨row, nx, out, h, D⟩
          · rw [h, key _ (by simp) hst.prs hP0 h]
            exact ⟨_, _, _, _, _, _, _, rfl, rfl, by simp, by simp⟩
          · rw [h, key _ (by simp) hst.prs hP0 h]
            have Rm := D.right R hS0.1 hS0.2
            have hl := D.len
            refine ⟨1, bS, 2, (row.length : Int), nx, out, 0, rfl, ?_, Rm.size, ?_⟩
            · simp
            · have := D.outl
              omega
    · have hA : ¬ (mcheck aK aS aO aN anx aout).2 ≠ 0 := fun h => h h1
      rw [if_neg hA, if_pos h2, if_neg hA, if_pos h2]; exact ⟨_, _, _, _, _, _, _, rfl, rfl, by simp, by simp⟩
  · rw [if_pos h1, if_pos h1]; exact ⟨_, _, _, _, _, _, _, rfl, rfl, by simp, by simp⟩
end Go.Proofs.Ytkaefgmgcghhiaa.X
end

section
namespace Go.Proofs.Ytkaefgmgcghhiaa.X
open Go.RowKit Go.Proofs.YtkaefgmgcghhiaaW.PrintWords Go.Proofs.YtkaefgmgcghhiaaW.PrintLast Go.Proofs.YtkaefgmgcghhiaaW.PrintMore
/-- A world of which only this counts further on. -/
theorem gen_world {P : Program} {ops : Array Oper} {Q : Exit → Act → World → Prop} {rest : List Oper} {a : Act} (F : World → Prop) {W : World} (h : F W) (k : ∀ W', F W' → wpList P ops Q rest a W') : wpList P ops Q rest a W := k W h
theorem C_nums {w : World} {g : Nat} {xs : List Int} (h : w.heap[g]? = some (.cells (numsA xs) 3 (0, 0))) (hl : xs.length ≤ 9223372036854775807) : Kd.C (Kd.int .i64) w (some ⟨g, 0, none⟩) xs.length xs :=
  Kd.C_of_reads (d := (0 : Int)) (h1 := fun _ => rfl) ⟨rfl, hl, fun _ => ⟨_, rfl, fun j hj => by
    rw [add_plain, nums_cell h j hj]
    rfl⟩⟩
theorem blk_at {W : World} {cs : Array Value} {t n : Nat} (he : W.heap.size = n) : (W.alloc (.cells cs t)).heap[n]? = some (.cells cs t (0, 0)) := by
  subst he
  exact blk_new W _
def liveE : List S80 := [⟨0, 0, 0⟩, ⟨0, 1, 0⟩, ⟨0, 1, 1⟩]
def liveEA : Array Value := #[.int .i64 0, .int .i64 0, .int .i64 0, .int .i64 0, .int .i64 1, .int .i64 0, .int .i64 0, .int .i64 1, .int .i64 1]
theorem C_edges {w : World} {g : Nat} (h : w.heap[g]? = some (.cells liveEA 80 (0, 0))) : Kd.C k80 w (some ⟨g, 0, none⟩) 3 liveE := by
  refine ⟨rfl, by omega, fun _ => ⟨_, rfl, fun j p hj => ⟨_, rfl, k80_mk w p, fun i u hu => ?_⟩⟩⟩
  have hc : ∀ q u, liveEA[q]? = some u → w.cell? ((⟨g, 0, none⟩ : Addr).add q) = some u := fun q u hq => by rw [add_plain, blk_cell h q]; exact hq
  match j, hj with
  | 0, hj =>
    simp only [liveE, List.getElem?_cons_zero, Option.some.injEq] at hj
    subst hj
    match i, hu with
    | 0, hu => exact hc 0 u hu
    | 1, hu => exact hc 1 u hu
    | 2, hu => exact hc 2 u hu
    | i + 3, hu => simp at hu
  | 1, hj =>
    simp only [liveE, List.getElem?_cons_zero, List.getElem?_cons_succ, Option.some.injEq] at hj
    subst hj
    match i, hu with
    | 0, hu => exact hc 3 u hu
    | 1, hu => exact hc 4 u hu
    | 2, hu => exact hc 5 u hu
    | i + 3, hu => simp at hu
  | 2, hj =>
    simp only [liveE, List.getElem?_cons_zero, List.getElem?_cons_succ, Option.some.injEq] at hj
    subst hj
    match i, hu with
    | 0, hu => exact hc 6 u hu
    | 1, hu => exact hc 7 u hu
    | 2, hu => exact hc 8 u hu
    | i + 3, hu => simp at hu
  | j + 3, hj => simp [liveE] at hj
theorem info43c : (Try.prog.info? 43).map (fun i => (i.zero, i.size)) = some (some (.agg #[.int .i64 0, .int .i64 0, .int .i64 0, .int .i64 0, .slice none 0 0, .slice none 0 0]), 6) := by kernel_rfl
theorem same_next : tutorref01_Same.f 10 [0, 1, 0, 1] [0, 1, 0, 1] = some true := by decide +kernel
theorem same_out : tutorref01_Same.f 10 [0, 1] [0, 1] = some true := by decide +kernel
/-- What lies in memory behind the example's making. -/
structure LiveAt (w W : World) : Prop where
  below : Below w.heap.size w W
  s : W.heap[w.heap.size]? = some (.cells (numsA [0]) 3 (0, 0))
  f : W.heap[w.heap.size + 1]? = some (.cells (numsA [0, 1]) 3 (0, 0))
  e : W.heap[w.heap.size + 1 + 1]? = some (.cells liveEA 80 (0, 0))
  a : W.heap[w.heap.size + 1 + 1 + 1]? = some (.cells #[.int .i64 2, .int .i64 2, .slice (some ⟨w.heap.size, 0, none⟩) 1 1, .slice (some ⟨w.heap.size + 1, 0, none⟩) 2 2, .slice (some ⟨w.heap.size + 1 + 1, 0, none⟩) 3 3] 25 (0, 0))
theorem LiveAt.on {w W W1 : World} (h : LiveAt w W) (hb : Below W.heap.size W W1) : LiveAt w W1 := ⟨below_step h.below hb, blk_below h.s hb, blk_below h.f hb, blk_below h.e hb, blk_below h.a hb⟩
theorem live_made (w : World) : LiveAt w ((((w.alloc (.cells #[.int .i64 0] 3)).alloc (.cells #[.int .i64 0, .int .i64 1] 3)).alloc (.cells liveEA 80)).alloc (.cells #[.int .i64 2, .int .i64 2, .slice (some ⟨w.heap.size, 0, none⟩) 1 1, .slice (some ⟨w.heap.size + 1, 0, none⟩) 2 2, .slice (some ⟨w.heap.size + 1 + 1, 0, none⟩) 3 3] 25)) := by
  have hs := blk_new w (.cells (numsA [0]) 3)
  have hf : ((w.alloc (.cells (numsA [0]) 3)).alloc (.cells (numsA [0, 1]) 3)).heap[w.heap.size + 1]? = some (.cells (numsA [0, 1]) 3 (0, 0)) := by
    simpa using blk_new (w.alloc (.cells (numsA [0]) 3)) (.cells (numsA [0, 1]) 3)
  have he : (((w.alloc (.cells (numsA [0]) 3)).alloc (.cells (numsA [0, 1]) 3)).alloc (.cells liveEA 80)).heap[w.heap.size + 1 + 1]? = some (.cells liveEA 80 (0, 0)) := by
    simpa using blk_new ((w.alloc (.cells (numsA [0]) 3)).alloc (.cells (numsA [0, 1]) 3)) (.cells liveEA 80)
  have ha : ((((w.alloc (.cells #[.int .i64 0] 3)).alloc (.cells #[.int .i64 0, .int .i64 1] 3)).alloc (.cells liveEA 80)).alloc (.cells #[.int .i64 2, .int .i64 2, .slice (some ⟨w.heap.size, 0, none⟩) 1 1, .slice (some ⟨w.heap.size + 1, 0, none⟩) 2 2, .slice (some ⟨w.heap.size + 1 + 1, 0, none⟩) 3 3] 25)).heap[w.heap.size + 1 + 1 + 1]? = some (.cells #[.int .i64 2, .int .i64 2, .slice (some ⟨w.heap.size, 0, none⟩) 1 1, .slice (some ⟨w.heap.size + 1, 0, none⟩) 2 2, .slice (some ⟨w.heap.size + 1 + 1, 0, none⟩) 3 3] 25 (0, 0)) := by
    have h := blk_new (((w.alloc (.cells (numsA [0]) 3)).alloc (.cells (numsA [0, 1]) 3)).alloc (.cells liveEA 80)) (.cells #[.int .i64 2, .int .i64 2, .slice (some ⟨w.heap.size, 0, none⟩) 1 1, .slice (some ⟨w.heap.size + 1, 0, none⟩) 2 2, .slice (some ⟨w.heap.size + 1 + 1, 0, none⟩) 3 3] 25)
    have e : (((w.alloc (.cells (numsA [0]) 3)).alloc (.cells (numsA [0, 1]) 3)).alloc (.cells liveEA 80)).heap.size = w.heap.size + 1 + 1 + 1 := by simp
    rw [e] at h
    exact h
  exact ⟨below_alloc (below_alloc (below_alloc (below_alloc (Below.refl _ _) _) _) _) _, blk_alloc (blk_alloc (blk_alloc hs _) _) _, blk_alloc (blk_alloc hf _) _, blk_alloc he _, ha⟩
set_option maxHeartbeats 16000000 in
set_option maxRecDepth 100000 in
theorem live_walk (w : World) : Calls Try.prog 13 #[] w fun e w' => e = .returned (.bool true) ∧ Below w.heap.size w w' := by
  have hu80 := Try.underlying80
  have hu25 := Try.underlying25
  have hu43 := Try.underlying43
  obtain ⟨z43, i43⟩ := zero_of_info info43c
  go_enter Try.func13, Try.ntmps13
  go_wp2_with (first
    | (go_at_call 20; go_loud (
       have HL2 := Aside0.mk ((live_made w).on (below_alloc (Below.refl _ _) (.cells (numsA [0, 1]) 3)))
       have h20 : Calls Try.prog 20 #[.agg #[.int .i64 2, .int .i64 2, .slice (some ⟨w.heap.size, 0, none⟩) 1 1, .slice (some ⟨w.heap.size + 1, 0, none⟩) 2 2, .slice (some ⟨w.heap.size + 1 + 1, 0, none⟩) 3 3], .slice (some ⟨w.heap.size + 1 + 1 + 1 + 1, 0, none⟩) 2 2] (((((w.alloc (.cells #[.int .i64 0] 3)).alloc (.cells #[.int .i64 0, .int .i64 1] 3)).alloc (.cells liveEA 80)).alloc (.cells #[.int .i64 2, .int .i64 2, .slice (some ⟨w.heap.size, 0, none⟩) 1 1, .slice (some ⟨w.heap.size + 1, 0, none⟩) 2 2, .slice (some ⟨w.heap.size + 1 + 1, 0, none⟩) 3 3] 25)).alloc (.cells #[.int .i64 0, .int .i64 1] 3)) _ := nfa_Accepts.calls 2 2 _ 1 [0] _ 2 [0, 1] _ 3 liveE _ 2 [0, 1] true 0 _ (C_nums HL2.out.s (by simp)) (Nat.le_refl _) (C_nums HL2.out.f (by simp)) (Nat.le_refl _) (C_edges HL2.out.e) (Nat.le_refl _) (C_nums (blk_at (by simp)) (by simp)) (Nat.le_refl _) liveA
       refine h20.mono ?_
       rintro e w2 ⟨rfl, hb2⟩
       have HL3 := Aside0.mk (HL2.out.on hb2)
       have hy0 : w2.cell? ⟨w.heap.size + 1 + 1 + 1, 0, none⟩ = some (.int .i64 2) := (blk_cell HL3.out.a 0).trans rfl
       have hy1 : w2.cell? ⟨w.heap.size + 1 + 1 + 1, 1, none⟩ = some (.int .i64 2) := (blk_cell HL3.out.a 1).trans rfl
       have hy2 : w2.cell? ⟨w.heap.size + 1 + 1 + 1, 2, none⟩ = some (.slice (some ⟨w.heap.size, 0, none⟩) 1 1) := (blk_cell HL3.out.a 2).trans rfl
       have hy3 : w2.cell? ⟨w.heap.size + 1 + 1 + 1, 3, none⟩ = some (.slice (some ⟨w.heap.size + 1, 0, none⟩) 2 2) := (blk_cell HL3.out.a 3).trans rfl
       have hy4 : w2.cell? ⟨w.heap.size + 1 + 1 + 1, 4, none⟩ = some (.slice (some ⟨w.heap.size + 1 + 1, 0, none⟩) 3 3) := (blk_cell HL3.out.a 4).trans rfl
       have h22 : Calls Try.prog 22 #[.agg #[.int .i64 2, .int .i64 2, .slice (some ⟨w.heap.size, 0, none⟩) 1 1, .slice (some ⟨w.heap.size + 1, 0, none⟩) 2 2, .slice (some ⟨w.heap.size + 1 + 1, 0, none⟩) 3 3]] w2 _ := nfa_Determine.calls 2 2 _ 1 [0] _ 2 [0, 1] _ 3 liveE 1 2 2 2 [0, 1, 0, 1] [0, 1] 0 w2 (C_nums HL3.out.s (by simp)) (Nat.le_refl _) (C_nums HL3.out.f (by simp)) (Nat.le_refl _) (C_edges HL3.out.e) (Nat.le_refl _) liveD
       clear hb2 h20))
    | (go_at_call 22
       refine h22.mono ?_
       rintro e w3 ⟨v5, v6, rfl, hR5, hR6, hb3⟩
       have HL4 := Aside0.mk (HL3.out.on hb3)
       obtain ⟨P5, e5, rfl⟩ := Kd.R_slice hR5
       obtain ⟨P6, e6, rfl⟩ := Kd.R_slice hR6
       have HR := Aside0.mk (And.intro hR5 hR6)
       clear hb3 hR5 hR6 h22 hy0 hy1 hy2 hy3 hy4)
    | ((with_reducible refine gate_store (t := 43) (p := 4) rfl ?_)
       refine wpList_store_rowTo rfl 43 (.tmp 4) (.tmp 24) rfl rfl w3.heap.size #[.int .i64 1, .int .i64 2, .int .i64 2, .int .i64 2, .slice P5 4 e5, .slice P6 2 e6] rfl rfl 43 _ (blk_new w3 _) ?_ ?_ (by simp [Value.oneCell']) ?_
       (focus (rw [i43]; rfl))
       (focus rfl)
       rw [World.setRow_alloc_new]
       refine gen_world (fun W => Below w.heap.size w W ∧ Below w3.heap.size w3 W ∧ W.heap[w3.heap.size]? = some (.cells #[.int .i64 1, .int .i64 2, .int .i64 2, .int .i64 2, .slice P5 4 e5, .slice P6 2 e6] 43 (0, 0))) ⟨below_alloc HL4.out.below _, below_alloc (Below.refl _ _) _, blk_new w3 _⟩ (fun w5 h5 => ?_)
       have HM5 := Aside0.mk h5
       have hm0 : w5.cell? ⟨w3.heap.size, 0, none⟩ = some (.int .i64 1) := (blk_cell h5.2.2 0).trans rfl
       have hm1 : w5.cell? ⟨w3.heap.size, 1, none⟩ = some (.int .i64 2) := (blk_cell h5.2.2 1).trans rfl
       have hm2 : w5.cell? ⟨w3.heap.size, 2, none⟩ = some (.int .i64 2) := (blk_cell h5.2.2 2).trans rfl
       have hm3 : w5.cell? ⟨w3.heap.size, 3, none⟩ = some (.int .i64 2) := (blk_cell h5.2.2 3).trans rfl
       have hm4 : w5.cell? ⟨w3.heap.size, 4, none⟩ = some (.slice P5 4 e5) := (blk_cell h5.2.2 4).trans rfl
       have hm5 : w5.cell? ⟨w3.heap.size, 5, none⟩ = some (.slice P6 2 e6) := (blk_cell h5.2.2 5).trans rfl
       have h39 : Calls Try.prog 39 #[.agg #[.int .i64 1, .int .i64 2, .int .i64 2, .int .i64 2, .slice P5 4 e5, .slice P6 2 e6], .int .i64 3] w5 _ := nfa_Count.calls 1 2 2 2 P5 e5 [0, 1, 0, 1] P6 e6 [0, 1] 3 4 0 w5 (Kd.C_below (Kd.R_reads' HR.out.1).2.2 h5.2.1) (Kd.R_reads' HR.out.1).2.1 (Kd.C_below (Kd.R_reads' HR.out.2).2.2 h5.2.1) (Kd.R_reads' HR.out.2).2.1 liveC
       clear h5)
    | (go_at_call 39
       refine h39.mono ?_
       rintro e w6 ⟨rfl, hb6⟩
       have HM6 : Aside0 (Below w.heap.size w w6 ∧ Below w3.heap.size w3 w6 ∧ w6.heap[w3.heap.size]? = some (.cells #[.int .i64 1, .int .i64 2, .int .i64 2, .int .i64 2, .slice P5 4 e5, .slice P6 2 e6] 43 (0, 0))) := ⟨below_step HM5.out.1 hb6, below_step HM5.out.2.1 hb6, blk_below HM5.out.2.2 hb6⟩
       clear hb6 h39 hm0 hm1 hm2 hm3 hm4 hm5
       have hm0 : w6.cell? ⟨w3.heap.size, 0, none⟩ = some (.int .i64 1) := (blk_cell HM6.out.2.2 0).trans rfl
       have hm1 : w6.cell? ⟨w3.heap.size, 1, none⟩ = some (.int .i64 2) := (blk_cell HM6.out.2.2 1).trans rfl
       have hm2 : w6.cell? ⟨w3.heap.size, 2, none⟩ = some (.int .i64 2) := (blk_cell HM6.out.2.2 2).trans rfl
       have hm3 : w6.cell? ⟨w3.heap.size, 3, none⟩ = some (.int .i64 2) := (blk_cell HM6.out.2.2 3).trans rfl
       have hm4 : w6.cell? ⟨w3.heap.size, 4, none⟩ = some (.slice P5 4 e5) := (blk_cell HM6.out.2.2 4).trans rfl
       have hm5 : w6.cell? ⟨w3.heap.size, 5, none⟩ = some (.slice P6 2 e6) := (blk_cell HM6.out.2.2 5).trans rfl)
    | (go_at_call 17; with_reducible refine (tutorlaw17_num.calls 0 0 _ rfl).mono ?_
       rintro e wn ⟨rfl, ⟨nn, rfl⟩⟩)
    | (go_at_call 44
       refine (tutorref01_Same.calls 10 P6 e6 [0, 1] (some ⟨wn.heap.size, 0, none⟩) 2 [0, 1] true _ (Kd.C_below (Kd.R_reads' HR.out.2).2.2 (below_alloc HBN.out _)) (Kd.R_reads' HR.out.2).2.1 (C_nums (blk_at rfl) (by simp)) (Nat.le_refl _) same_out).mono ?_
       rintro e wz ⟨rfl, hdz⟩
       have HZ := Aside0.mk (below_step (below_alloc HBW.out _) hdz.below))
    | (go_at_call 44
       refine (tutorref01_Same.calls 10 P5 e5 [0, 1, 0, 1] (some ⟨w6.heap.size, 0, none⟩) 4 [0, 1, 0, 1] true _ (Kd.C_below (Kd.R_reads' HR.out.1).2.2 (below_alloc (pw_below_drewN HM6.out.2.1 _) _)) (Kd.R_reads' HR.out.1).2.1 (C_nums (blk_at rfl) (by simp)) (Nat.le_refl _) same_next).mono ?_
       rintro e wn ⟨rfl, hdn⟩
       have HN := Aside0.mk hdn
       have HBN := Aside0.mk (below_step (below_alloc (pw_below_drewN HM6.out.2.1 _) _) hdn.below)
       have HBW := Aside0.mk (below_step (below_alloc (pw_below_drewN HM6.out.1 _) _) hdn.below)
       have hq5 : wn.cell? ⟨w3.heap.size, 5, none⟩ = some (.slice P6 2 e6) := (blk_cell (blk_below (blk_alloc (blk_drewN HM6.out.2.2 _) _) hdn.below) 5).trans rfl
       clear hdn))
  go_ret
  exact ⟨rfl, HZ.out⟩
end Go.Proofs.Ytkaefgmgcghhiaa.X
end

section
namespace Go.Proofs.Ytkaefgmgcghhiaa.X
open Go.RowKit Go.Proofs.YtkaefgmgcghhiaaW.PrintWords Go.Proofs.YtkaefgmgcghhiaaW.PrintLast Go.Proofs.YtkaefgmgcghhiaaW.PrintMore
open Go.Proofs.Ytkaefgmgcghhiaa
def DL3.T3 : Bool × List (List Nat × List Nat) := (true, [([], []), ([0], [0]), ([], []), ([2, 1], [2]), ([], []), ([], []), ([4, 1, 3, 0, 1, 4, 5], [1, 4]), ([5, 3, 6, 0, 1, 2, 3, 4, 5, 6], [3, 5])])
def DL3.B3 : List Nat := [0, 1, 0, 7, 0, 0, 63, 127]
theorem DL3.tab3 : rtab .any (opsOf Try.f7 3) = DL3.T3 := by kernel_rfl
theorem DL3.bits3 : waitsOk DL3.T3.2 DL3.B3 = true := by kernel_rfl
structure BxAt (w : World) (A B : Array Value) (W : World) : Prop where
  below : Below w.heap.size w W
  a : W.heap[w.heap.size]? = some (.cells A 43 (0, 0))
  b : W.heap[w.heap.size + 1]? = some (.cells B 43 (0, 0))
theorem BxAt.on {w W W1 : World} {A B : Array Value} (h : BxAt w A B W) (hb : Below W.heap.size W W1) : BxAt w A B W1 := ⟨below_step h.below hb, blk_below h.a hb, blk_below h.b hb⟩
theorem bx_made (w : World) (A B : Array Value) : BxAt w A B ((w.alloc (.cells A 43)).alloc (.cells B 43)) := by
  have ha := blk_new w (.cells A 43)
  have hb : ((w.alloc (.cells A 43)).alloc (.cells B 43)).heap[w.heap.size + 1]? = some (.cells B 43 (0, 0)) := by
    have h := blk_new (w.alloc (.cells A 43)) (.cells B 43)
    have e : (w.alloc (.cells A 43)).heap.size = w.heap.size + 1 := by simp
    rw [e] at h
    exact h
  exact ⟨below_alloc (below_alloc (Below.refl _ _) _) _, blk_alloc ha _, hb⟩
def bigB (N : Int) (nx out : List Int) (m : Int) : Bool := decide (N > m ∨ (nx.length : Int) > 70000 ∨ (out.length : Int) > 70000)
theorem big03 (kd K O N : Int) (nx out : List Int) (m : Int) : tutorref03_Big.f kd K O N nx out m = some (bigB N nx out m) := by
  unfold tutorref03_Big.f bigB
  grind
theorem bigB_false {N : Int} {nx out : List Int} {m : Int} (h : bigB N nx out m = false) : N ≤ m ∧ nx.length ≤ 70000 ∧ out.length ≤ 70000 := by
  unfold bigB at h
  have := of_decide_eq_false h
  omega
theorem copy03 {kd K O N : Int} {nx out : List Int} (h1 : nx.length ≤ 100000) (h2 : out.length ≤ 100000) : tutorref03_Copy.f kd K O N nx out = some (kd, K, O, N, nx, out) := by
  unfold tutorref03_Copy.f
  simp only [Option.bind_some, List.length_nil, List.nil_append]
  rw [if_pos (by omega), if_pos (by omega)]
theorem same03_refl' {a b c d : Int} {x y : List Int} (hx : x.length ≤ 70000) (hy : y.length ≤ 70000) : tutorref03_Same.f 100000 a b c d x y a b c d x y = some true := by
  unfold tutorref03_Same.f
  rw [if_pos rfl, if_pos rfl, if_pos rfl, if_pos rfl, same_f (by omega) (by omega), same_f (by omega) (by omega)]
  simp
set_option maxHeartbeats 8000000 in
set_option maxRecDepth 100000 in
theorem Meets_small (aK aS aO aN : Int) (A4 : Option Addr) (c4 : Nat) (anx : List Int) (A5 : Option Addr) (c5 : Nat) (aout : List Int) (bK bS bO bN : Int) (B4 : Option Addr) (d4 : Nat) (bnx : List Int) (B5 : Option Addr) (d5 : Nat) (bout : List Int) (op : Int) (w : World)
    (ha4 : Kd.C (Kd.int .i64) w A4 anx.length anx) (hc4 : anx.length ≤ c4) (ha5 : Kd.C (Kd.int .i64) w A5 aout.length aout) (hc5 : aout.length ≤ c5) (hb4 : Kd.C (Kd.int .i64) w B4 bnx.length bnx) (hd4 : bnx.length ≤ d4) (hb5 : Kd.C (Kd.int .i64) w B5 bout.length bout) (hd5 : bout.length ≤ d5)
    (h : bigB aN anx aout 60 = true ∨ bigB bN bnx bout 60 = true) : Calls Try.prog 7 #[.agg #[.int .i64 aK, .int .i64 aS, .int .i64 aO, .int .i64 aN, .slice A4 anx.length c4, .slice A5 aout.length c5], .agg #[.int .i64 bK, .int .i64 bS, .int .i64 bO, .int .i64 bN, .slice B4 bnx.length d4, .slice B5 bout.length d5], .int .i64 op] w fun e w' => e = .returned (.bool true) ∧ Below w.heap.size w w' := by
  have hu43 := Try.underlying43
  have hbA := fun (W : World) (hb : Below w.heap.size w W) => tutorref03_Big.calls aK aS aO aN A4 c4 anx A5 c5 aout 60 _ W (Kd.C_below ha4 hb) hc4 (Kd.C_below ha5 hb) hc5 (big03 aK aS aO aN anx aout 60)
  have hbB := fun (W : World) (hb : Below w.heap.size w W) => tutorref03_Big.calls bK bS bO bN B4 d4 bnx B5 d5 bout 60 _ W (Kd.C_below hb4 hb) hd4 (Kd.C_below hb5 hb) hd5 (big03 bK bS bO bN bnx bout 60)
  have hlv := live_walk
  generalize bigB aN anx aout 60 = bA at hbA h
  generalize bigB bN bnx bout 60 = bB at hbB h
  clear ha4 ha5 hb4 hb5 hc4 hc5 hd4 hd5
  have HX0 := Aside0.mk (bx_made w #[.int .i64 aK, .int .i64 aS, .int .i64 aO, .int .i64 aN, .slice A4 anx.length c4, .slice A5 aout.length c5] #[.int .i64 bK, .int .i64 bS, .int .i64 bO, .int .i64 bN, .slice B4 bnx.length d4, .slice B5 bout.length d5])
  cases bA with
  | true =>
    clear h hbB
    go_enter Try.func7, Try.ntmps7
    go_wp2_with (first
      | (go_at_call 28; with_reducible refine (hbA _ HX0.out.below).mono ?_
         rintro e w1 ⟨rfl, hb1⟩
         have HX1 := Aside0.mk (HX0.out.on hb1)
         clear hb1)
      | (go_at_call 13; refine (hlv _).mono ?_; rintro e w3 ⟨rfl, hb3⟩))
    go_ret
    exact ⟨rfl, below_step HX1.out.below hb3⟩
  | false =>
    obtain rfl : bB = true := by simpa using h
    clear h
    go_enter Try.func7, Try.ntmps7
    go_wp2_with (first
      | (go_at_call 28; with_reducible refine (hbB _ HX1.out.below).mono ?_
         rintro e w2 ⟨rfl, hb2⟩
         have HX2 := Aside0.mk (HX1.out.on hb2)
         clear hb2 hx0 hx1 hx2 hx3 hx4 hx5)
      | (go_at_call 28; with_reducible refine (hbA _ HX0.out.below).mono ?_
         rintro e w1 ⟨rfl, hb1⟩
         have HX1 := Aside0.mk (HX0.out.on hb1)
         have hx0 : w1.cell? ⟨w.heap.size + 1, 0, none⟩ = some (.int .i64 bK) := (blk_cell (HX1.out.b) 0).trans rfl
         have hx1 : w1.cell? ⟨w.heap.size + 1, 1, none⟩ = some (.int .i64 bS) := (blk_cell (HX1.out.b) 1).trans rfl
         have hx2 : w1.cell? ⟨w.heap.size + 1, 2, none⟩ = some (.int .i64 bO) := (blk_cell (HX1.out.b) 2).trans rfl
         have hx3 : w1.cell? ⟨w.heap.size + 1, 3, none⟩ = some (.int .i64 bN) := (blk_cell (HX1.out.b) 3).trans rfl
         have hx4 : w1.cell? ⟨w.heap.size + 1, 4, none⟩ = some (.slice B4 bnx.length d4) := (blk_cell (HX1.out.b) 4).trans rfl
         have hx5 : w1.cell? ⟨w.heap.size + 1, 5, none⟩ = some (.slice B5 bout.length d5) := (blk_cell (HX1.out.b) 5).trans rfl
         clear hb1)
      | (go_at_call 13; refine (hlv _).mono ?_; rintro e w3 ⟨rfl, hb3⟩))
    go_ret
    exact ⟨rfl, below_step HX2.out.below hb3⟩
set_option maxHeartbeats 16000000 in
set_option maxRecDepth 100000 in
theorem Meets_main (aK aS aO aN : Int) (A4 : Option Addr) (c4 : Nat) (anx : List Int) (A5 : Option Addr) (c5 : Nat) (aout : List Int) (bK bS bO bN : Int) (B4 : Option Addr) (d4 : Nat) (bnx : List Int) (B5 : Option Addr) (d5 : Nat) (bout : List Int) (op : Int) (w : World)
    (ha4 : Kd.C (Kd.int .i64) w A4 anx.length anx) (hc4 : anx.length ≤ c4) (ha5 : Kd.C (Kd.int .i64) w A5 aout.length aout) (hc5 : aout.length ≤ c5) (hb4 : Kd.C (Kd.int .i64) w B4 bnx.length bnx) (hd4 : bnx.length ≤ d4) (hb5 : Kd.C (Kd.int .i64) w B5 bout.length bout) (hd5 : bout.length ≤ d5)
    (ia4 : ∀ x ∈ anx, In64 x) (ia5 : ∀ x ∈ aout, In64 x) (ib4 : ∀ x ∈ bnx, In64 x) (ib5 : ∀ x ∈ bout, In64 x)
    (hA : bigB aN anx aout 60 = false) (hB : bigB bN bnx bout 60 = false) : Calls Try.prog 7 #[.agg #[.int .i64 aK, .int .i64 aS, .int .i64 aO, .int .i64 aN, .slice A4 anx.length c4, .slice A5 aout.length c5], .agg #[.int .i64 bK, .int .i64 bS, .int .i64 bO, .int .i64 bN, .slice B4 bnx.length d4, .slice B5 bout.length d5], .int .i64 op] w fun e w' => e = .returned (.bool true) ∧ Below w.heap.size w w' := by
  have hu43 := Try.underlying43
  have sA := bigB_false hA
  have sB := bigB_false hB
  have hbA := fun (W : World) (hb : Below w.heap.size w W) => tutorref03_Big.calls aK aS aO aN A4 c4 anx A5 c5 aout 60 _ W (Kd.C_below ha4 hb) hc4 (Kd.C_below ha5 hb) hc5 (big03 aK aS aO aN anx aout 60)
  have hbB := fun (W : World) (hb : Below w.heap.size w W) => tutorref03_Big.calls bK bS bO bN B4 d4 bnx B5 d5 bout 60 _ W (Kd.C_below hb4 hb) hd4 (Kd.C_below hb5 hb) hd5 (big03 bK bS bO bN bnx bout 60)
  rw [hA] at hbA
  rw [hB] at hbB
  have hlv := live_walk
  have hcA := fun (W : World) (hb : Below w.heap.size w W) => tutorref03_Copy.calls aK aS aO aN A4 c4 anx A5 c5 aout aK aS aO aN anx aout W (Kd.C_below ha4 hb) hc4 (Kd.C_below ha5 hb) hc5 (copy03 (by omega) (by omega))
  have hcB := fun (W : World) (hb : Below w.heap.size w W) => tutorref03_Copy.calls bK bS bO bN B4 d4 bnx B5 d5 bout bK bS bO bN bnx bout W (Kd.C_below hb4 hb) hd4 (Kd.C_below hb5 hb) hd5 (copy03 (by omega) (by omega))
  obtain ⟨r1, r2, r3, r4, r5, r6, r7, hmp, hmr, hl5, hl6⟩ := rm_is (aK := aK) (aS := aS) (aO := aO) (aN := aN) (bK := bK) (bS := bS) (bO := bO) (bN := bN) (op := op) ia4 ia5 ib4 ib5 (k := big) (by unfold big; omega)
  have hrm := fun (W : World) (hb : Below w.heap.size w W) => RMeet_walk big aK aS aO aN A4 c4 anx A5 c5 aout bK bS bO bN B4 d4 bnx B5 d5 bout op r1 r2 r3 r4 r5 r6 r7 W (Kd.C_below ha4 hb) hc4 (Kd.C_below ha5 hb) hc5 (Kd.C_below hb4 hb) hd4 (Kd.C_below hb5 hb) hd5 hmr
  have hsM := same03_refl' (a := r1) (b := r2) (c := r3) (d := r4) (x := r5) (y := r6) (by omega) (by omega)
  have hsA := same03_refl' (a := aK) (b := aS) (c := aO) (d := aN) (x := anx) (y := aout) (by omega) (by omega)
  have hsB := same03_refl' (a := bK) (b := bS) (c := bO) (d := bN) (x := bnx) (y := bout) (by omega) (by omega)
  have HC := Aside0.mk (And.intro (And.intro ha4 (And.intro hc4 (And.intro ha5 hc5))) (And.intro hb4 (And.intro hd4 (And.intro hb5 hd5))))
  have HMP := Aside0.mk hmp
  have HS1 := Aside0.mk hsM
  have HS2 := Aside0.mk hsA
  have HS3 := Aside0.mk hsB
  clear ha4 ha5 hb4 hb5 hc4 hc5 hd4 hd5 ia4 ia5 ib4 ib5 hA hB sA sB hmp hmr hl5 hl6 hsM hsA hsB
  obtain ⟨z43, i43⟩ := zero_of_info info43
  have HX0 := Aside0.mk (bx_made w #[.int .i64 aK, .int .i64 aS, .int .i64 aO, .int .i64 aN, .slice A4 anx.length c4, .slice A5 aout.length c5] #[.int .i64 bK, .int .i64 bS, .int .i64 bO, .int .i64 bN, .slice B4 bnx.length d4, .slice B5 bout.length d5])
  go_enter Try.func7, Try.ntmps7
  go_wp2_with (first
    | (go_at_call 28; with_reducible refine (hbB _ HX1.out.below).mono ?_
       rintro e w2 ⟨rfl, hb2⟩
       have HX2 := Aside0.mk (HX1.out.on hb2)
       clear hb2 hx0 hx1 hx2 hx3 hx4 hx5)
    | (go_at_call 28; with_reducible refine (hbA _ HX0.out.below).mono ?_
       rintro e w1 ⟨rfl, hb1⟩
       have HX1 := Aside0.mk (HX0.out.on hb1)
       have hx0 : w1.cell? ⟨w.heap.size + 1, 0, none⟩ = some (.int .i64 bK) := (blk_cell (HX1.out.b) 0).trans rfl
       have hx1 : w1.cell? ⟨w.heap.size + 1, 1, none⟩ = some (.int .i64 bS) := (blk_cell (HX1.out.b) 1).trans rfl
       have hx2 : w1.cell? ⟨w.heap.size + 1, 2, none⟩ = some (.int .i64 bO) := (blk_cell (HX1.out.b) 2).trans rfl
       have hx3 : w1.cell? ⟨w.heap.size + 1, 3, none⟩ = some (.int .i64 bN) := (blk_cell (HX1.out.b) 3).trans rfl
       have hx4 : w1.cell? ⟨w.heap.size + 1, 4, none⟩ = some (.slice B4 bnx.length d4) := (blk_cell (HX1.out.b) 4).trans rfl
       have hx5 : w1.cell? ⟨w.heap.size + 1, 5, none⟩ = some (.slice B5 bout.length d5) := (blk_cell (HX1.out.b) 5).trans rfl
       clear hb1))
  refine start_ (n := 8) (S := fun w' => Below w2.heap.size w2 w') (ds := []) #[false, false, false, false, false, false, false, false] (by kernel_rfl) rfl rfl (below_drew1 (Below.refl _ _)) (fun hHeld => ?_)
  refine with_tabW DL3.tab3 DL3.bits3 (fun HT_ HW_ => ?_)
  generalize w2.drew = wd at hHeld ⊢
  have hsep : Sp.Sep w2.heap.size [Sp.none_, Sp.none_, Sp.none_, Sp.none_] wd := Sp.Sep.start _ 4 _
  have hbel := hHeld
  refine take_ (i := 0) (N := (some 20)) (v := ?_) (a' := ?_) #[true, false, false, false, false, false, false, false] rfl rfl (take_ofW HT_.out HW_.out (by kernel_rfl)) (fun _ _ _ h => h) (Or.inl ⟨by rfl, ?_⟩) hHeld ?_ ?_
  rotate_left
  · intro w' s0
    have pa0 : w'.cell? ⟨w.heap.size, 0, none⟩ = some (.int .i64 aK) := (blk_cell ((HX2.out.on s0).a) 0).trans rfl
    have pa1 : w'.cell? ⟨w.heap.size, 1, none⟩ = some (.int .i64 aS) := (blk_cell ((HX2.out.on s0).a) 1).trans rfl
    have pa2 : w'.cell? ⟨w.heap.size, 2, none⟩ = some (.int .i64 aO) := (blk_cell ((HX2.out.on s0).a) 2).trans rfl
    have pa3 : w'.cell? ⟨w.heap.size, 3, none⟩ = some (.int .i64 aN) := (blk_cell ((HX2.out.on s0).a) 3).trans rfl
    have pa4 : w'.cell? ⟨w.heap.size, 4, none⟩ = some (.slice A4 anx.length c4) := (blk_cell ((HX2.out.on s0).a) 4).trans rfl
    have pa5 : w'.cell? ⟨w.heap.size, 5, none⟩ = some (.slice A5 aout.length c5) := (blk_cell ((HX2.out.on s0).a) 5).trans rfl
    have pb0 : w'.cell? ⟨w.heap.size + 1, 0, none⟩ = some (.int .i64 bK) := (blk_cell ((HX2.out.on s0).b) 0).trans rfl
    have pb1 : w'.cell? ⟨w.heap.size + 1, 1, none⟩ = some (.int .i64 bS) := (blk_cell ((HX2.out.on s0).b) 1).trans rfl
    have pb2 : w'.cell? ⟨w.heap.size + 1, 2, none⟩ = some (.int .i64 bO) := (blk_cell ((HX2.out.on s0).b) 2).trans rfl
    have pb3 : w'.cell? ⟨w.heap.size + 1, 3, none⟩ = some (.int .i64 bN) := (blk_cell ((HX2.out.on s0).b) 3).trans rfl
    have pb4 : w'.cell? ⟨w.heap.size + 1, 4, none⟩ = some (.slice B4 bnx.length d4) := (blk_cell ((HX2.out.on s0).b) 4).trans rfl
    have pb5 : w'.cell? ⟨w.heap.size + 1, 5, none⟩ = some (.slice B5 bout.length d5) := (blk_cell ((HX2.out.on s0).b) 5).trans rfl
    go_simp
    with_reducible rfl
  rotate_left
  · simp only [Act.put, List.setIfInBounds_toArray, List.set_cons_zero, List.set_cons_succ, i64_w, i32_w]
    rfl
  refine take_ (i := 2) (N := (some 22)) (v := ?_) (a' := ?_) #[true, false, true, false, false, false, false, false] rfl rfl (take_ofW HT_.out HW_.out (by kernel_rfl)) (fun _ _ _ h => h) (Or.inl ⟨by rfl, ?_⟩) hHeld ?_ ?_
  rotate_left
  · intro w' s0
    have pa0 : w'.cell? ⟨w.heap.size, 0, none⟩ = some (.int .i64 aK) := (blk_cell ((HX2.out.on s0).a) 0).trans rfl
    have pa1 : w'.cell? ⟨w.heap.size, 1, none⟩ = some (.int .i64 aS) := (blk_cell ((HX2.out.on s0).a) 1).trans rfl
    have pa2 : w'.cell? ⟨w.heap.size, 2, none⟩ = some (.int .i64 aO) := (blk_cell ((HX2.out.on s0).a) 2).trans rfl
    have pa3 : w'.cell? ⟨w.heap.size, 3, none⟩ = some (.int .i64 aN) := (blk_cell ((HX2.out.on s0).a) 3).trans rfl
    have pa4 : w'.cell? ⟨w.heap.size, 4, none⟩ = some (.slice A4 anx.length c4) := (blk_cell ((HX2.out.on s0).a) 4).trans rfl
    have pa5 : w'.cell? ⟨w.heap.size, 5, none⟩ = some (.slice A5 aout.length c5) := (blk_cell ((HX2.out.on s0).a) 5).trans rfl
    have pb0 : w'.cell? ⟨w.heap.size + 1, 0, none⟩ = some (.int .i64 bK) := (blk_cell ((HX2.out.on s0).b) 0).trans rfl
    have pb1 : w'.cell? ⟨w.heap.size + 1, 1, none⟩ = some (.int .i64 bS) := (blk_cell ((HX2.out.on s0).b) 1).trans rfl
    have pb2 : w'.cell? ⟨w.heap.size + 1, 2, none⟩ = some (.int .i64 bO) := (blk_cell ((HX2.out.on s0).b) 2).trans rfl
    have pb3 : w'.cell? ⟨w.heap.size + 1, 3, none⟩ = some (.int .i64 bN) := (blk_cell ((HX2.out.on s0).b) 3).trans rfl
    have pb4 : w'.cell? ⟨w.heap.size + 1, 4, none⟩ = some (.slice B4 bnx.length d4) := (blk_cell ((HX2.out.on s0).b) 4).trans rfl
    have pb5 : w'.cell? ⟨w.heap.size + 1, 5, none⟩ = some (.slice B5 bout.length d5) := (blk_cell ((HX2.out.on s0).b) 5).trans rfl
    go_simp
    with_reducible rfl
  rotate_left
  · simp only [Act.put, List.setIfInBounds_toArray, List.set_cons_zero, List.set_cons_succ, i64_w, i32_w]
    rfl
  refine join_ (σ := Option Addr × Nat × Option Addr × Nat × Option Addr × Nat × Option Addr × Nat × Nat × Nat) 2 #[true, true, true, true, true, true, false, false] (fun s_ => [(21, .agg #[.int .i64 aK, .int .i64 aS, .int .i64 aO, .int .i64 aN, .slice s_.1 anx.length s_.2.1, .slice s_.2.2.1 aout.length s_.2.2.2.1]), (23, .agg #[.int .i64 bK, .int .i64 bS, .int .i64 bO, .int .i64 bN, .slice s_.2.2.2.2.1 bnx.length s_.2.2.2.2.2.1, .slice s_.2.2.2.2.2.2.1 bout.length s_.2.2.2.2.2.2.2.1]), (7, .pointer (some ⟨s_.2.2.2.2.2.2.2.2.1, 0, none⟩)), (8, .pointer (some ⟨s_.2.2.2.2.2.2.2.2.2, 0, none⟩))]) (fun s_ w' => Sp.Sep w2.heap.size [Sp.mach w2.heap.size (.slice s_.1 anx.length s_.2.1) anx (.slice s_.2.2.1 aout.length s_.2.2.2.1) aout, Sp.mach w2.heap.size (.slice s_.2.2.2.2.1 bnx.length s_.2.2.2.2.2.1) bnx (.slice s_.2.2.2.2.2.2.1 bout.length s_.2.2.2.2.2.2.2.1) bout, Sp.blk s_.2.2.2.2.2.2.2.2.1 #[.int .i64 0, .int .i64 0, .int .i64 0, .int .i64 0, .slice none 0 0, .slice none 0 0] 43, Sp.blk s_.2.2.2.2.2.2.2.2.2 #[.int .i64 0, .int .i64 0, .int .i64 0, .int .i64 0, .slice none 0 0, .slice none 0 0] 43] w' ∧ Below w2.heap.size w2 w') ?_ ?_
  rotate_left
  · intro hJ1_3_4_5
    refine join_ (σ := Option Addr × Nat × Option Addr × Nat × Option Addr × Nat × Option Addr × Nat × Nat) 3 #[true, true, true, true, true, false, false, false] (fun s_ => [(21, .agg #[.int .i64 aK, .int .i64 aS, .int .i64 aO, .int .i64 aN, .slice s_.1 anx.length s_.2.1, .slice s_.2.2.1 aout.length s_.2.2.2.1]), (23, .agg #[.int .i64 bK, .int .i64 bS, .int .i64 bO, .int .i64 bN, .slice s_.2.2.2.2.1 bnx.length s_.2.2.2.2.2.1, .slice s_.2.2.2.2.2.2.1 bout.length s_.2.2.2.2.2.2.2.1]), (7, .pointer (some ⟨s_.2.2.2.2.2.2.2.2, 0, none⟩))]) (fun s_ w' => Sp.Sep w2.heap.size [Sp.mach w2.heap.size (.slice s_.1 anx.length s_.2.1) anx (.slice s_.2.2.1 aout.length s_.2.2.2.1) aout, Sp.mach w2.heap.size (.slice s_.2.2.2.2.1 bnx.length s_.2.2.2.2.2.1) bnx (.slice s_.2.2.2.2.2.2.1 bout.length s_.2.2.2.2.2.2.2.1) bout, Sp.blk s_.2.2.2.2.2.2.2.2 #[.int .i64 0, .int .i64 0, .int .i64 0, .int .i64 0, .slice none 0 0, .slice none 0 0] 43, Sp.none_] w' ∧ Below w2.heap.size w2 w') ?_ ?_
    rotate_left
    · intro hJ1_3_4
      refine join_ (σ := Option Addr × Nat × Option Addr × Nat × Option Addr × Nat × Option Addr × Nat × Nat) 3 #[true, true, true, true, false, true, false, false] (fun s_ => [(21, .agg #[.int .i64 aK, .int .i64 aS, .int .i64 aO, .int .i64 aN, .slice s_.1 anx.length s_.2.1, .slice s_.2.2.1 aout.length s_.2.2.2.1]), (23, .agg #[.int .i64 bK, .int .i64 bS, .int .i64 bO, .int .i64 bN, .slice s_.2.2.2.2.1 bnx.length s_.2.2.2.2.2.1, .slice s_.2.2.2.2.2.2.1 bout.length s_.2.2.2.2.2.2.2.1]), (8, .pointer (some ⟨s_.2.2.2.2.2.2.2.2, 0, none⟩))]) (fun s_ w' => Sp.Sep w2.heap.size [Sp.mach w2.heap.size (.slice s_.1 anx.length s_.2.1) anx (.slice s_.2.2.1 aout.length s_.2.2.2.1) aout, Sp.mach w2.heap.size (.slice s_.2.2.2.2.1 bnx.length s_.2.2.2.2.2.1) bnx (.slice s_.2.2.2.2.2.2.1 bout.length s_.2.2.2.2.2.2.2.1) bout, Sp.none_, Sp.blk s_.2.2.2.2.2.2.2.2 #[.int .i64 0, .int .i64 0, .int .i64 0, .int .i64 0, .slice none 0 0, .slice none 0 0] 43] w' ∧ Below w2.heap.size w2 w') ?_ ?_
      rotate_left
      · intro hJ1_3_5
        refine join_ (σ := Option Addr × Nat × Option Addr × Nat × Nat × Nat) 3 #[true, true, true, false, true, true, false, false] (fun s_ => [(21, .agg #[.int .i64 aK, .int .i64 aS, .int .i64 aO, .int .i64 aN, .slice s_.1 anx.length s_.2.1, .slice s_.2.2.1 aout.length s_.2.2.2.1]), (7, .pointer (some ⟨s_.2.2.2.2.1, 0, none⟩)), (8, .pointer (some ⟨s_.2.2.2.2.2, 0, none⟩))]) (fun s_ w' => Sp.Sep w2.heap.size [Sp.mach w2.heap.size (.slice s_.1 anx.length s_.2.1) anx (.slice s_.2.2.1 aout.length s_.2.2.2.1) aout, Sp.none_, Sp.blk s_.2.2.2.2.1 #[.int .i64 0, .int .i64 0, .int .i64 0, .int .i64 0, .slice none 0 0, .slice none 0 0] 43, Sp.blk s_.2.2.2.2.2 #[.int .i64 0, .int .i64 0, .int .i64 0, .int .i64 0, .slice none 0 0, .slice none 0 0] 43] w' ∧ Below w2.heap.size w2 w') ?_ ?_
        rotate_left
        · intro hJ1_4_5
          refine join_ (σ := Option Addr × Nat × Option Addr × Nat × Nat) 4 #[true, true, true, false, true, false, false, false] (fun s_ => [(21, .agg #[.int .i64 aK, .int .i64 aS, .int .i64 aO, .int .i64 aN, .slice s_.1 anx.length s_.2.1, .slice s_.2.2.1 aout.length s_.2.2.2.1]), (7, .pointer (some ⟨s_.2.2.2.2, 0, none⟩))]) (fun s_ w' => Sp.Sep w2.heap.size [Sp.mach w2.heap.size (.slice s_.1 anx.length s_.2.1) anx (.slice s_.2.2.1 aout.length s_.2.2.2.1) aout, Sp.none_, Sp.blk s_.2.2.2.2 #[.int .i64 0, .int .i64 0, .int .i64 0, .int .i64 0, .slice none 0 0, .slice none 0 0] 43, Sp.none_] w' ∧ Below w2.heap.size w2 w') ?_ ?_
          rotate_left
          · intro hJ1_4
            refine join_ (σ := Option Addr × Nat × Option Addr × Nat × Nat) 4 #[true, true, true, false, false, true, false, false] (fun s_ => [(21, .agg #[.int .i64 aK, .int .i64 aS, .int .i64 aO, .int .i64 aN, .slice s_.1 anx.length s_.2.1, .slice s_.2.2.1 aout.length s_.2.2.2.1]), (8, .pointer (some ⟨s_.2.2.2.2, 0, none⟩))]) (fun s_ w' => Sp.Sep w2.heap.size [Sp.mach w2.heap.size (.slice s_.1 anx.length s_.2.1) anx (.slice s_.2.2.1 aout.length s_.2.2.2.1) aout, Sp.none_, Sp.none_, Sp.blk s_.2.2.2.2 #[.int .i64 0, .int .i64 0, .int .i64 0, .int .i64 0, .slice none 0 0, .slice none 0 0] 43] w' ∧ Below w2.heap.size w2 w') ?_ ?_
            rotate_left
            · intro hJ1_5
              refine join_ (σ := Nat × Nat) 4 #[true, false, true, false, true, true, false, false] (fun s_ => [(7, .pointer (some ⟨s_.1, 0, none⟩)), (8, .pointer (some ⟨s_.2, 0, none⟩))]) (fun s_ w' => Sp.Sep w2.heap.size [Sp.none_, Sp.none_, Sp.blk s_.1 #[.int .i64 0, .int .i64 0, .int .i64 0, .int .i64 0, .slice none 0 0, .slice none 0 0] 43, Sp.blk s_.2 #[.int .i64 0, .int .i64 0, .int .i64 0, .int .i64 0, .slice none 0 0, .slice none 0 0] 43] w' ∧ Below w2.heap.size w2 w') ?_ ?_
              rotate_left
              · intro hJ4_5
                refine three_ (i := 1) (j := 4) (k := 5) (Ni := some 21) (Nj := some 7) (Nk := some 8) #[true, true, true, false, false, false, false, false] #[true, false, true, false, true, false, false, false] #[true, false, true, false, false, true, false, false] rfl rfl rfl rfl rfl rfl (three_of HT_.out (by kernel_rfl)) (by decide) (by decide) (by decide) (fun K hK => ?_) (fun K hK => ?_) (fun K hK => ?_)
                · skip
                  refine goes_ Try.func29 (by kernel_rfl) rfl #[.agg #[.int .i64 aK, .int .i64 aS, .int .i64 aO, .int .i64 aN, .slice A4 anx.length c4, .slice A5 aout.length c5]] (by rfl) rfl rfl (by (try simp only [List.map_toArray, List.map_cons, List.map_nil]); first | done | rfl) ?_
                  refine (hcA _ (below_then HX2.out.below HX2.out.below.size hbel)).mono ?_
                  rintro e w1 ⟨vA, vB, rfl, hRA, hRB, hb⟩
                  obtain ⟨Q4, q4, rfl⟩ := Kd.R_slice hRA
                  obtain ⟨Q5, q5, rfl⟩ := Kd.R_slice hRB
                  refine ⟨_, rfl, ?_⟩
                  have hsep1 : Sp.Sep w2.heap.size [Sp.mach w2.heap.size (.slice Q4 anx.length q4) anx (.slice Q5 aout.length q5) aout, Sp.none_, Sp.none_, Sp.none_] w1 := hsep.fillMach 0 rfl hRA hRB hb hbel.size
                  have hbel1 := below_then hbel hbel.size hb
                  clear hRA hRB hb
                  refine hK.out _ _ hbel1 (fun hHeld => ?_)
                  clear hK K hsep hbel
                  have hsep := hsep1
                  have hbel := hbel1
                  clear hsep1 hbel1
                  refine norm_ (a' := ?_) ?_ ?_
                  rotate_left
                  · show Act.put _ (some 21) _ = _
                    simp only [Act.put, List.setIfInBounds_toArray, List.set_cons_zero, List.set_cons_succ, i64_w, i32_w]
                    rfl
                  refine three_ (i := 3) (j := 4) (k := 5) (Ni := some 23) (Nj := some 7) (Nk := some 8) #[true, true, true, true, false, false, false, false] #[true, true, true, false, true, false, false, false] #[true, true, true, false, false, true, false, false] rfl rfl rfl rfl rfl rfl (three_of HT_.out (by kernel_rfl)) (by decide) (by decide) (by decide) (fun K hK => ?_) (fun K hK => ?_) (fun K hK => ?_)
                  · skip
                    refine goes_ Try.func29 (by kernel_rfl) rfl #[.agg #[.int .i64 bK, .int .i64 bS, .int .i64 bO, .int .i64 bN, .slice B4 bnx.length d4, .slice B5 bout.length d5]] (by rfl) rfl rfl (by (try simp only [List.map_toArray, List.map_cons, List.map_nil]); first | done | rfl) ?_
                    refine (hcB _ (below_then HX2.out.below HX2.out.below.size hbel)).mono ?_
                    rintro e w1 ⟨vA, vB, rfl, hRA, hRB, hb⟩
                    obtain ⟨T4, t4, rfl⟩ := Kd.R_slice hRA
                    obtain ⟨T5, t5, rfl⟩ := Kd.R_slice hRB
                    refine ⟨_, rfl, ?_⟩
                    have hsep1 : Sp.Sep w2.heap.size [Sp.mach w2.heap.size (.slice Q4 anx.length q4) anx (.slice Q5 aout.length q5) aout, Sp.mach w2.heap.size (.slice T4 bnx.length t4) bnx (.slice T5 bout.length t5) bout, Sp.none_, Sp.none_] w1 := hsep.fillMach 1 rfl hRA hRB hb hbel.size
                    have hbel1 := below_then hbel hbel.size hb
                    clear hRA hRB hb
                    refine hK.out _ _ hbel1 (fun hHeld => ?_)
                    clear hK K hsep hbel
                    have hsep := hsep1
                    have hbel := hbel1
                    clear hsep1 hbel1
                    refine norm_ (a' := ?_) ?_ ?_
                    rotate_left
                    · show Act.put _ (some 23) _ = _
                      simp only [Act.put, List.setIfInBounds_toArray, List.set_cons_zero, List.set_cons_succ, i64_w, i32_w]
                      rfl
                    refine two_ (i := 4) (j := 5) (Ni := some 7) (Nj := some 8) #[true, true, true, true, true, false, false, false] #[true, true, true, true, false, true, false, false] rfl rfl rfl rfl (two_of HT_.out (by kernel_rfl)) (by decide) (by decide) (fun K hK => ?_) (fun K hK => ?_)
                    · skip
                      refine box_step ?hg (N := 7) ?hd (cs := #[.int .i64 0, .int .i64 0, .int .i64 0, .int .i64 0, .slice none 0 0, .slice none 0 0]) (t := 43) ?hr ?_; (case hd => rfl); (case hg => rfl); (case hr => first | (go_simp; done) | (go_simp; rfl))
                      intro g7 hg w1 hbox hb
                      have hsep1 : Sp.Sep w2.heap.size [Sp.mach w2.heap.size (.slice Q4 anx.length q4) anx (.slice Q5 aout.length q5) aout, Sp.mach w2.heap.size (.slice T4 bnx.length t4) bnx (.slice T5 bout.length t5) bout, Sp.blk g7 #[.int .i64 0, .int .i64 0, .int .i64 0, .int .i64 0, .slice none 0 0, .slice none 0 0] 43, Sp.none_] w1 := hsep.fillBlk 2 rfl hg hbox hb hbel.size
                      have hbel1 := below_then hbel hbel.size hb
                      clear hg hbox hb
                      refine hK.out _ _ hbel1 (fun hHeld => ?_)
                      clear hK K hsep hbel
                      have hsep := hsep1
                      have hbel := hbel1
                      clear hsep1 hbel1
                      refine norm_ (a' := ?_) ?_ ?_
                      rotate_left
                      · show Act.put _ (some 7) _ = _
                        simp only [Act.put, List.setIfInBounds_toArray, List.set_cons_zero, List.set_cons_succ, i64_w, i32_w]
                        rfl
                      exact norm_ (by first | (simp only [putAll, Act.put, List.setIfInBounds_toArray, List.set_cons_zero, List.set_cons_succ]; done) | (simp only [putAll, Act.put, List.setIfInBounds_toArray, List.set_cons_zero, List.set_cons_succ]; rfl)) (hJ1_3_4 (Q4, q4, Q5, q5, T4, t4, T5, t5, g7) _ ⟨hsep, hbel⟩)
                    · skip
                      refine box_step ?hg (N := 8) ?hd (cs := #[.int .i64 0, .int .i64 0, .int .i64 0, .int .i64 0, .slice none 0 0, .slice none 0 0]) (t := 43) ?hr ?_; (case hd => rfl); (case hg => rfl); (case hr => first | (go_simp; done) | (go_simp; rfl))
                      intro g8 hg w1 hbox hb
                      have hsep1 : Sp.Sep w2.heap.size [Sp.mach w2.heap.size (.slice Q4 anx.length q4) anx (.slice Q5 aout.length q5) aout, Sp.mach w2.heap.size (.slice T4 bnx.length t4) bnx (.slice T5 bout.length t5) bout, Sp.none_, Sp.blk g8 #[.int .i64 0, .int .i64 0, .int .i64 0, .int .i64 0, .slice none 0 0, .slice none 0 0] 43] w1 := hsep.fillBlk 3 rfl hg hbox hb hbel.size
                      have hbel1 := below_then hbel hbel.size hb
                      clear hg hbox hb
                      refine hK.out _ _ hbel1 (fun hHeld => ?_)
                      clear hK K hsep hbel
                      have hsep := hsep1
                      have hbel := hbel1
                      clear hsep1 hbel1
                      refine norm_ (a' := ?_) ?_ ?_
                      rotate_left
                      · show Act.put _ (some 8) _ = _
                        simp only [Act.put, List.setIfInBounds_toArray, List.set_cons_zero, List.set_cons_succ, i64_w, i32_w]
                        rfl
                      exact norm_ (by first | (simp only [putAll, Act.put, List.setIfInBounds_toArray, List.set_cons_zero, List.set_cons_succ]; done) | (simp only [putAll, Act.put, List.setIfInBounds_toArray, List.set_cons_zero, List.set_cons_succ]; rfl)) (hJ1_3_5 (Q4, q4, Q5, q5, T4, t4, T5, t5, g8) _ ⟨hsep, hbel⟩)
                  · skip
                    refine box_step ?hg (N := 7) ?hd (cs := #[.int .i64 0, .int .i64 0, .int .i64 0, .int .i64 0, .slice none 0 0, .slice none 0 0]) (t := 43) ?hr ?_; (case hd => rfl); (case hg => rfl); (case hr => first | (go_simp; done) | (go_simp; rfl))
                    intro g7 hg w1 hbox hb
                    have hsep1 : Sp.Sep w2.heap.size [Sp.mach w2.heap.size (.slice Q4 anx.length q4) anx (.slice Q5 aout.length q5) aout, Sp.none_, Sp.blk g7 #[.int .i64 0, .int .i64 0, .int .i64 0, .int .i64 0, .slice none 0 0, .slice none 0 0] 43, Sp.none_] w1 := hsep.fillBlk 2 rfl hg hbox hb hbel.size
                    have hbel1 := below_then hbel hbel.size hb
                    clear hg hbox hb
                    refine hK.out _ _ hbel1 (fun hHeld => ?_)
                    clear hK K hsep hbel
                    have hsep := hsep1
                    have hbel := hbel1
                    clear hsep1 hbel1
                    refine norm_ (a' := ?_) ?_ ?_
                    rotate_left
                    · show Act.put _ (some 7) _ = _
                      simp only [Act.put, List.setIfInBounds_toArray, List.set_cons_zero, List.set_cons_succ, i64_w, i32_w]
                      rfl
                    exact norm_ (by first | (simp only [putAll, Act.put, List.setIfInBounds_toArray, List.set_cons_zero, List.set_cons_succ]; done) | (simp only [putAll, Act.put, List.setIfInBounds_toArray, List.set_cons_zero, List.set_cons_succ]; rfl)) (hJ1_4 (Q4, q4, Q5, q5, g7) _ ⟨hsep, hbel⟩)
                  · skip
                    refine box_step ?hg (N := 8) ?hd (cs := #[.int .i64 0, .int .i64 0, .int .i64 0, .int .i64 0, .slice none 0 0, .slice none 0 0]) (t := 43) ?hr ?_; (case hd => rfl); (case hg => rfl); (case hr => first | (go_simp; done) | (go_simp; rfl))
                    intro g8 hg w1 hbox hb
                    have hsep1 : Sp.Sep w2.heap.size [Sp.mach w2.heap.size (.slice Q4 anx.length q4) anx (.slice Q5 aout.length q5) aout, Sp.none_, Sp.none_, Sp.blk g8 #[.int .i64 0, .int .i64 0, .int .i64 0, .int .i64 0, .slice none 0 0, .slice none 0 0] 43] w1 := hsep.fillBlk 3 rfl hg hbox hb hbel.size
                    have hbel1 := below_then hbel hbel.size hb
                    clear hg hbox hb
                    refine hK.out _ _ hbel1 (fun hHeld => ?_)
                    clear hK K hsep hbel
                    have hsep := hsep1
                    have hbel := hbel1
                    clear hsep1 hbel1
                    refine norm_ (a' := ?_) ?_ ?_
                    rotate_left
                    · show Act.put _ (some 8) _ = _
                      simp only [Act.put, List.setIfInBounds_toArray, List.set_cons_zero, List.set_cons_succ, i64_w, i32_w]
                      rfl
                    exact norm_ (by first | (simp only [putAll, Act.put, List.setIfInBounds_toArray, List.set_cons_zero, List.set_cons_succ]; done) | (simp only [putAll, Act.put, List.setIfInBounds_toArray, List.set_cons_zero, List.set_cons_succ]; rfl)) (hJ1_5 (Q4, q4, Q5, q5, g8) _ ⟨hsep, hbel⟩)
                · skip
                  refine box_step ?hg (N := 7) ?hd (cs := #[.int .i64 0, .int .i64 0, .int .i64 0, .int .i64 0, .slice none 0 0, .slice none 0 0]) (t := 43) ?hr ?_; (case hd => rfl); (case hg => rfl); (case hr => first | (go_simp; done) | (go_simp; rfl))
                  intro g7 hg w1 hbox hb
                  have hsep1 : Sp.Sep w2.heap.size [Sp.none_, Sp.none_, Sp.blk g7 #[.int .i64 0, .int .i64 0, .int .i64 0, .int .i64 0, .slice none 0 0, .slice none 0 0] 43, Sp.none_] w1 := hsep.fillBlk 2 rfl hg hbox hb hbel.size
                  have hbel1 := below_then hbel hbel.size hb
                  clear hg hbox hb
                  refine hK.out _ _ hbel1 (fun hHeld => ?_)
                  clear hK K hsep hbel
                  have hsep := hsep1
                  have hbel := hbel1
                  clear hsep1 hbel1
                  refine norm_ (a' := ?_) ?_ ?_
                  rotate_left
                  · show Act.put _ (some 7) _ = _
                    simp only [Act.put, List.setIfInBounds_toArray, List.set_cons_zero, List.set_cons_succ, i64_w, i32_w]
                    rfl
                  refine two_ (i := 1) (j := 5) (Ni := some 21) (Nj := some 8) #[true, true, true, false, true, false, false, false] #[true, false, true, false, true, true, false, false] rfl rfl rfl rfl (two_of HT_.out (by kernel_rfl)) (by decide) (by decide) (fun K hK => ?_) (fun K hK => ?_)
                  · skip
                    refine goes_ Try.func29 (by kernel_rfl) rfl #[.agg #[.int .i64 aK, .int .i64 aS, .int .i64 aO, .int .i64 aN, .slice A4 anx.length c4, .slice A5 aout.length c5]] (by rfl) rfl rfl (by (try simp only [List.map_toArray, List.map_cons, List.map_nil]); first | done | rfl) ?_
                    refine (hcA _ (below_then HX2.out.below HX2.out.below.size hbel)).mono ?_
                    rintro e w1 ⟨vA, vB, rfl, hRA, hRB, hb⟩
                    obtain ⟨Q4, q4, rfl⟩ := Kd.R_slice hRA
                    obtain ⟨Q5, q5, rfl⟩ := Kd.R_slice hRB
                    refine ⟨_, rfl, ?_⟩
                    have hsep1 : Sp.Sep w2.heap.size [Sp.mach w2.heap.size (.slice Q4 anx.length q4) anx (.slice Q5 aout.length q5) aout, Sp.none_, Sp.blk g7 #[.int .i64 0, .int .i64 0, .int .i64 0, .int .i64 0, .slice none 0 0, .slice none 0 0] 43, Sp.none_] w1 := hsep.fillMach 0 rfl hRA hRB hb hbel.size
                    have hbel1 := below_then hbel hbel.size hb
                    clear hRA hRB hb
                    refine hK.out _ _ hbel1 (fun hHeld => ?_)
                    clear hK K hsep hbel
                    have hsep := hsep1
                    have hbel := hbel1
                    clear hsep1 hbel1
                    refine norm_ (a' := ?_) ?_ ?_
                    rotate_left
                    · show Act.put _ (some 21) _ = _
                      simp only [Act.put, List.setIfInBounds_toArray, List.set_cons_zero, List.set_cons_succ, i64_w, i32_w]
                      rfl
                    exact norm_ (by first | (simp only [putAll, Act.put, List.setIfInBounds_toArray, List.set_cons_zero, List.set_cons_succ]; done) | (simp only [putAll, Act.put, List.setIfInBounds_toArray, List.set_cons_zero, List.set_cons_succ]; rfl)) (hJ1_4 (Q4, q4, Q5, q5, g7) _ ⟨hsep, hbel⟩)
                  · skip
                    refine box_step ?hg (N := 8) ?hd (cs := #[.int .i64 0, .int .i64 0, .int .i64 0, .int .i64 0, .slice none 0 0, .slice none 0 0]) (t := 43) ?hr ?_; (case hd => rfl); (case hg => rfl); (case hr => first | (go_simp; done) | (go_simp; rfl))
                    intro g8 hg w1 hbox hb
                    have hsep1 : Sp.Sep w2.heap.size [Sp.none_, Sp.none_, Sp.blk g7 #[.int .i64 0, .int .i64 0, .int .i64 0, .int .i64 0, .slice none 0 0, .slice none 0 0] 43, Sp.blk g8 #[.int .i64 0, .int .i64 0, .int .i64 0, .int .i64 0, .slice none 0 0, .slice none 0 0] 43] w1 := hsep.fillBlk 3 rfl hg hbox hb hbel.size
                    have hbel1 := below_then hbel hbel.size hb
                    clear hg hbox hb
                    refine hK.out _ _ hbel1 (fun hHeld => ?_)
                    clear hK K hsep hbel
                    have hsep := hsep1
                    have hbel := hbel1
                    clear hsep1 hbel1
                    refine norm_ (a' := ?_) ?_ ?_
                    rotate_left
                    · show Act.put _ (some 8) _ = _
                      simp only [Act.put, List.setIfInBounds_toArray, List.set_cons_zero, List.set_cons_succ, i64_w, i32_w]
                      rfl
                    exact norm_ (by first | (simp only [putAll, Act.put, List.setIfInBounds_toArray, List.set_cons_zero, List.set_cons_succ]; done) | (simp only [putAll, Act.put, List.setIfInBounds_toArray, List.set_cons_zero, List.set_cons_succ]; rfl)) (hJ4_5 (g7, g8) _ ⟨hsep, hbel⟩)
                · skip
                  refine box_step ?hg (N := 8) ?hd (cs := #[.int .i64 0, .int .i64 0, .int .i64 0, .int .i64 0, .slice none 0 0, .slice none 0 0]) (t := 43) ?hr ?_; (case hd => rfl); (case hg => rfl); (case hr => first | (go_simp; done) | (go_simp; rfl))
                  intro g8 hg w1 hbox hb
                  have hsep1 : Sp.Sep w2.heap.size [Sp.none_, Sp.none_, Sp.none_, Sp.blk g8 #[.int .i64 0, .int .i64 0, .int .i64 0, .int .i64 0, .slice none 0 0, .slice none 0 0] 43] w1 := hsep.fillBlk 3 rfl hg hbox hb hbel.size
                  have hbel1 := below_then hbel hbel.size hb
                  clear hg hbox hb
                  refine hK.out _ _ hbel1 (fun hHeld => ?_)
                  clear hK K hsep hbel
                  have hsep := hsep1
                  have hbel := hbel1
                  clear hsep1 hbel1
                  refine norm_ (a' := ?_) ?_ ?_
                  rotate_left
                  · show Act.put _ (some 8) _ = _
                    simp only [Act.put, List.setIfInBounds_toArray, List.set_cons_zero, List.set_cons_succ, i64_w, i32_w]
                    rfl
                  refine two_ (i := 1) (j := 4) (Ni := some 21) (Nj := some 7) #[true, true, true, false, false, true, false, false] #[true, false, true, false, true, true, false, false] rfl rfl rfl rfl (two_of HT_.out (by kernel_rfl)) (by decide) (by decide) (fun K hK => ?_) (fun K hK => ?_)
                  · skip
                    refine goes_ Try.func29 (by kernel_rfl) rfl #[.agg #[.int .i64 aK, .int .i64 aS, .int .i64 aO, .int .i64 aN, .slice A4 anx.length c4, .slice A5 aout.length c5]] (by rfl) rfl rfl (by (try simp only [List.map_toArray, List.map_cons, List.map_nil]); first | done | rfl) ?_
                    refine (hcA _ (below_then HX2.out.below HX2.out.below.size hbel)).mono ?_
                    rintro e w1 ⟨vA, vB, rfl, hRA, hRB, hb⟩
                    obtain ⟨Q4, q4, rfl⟩ := Kd.R_slice hRA
                    obtain ⟨Q5, q5, rfl⟩ := Kd.R_slice hRB
                    refine ⟨_, rfl, ?_⟩
                    have hsep1 : Sp.Sep w2.heap.size [Sp.mach w2.heap.size (.slice Q4 anx.length q4) anx (.slice Q5 aout.length q5) aout, Sp.none_, Sp.none_, Sp.blk g8 #[.int .i64 0, .int .i64 0, .int .i64 0, .int .i64 0, .slice none 0 0, .slice none 0 0] 43] w1 := hsep.fillMach 0 rfl hRA hRB hb hbel.size
                    have hbel1 := below_then hbel hbel.size hb
                    clear hRA hRB hb
                    refine hK.out _ _ hbel1 (fun hHeld => ?_)
                    clear hK K hsep hbel
                    have hsep := hsep1
                    have hbel := hbel1
                    clear hsep1 hbel1
                    refine norm_ (a' := ?_) ?_ ?_
                    rotate_left
                    · show Act.put _ (some 21) _ = _
                      simp only [Act.put, List.setIfInBounds_toArray, List.set_cons_zero, List.set_cons_succ, i64_w, i32_w]
                      rfl
                    exact norm_ (by first | (simp only [putAll, Act.put, List.setIfInBounds_toArray, List.set_cons_zero, List.set_cons_succ]; done) | (simp only [putAll, Act.put, List.setIfInBounds_toArray, List.set_cons_zero, List.set_cons_succ]; rfl)) (hJ1_5 (Q4, q4, Q5, q5, g8) _ ⟨hsep, hbel⟩)
                  · skip
                    refine box_step ?hg (N := 7) ?hd (cs := #[.int .i64 0, .int .i64 0, .int .i64 0, .int .i64 0, .slice none 0 0, .slice none 0 0]) (t := 43) ?hr ?_; (case hd => rfl); (case hg => rfl); (case hr => first | (go_simp; done) | (go_simp; rfl))
                    intro g7 hg w1 hbox hb
                    have hsep1 : Sp.Sep w2.heap.size [Sp.none_, Sp.none_, Sp.blk g7 #[.int .i64 0, .int .i64 0, .int .i64 0, .int .i64 0, .slice none 0 0, .slice none 0 0] 43, Sp.blk g8 #[.int .i64 0, .int .i64 0, .int .i64 0, .int .i64 0, .slice none 0 0, .slice none 0 0] 43] w1 := hsep.fillBlk 2 rfl hg hbox hb hbel.size
                    have hbel1 := below_then hbel hbel.size hb
                    clear hg hbox hb
                    refine hK.out _ _ hbel1 (fun hHeld => ?_)
                    clear hK K hsep hbel
                    have hsep := hsep1
                    have hbel := hbel1
                    clear hsep1 hbel1
                    refine norm_ (a' := ?_) ?_ ?_
                    rotate_left
                    · show Act.put _ (some 7) _ = _
                      simp only [Act.put, List.setIfInBounds_toArray, List.set_cons_zero, List.set_cons_succ, i64_w, i32_w]
                      rfl
                    exact norm_ (by first | (simp only [putAll, Act.put, List.setIfInBounds_toArray, List.set_cons_zero, List.set_cons_succ]; done) | (simp only [putAll, Act.put, List.setIfInBounds_toArray, List.set_cons_zero, List.set_cons_succ]; rfl)) (hJ4_5 (g7, g8) _ ⟨hsep, hbel⟩)
              rintro ⟨g7, g8⟩ wj ⟨hsep, hbel⟩
              try dsimp only at hsep
              have hHeld : Below w2.heap.size w2 wj := hbel
              refine norm_ (a' := ?_) ?_ ?_
              rotate_left
              · simp only [putAll, Act.put, List.setIfInBounds_toArray, List.set_cons_zero, List.set_cons_succ]
                rfl
              refine one_ (i := 1) (N := some 21) #[true, true, true, false, true, true, false, false] rfl rfl (one_of HT_.out (by kernel_rfl)) (by decide) (fun K hK => ?_)
              refine goes_ Try.func29 (by kernel_rfl) rfl #[.agg #[.int .i64 aK, .int .i64 aS, .int .i64 aO, .int .i64 aN, .slice A4 anx.length c4, .slice A5 aout.length c5]] (by rfl) rfl rfl (by (try simp only [List.map_toArray, List.map_cons, List.map_nil]); first | done | rfl) ?_
              refine (hcA _ (below_then HX2.out.below HX2.out.below.size hbel)).mono ?_
              rintro e w1 ⟨vA, vB, rfl, hRA, hRB, hb⟩
              obtain ⟨Q4, q4, rfl⟩ := Kd.R_slice hRA
              obtain ⟨Q5, q5, rfl⟩ := Kd.R_slice hRB
              refine ⟨_, rfl, ?_⟩
              have hsep1 : Sp.Sep w2.heap.size [Sp.mach w2.heap.size (.slice Q4 anx.length q4) anx (.slice Q5 aout.length q5) aout, Sp.none_, Sp.blk g7 #[.int .i64 0, .int .i64 0, .int .i64 0, .int .i64 0, .slice none 0 0, .slice none 0 0] 43, Sp.blk g8 #[.int .i64 0, .int .i64 0, .int .i64 0, .int .i64 0, .slice none 0 0, .slice none 0 0] 43] w1 := hsep.fillMach 0 rfl hRA hRB hb hbel.size
              have hbel1 := below_then hbel hbel.size hb
              clear hRA hRB hb
              refine hK.out _ _ hbel1 (fun hHeld => ?_)
              clear hK K hsep hbel
              have hsep := hsep1
              have hbel := hbel1
              clear hsep1 hbel1
              refine norm_ (a' := ?_) ?_ ?_
              rotate_left
              · show Act.put _ (some 21) _ = _
                simp only [Act.put, List.setIfInBounds_toArray, List.set_cons_zero, List.set_cons_succ, i64_w, i32_w]
                rfl
              exact norm_ (by first | (simp only [putAll, Act.put, List.setIfInBounds_toArray, List.set_cons_zero, List.set_cons_succ]; done) | (simp only [putAll, Act.put, List.setIfInBounds_toArray, List.set_cons_zero, List.set_cons_succ]; rfl)) (hJ1_4_5 (Q4, q4, Q5, q5, g7, g8) _ ⟨hsep, hbel⟩)
            rintro ⟨Q4, q4, Q5, q5, g8⟩ wj ⟨hsep, hbel⟩
            try dsimp only at hsep
            have hHeld : Below w2.heap.size w2 wj := hbel
            refine norm_ (a' := ?_) ?_ ?_
            rotate_left
            · simp only [putAll, Act.put, List.setIfInBounds_toArray, List.set_cons_zero, List.set_cons_succ]
              rfl
            refine two_ (i := 3) (j := 4) (Ni := some 23) (Nj := some 7) #[true, true, true, true, false, true, false, false] #[true, true, true, false, true, true, false, false] rfl rfl rfl rfl (two_of HT_.out (by kernel_rfl)) (by decide) (by decide) (fun K hK => ?_) (fun K hK => ?_)
            · skip
              refine goes_ Try.func29 (by kernel_rfl) rfl #[.agg #[.int .i64 bK, .int .i64 bS, .int .i64 bO, .int .i64 bN, .slice B4 bnx.length d4, .slice B5 bout.length d5]] (by rfl) rfl rfl (by (try simp only [List.map_toArray, List.map_cons, List.map_nil]); first | done | rfl) ?_
              refine (hcB _ (below_then HX2.out.below HX2.out.below.size hbel)).mono ?_
              rintro e w1 ⟨vA, vB, rfl, hRA, hRB, hb⟩
              obtain ⟨T4, t4, rfl⟩ := Kd.R_slice hRA
              obtain ⟨T5, t5, rfl⟩ := Kd.R_slice hRB
              refine ⟨_, rfl, ?_⟩
              have hsep1 : Sp.Sep w2.heap.size [Sp.mach w2.heap.size (.slice Q4 anx.length q4) anx (.slice Q5 aout.length q5) aout, Sp.mach w2.heap.size (.slice T4 bnx.length t4) bnx (.slice T5 bout.length t5) bout, Sp.none_, Sp.blk g8 #[.int .i64 0, .int .i64 0, .int .i64 0, .int .i64 0, .slice none 0 0, .slice none 0 0] 43] w1 := hsep.fillMach 1 rfl hRA hRB hb hbel.size
              have hbel1 := below_then hbel hbel.size hb
              clear hRA hRB hb
              refine hK.out _ _ hbel1 (fun hHeld => ?_)
              clear hK K hsep hbel
              have hsep := hsep1
              have hbel := hbel1
              clear hsep1 hbel1
              refine norm_ (a' := ?_) ?_ ?_
              rotate_left
              · show Act.put _ (some 23) _ = _
                simp only [Act.put, List.setIfInBounds_toArray, List.set_cons_zero, List.set_cons_succ, i64_w, i32_w]
                rfl
              exact norm_ (by first | (simp only [putAll, Act.put, List.setIfInBounds_toArray, List.set_cons_zero, List.set_cons_succ]; done) | (simp only [putAll, Act.put, List.setIfInBounds_toArray, List.set_cons_zero, List.set_cons_succ]; rfl)) (hJ1_3_5 (Q4, q4, Q5, q5, T4, t4, T5, t5, g8) _ ⟨hsep, hbel⟩)
            · skip
              refine box_step ?hg (N := 7) ?hd (cs := #[.int .i64 0, .int .i64 0, .int .i64 0, .int .i64 0, .slice none 0 0, .slice none 0 0]) (t := 43) ?hr ?_; (case hd => rfl); (case hg => rfl); (case hr => first | (go_simp; done) | (go_simp; rfl))
              intro g7 hg w1 hbox hb
              have hsep1 : Sp.Sep w2.heap.size [Sp.mach w2.heap.size (.slice Q4 anx.length q4) anx (.slice Q5 aout.length q5) aout, Sp.none_, Sp.blk g7 #[.int .i64 0, .int .i64 0, .int .i64 0, .int .i64 0, .slice none 0 0, .slice none 0 0] 43, Sp.blk g8 #[.int .i64 0, .int .i64 0, .int .i64 0, .int .i64 0, .slice none 0 0, .slice none 0 0] 43] w1 := hsep.fillBlk 2 rfl hg hbox hb hbel.size
              have hbel1 := below_then hbel hbel.size hb
              clear hg hbox hb
              refine hK.out _ _ hbel1 (fun hHeld => ?_)
              clear hK K hsep hbel
              have hsep := hsep1
              have hbel := hbel1
              clear hsep1 hbel1
              refine norm_ (a' := ?_) ?_ ?_
              rotate_left
              · show Act.put _ (some 7) _ = _
                simp only [Act.put, List.setIfInBounds_toArray, List.set_cons_zero, List.set_cons_succ, i64_w, i32_w]
                rfl
              exact norm_ (by first | (simp only [putAll, Act.put, List.setIfInBounds_toArray, List.set_cons_zero, List.set_cons_succ]; done) | (simp only [putAll, Act.put, List.setIfInBounds_toArray, List.set_cons_zero, List.set_cons_succ]; rfl)) (hJ1_4_5 (Q4, q4, Q5, q5, g7, g8) _ ⟨hsep, hbel⟩)
          rintro ⟨Q4, q4, Q5, q5, g7⟩ wj ⟨hsep, hbel⟩
          try dsimp only at hsep
          have hHeld : Below w2.heap.size w2 wj := hbel
          refine norm_ (a' := ?_) ?_ ?_
          rotate_left
          · simp only [putAll, Act.put, List.setIfInBounds_toArray, List.set_cons_zero, List.set_cons_succ]
            rfl
          refine two_ (i := 3) (j := 5) (Ni := some 23) (Nj := some 8) #[true, true, true, true, true, false, false, false] #[true, true, true, false, true, true, false, false] rfl rfl rfl rfl (two_of HT_.out (by kernel_rfl)) (by decide) (by decide) (fun K hK => ?_) (fun K hK => ?_)
          · skip
            refine goes_ Try.func29 (by kernel_rfl) rfl #[.agg #[.int .i64 bK, .int .i64 bS, .int .i64 bO, .int .i64 bN, .slice B4 bnx.length d4, .slice B5 bout.length d5]] (by rfl) rfl rfl (by (try simp only [List.map_toArray, List.map_cons, List.map_nil]); first | done | rfl) ?_
            refine (hcB _ (below_then HX2.out.below HX2.out.below.size hbel)).mono ?_
            rintro e w1 ⟨vA, vB, rfl, hRA, hRB, hb⟩
            obtain ⟨T4, t4, rfl⟩ := Kd.R_slice hRA
            obtain ⟨T5, t5, rfl⟩ := Kd.R_slice hRB
            refine ⟨_, rfl, ?_⟩
            have hsep1 : Sp.Sep w2.heap.size [Sp.mach w2.heap.size (.slice Q4 anx.length q4) anx (.slice Q5 aout.length q5) aout, Sp.mach w2.heap.size (.slice T4 bnx.length t4) bnx (.slice T5 bout.length t5) bout, Sp.blk g7 #[.int .i64 0, .int .i64 0, .int .i64 0, .int .i64 0, .slice none 0 0, .slice none 0 0] 43, Sp.none_] w1 := hsep.fillMach 1 rfl hRA hRB hb hbel.size
            have hbel1 := below_then hbel hbel.size hb
            clear hRA hRB hb
            refine hK.out _ _ hbel1 (fun hHeld => ?_)
            clear hK K hsep hbel
            have hsep := hsep1
            have hbel := hbel1
            clear hsep1 hbel1
            refine norm_ (a' := ?_) ?_ ?_
            rotate_left
            · show Act.put _ (some 23) _ = _
              simp only [Act.put, List.setIfInBounds_toArray, List.set_cons_zero, List.set_cons_succ, i64_w, i32_w]
              rfl
            exact norm_ (by first | (simp only [putAll, Act.put, List.setIfInBounds_toArray, List.set_cons_zero, List.set_cons_succ]; done) | (simp only [putAll, Act.put, List.setIfInBounds_toArray, List.set_cons_zero, List.set_cons_succ]; rfl)) (hJ1_3_4 (Q4, q4, Q5, q5, T4, t4, T5, t5, g7) _ ⟨hsep, hbel⟩)
          · skip
            refine box_step ?hg (N := 8) ?hd (cs := #[.int .i64 0, .int .i64 0, .int .i64 0, .int .i64 0, .slice none 0 0, .slice none 0 0]) (t := 43) ?hr ?_; (case hd => rfl); (case hg => rfl); (case hr => first | (go_simp; done) | (go_simp; rfl))
            intro g8 hg w1 hbox hb
            have hsep1 : Sp.Sep w2.heap.size [Sp.mach w2.heap.size (.slice Q4 anx.length q4) anx (.slice Q5 aout.length q5) aout, Sp.none_, Sp.blk g7 #[.int .i64 0, .int .i64 0, .int .i64 0, .int .i64 0, .slice none 0 0, .slice none 0 0] 43, Sp.blk g8 #[.int .i64 0, .int .i64 0, .int .i64 0, .int .i64 0, .slice none 0 0, .slice none 0 0] 43] w1 := hsep.fillBlk 3 rfl hg hbox hb hbel.size
            have hbel1 := below_then hbel hbel.size hb
            clear hg hbox hb
            refine hK.out _ _ hbel1 (fun hHeld => ?_)
            clear hK K hsep hbel
            have hsep := hsep1
            have hbel := hbel1
            clear hsep1 hbel1
            refine norm_ (a' := ?_) ?_ ?_
            rotate_left
            · show Act.put _ (some 8) _ = _
              simp only [Act.put, List.setIfInBounds_toArray, List.set_cons_zero, List.set_cons_succ, i64_w, i32_w]
              rfl
            exact norm_ (by first | (simp only [putAll, Act.put, List.setIfInBounds_toArray, List.set_cons_zero, List.set_cons_succ]; done) | (simp only [putAll, Act.put, List.setIfInBounds_toArray, List.set_cons_zero, List.set_cons_succ]; rfl)) (hJ1_4_5 (Q4, q4, Q5, q5, g7, g8) _ ⟨hsep, hbel⟩)
        rintro ⟨Q4, q4, Q5, q5, g7, g8⟩ wj ⟨hsep, hbel⟩
        try dsimp only at hsep
        have hHeld : Below w2.heap.size w2 wj := hbel
        refine norm_ (a' := ?_) ?_ ?_
        rotate_left
        · simp only [putAll, Act.put, List.setIfInBounds_toArray, List.set_cons_zero, List.set_cons_succ]
          rfl
        refine one_ (i := 3) (N := some 23) #[true, true, true, true, true, true, false, false] rfl rfl (one_of HT_.out (by kernel_rfl)) (by decide) (fun K hK => ?_)
        refine goes_ Try.func29 (by kernel_rfl) rfl #[.agg #[.int .i64 bK, .int .i64 bS, .int .i64 bO, .int .i64 bN, .slice B4 bnx.length d4, .slice B5 bout.length d5]] (by rfl) rfl rfl (by (try simp only [List.map_toArray, List.map_cons, List.map_nil]); first | done | rfl) ?_
        refine (hcB _ (below_then HX2.out.below HX2.out.below.size hbel)).mono ?_
        rintro e w1 ⟨vA, vB, rfl, hRA, hRB, hb⟩
        obtain ⟨T4, t4, rfl⟩ := Kd.R_slice hRA
        obtain ⟨T5, t5, rfl⟩ := Kd.R_slice hRB
        refine ⟨_, rfl, ?_⟩
        have hsep1 : Sp.Sep w2.heap.size [Sp.mach w2.heap.size (.slice Q4 anx.length q4) anx (.slice Q5 aout.length q5) aout, Sp.mach w2.heap.size (.slice T4 bnx.length t4) bnx (.slice T5 bout.length t5) bout, Sp.blk g7 #[.int .i64 0, .int .i64 0, .int .i64 0, .int .i64 0, .slice none 0 0, .slice none 0 0] 43, Sp.blk g8 #[.int .i64 0, .int .i64 0, .int .i64 0, .int .i64 0, .slice none 0 0, .slice none 0 0] 43] w1 := hsep.fillMach 1 rfl hRA hRB hb hbel.size
        have hbel1 := below_then hbel hbel.size hb
        clear hRA hRB hb
        refine hK.out _ _ hbel1 (fun hHeld => ?_)
        clear hK K hsep hbel
        have hsep := hsep1
        have hbel := hbel1
        clear hsep1 hbel1
        refine norm_ (a' := ?_) ?_ ?_
        rotate_left
        · show Act.put _ (some 23) _ = _
          simp only [Act.put, List.setIfInBounds_toArray, List.set_cons_zero, List.set_cons_succ, i64_w, i32_w]
          rfl
        exact norm_ (by first | (simp only [putAll, Act.put, List.setIfInBounds_toArray, List.set_cons_zero, List.set_cons_succ]; done) | (simp only [putAll, Act.put, List.setIfInBounds_toArray, List.set_cons_zero, List.set_cons_succ]; rfl)) (hJ1_3_4_5 (Q4, q4, Q5, q5, T4, t4, T5, t5, g7, g8) _ ⟨hsep, hbel⟩)
      rintro ⟨Q4, q4, Q5, q5, T4, t4, T5, t5, g8⟩ wj ⟨hsep, hbel⟩
      try dsimp only at hsep
      have hHeld : Below w2.heap.size w2 wj := hbel
      refine norm_ (a' := ?_) ?_ ?_
      rotate_left
      · simp only [putAll, Act.put, List.setIfInBounds_toArray, List.set_cons_zero, List.set_cons_succ]
        rfl
      refine one_ (i := 4) (N := some 7) #[true, true, true, true, true, true, false, false] rfl rfl (one_of HT_.out (by kernel_rfl)) (by decide) (fun K hK => ?_)
      refine box_step ?hg (N := 7) ?hd (cs := #[.int .i64 0, .int .i64 0, .int .i64 0, .int .i64 0, .slice none 0 0, .slice none 0 0]) (t := 43) ?hr ?_; (case hd => rfl); (case hg => rfl); (case hr => first | (go_simp; done) | (go_simp; rfl))
      intro g7 hg w1 hbox hb
      have hsep1 : Sp.Sep w2.heap.size [Sp.mach w2.heap.size (.slice Q4 anx.length q4) anx (.slice Q5 aout.length q5) aout, Sp.mach w2.heap.size (.slice T4 bnx.length t4) bnx (.slice T5 bout.length t5) bout, Sp.blk g7 #[.int .i64 0, .int .i64 0, .int .i64 0, .int .i64 0, .slice none 0 0, .slice none 0 0] 43, Sp.blk g8 #[.int .i64 0, .int .i64 0, .int .i64 0, .int .i64 0, .slice none 0 0, .slice none 0 0] 43] w1 := hsep.fillBlk 2 rfl hg hbox hb hbel.size
      have hbel1 := below_then hbel hbel.size hb
      clear hg hbox hb
      refine hK.out _ _ hbel1 (fun hHeld => ?_)
      clear hK K hsep hbel
      have hsep := hsep1
      have hbel := hbel1
      clear hsep1 hbel1
      refine norm_ (a' := ?_) ?_ ?_
      rotate_left
      · show Act.put _ (some 7) _ = _
        simp only [Act.put, List.setIfInBounds_toArray, List.set_cons_zero, List.set_cons_succ, i64_w, i32_w]
        rfl
      exact norm_ (by first | (simp only [putAll, Act.put, List.setIfInBounds_toArray, List.set_cons_zero, List.set_cons_succ]; done) | (simp only [putAll, Act.put, List.setIfInBounds_toArray, List.set_cons_zero, List.set_cons_succ]; rfl)) (hJ1_3_4_5 (Q4, q4, Q5, q5, T4, t4, T5, t5, g7, g8) _ ⟨hsep, hbel⟩)
    rintro ⟨Q4, q4, Q5, q5, T4, t4, T5, t5, g7⟩ wj ⟨hsep, hbel⟩
    try dsimp only at hsep
    have hHeld : Below w2.heap.size w2 wj := hbel
    refine norm_ (a' := ?_) ?_ ?_
    rotate_left
    · simp only [putAll, Act.put, List.setIfInBounds_toArray, List.set_cons_zero, List.set_cons_succ]
      rfl
    refine one_ (i := 5) (N := some 8) #[true, true, true, true, true, true, false, false] rfl rfl (one_of HT_.out (by kernel_rfl)) (by decide) (fun K hK => ?_)
    refine box_step ?hg (N := 8) ?hd (cs := #[.int .i64 0, .int .i64 0, .int .i64 0, .int .i64 0, .slice none 0 0, .slice none 0 0]) (t := 43) ?hr ?_; (case hd => rfl); (case hg => rfl); (case hr => first | (go_simp; done) | (go_simp; rfl))
    intro g8 hg w1 hbox hb
    have hsep1 : Sp.Sep w2.heap.size [Sp.mach w2.heap.size (.slice Q4 anx.length q4) anx (.slice Q5 aout.length q5) aout, Sp.mach w2.heap.size (.slice T4 bnx.length t4) bnx (.slice T5 bout.length t5) bout, Sp.blk g7 #[.int .i64 0, .int .i64 0, .int .i64 0, .int .i64 0, .slice none 0 0, .slice none 0 0] 43, Sp.blk g8 #[.int .i64 0, .int .i64 0, .int .i64 0, .int .i64 0, .slice none 0 0, .slice none 0 0] 43] w1 := hsep.fillBlk 3 rfl hg hbox hb hbel.size
    have hbel1 := below_then hbel hbel.size hb
    clear hg hbox hb
    refine hK.out _ _ hbel1 (fun hHeld => ?_)
    clear hK K hsep hbel
    have hsep := hsep1
    have hbel := hbel1
    clear hsep1 hbel1
    refine norm_ (a' := ?_) ?_ ?_
    rotate_left
    · show Act.put _ (some 8) _ = _
      simp only [Act.put, List.setIfInBounds_toArray, List.set_cons_zero, List.set_cons_succ, i64_w, i32_w]
      rfl
    exact norm_ (by first | (simp only [putAll, Act.put, List.setIfInBounds_toArray, List.set_cons_zero, List.set_cons_succ]; done) | (simp only [putAll, Act.put, List.setIfInBounds_toArray, List.set_cons_zero, List.set_cons_succ]; rfl)) (hJ1_3_4_5 (Q4, q4, Q5, q5, T4, t4, T5, t5, g7, g8) _ ⟨hsep, hbel⟩)
  rintro ⟨Q4, q4, Q5, q5, T4, t4, T5, t5, g7, g8⟩ wj ⟨hsep, hbel⟩
  try dsimp only at hsep
  have hHeld : Below w2.heap.size w2 wj := hbel
  refine norm_ (a' := ?_) ?_ ?_
  rotate_left
  · simp only [putAll, Act.put, List.setIfInBounds_toArray, List.set_cons_zero, List.set_cons_succ]
    rfl
  refine one_ (i := 6) (N := none) #[true, true, true, true, true, true, true, false] rfl rfl (one_of HT_.out (by kernel_rfl)) (by decide) (fun K hK => ?_)
  refine Sp.store_row_step (by rfl) rfl 43 (.tmp 7) (.tmp 21) rfl g7 #[.int .i64 aK, .int .i64 aS, .int .i64 aO, .int .i64 aN, .slice Q4 anx.length q4, .slice Q5 aout.length q5] rfl rfl 43 _ (hsep.get 2 rfl) (by rw [i43]; rfl) rfl (by simp [Value.oneCell']) ?_
  have hsep1 : Sp.Sep w2.heap.size [Sp.mach w2.heap.size (.slice Q4 anx.length q4) anx (.slice Q5 aout.length q5) aout, Sp.mach w2.heap.size (.slice T4 bnx.length t4) bnx (.slice T5 bout.length t5) bout, Sp.blk g7 #[.int .i64 aK, .int .i64 aS, .int .i64 aO, .int .i64 aN, .slice Q4 anx.length q4, .slice Q5 aout.length q5] 43, Sp.blk g8 #[.int .i64 0, .int .i64 0, .int .i64 0, .int .i64 0, .slice none 0 0, .slice none 0 0] 43] _ := hsep.row 2 rfl #[.int .i64 aK, .int .i64 aS, .int .i64 aO, .int .i64 aN, .slice Q4 anx.length q4, .slice Q5 aout.length q5] hbel.size
  have hbel1 := below_setRow hbel (hsep.bound 2 rfl (show g7 = g7 from rfl)).1 #[.int .i64 aK, .int .i64 aS, .int .i64 aO, .int .i64 aN, .slice Q4 anx.length q4, .slice Q5 aout.length q5]
  refine hK.out _ _ hbel1 (fun hHeld => ?_)
  clear hK K hsep hbel
  have hsep := hsep1
  have hbel := hbel1
  clear hsep1 hbel1
  refine one_ (i := 7) (N := none) #[true, true, true, true, true, true, true, true] rfl rfl (one_of HT_.out (by kernel_rfl)) (by decide) (fun K hK => ?_)
  refine Sp.store_row_step (by rfl) rfl 43 (.tmp 8) (.tmp 23) rfl g8 #[.int .i64 bK, .int .i64 bS, .int .i64 bO, .int .i64 bN, .slice T4 bnx.length t4, .slice T5 bout.length t5] rfl rfl 43 _ (hsep.get 3 rfl) (by rw [i43]; rfl) rfl (by simp [Value.oneCell']) ?_
  have hsep1 : Sp.Sep w2.heap.size [Sp.mach w2.heap.size (.slice Q4 anx.length q4) anx (.slice Q5 aout.length q5) aout, Sp.mach w2.heap.size (.slice T4 bnx.length t4) bnx (.slice T5 bout.length t5) bout, Sp.blk g7 #[.int .i64 aK, .int .i64 aS, .int .i64 aO, .int .i64 aN, .slice Q4 anx.length q4, .slice Q5 aout.length q5] 43, Sp.blk g8 #[.int .i64 bK, .int .i64 bS, .int .i64 bO, .int .i64 bN, .slice T4 bnx.length t4, .slice T5 bout.length t5] 43] _ := hsep.row 3 rfl #[.int .i64 bK, .int .i64 bS, .int .i64 bO, .int .i64 bN, .slice T4 bnx.length t4, .slice T5 bout.length t5] hbel.size
  have hbel1 := below_setRow hbel (hsep.bound 3 rfl (show g8 = g8 from rfl)).1 #[.int .i64 bK, .int .i64 bS, .int .i64 bO, .int .i64 bN, .slice T4 bnx.length t4, .slice T5 bout.length t5]
  refine hK.out _ _ hbel1 (fun hHeld => ?_)
  clear hK K hsep hbel
  have hsep := hsep1
  have hbel := hbel1
  clear hsep1 hbel1
  refine done_ (done_of HT_.out (by kernel_rfl)) ?_
  generalize hwq : World.setRow _ g8 _ = w3 at hsep hbel hHeld ⊢
  clear hwq
  have HX3 := Aside0.mk (HX2.out.on hbel)
  have HS := Aside0.mk hsep
  have HB3 := Aside0.mk hbel
  have hmt := nfa_Meet.calls aK aS aO aN Q4 q4 anx Q5 q5 aout bK bS bO bN T4 t4 bnx T5 t5 bout op r1 r2 r3 r4 r5 r6 r7 w3 (Kd.R_reads' (HS.out.get 0 rfl).1.1).2.2 (Kd.R_reads' (HS.out.get 0 rfl).1.1).2.1 (Kd.R_reads' (HS.out.get 0 rfl).1.2).2.2 (Kd.R_reads' (HS.out.get 0 rfl).1.2).2.1 (Kd.R_reads' (HS.out.get 1 rfl).1.1).2.2 (Kd.R_reads' (HS.out.get 1 rfl).1.1).2.1 (Kd.R_reads' (HS.out.get 1 rfl).1.2).2.2 (Kd.R_reads' (HS.out.get 1 rfl).1.2).2.1 HMP.out
  clear hsep hbel hHeld hbA hbB hcA hcB
  go_wp2_with (first
    | ((with_reducible refine gate_dst (N := 25) rfl ?_)
       refine wpList_load_row rfl 43 (.tmp 7) rfl g7 rfl 43 #[.int .i64 aK, .int .i64 aS, .int .i64 aO, .int .i64 aN, .slice Q4 anx.length q4, .slice Q5 aout.length q5] (0, 0) _ (HS.out.get 2 rfl) Try.underlying43 rfl ?_ ?_
       (focus (rw [i43]; rfl)))
    | ((with_reducible refine gate_dst (N := 26) rfl ?_)
       refine wpList_load_row rfl 43 (.tmp 8) rfl g8 rfl 43 #[.int .i64 bK, .int .i64 bS, .int .i64 bO, .int .i64 bN, .slice T4 bnx.length t4, .slice T5 bout.length t5] (0, 0) _ (HS.out.get 3 rfl) Try.underlying43 rfl ?_ ?_
       (focus (rw [i43]; rfl)))
    | (go_at_call 30; with_reducible refine hmt.mono ?_
       rintro e w4 ⟨v5, v6, rfl, hR5, hR6, hb4⟩
       obtain ⟨P5, p5, rfl⟩ := Kd.R_slice hR5
       obtain ⟨P6, p6, rfl⟩ := Kd.R_slice hR6
       have HX4 := Aside0.mk (HX3.out.on hb4)
       have HS4 := Aside0.mk (HS.out.addMach hR5 hR6 hb4 HB3.out.size)
       have HB4 := Aside0.mk (below_then HB3.out HB3.out.size hb4)
       clear hb4 hR5 hR6 hmt)
    | ((with_reducible refine gate_store (t := 43) (p := 9) rfl ?_)
       refine wpList_store_rowTo rfl 43 (.tmp 9) (.tmp 29) rfl rfl w4.heap.size #[.int .i64 r1, .int .i64 r2, .int .i64 r3, .int .i64 r4, .slice P5 r5.length p5, .slice P6 r6.length p6] rfl rfl 43 _ (blk_new w4 _) ?_ ?_ (by simp [Value.oneCell']) ?_
       (focus (rw [i43]; rfl))
       (focus rfl)
       rw [World.setRow_alloc_new]
       have hbb := below_alloc (Below.refl w4.heap.size w4) (.cells #[.int .i64 r1, .int .i64 r2, .int .i64 r3, .int .i64 r4, .slice P5 r5.length p5, .slice P6 r6.length p6] 43)
       have HX5 := Aside0.mk (HX4.out.on hbb)
       have HS5 := Aside0.mk (HS4.out.alloc #[.int .i64 r1, .int .i64 r2, .int .i64 r3, .int .i64 r4, .slice P5 r5.length p5, .slice P6 r6.length p6] 43 HB4.out.size)
       have HB5 := Aside0.mk (below_then HB4.out HB4.out.size hbb)
       generalize w4.heap.size = g9 at HS5 ⊢
       generalize w4.alloc (.cells #[.int .i64 r1, .int .i64 r2, .int .i64 r3, .int .i64 r4, .slice P5 r5.length p5, .slice P6 r6.length p6] 43) = w5 at HX5 HS5 HB5 ⊢
       clear hbb
       have px0 : w5.cell? ⟨w.heap.size, 0, none⟩ = some (.int .i64 aK) := (blk_cell (HX5.out.a) 0).trans rfl
       have px1 : w5.cell? ⟨w.heap.size, 1, none⟩ = some (.int .i64 aS) := (blk_cell (HX5.out.a) 1).trans rfl
       have px2 : w5.cell? ⟨w.heap.size, 2, none⟩ = some (.int .i64 aO) := (blk_cell (HX5.out.a) 2).trans rfl
       have px3 : w5.cell? ⟨w.heap.size, 3, none⟩ = some (.int .i64 aN) := (blk_cell (HX5.out.a) 3).trans rfl
       have px4 : w5.cell? ⟨w.heap.size, 4, none⟩ = some (.slice A4 anx.length c4) := (blk_cell (HX5.out.a) 4).trans rfl
       have px5 : w5.cell? ⟨w.heap.size, 5, none⟩ = some (.slice A5 aout.length c5) := (blk_cell (HX5.out.a) 5).trans rfl
       have py0 : w5.cell? ⟨w.heap.size + 1, 0, none⟩ = some (.int .i64 bK) := (blk_cell (HX5.out.b) 0).trans rfl
       have py1 : w5.cell? ⟨w.heap.size + 1, 1, none⟩ = some (.int .i64 bS) := (blk_cell (HX5.out.b) 1).trans rfl
       have py2 : w5.cell? ⟨w.heap.size + 1, 2, none⟩ = some (.int .i64 bO) := (blk_cell (HX5.out.b) 2).trans rfl
       have py3 : w5.cell? ⟨w.heap.size + 1, 3, none⟩ = some (.int .i64 bN) := (blk_cell (HX5.out.b) 3).trans rfl
       have py4 : w5.cell? ⟨w.heap.size + 1, 4, none⟩ = some (.slice B4 bnx.length d4) := (blk_cell (HX5.out.b) 4).trans rfl
       have py5 : w5.cell? ⟨w.heap.size + 1, 5, none⟩ = some (.slice B5 bout.length d5) := (blk_cell (HX5.out.b) 5).trans rfl)
    | (go_at_call 31; with_reducible refine (hrm _ HX5.out.below).mono ?_
       rintro e w6 ⟨v7, v8, rfl, hR7, hR8, hb6⟩
       obtain ⟨U5, u5, rfl⟩ := Kd.R_slice hR7
       obtain ⟨U6, u6, rfl⟩ := Kd.R_slice hR8
       have HX6 := Aside0.mk (HX5.out.on hb6)
       have HS6 := Aside0.mk (HS5.out.addMach hR7 hR8 hb6 HB5.out.size)
       have HB6 := Aside0.mk (below_then HB5.out HB5.out.size hb6)
       clear hb6 hR7 hR8 px0 px1 px2 px3 px4 px5 py0 py1 py2 py3 py4 py5)
    | ((with_reducible refine gate_store (t := 43) (p := 11) rfl ?_)
       refine wpList_store_rowTo rfl 43 (.tmp 11) (.tmp 36) rfl rfl w6.heap.size #[.int .i64 r1, .int .i64 r2, .int .i64 r3, .int .i64 r4, .slice U5 r5.length u5, .slice U6 r6.length u6] rfl rfl 43 _ (blk_new w6 _) ?_ ?_ (by simp [Value.oneCell']) ?_
       (focus (rw [i43]; rfl))
       (focus rfl)
       rw [World.setRow_alloc_new]
       have hbb := below_alloc (Below.refl w6.heap.size w6) (.cells #[.int .i64 r1, .int .i64 r2, .int .i64 r3, .int .i64 r4, .slice U5 r5.length u5, .slice U6 r6.length u6] 43)
       have HX7 := Aside0.mk (HX6.out.on hbb)
       have HS7 := Aside0.mk (HS6.out.alloc #[.int .i64 r1, .int .i64 r2, .int .i64 r3, .int .i64 r4, .slice U5 r5.length u5, .slice U6 r6.length u6] 43 HB6.out.size)
       have HB7 := Aside0.mk (below_then HB6.out HB6.out.size hbb)
       generalize w6.heap.size = g11 at HS7 ⊢
       generalize w6.alloc (.cells #[.int .i64 r1, .int .i64 r2, .int .i64 r3, .int .i64 r4, .slice U5 r5.length u5, .slice U6 r6.length u6] 43) = w7 at HX7 HS7 HB7 ⊢
       have h24 := tutorref03_Same.calls 100000 r1 r2 r3 r4 P5 p5 r5 P6 p6 r6 r1 r2 r3 r4 U5 u5 r5 U6 u6 r6 true w7 (Kd.R_reads' (HS7.out.get 3 rfl).1.1).2.2 (Kd.R_reads' (HS7.out.get 3 rfl).1.1).2.1 (Kd.R_reads' (HS7.out.get 3 rfl).1.2).2.2 (Kd.R_reads' (HS7.out.get 3 rfl).1.2).2.1 (Kd.R_reads' (HS7.out.get 1 rfl).1.1).2.2 (Kd.R_reads' (HS7.out.get 1 rfl).1.1).2.1 (Kd.R_reads' (HS7.out.get 1 rfl).1.2).2.2 (Kd.R_reads' (HS7.out.get 1 rfl).1.2).2.1 HS1.out
       have pm0 : w7.cell? ⟨g9, 0, none⟩ = some (.int .i64 r1) := (blk_cell (HS7.out.get 2 rfl) 0).trans rfl
       have pm1 : w7.cell? ⟨g9, 1, none⟩ = some (.int .i64 r2) := (blk_cell (HS7.out.get 2 rfl) 1).trans rfl
       have pm2 : w7.cell? ⟨g9, 2, none⟩ = some (.int .i64 r3) := (blk_cell (HS7.out.get 2 rfl) 2).trans rfl
       have pm3 : w7.cell? ⟨g9, 3, none⟩ = some (.int .i64 r4) := (blk_cell (HS7.out.get 2 rfl) 3).trans rfl
       have pm4 : w7.cell? ⟨g9, 4, none⟩ = some (.slice P5 r5.length p5) := (blk_cell (HS7.out.get 2 rfl) 4).trans rfl
       have pm5 : w7.cell? ⟨g9, 5, none⟩ = some (.slice P6 r6.length p6) := (blk_cell (HS7.out.get 2 rfl) 5).trans rfl
       have pn0 : w7.cell? ⟨g11, 0, none⟩ = some (.int .i64 r1) := (blk_cell (HS7.out.get 0 rfl) 0).trans rfl
       have pn1 : w7.cell? ⟨g11, 1, none⟩ = some (.int .i64 r2) := (blk_cell (HS7.out.get 0 rfl) 1).trans rfl
       have pn2 : w7.cell? ⟨g11, 2, none⟩ = some (.int .i64 r3) := (blk_cell (HS7.out.get 0 rfl) 2).trans rfl
       have pn3 : w7.cell? ⟨g11, 3, none⟩ = some (.int .i64 r4) := (blk_cell (HS7.out.get 0 rfl) 3).trans rfl
       have pn4 : w7.cell? ⟨g11, 4, none⟩ = some (.slice U5 r5.length u5) := (blk_cell (HS7.out.get 0 rfl) 4).trans rfl
       have pn5 : w7.cell? ⟨g11, 5, none⟩ = some (.slice U6 r6.length u6) := (blk_cell (HS7.out.get 0 rfl) 5).trans rfl
       clear hbb)
    | (go_at_call 24; with_reducible refine h24.mono ?_
       rintro e w8 ⟨rfl, hb8⟩
       have HX8 := Aside0.mk (HX7.out.on hb8)
       have HS8 := Aside0.mk (HS7.out.low hb8)
       have HB8 := Aside0.mk (below_then HB7.out HB7.out.size hb8)
       clear hb8 h24 pm0 pm1 pm2 pm3 pm4 pm5 pn0 pn1 pn2 pn3 pn4 pn5)
    | (go_at_call 17; with_reducible refine (tutorlaw17_num.calls r7 r7 _ rfl).mono ?_
       rintro e w9 ⟨rfl, hd9⟩
       have HX9 := Aside0.mk (HX8.out.on hd9.below)
       have HS9 := Aside0.mk (HS8.out.low hd9.below)
       have HB9 := Aside0.mk (below_then HB8.out HB8.out.size hd9.below)
       have h24b := tutorref03_Same.calls 100000 aK aS aO aN A4 c4 anx A5 c5 aout aK aS aO aN Q4 q4 anx Q5 q5 aout true w9 (Kd.C_below HC.out.1.1 HX9.out.below) HC.out.1.2.1 (Kd.C_below HC.out.1.2.2.1 HX9.out.below) HC.out.1.2.2.2 (Kd.R_reads' (HS9.out.get 4 rfl).1.1).2.2 (Kd.R_reads' (HS9.out.get 4 rfl).1.1).2.1 (Kd.R_reads' (HS9.out.get 4 rfl).1.2).2.2 (Kd.R_reads' (HS9.out.get 4 rfl).1.2).2.1 HS2.out
       have px0 : w9.cell? ⟨w.heap.size, 0, none⟩ = some (.int .i64 aK) := (blk_cell (HX9.out.a) 0).trans rfl
       have px1 : w9.cell? ⟨w.heap.size, 1, none⟩ = some (.int .i64 aS) := (blk_cell (HX9.out.a) 1).trans rfl
       have px2 : w9.cell? ⟨w.heap.size, 2, none⟩ = some (.int .i64 aO) := (blk_cell (HX9.out.a) 2).trans rfl
       have px3 : w9.cell? ⟨w.heap.size, 3, none⟩ = some (.int .i64 aN) := (blk_cell (HX9.out.a) 3).trans rfl
       have px4 : w9.cell? ⟨w.heap.size, 4, none⟩ = some (.slice A4 anx.length c4) := (blk_cell (HX9.out.a) 4).trans rfl
       have px5 : w9.cell? ⟨w.heap.size, 5, none⟩ = some (.slice A5 aout.length c5) := (blk_cell (HX9.out.a) 5).trans rfl
       have pm0 : w9.cell? ⟨g7, 0, none⟩ = some (.int .i64 aK) := (blk_cell (HS9.out.get 6 rfl) 0).trans rfl
       have pm1 : w9.cell? ⟨g7, 1, none⟩ = some (.int .i64 aS) := (blk_cell (HS9.out.get 6 rfl) 1).trans rfl
       have pm2 : w9.cell? ⟨g7, 2, none⟩ = some (.int .i64 aO) := (blk_cell (HS9.out.get 6 rfl) 2).trans rfl
       have pm3 : w9.cell? ⟨g7, 3, none⟩ = some (.int .i64 aN) := (blk_cell (HS9.out.get 6 rfl) 3).trans rfl
       have pm4 : w9.cell? ⟨g7, 4, none⟩ = some (.slice Q4 anx.length q4) := (blk_cell (HS9.out.get 6 rfl) 4).trans rfl
       have pm5 : w9.cell? ⟨g7, 5, none⟩ = some (.slice Q5 aout.length q5) := (blk_cell (HS9.out.get 6 rfl) 5).trans rfl
       clear hd9)
    | (go_at_call 24; with_reducible refine h24b.mono ?_
       rintro e w10 ⟨rfl, hb10⟩
       have HX10 := Aside0.mk (HX9.out.on hb10)
       have HS10 := Aside0.mk (HS9.out.low hb10)
       have HB10 := Aside0.mk (below_then HB9.out HB9.out.size hb10)
       have h24c := tutorref03_Same.calls 100000 bK bS bO bN B4 d4 bnx B5 d5 bout bK bS bO bN T4 t4 bnx T5 t5 bout true w10 (Kd.C_below HC.out.2.1 HX10.out.below) HC.out.2.2.1 (Kd.C_below HC.out.2.2.2.1 HX10.out.below) HC.out.2.2.2.2 (Kd.R_reads' (HS10.out.get 5 rfl).1.1).2.2 (Kd.R_reads' (HS10.out.get 5 rfl).1.1).2.1 (Kd.R_reads' (HS10.out.get 5 rfl).1.2).2.2 (Kd.R_reads' (HS10.out.get 5 rfl).1.2).2.1 HS3.out
       clear hb10 h24b px0 px1 px2 px3 px4 px5 pm0 pm1 pm2 pm3 pm4 pm5
       have py0 : w10.cell? ⟨w.heap.size + 1, 0, none⟩ = some (.int .i64 bK) := (blk_cell (HX10.out.b) 0).trans rfl
       have py1 : w10.cell? ⟨w.heap.size + 1, 1, none⟩ = some (.int .i64 bS) := (blk_cell (HX10.out.b) 1).trans rfl
       have py2 : w10.cell? ⟨w.heap.size + 1, 2, none⟩ = some (.int .i64 bO) := (blk_cell (HX10.out.b) 2).trans rfl
       have py3 : w10.cell? ⟨w.heap.size + 1, 3, none⟩ = some (.int .i64 bN) := (blk_cell (HX10.out.b) 3).trans rfl
       have py4 : w10.cell? ⟨w.heap.size + 1, 4, none⟩ = some (.slice B4 bnx.length d4) := (blk_cell (HX10.out.b) 4).trans rfl
       have py5 : w10.cell? ⟨w.heap.size + 1, 5, none⟩ = some (.slice B5 bout.length d5) := (blk_cell (HX10.out.b) 5).trans rfl
       have pn0 : w10.cell? ⟨g8, 0, none⟩ = some (.int .i64 bK) := (blk_cell (HS10.out.get 7 rfl) 0).trans rfl
       have pn1 : w10.cell? ⟨g8, 1, none⟩ = some (.int .i64 bS) := (blk_cell (HS10.out.get 7 rfl) 1).trans rfl
       have pn2 : w10.cell? ⟨g8, 2, none⟩ = some (.int .i64 bO) := (blk_cell (HS10.out.get 7 rfl) 2).trans rfl
       have pn3 : w10.cell? ⟨g8, 3, none⟩ = some (.int .i64 bN) := (blk_cell (HS10.out.get 7 rfl) 3).trans rfl
       have pn4 : w10.cell? ⟨g8, 4, none⟩ = some (.slice T4 bnx.length t4) := (blk_cell (HS10.out.get 7 rfl) 4).trans rfl
       have pn5 : w10.cell? ⟨g8, 5, none⟩ = some (.slice T5 bout.length t5) := (blk_cell (HS10.out.get 7 rfl) 5).trans rfl)
    | (go_at_call 24; with_reducible refine h24c.mono ?_
       rintro e w11 ⟨rfl, hb11⟩
       have HX11 := Aside0.mk (HX10.out.on hb11)
       clear hb11 h24c py0 py1 py2 py3 py4 py5 pn0 pn1 pn2 pn3 pn4 pn5)
    | (go_at_call 13; with_reducible refine (hlv _).mono ?_
       rintro e w12 ⟨rfl, hb12⟩))
  go_ret
  exact ⟨rfl, below_step HX11.out.below hb12⟩
theorem tutorlaw17_NfaMeets.calls (aK aS aO aN : Int) (A4 : Option Addr) (c4 : Nat) (anx : List Int) (A5 : Option Addr) (c5 : Nat) (aout : List Int) (bK bS bO bN : Int) (B4 : Option Addr) (d4 : Nat) (bnx : List Int) (B5 : Option Addr) (d5 : Nat) (bout : List Int) (op : Int) (r : Bool) (w : World)
    (ha4 : Kd.C (Kd.int .i64) w A4 anx.length anx) (hc4 : anx.length ≤ c4) (ha5 : Kd.C (Kd.int .i64) w A5 aout.length aout) (hc5 : aout.length ≤ c5) (hb4 : Kd.C (Kd.int .i64) w B4 bnx.length bnx) (hd4 : bnx.length ≤ d4) (hb5 : Kd.C (Kd.int .i64) w B5 bout.length bout) (hd5 : bout.length ≤ d5)
    (h : r = true ∧ (∀ x ∈ anx, In64 x) ∧ (∀ x ∈ aout, In64 x) ∧ (∀ x ∈ bnx, In64 x) ∧ (∀ x ∈ bout, In64 x)) : Calls Try.prog 7 #[.agg #[.int .i64 aK, .int .i64 aS, .int .i64 aO, .int .i64 aN, .slice A4 anx.length c4, .slice A5 aout.length c5], .agg #[.int .i64 bK, .int .i64 bS, .int .i64 bO, .int .i64 bN, .slice B4 bnx.length d4, .slice B5 bout.length d5], .int .i64 op] w fun e w' => e = .returned (.bool r) ∧ Below w.heap.size w w' := by
  obtain ⟨rfl, ia4, ia5, ib4, ib5⟩ := h
  by_cases q : bigB aN anx aout 60 = true ∨ bigB bN bnx bout 60 = true
  · exact Meets_small aK aS aO aN A4 c4 anx A5 c5 aout bK bS bO bN B4 d4 bnx B5 d5 bout op w ha4 hc4 ha5 hc5 hb4 hd4 hb5 hd5 q
  · exact Meets_main aK aS aO aN A4 c4 anx A5 c5 aout bK bS bO bN B4 d4 bnx B5 d5 bout op w ha4 hc4 ha5 hc5 hb4 hd4 hb5 hd5 ia4 ia5 ib4 ib5 (by simpa using fun h => q (.inl h)) (by simpa using fun h => q (.inr h))
end Go.Proofs.Ytkaefgmgcghhiaa.X
end
