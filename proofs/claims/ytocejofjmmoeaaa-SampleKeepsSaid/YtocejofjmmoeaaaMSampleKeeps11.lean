/- Texts of the statement SampleKeeps, one behind the other: Go functions as Lean functions, the machine's calls, the plain law. -/
import Derived.Test.YtocejofjmmoeaaaMSampleKeeps4
import Derived.Test.YtocejofjmmoeaaaMSampleKeeps9
import Derived.Carry
import Derived.Deep.WholeRow
set_option linter.unusedVariables false
set_option linter.unusedSimpArgs false
section
namespace Go.Proofs.Ytocejofjmmoeaaa.X
open Go.RowKit Go.Proofs.YtocejofjmmoeaaaW.PrintWords Go.Proofs.YtocejofjmmoeaaaW.PrintLast Go.Proofs.YtocejofjmmoeaaaW.PrintMore
open Go.Proofs.Ytocejofjmmoeaaa
theorem infoL : (Try.prog.info? 32).map (fun i => (i.zero, i.size, i.bytes)) = some (some (.slice none 0 0), 1, 24) := by kernel_rfl
theorem zeroI (w : World) : (zeroValue 3).run Try.prog w = .ok (.int .i64 0) w := (zero_of_info (show (Try.prog.info? 3).map (fun i => (i.zero, i.size)) = some (some (.int .i64 0), 1) by kernel_rfl)).1 w
def stI (K s : Int) (x : Nat) : Int := wrap64 (wrap64 (s * K) + (x : Int))
def seenOf (n : Nat) : List Int → List (Int × Int)
  | [] => []
  | t :: r => (t, (n : Int)) :: seenOf (n + 1) r
theorem seen_key {n : Nat} {st : List Int} {p : Int × Int} (h : p ∈ seenOf n st) : p.1 ∈ st := by
  induction st generalizing n with
  | nil => simp [seenOf] at h
  | cons t r ih =>
    simp only [seenOf, List.mem_cons] at h
    rcases h with rfl | h
    · simp
    · exact List.mem_cons_of_mem _ (ih h)
theorem seen_some {n : Nat} {st : List Int} {t : Int} (h : t ∈ st) : ∃ v, Vm.getK (seenOf n st) t = some v := by
  induction st generalizing n with
  | nil => cases h
  | cons u r ih =>
    rw [seenOf, Vm.getK]
    by_cases e : u = t
    · exact ⟨_, if_pos e⟩
    · rw [if_neg e]
      exact ih (by rcases List.mem_cons.1 h with h | h; exact absurd h.symm e; exact h)
theorem seen_none {n : Nat} {st : List Int} {t : Int} (h : t ∉ st) : Vm.getK (seenOf n st) t = none := Vm.getK_none (fun p hp e => h (by rw [← e]; exact seen_key hp))
theorem seen_put {n : Nat} {st : List Int} {t : Int} (h : t ∉ st) : Vm.putK (seenOf n st) t ((n + st.length : Nat) : Int) = seenOf n (st ++ [t]) := by
  rw [Vm.putK_new (fun p hp e => h (by rw [← e]; exact seen_key hp))]
  clear h
  induction st generalizing n with
  | nil => simp [seenOf]
  | cons u r ih =>
    rw [List.cons_append, seenOf, seenOf, List.cons_append, ← ih (n := n + 1)]
    simp only [List.length_cons]
    congr 4
    omega
theorem seen0_put {st : List Int} {t : Int} (h : t ∉ st) : Vm.putK (seenOf 0 st) t (st.length : Int) = seenOf 0 (st ++ [t]) := by
  have := seen_put (n := 0) h
  rw [Nat.zero_add] at this
  exact this
theorem rd_append_left {l m : List Int} {i : Nat} (h : i < l.length) : rd (l ++ m) (i : Int) = rd l (i : Int) := by
  simp only [rd, Int.toNat_natCast, List.getD_eq_getElem?_getD, List.getElem?_append_left h]
theorem wf_of {t : Int} (h0 : 0 ≤ t) (h1 : t < 1099511627776) : (Lit.int .i64 t).wf = true := by
  simp [Lit.wf, IntKind.min, IntKind.max, IntKind.signed, IntKind.bits]
  omega
def rcIn (K N : Int) (nx : List Int) (s : Int) (i : Nat) : List Nat → List Int → List (List Int) → Option (Bool × List Int × List (List Int))
  | [], st, ws => some (false, st, ws)
  | x :: r, st, ws => if (0 ≤ stI K s x ∧ stI K s x < (nx.length : Int)) ∧ x < 1099511627776 then
      (if (0 ≤ rd nx (stI K s x) ∧ rd nx (stI K s x) < 1099511627776) ∧ st.length < 1099511627776 ∧ ws.length < 1099511627776 ∧ (ws.getD i []).length < 1099511627776 ∧ i < ws.length then
        (if rd nx (stI K s x) ∈ st then rcIn K N nx s i r st ws
         else if ((st.length : Int) + 1) = N then some (true, st ++ [rd nx (stI K s x)], ws ++ [ws.getD i [] ++ [(x : Int)]])
         else rcIn K N nx s i r (st ++ [rd nx (stI K s x)]) (ws ++ [ws.getD i [] ++ [(x : Int)]])) else none) else none
def rcF (K N : Int) (nx : List Int) : Nat → Nat → List Int → List (List Int) → Option (List Int × List (List Int))
  | 0, _, _, _ => none
  | q + 1, i, st, ws => if i < st.length then (if i < 1099511627776 then (match rcIn K N nx (rd st i) i (List.range K.toNat) st ws with
      | none => none
      | some (true, st1, ws1) => some (st1, ws1)
      | some (false, st1, ws1) => rcF K N nx q (i + 1) st1 ws1) else none) else some (st, ws)
/-- What Reach leaves: its answers, in memory of their own. -/
def RcPost (w : World) (st : List Int) (ws : List (List Int)) (er : Int) (e : Ending) (w' : World) : Prop := ∃ (v2 v3 : Value) (P : Nat → Prop), e = .returned (.tuple #[v2, v3, .int .i64 er]) ∧ Sp.Sep w.heap.size [Sp.rows (Kd.slice 3 (Kd.int .i64)) 32 w.heap.size P v3 ws, Sp.ints w.heap.size v2 st] w' ∧ Below w.heap.size w w'
def DC12.T12 : Bool × List (List Nat × List Nat) := (true, [([], []), ([0], [0]), ([], []), ([], []), ([2, 3], [2, 3]), ([4], [4]), ([], []), ([6], [6]), ([5, 7], [5, 7]), ([], []), ([8, 9], [8, 9]), ([1, 10], [1, 10]), ([11], [11]), ([12, 0, 1, 2, 3, 4, 5, 6, 7, 8, 9, 10, 11, 12], [12])])
def DC12.B12 : List Nat := [0, 1, 0, 0, 12, 28, 0, 64, 252, 0, 1020, 2047, 4095, 8191]
theorem DC12.tab12 : rtab .any (opsOf Try.f86 12) = DC12.T12 := by kernel_rfl
theorem DC12.bits12 : waitsOk DC12.T12.2 DC12.B12 = true := by kernel_rfl
set_option maxHeartbeats 8000000 in
set_option maxRecDepth 100000 in
theorem Reach_walk (k k0 : Nat) (kd K O N : Int) (A4 : Option Addr) (c4 : Nat) (nx : List Int) (A5 : Option Addr) (c5 : Nat) (out : List Int) (at1 e1 : Int) (st0 : List Int) (ws0 : List (List Int)) (w : World)
    (ha4 : Kd.C (Kd.int .i64) w A4 nx.length nx) (hc4 : nx.length ≤ c4) (ha5 : Kd.C (Kd.int .i64) w A5 out.length out) (hc5 : out.length ≤ c5) (hm : machine_Check.f k0 kd K O N nx out = some (at1, e1))
    (h : (e1 ≠ 0 ∧ st0 = [] ∧ ws0 = []) ∨ (e1 = 0 ∧ rcF K N nx k 0 [0] [[]] = some (st0, ws0))) :
    Calls Try.prog 86 #[.agg #[.int .i64 kd, .int .i64 K, .int .i64 O, .int .i64 N, .slice A4 nx.length c4, .slice A5 out.length c5]] w (RcPost w st0 ws0 e1) := by
  have hu43 := Try.underlying50
  have hm1 := fun (W : World) (hb : Below w.heap.size w W) => machine_Check.calls k0 kd K O N A4 c4 nx A5 c5 out at1 e1 W (Kd.C_below ha4 hb) hc4 (Kd.C_below ha5 hb) hc5 hm
  have HAR := Aside0.mk ha4
  have HH := Aside0.mk h
  have hmm := @run_makeMap Try.prog
  clear ha4 ha5 hc4 hc5 hm h
  by_cases q1 : e1 ≠ 0
  · have qb : (e1 != 0) = true := by simpa using q1
    have hH := HH.out
    obtain ⟨rfl, rfl⟩ : st0 = [] ∧ ws0 = [] := by
      rcases hH with h | h
      · exact h.2
      · exact absurd h.1 q1
    clear hH HH q1
    go_enter Try.func86, Try.ntmps86
    go_wp2
    go_step3
    go_wp2_with (first
      | (go_at_call 52; with_reducible refine (hm1 _ (below_alloc (Below.refl _ _) _)).mono ?_
         rintro e w1 ⟨rfl, hb1⟩
         have HB1 := Aside0.mk (below_step (below_alloc (Below.refl w.heap.size w) (.cells #[.int .i64 kd, .int .i64 K, .int .i64 O, .int .i64 N, .slice A4 nx.length c4, .slice A5 out.length c5] 50)) hb1)
         clear hb1))
    try rw [Exit.noGoto_ret]
    refine bodyPost_ret (v := .tuple #[.slice none 0 0, .slice none 0 0, .int .i64 e1]) (by simp [results, Try.results86, go_sem]) rfl ⟨_, _, fun _ => False, rfl, ?_, HB1.out⟩
    exact ((Sp.Sep.nil _ _).nilRow (Kd.int .i64) 3).free _ (Kd.S_nil _ _ _ _ _) (fun _ hk => hk)
  obtain rfl : e1 = 0 := by omega
  have hr : rcF K N nx k 0 [0] [[]] = some (st0, ws0) := by
    rcases HH.out with h | h
    · exact absurd h.1 (by decide)
    · exact h.2
  clear HH q1
  have HR0 := Aside0.mk hr
  clear hr
  go_enter Try.func86, Try.ntmps86
  go_wp2
  go_step3
  go_wp2_with (first
    | (go_at_call 52; with_reducible refine (hm1 _ (below_alloc (Below.refl _ _) _)).mono ?_
       rintro e w1 ⟨rfl, hb1⟩
       have HD1 : Aside0 (Sp.Sep w.heap.size [Sp.blk w.heap.size #[.int .i64 kd, .int .i64 K, .int .i64 O, .int .i64 N, .slice A4 nx.length c4, .slice A5 out.length c5] 50] w1) := ⟨((Sp.Sep.nil w.heap.size w).alloc #[.int .i64 kd, .int .i64 K, .int .i64 O, .int .i64 N, .slice A4 nx.length c4, .slice A5 out.length c5] 50 (Nat.le_refl _)).low hb1⟩
       have HB1 := Aside0.mk (below_step (below_alloc (Below.refl w.heap.size w) (.cells #[.int .i64 kd, .int .i64 K, .int .i64 O, .int .i64 N, .slice A4 nx.length c4, .slice A5 out.length c5] 50)) hb1)
       have hp0 := Vm.map_new w1 (Value.int .i64) (Value.int .i64)
       clear hb1)
    | ((with_reducible refine Sp.gate_insert rfl ?_)
       refine Vm.wpList_map_put (Vm.int_keys Try.underlying3) Try.underlying110 rfl (.tmp 21) (.const (.int .i64 0)) (.const (.int .i64 0)) (.inl rfl) (0 : Int) (0 : Int) rfl rfl rfl rfl hp0 (by simp) (wf_of (by omega) (by omega)) ?_
       intro w6 hp6 hg6
       have HD6 : Aside0 (Sp.Sep w.heap.size [Sp.mp w1.heap.size (Value.int .i64) (Value.int .i64) (seenOf 0 [0]), Sp.blk w.heap.size #[.int .i64 kd, .int .i64 K, .int .i64 O, .int .i64 N, .slice A4 nx.length c4, .slice A5 out.length c5] 50] w6) := ⟨(HD1.out.newMap (Value.int .i64) (Value.int .i64) HB1.out.size).putMap 0 rfl hp6 hg6 (by simp; have := HB1.out.size; omega)⟩
       have HB6 := Aside0.mk ((below_alloc HB1.out (.map #[] 0)).grown hg6 (by simp; have := HB1.out.size; omega) (fun k hk => by injection hk with hk; rw [← hk]; exact HB1.out.size))
       clear hp6 hg6 hp0)
    | ((with_reducible refine gate_dst (N := 23) rfl ?_)
       refine Kd.R_lit (Kd.int .i64) (w0 := w) w.heap.size 3 rfl (N := 23) rfl (xs := [(0 : Int)]) (inner := [.int .i64 0]) (ok := fun _ => True) (okp := fun _ => True) ?hr ?hp (fun _ hk => hk) trivial HB6.out HB6.out.size (by simp) ?_
       (case hr => first | (go_simp; done) | (go_simp; rfl))
       (case hp => exact (Reps.one (show Kd.M (Kd.int .i64) _ _ _ (0 : Int) [.int .i64 0] from rfl) (Reps.none _ _)))
       intro v7 w7 ho hb hg hnew
       have HD7 := Aside0.mk (HD6.out.newRow rfl ho hg hnew HB6.out.size)
       have HB7 := Aside0.mk hb
       clear ho hb hg hnew)
    | ((with_reducible refine gate_dst (N := 24) rfl ?_)
       refine Kd.R_lit (Kd.int .i64) (w0 := w) w.heap.size 3 rfl (N := 24) rfl (xs := ([] : List Int)) (inner := []) (ok := fun _ => True) (okp := fun _ => True) ?hr ?hp (fun _ hk => hk) trivial HB7.out HB7.out.size (by simp) ?_
       (case hr => first | (go_simp; done) | (go_simp; rfl))
       (case hp => exact (Reps.none _ _))
       intro v8 w8 ho hb hg hnew
       have HD8 := Aside0.mk (HD7.out.newRow rfl ho hg hnew HB7.out.size)
       have HB8 := Aside0.mk hb
       obtain ⟨g8, c8, rfl⟩ := Sp.new_slice ho hnew
       clear ho hb hg hnew)
    | ((with_reducible refine gate_dst (N := 25) rfl ?_)
       refine Kd.R_lit (Kd.slice 3 (Kd.int .i64)) (w0 := w) w.heap.size 32 rfl (N := 25) rfl (xs := [([] : List Int)]) (inner := [.slice (some ⟨g8, 0, none⟩) 0 c8]) (ok := fun k => some k = (Value.slice (some ⟨g8, 0, none⟩) 0 c8).ownBlock ∨ w8.heap.size ≤ k) (okp := fun k => some k = (Value.slice (some ⟨g8, 0, none⟩) 0 c8).ownBlock) ?hr ?hp (fun _ hk => .inl hk) (.inr (Nat.le_refl _)) HB8.out HB8.out.size (by simp) ?_
       (case hr => first | (go_simp; done) | (go_simp; rfl))
       (case hp => exact (Reps.one (Kd.M_row (HD8.out.get 0 rfl)) (Reps.none _ _)))
       intro v9 w9 ho hb hg hnew
       obtain ⟨P9, hP9⟩ : ∃ P, P = (fun k => (some k = (Value.slice (some ⟨g8, 0, none⟩) 0 c8).ownBlock ∨ w8.heap.size ≤ k) ∧ k < w9.heap.size) := ⟨_, rfl⟩
       have HD9 : Aside0 (Sp.Sep w.heap.size [Sp.rows (Kd.slice 3 (Kd.int .i64)) 32 w.heap.size P9 v9 [[]], Sp.ints w.heap.size v7 [0], Sp.mp w1.heap.size (Value.int .i64) (Value.int .i64) (seenOf 0 [0]), Sp.blk w.heap.size #[.int .i64 kd, .int .i64 K, .int .i64 O, .int .i64 N, .slice A4 nx.length c4, .slice A5 out.length c5] 50] w9) := ⟨by rw [hP9]; exact HD8.out.rowsOf 0 rfl (Sp.S_single ho) hg HB8.out.size⟩
       have HB9 := Aside0.mk hb
       clear ho hb hg hnew hP9))
  clear HD1 HB1 HD6 HB6 HD7 HB7 HD8 HB8
  generalize w1.heap.size = mb at HD9 ⊢
  try go_step3
  go_wp2
  go_loopg [8, 2, 3] k (fun kq v8 v2 v3 wr => ∃ (i : Nat) (st : List Int) (ws : List (List Int)) (P : Nat → Prop), v8 = .int .i64 (i : Int) ∧ Aside0 (rcF K N nx kq i st ws = some (st0, ws0)) ∧ Aside0 (kq ≤ k) ∧ Aside0 (Sp.Sep w.heap.size [Sp.rows (Kd.slice 3 (Kd.int .i64)) 32 w.heap.size P v3 ws, Sp.ints w.heap.size v2 st, Sp.mp mb (Value.int .i64) (Value.int .i64) (seenOf 0 st), Sp.blk w.heap.size #[.int .i64 kd, .int .i64 K, .int .i64 O, .int .i64 N, .slice A4 nx.length c4, .slice A5 out.length c5] 50] wr) ∧ Aside0 (Below w.heap.size w wr) ∧ Aside0 (∀ t ∈ st, (Lit.int .i64 t).wf = true))
  case atStart => exact ⟨0, [0], [[]], P9, rfl, HR0, ⟨Nat.le_refl _⟩, HD9, HB9, ⟨by intro t ht; simp only [List.mem_singleton] at ht; rw [ht]; exact wf_of (by omega) (by omega)⟩⟩
  case round =>
    clear HD9 HB9 HR0
    obtain ⟨i, st, ws, P, rfl, HF, HK, HD, HB, HKE⟩ := hrel
    obtain ⟨Aw, cw, rfl⟩ := Kd.S_slice (HD.out.get 0 rfl)
    obtain ⟨As, cs, rfl⟩ := Kd.R_slice (HD.out.get 1 rfl)
    cases gk with
    | zero => exact absurd HF.out (by simp [rcF])
    | succ k1 =>
      have H := HF.out
      clear HF
      rw [rcF] at H
      by_cases e1 : i < st.length
      · rw [if_pos e1] at H
        by_cases eb : i < 1099511627776
        rotate_left
        · rw [if_neg eb] at H; exact absurd H (by simp)
        rw [if_pos eb] at H
        have HIB := Aside0.mk eb
        have hlt1 : (i : Int) < (st.length : Int) := by omega
        obtain ⟨s, hs⟩ : ∃ s, rd st i = s := ⟨_, rfl⟩
        rw [hs] at H
        cases hin : rcIn K N nx s i (List.range K.toNat) st ws with
        | none => rw [hin] at H; exact absurd H (by simp)
        | some ires =>
          rw [hin] at H
          have HIN := Aside0.mk hin
          have HNX := Aside0.mk H
          have HS := Aside0.mk (And.intro hs e1)
          clear hin H hs
          have hx1 : wr.cell? ⟨w.heap.size, 1, none⟩ = some (.int .i64 K) := (blk_cell (HD.out.get 3 rfl) 1).trans rfl
          go_wp2
          clear hx1
          go_loopw [34, 2, 3] (fun v34 v2 v3 wr2 => ∃ (x : Nat) (st1 : List Int) (ws1 : List (List Int)) (P1 : Nat → Prop), v34 = .int .i64 (x : Int) ∧ Aside0 (x ≤ K.toNat) ∧ Aside0 (rcIn K N nx s i ((List.range K.toNat).drop x) st1 ws1 = some ires) ∧ Aside0 (Sp.Sep w.heap.size [Sp.rows (Kd.slice 3 (Kd.int .i64)) 32 w.heap.size P1 v3 ws1, Sp.ints w.heap.size v2 st1, Sp.mp mb (Value.int .i64) (Value.int .i64) (seenOf 0 st1), Sp.blk w.heap.size #[.int .i64 kd, .int .i64 K, .int .i64 O, .int .i64 N, .slice A4 nx.length c4, .slice A5 out.length c5] 50] wr2) ∧ Aside0 (Below w.heap.size w wr2) ∧ Aside0 (∀ t ∈ st1, (Lit.int .i64 t).wf = true) ∧ Aside0 (rd st1 i = s ∧ i < st1.length)) (fun v34 _ _ _ => K.toNat - (intOf v34).toNat)
          case atStart => exact ⟨0, st, ws, P, rfl, ⟨by omega⟩, HIN, HD, HB, HKE, HS⟩
          case round =>
            clear HIN HD HB HKE HS hlt1 e1
            obtain ⟨x, st1, ws1, Pw, rfl, HX, HIN, HD, HB, HKE, HS⟩ := hrel
            obtain ⟨Aw, cw, rfl⟩ := Kd.S_slice (HD.out.get 0 rfl)
            obtain ⟨As, cs, rfl⟩ := Kd.R_slice (HD.out.get 1 rfl)
            by_cases hlt : x < K.toNat
            · have H := HIN.out
              have hd : (List.range K.toNat).drop x = x :: (List.range K.toNat).drop (x + 1) := by
                rw [List.drop_eq_getElem_cons (by simpa using hlt)]
                simp
              rw [hd] at H
              clear HIN hd
              simp only [rcIn] at H
              have hlt' : (x : Int) < K := by omega
              have HLT := Aside0.mk hlt
              by_cases e3 : (0 ≤ stI K s x ∧ stI K s x < (nx.length : Int)) ∧ x < 1099511627776
              · rw [if_pos e3] at H
                obtain ⟨⟨e3a, e3b⟩, e3c⟩ := e3
                have hxb : (x : Int) < 1099511627776 := by omega
                obtain ⟨adA, eA, hvA⟩ := Kd.at_int (Kd.C_below HAR.out HB.out) _ e3a e3b
                subst eA
                obtain ⟨adS, eS, hvS⟩ := Kd.at_int (Kd.R_reads' (HD.out.get 1 rfl)).2.2 (i : Int) (by omega) (by have := HS.out.2; omega)
                subst eS
                rw [HS.out.1] at hvS
                simp only [Int.toNat_natCast] at hvS
                generalize rd nx (stI K s x) = t at H hvA
                simp only [stI] at hvA e3a e3b
                obtain ⟨l0, hl0⟩ : ∃ l, ws1.getD i [] = l := ⟨_, rfl⟩
                rw [hl0] at H
                by_cases e4 : (0 ≤ t ∧ t < 1099511627776) ∧ st1.length < 1099511627776 ∧ ws1.length < 1099511627776 ∧ l0.length < 1099511627776 ∧ i < ws1.length
                · rw [if_pos e4] at H
                  obtain ⟨⟨e4a, e4b⟩, e4c, e4d, e4e, e4f⟩ := e4
                  have HT := Aside0.mk (wf_of e4a e4b)
                  have HL1 := Aside0.mk e4c
                  have HLS := Aside0.mk e4d
                  have HLW := Aside0.mk (show l0.length ≤ 17592186044415 by omega)
                  have HIW := Aside0.mk e4f
                  have HH := Aside0.mk H
                  have HL0 := Aside0.mk hl0
                  have his : (i : Int) < (st1.length : Int) := by have := HS.out.2; omega
                  have hiw : (i : Int) < (ws1.length : Int) := by omega
                  have hx4 : wr.cell? ⟨w.heap.size, 4, none⟩ = some (.slice (some adA) nx.length c4) := (blk_cell (HD.out.get 3 rfl) 4).trans rfl
                  have hx1 : wr.cell? ⟨w.heap.size, 1, none⟩ = some (.int .i64 K) := (blk_cell (HD.out.get 3 rfl) 1).trans rfl
                  clear H hl0 e4a e4b e4c e4d e4e e4f
                  go_wp2
                  refine start_ (n := 14) (S := fun w' => w'.cell? ⟨w.heap.size, 4, none⟩ = some (.slice (some adA) nx.length c4) ∧ w'.cell? ⟨w.heap.size, 1, none⟩ = some (.int .i64 K) ∧ w'.cell? (adS.add i) = some (.int .i64 s) ∧ w'.cell? (adA.add (wrap64 (wrap64 (s * K) + (x : Int))).toNat) = some (.int .i64 t)) (ds := []) #[false, false, false, false, false, false, false, false, false, false, false, false, false, false] (by kernel_rfl) rfl rfl ⟨hx4, hx1, hvS, hvA⟩ (fun hHeld => ?_)
                  refine with_tabW DC12.tab12 DC12.bits12 (fun HT_ HW_ => ?_)
                  have HDE := Aside0.mk (HD.out.low (below_drew1 (Below.refl wr.heap.size wr)))
                  have HBE := Aside0.mk (below_drew1 HB.out)
                  generalize wr.drew = we at HDE HBE hHeld ⊢
                  refine pure_ (i := 0) (N := (some 37)) (v := ?_) (a' := ?_) #[true, false, false, false, false, false, false, false, false, false, false, false, false, false] rfl rfl (any_of HT_.out (by kernel_rfl)) (fun _ _ _ h => h) (Or.inl ⟨by rfl, ?_⟩) ?_ ?_
                  rotate_left
                  · intro w'
                    go_simp
                    with_reducible rfl
                  rotate_left
                  · simp only [Act.put, List.setIfInBounds_toArray, List.set_cons_zero, List.set_cons_succ, i64_w, i32_w]
                    rfl
                  refine pure_ (i := 2) (N := (some 39)) (v := ?_) (a' := ?_) #[true, false, true, false, false, false, false, false, false, false, false, false, false, false] rfl rfl (any_of HT_.out (by kernel_rfl)) (fun _ _ _ h => h) (Or.inl ⟨by rfl, ?_⟩) ?_ ?_
                  rotate_left
                  · intro w'
                    go_simp
                    with_reducible rfl
                  rotate_left
                  · simp only [Act.put, List.setIfInBounds_toArray, List.set_cons_zero, List.set_cons_succ, i64_w, i32_w]
                    rfl
                  refine pure_ (i := 3) (N := (some 40)) (v := ?_) (a' := ?_) #[true, false, true, true, false, false, false, false, false, false, false, false, false, false] rfl rfl (any_of HT_.out (by kernel_rfl)) (fun _ _ _ h => h) (Or.inl ⟨by rfl, ?_⟩) ?_ ?_
                  rotate_left
                  · intro w'
                    go_simp
                    with_reducible rfl
                  rotate_left
                  · simp only [Act.put, List.setIfInBounds_toArray, List.set_cons_zero, List.set_cons_succ, i64_w, i32_w]
                    rfl
                  refine pure_ (i := 4) (N := (some 41)) (v := ?_) (a' := ?_) #[true, false, true, true, true, false, false, false, false, false, false, false, false, false] rfl rfl (any_of HT_.out (by kernel_rfl)) (fun _ _ _ h => h) (Or.inl ⟨by rfl, ?_⟩) ?_ ?_
                  rotate_left
                  · intro w'
                    go_simp
                    with_reducible rfl
                  rotate_left
                  · simp only [Act.put, List.setIfInBounds_toArray, List.set_cons_zero, List.set_cons_succ, i64_w, i32_w]
                    rfl
                  refine pure_ (i := 6) (N := (some 43)) (v := ?_) (a' := ?_) #[true, false, true, true, true, false, true, false, false, false, false, false, false, false] rfl rfl (any_of HT_.out (by kernel_rfl)) (fun _ _ _ h => h) (Or.inl ⟨by rfl, ?_⟩) ?_ ?_
                  rotate_left
                  · intro w'
                    go_simp
                    with_reducible rfl
                  rotate_left
                  · simp only [Act.put, List.setIfInBounds_toArray, List.set_cons_zero, List.set_cons_succ, i64_w, i32_w]
                    rfl
                  refine pure_ (i := 9) (N := (some 46)) (v := ?_) (a' := ?_) #[true, false, true, true, true, false, true, false, false, true, false, false, false, false] rfl rfl (any_of HT_.out (by kernel_rfl)) (fun _ _ _ h => h) (Or.inl ⟨by rfl, ?_⟩) ?_ ?_
                  rotate_left
                  · intro w'
                    go_simp
                    with_reducible rfl
                  rotate_left
                  · simp only [Act.put, List.setIfInBounds_toArray, List.set_cons_zero, List.set_cons_succ, i64_w, i32_w]
                    rfl
                  refine take_ (i := 1) (N := (some 38)) (v := ?_) (a' := ?_) #[true, true, true, true, true, false, true, false, false, true, false, false, false, false] rfl rfl (take_ofW HT_.out HW_.out (by kernel_rfl)) (fun _ _ _ h => h) (Or.inl ⟨by rfl, ?_⟩) hHeld ?_ ?_
                  rotate_left
                  · rintro w' ⟨s0, s1, s2, s3⟩
                    go_simp
                    with_reducible rfl
                  rotate_left
                  · simp only [Act.put, List.setIfInBounds_toArray, List.set_cons_zero, List.set_cons_succ, i64_w, i32_w]
                    rfl
                  refine take_ (i := 5) (N := (some 42)) (v := ?_) (a' := ?_) #[true, true, true, true, true, true, true, false, false, true, false, false, false, false] rfl rfl (take_ofW HT_.out HW_.out (by kernel_rfl)) (fun _ _ _ h => h) (Or.inl ⟨by rfl, ?_⟩) hHeld ?_ ?_
                  rotate_left
                  · rintro w' ⟨s0, s1, s2, s3⟩
                    go_simp
                    with_reducible rfl
                  rotate_left
                  · simp only [Act.put, List.setIfInBounds_toArray, List.set_cons_zero, List.set_cons_succ, i64_w, i32_w]
                    rfl
                  refine take_ (i := 7) (N := (some 44)) (v := ?_) (a' := ?_) #[true, true, true, true, true, true, true, true, false, true, false, false, false, false] rfl rfl (take_ofW HT_.out HW_.out (by kernel_rfl)) (fun _ _ _ h => h) (Or.inl ⟨by rfl, ?_⟩) hHeld ?_ ?_
                  rotate_left
                  · rintro w' ⟨s0, s1, s2, s3⟩
                    go_simp
                    with_reducible rfl
                  rotate_left
                  · simp only [Act.put, List.setIfInBounds_toArray, List.set_cons_zero, List.set_cons_succ, i64_w, i32_w]
                    rfl
                  refine pure_ (i := 8) (N := (some 45)) (v := ?_) (a' := ?_) #[true, true, true, true, true, true, true, true, true, true, false, false, false, false] rfl rfl (any_of HT_.out (by kernel_rfl)) (fun _ _ _ h => h) (Or.inl ⟨by rfl, ?_⟩) ?_ ?_
                  rotate_left
                  · intro w'
                    go_simp
                    with_reducible rfl
                  rotate_left
                  · simp only [Act.put, List.setIfInBounds_toArray, List.set_cons_zero, List.set_cons_succ, i64_w, i32_w]
                    rfl
                  refine pure_ (i := 10) (N := (some 47)) (v := ?_) (a' := ?_) #[true, true, true, true, true, true, true, true, true, true, true, false, false, false] rfl rfl (any_of HT_.out (by kernel_rfl)) (fun _ _ _ h => h) (Or.inl ⟨by rfl, ?_⟩) ?_ ?_
                  rotate_left
                  · intro w'
                    go_simp
                    with_reducible rfl
                  rotate_left
                  · simp only [Act.put, List.setIfInBounds_toArray, List.set_cons_zero, List.set_cons_succ, i64_w, i32_w]
                    rfl
                  refine pure_ (i := 11) (N := (some 48)) (v := ?_) (a' := ?_) #[true, true, true, true, true, true, true, true, true, true, true, true, false, false] rfl rfl (any_of HT_.out (by kernel_rfl)) (fun _ _ _ h => h) (Or.inl ⟨by rfl, ?_⟩) ?_ ?_
                  rotate_left
                  · intro w'
                    go_simp
                    with_reducible rfl
                  rotate_left
                  · simp only [Act.put, List.setIfInBounds_toArray, List.set_cons_zero, List.set_cons_succ, i64_w, i32_w]
                    rfl
                  refine take_ (i := 12) (N := (some 49)) (v := ?_) (a' := ?_) #[true, true, true, true, true, true, true, true, true, true, true, true, true, false] rfl rfl (take_ofW HT_.out HW_.out (by kernel_rfl)) (fun _ _ _ h => h) (Or.inl ⟨by rfl, ?_⟩) hHeld ?_ ?_
                  rotate_left
                  · rintro w' ⟨s0, s1, s2, s3⟩
                    go_simp
                    with_reducible rfl
                  rotate_left
                  · simp only [Act.put, List.setIfInBounds_toArray, List.set_cons_zero, List.set_cons_succ, i64_w, i32_w]
                    rfl
                  refine pure_ (i := 13) (N := (some 10)) (v := ?_) (a' := ?_) #[true, true, true, true, true, true, true, true, true, true, true, true, true, true] rfl rfl (any_of HT_.out (by kernel_rfl)) (fun _ _ _ h => h) (Or.inl ⟨by rfl, ?_⟩) ?_ ?_
                  rotate_left
                  · intro w'
                    go_simp
                    with_reducible rfl
                  rotate_left
                  · simp only [Act.put, List.setIfInBounds_toArray, List.set_cons_zero, List.set_cons_succ, i64_w, i32_w]
                    rfl
                  refine done_ (done_of HT_.out (by kernel_rfl)) ?_
                  clear hHeld hx4 hx1 hvS hvA HD HB e3a e3b
                  have hlk := Vm.map_lookup (Vm.int_keys Try.underlying3) Try.underlying110 zeroI (HDE.out.get 2 rfl) (fun p hp => HKE.out _ (seen_key hp)) HT.out true
                  by_cases e5 : t ∈ st1
                  · have H := HH.out
                    rw [if_pos e5] at H
                    have HH2 := Aside0.mk H
                    obtain ⟨v, hgv⟩ := seen_some (n := 0) e5
                    rw [hgv] at hlk
                    simp only [Option.map_some, Option.getD_some, Option.isSome_some, if_true] at hlk
                    clear H HH hgv e5
                    go_wp2
                    clear hlk
                    go_roundw
                    case rel => exact ⟨x + 1, st1, ws1, Pw, by go_num, ⟨by have := HLT.out; omega⟩, HH2, HDE, HBE, HKE, HS⟩
                    case measure => have := HLT.out; simp [intOf]; omega
                  · have H := HH.out
                    rw [if_neg e5] at H
                    have HH2 := Aside0.mk H
                    rw [seen_none e5] at hlk
                    simp only [Option.map_none, Option.getD_none, Option.isSome_none, if_true] at hlk
                    have HE5 := Aside0.mk e5
                    clear H HH e5
                    have H := HH2.out
                    clear HH2
                    by_cases e6 : (st1.length : Int) + 1 = N
                    · rw [if_pos e6] at H
                      simp only [Option.some.injEq] at H
                      subst H
                      have hr := HNX.out
                      simp only [Option.some.injEq, Prod.mk.injEq] at hr
                      obtain ⟨rfl, rfl⟩ := hr
                      have e6b : ((st1.length : Int) + 1 == N) = true := by simpa using e6
                      have e6c : (((st1.length + 1 : Nat) : Int) == N) = true := by simpa using e6
                      go_wp2_with (first
                        | ((with_reducible refine Sp.gate_update rfl ?_)
                           refine Vm.wpList_map_put (Vm.int_keys Try.underlying3) Try.underlying110 rfl (.tmp 57) (.tmp 58) (.tmp 60) (.inr rfl) t (st1.length : Int) rfl rfl rfl rfl (HDE.out.get 2 rfl) (fun p hp => HKE.out _ (seen_key hp)) HT.out ?_
                           intro w6 hp6 hg6
                           rw [seen0_put HE5.out] at hp6
                           have HD6 := Aside0.mk (HDE.out.putMap 2 rfl hp6 hg6 HBE.out.size)
                           have HB6 := Aside0.mk (HDE.out.belowGrown (i := 2) rfl (fun k hk => by injection hk with hk; exact hk.symm) HBE.out HBE.out.size hg6)
                           clear hp6 hg6 hlk)
                        | ((with_reducible refine gate_builtin (b := .append) (xs := #[.tmp 61, .tmp 63]) rfl ?_)
                           at_builtin
                           refine Kd.R_append (Kd.int .i64) (w0 := w) w.heap.size rfl (.tmp 61) (.tmp 63) 32 3 (.int .i64 0) 8 rfl Try.underlying32 infoI rfl (by decide) (by omega) (.slice (some adS) st1.length cs) st1 t [.int .i64 t] (fun _ => True) (fun _ => False) rfl rfl ?aP (fun _ hk => hk.elim) ?aF ?aO ?aB ?aS ?aL ?_
                           (case aP => exact rfl)
                           (case aB => exact HB6.out)
                           (case aF => exact (fun _ _ => trivial))
                           (case aO => exact Kd.R_mono (HD6.out.get 1 rfl) (fun _ _ => trivial))
                           (case aS => exact HB6.out.size)
                           (case aL => have := HL1.out; omega)
                           intro v8 w8 ho hb hg hat
                           obtain ⟨As8, cs8, hq⟩ := Kd.R_slice ho
                           rw [show (st1 ++ [t]).length = st1.length + 1 from by simp] at hq
                           subst hq
                           have HD8 : Aside0 (Sp.Sep w.heap.size [Sp.rows (Kd.slice 3 (Kd.int .i64)) 32 w.heap.size Pw (.slice Aw ws1.length cw) ws1, Sp.ints w.heap.size (.slice As8 (st1.length + 1) cs8) (st1 ++ [t]), Sp.mp mb (Value.int .i64) (Value.int .i64) (seenOf 0 (st1 ++ [t])), Sp.blk w.heap.size #[.int .i64 kd, .int .i64 K, .int .i64 O, .int .i64 N, .slice (some adA) nx.length c4, .slice A5 out.length c5] 50] w8) := ⟨HD6.out.app 1 rfl rfl ho hg hat HB6.out.size⟩
                           have HB8 := Aside0.mk hb
                           have hcw := Kd.C_get (Kd.S_reads' (HD8.out.get 0 rfl)).2.2 ([] : List Int) (i : Int) (by omega) (by have := HIW.out; omega)
                           obtain ⟨adW, c8, eW, hsz, hk8, hc8⟩ := hcw
                           clear hsz
                           subst eW
                           simp only [Int.toNat_natCast, HL0.out] at hk8 hc8
                           obtain ⟨AI, ci, rfl, hci, hCW⟩ := hk8
                           have hvW := hc8 0 _ rfl
                           simp only [Kd.slice, Nat.mul_one, Nat.add_zero] at hvW
                           have HCW := Aside0.mk hCW
                           have HCI := Aside0.mk hci
                           clear hc8 hCW hci HD6 HB6 HDE HBE
                           clear ho hb hg hat)
                        | (go_at_call 45; with_reducible refine (Clone_calls AI ci l0 _ HCW.out HCI.out HLW.out).mono ?_
                           rintro e w9 ⟨v9, rfl, hR9, hb9⟩
                           obtain ⟨Q9, q9, rfl⟩ := Kd.R_slice hR9
                           have HD9 := Aside0.mk (HD8.out.addRow rfl hR9 hb9 HB8.out.size)
                           have HB9 := Aside0.mk (below_then HB8.out HB8.out.size hb9)
                           clear hR9 hb9 HCW HCI hvW HD8 HB8)
                        | ((with_reducible refine gate_builtin (b := .append) (xs := #[.tmp 70, .tmp 72]) rfl ?_)
                           at_builtin
                           refine Kd.R_append (Kd.int .i64) (w0 := w) w.heap.size rfl (.tmp 70) (.tmp 72) 32 3 (.int .i64 0) 8 rfl Try.underlying32 infoI rfl (by decide) (by omega) (.slice Q9 l0.length q9) l0 (x : Int) [.int .i64 (x : Int)] (fun _ => True) (fun _ => False) rfl rfl ?aP (fun _ hk => hk.elim) ?aF ?aO ?aB ?aS ?aL ?_
                           (case aP => exact rfl)
                           (case aB => exact HB9.out)
                           (case aF => exact (fun _ _ => trivial))
                           (case aO => exact Kd.R_mono (HD9.out.get 0 rfl) (fun _ _ => trivial))
                           (case aS => exact HB9.out.size)
                           (case aL => have := HLW.out; omega)
                           intro v10 w10 ho hb hg hat
                           obtain ⟨Q10, q10, hq⟩ := Kd.R_slice ho
                           rw [show (l0 ++ [(x : Int)]).length = l0.length + 1 from by simp] at hq
                           subst hq
                           have HD10 : Aside0 (Sp.Sep w.heap.size [Sp.ints w.heap.size (.slice Q10 (l0.length + 1) q10) (l0 ++ [(x : Int)]), Sp.rows (Kd.slice 3 (Kd.int .i64)) 32 w.heap.size Pw (.slice (some adW) ws1.length cw) ws1, Sp.ints w.heap.size (.slice As8 (st1.length + 1) cs8) (st1 ++ [t]), Sp.mp mb (Value.int .i64) (Value.int .i64) (seenOf 0 (st1 ++ [t])), Sp.blk w.heap.size #[.int .i64 kd, .int .i64 K, .int .i64 O, .int .i64 N, .slice (some adA) nx.length c4, .slice A5 out.length c5] 50] w10) := ⟨HD9.out.app 0 rfl rfl ho hg hat HB9.out.size⟩
                           have HB10 := Aside0.mk hb
                           clear ho hb hg hat HD9 HB9)
                        | ((with_reducible refine gate_builtin (b := .append) (xs := #[.tmp 65, .tmp 74]) rfl ?_)
                           at_builtin
                           refine Kd.S_append (Kd.slice 3 (Kd.int .i64)) (w0 := w) w.heap.size rfl (.tmp 65) (.tmp 74) 41 32 (.slice none 0 0) 24 rfl Try.underlying41 infoL rfl (by decide) (by omega) (.slice (some adW) ws1.length cw) ws1 (l0 ++ [(x : Int)]) [.slice Q10 (l0.length + 1) q10] (fun k => Pw k ∨ some k = (Value.slice Q10 (l0.length + 1) q10).ownBlock ∨ w10.heap.size ≤ k) (fun k => some k = (Value.slice Q10 (l0.length + 1) q10).ownBlock) rfl rfl ?aP ?aK ?aF ?aO ?aB ?aS ?aL ?_
                           (case aP => exact Kd.M_row (HD10.out.get 0 rfl))
                           (case aK => exact (fun k hk => ⟨.inr (.inl hk), fun he => HD10.out.apart (i := 0) (j := 1) rfl rfl (by decide) hk ((Kd.S_R (HD10.out.get 1 rfl)).1 k he.symm)⟩))
                           (case aB => exact HB10.out)
                           (case aF => exact (fun k hk => .inr (.inr hk)))
                           (case aO => exact Kd.S_mono (HD10.out.get 1 rfl) (fun k hk => ⟨.inl hk, fun h0 => HD10.out.apart (i := 0) (j := 1) rfl rfl (by decide) h0 hk⟩))
                           (case aS => exact HB10.out.size)
                           (case aL => have := HLS.out; omega)
                           intro v11 w11 ho hb hg hat
                           obtain ⟨Q11, q11, hq⟩ := Kd.S_slice ho
                           rw [show (ws1 ++ [l0 ++ [(x : Int)]]).length = ws1.length + 1 from by simp] at hq
                           subst hq
                           obtain ⟨P11, hP11⟩ : ∃ P, P = (fun k => (Pw k ∨ some k = (Value.slice Q10 (l0.length + 1) q10).ownBlock ∨ w10.heap.size ≤ k) ∧ k < w11.heap.size) := ⟨_, rfl⟩
                           have HD11 : Aside0 (Sp.Sep w.heap.size [Sp.rows (Kd.slice 3 (Kd.int .i64)) 32 w.heap.size P11 (.slice Q11 (ws1.length + 1) q11) (ws1 ++ [l0 ++ [(x : Int)]]), Sp.ints w.heap.size (.slice As8 (st1.length + 1) cs8) (st1 ++ [t]), Sp.mp mb (Value.int .i64) (Value.int .i64) (seenOf 0 (st1 ++ [t])), Sp.blk w.heap.size #[.int .i64 kd, .int .i64 K, .int .i64 O, .int .i64 N, .slice (some adA) nx.length c4, .slice A5 out.length c5] 50] w11) := ⟨by rw [hP11]; exact Sp.Sep.tail (r := Sp.none_) (HD10.out.appRows 1 0 rfl rfl (by decide) ho hg HB10.out.size)⟩
                           clear hP11
                           have HB11 := Aside0.mk hb
                           have hx3 : w11.cell? ⟨w.heap.size, 3, none⟩ = some (.int .i64 N) := (blk_cell (HD11.out.get 3 rfl) 3).trans rfl
                           clear ho hb hg hat HD10 HB10))
                      try simp only [Exit.inBlock, Exit.then]
                      try rw [Exit.noGoto_ret]
                      refine bodyPost_ret (v := .tuple #[_, _, .int .i64 0]) (by simp [results, Try.results86, go_sem]) rfl ⟨_, _, _, rfl, HD11.out.sub (List.Sublist.cons_cons _ (List.Sublist.cons_cons _ (List.nil_sublist _))), HB11.out⟩
                    · rw [if_neg e6] at H
                      have HH3 := Aside0.mk H
                      have e6b : ((st1.length : Int) + 1 == N) = false := by simpa using e6
                      have e6c : (((st1.length + 1 : Nat) : Int) == N) = false := by simpa using e6
                      clear H e6
                      go_wp2_with (first
                        | ((with_reducible refine Sp.gate_update rfl ?_)
                           refine Vm.wpList_map_put (Vm.int_keys Try.underlying3) Try.underlying110 rfl (.tmp 57) (.tmp 58) (.tmp 60) (.inr rfl) t (st1.length : Int) rfl rfl rfl rfl (HDE.out.get 2 rfl) (fun p hp => HKE.out _ (seen_key hp)) HT.out ?_
                           intro w6 hp6 hg6
                           rw [seen0_put HE5.out] at hp6
                           have HD6 := Aside0.mk (HDE.out.putMap 2 rfl hp6 hg6 HBE.out.size)
                           have HB6 := Aside0.mk (HDE.out.belowGrown (i := 2) rfl (fun k hk => by injection hk with hk; exact hk.symm) HBE.out HBE.out.size hg6)
                           clear hp6 hg6 hlk)
                        | ((with_reducible refine gate_builtin (b := .append) (xs := #[.tmp 61, .tmp 63]) rfl ?_)
                           at_builtin
                           refine Kd.R_append (Kd.int .i64) (w0 := w) w.heap.size rfl (.tmp 61) (.tmp 63) 32 3 (.int .i64 0) 8 rfl Try.underlying32 infoI rfl (by decide) (by omega) (.slice (some adS) st1.length cs) st1 t [.int .i64 t] (fun _ => True) (fun _ => False) rfl rfl ?aP (fun _ hk => hk.elim) ?aF ?aO ?aB ?aS ?aL ?_
                           (case aP => exact rfl)
                           (case aB => exact HB6.out)
                           (case aF => exact (fun _ _ => trivial))
                           (case aO => exact Kd.R_mono (HD6.out.get 1 rfl) (fun _ _ => trivial))
                           (case aS => exact HB6.out.size)
                           (case aL => have := HL1.out; omega)
                           intro v8 w8 ho hb hg hat
                           obtain ⟨As8, cs8, hq⟩ := Kd.R_slice ho
                           rw [show (st1 ++ [t]).length = st1.length + 1 from by simp] at hq
                           subst hq
                           have HD8 : Aside0 (Sp.Sep w.heap.size [Sp.rows (Kd.slice 3 (Kd.int .i64)) 32 w.heap.size Pw (.slice Aw ws1.length cw) ws1, Sp.ints w.heap.size (.slice As8 (st1.length + 1) cs8) (st1 ++ [t]), Sp.mp mb (Value.int .i64) (Value.int .i64) (seenOf 0 (st1 ++ [t])), Sp.blk w.heap.size #[.int .i64 kd, .int .i64 K, .int .i64 O, .int .i64 N, .slice (some adA) nx.length c4, .slice A5 out.length c5] 50] w8) := ⟨HD6.out.app 1 rfl rfl ho hg hat HB6.out.size⟩
                           have HB8 := Aside0.mk hb
                           have hcw := Kd.C_get (Kd.S_reads' (HD8.out.get 0 rfl)).2.2 ([] : List Int) (i : Int) (by omega) (by have := HIW.out; omega)
                           obtain ⟨adW, c8, eW, hsz, hk8, hc8⟩ := hcw
                           clear hsz
                           subst eW
                           simp only [Int.toNat_natCast, HL0.out] at hk8 hc8
                           obtain ⟨AI, ci, rfl, hci, hCW⟩ := hk8
                           have hvW := hc8 0 _ rfl
                           simp only [Kd.slice, Nat.mul_one, Nat.add_zero] at hvW
                           have HCW := Aside0.mk hCW
                           have HCI := Aside0.mk hci
                           clear hc8 hCW hci HD6 HB6 HDE HBE
                           clear ho hb hg hat)
                        | (go_at_call 45; with_reducible refine (Clone_calls AI ci l0 _ HCW.out HCI.out HLW.out).mono ?_
                           rintro e w9 ⟨v9, rfl, hR9, hb9⟩
                           obtain ⟨Q9, q9, rfl⟩ := Kd.R_slice hR9
                           have HD9 := Aside0.mk (HD8.out.addRow rfl hR9 hb9 HB8.out.size)
                           have HB9 := Aside0.mk (below_then HB8.out HB8.out.size hb9)
                           clear hR9 hb9 HCW HCI hvW HD8 HB8)
                        | ((with_reducible refine gate_builtin (b := .append) (xs := #[.tmp 70, .tmp 72]) rfl ?_)
                           at_builtin
                           refine Kd.R_append (Kd.int .i64) (w0 := w) w.heap.size rfl (.tmp 70) (.tmp 72) 32 3 (.int .i64 0) 8 rfl Try.underlying32 infoI rfl (by decide) (by omega) (.slice Q9 l0.length q9) l0 (x : Int) [.int .i64 (x : Int)] (fun _ => True) (fun _ => False) rfl rfl ?aP (fun _ hk => hk.elim) ?aF ?aO ?aB ?aS ?aL ?_
                           (case aP => exact rfl)
                           (case aB => exact HB9.out)
                           (case aF => exact (fun _ _ => trivial))
                           (case aO => exact Kd.R_mono (HD9.out.get 0 rfl) (fun _ _ => trivial))
                           (case aS => exact HB9.out.size)
                           (case aL => have := HLW.out; omega)
                           intro v10 w10 ho hb hg hat
                           obtain ⟨Q10, q10, hq⟩ := Kd.R_slice ho
                           rw [show (l0 ++ [(x : Int)]).length = l0.length + 1 from by simp] at hq
                           subst hq
                           have HD10 : Aside0 (Sp.Sep w.heap.size [Sp.ints w.heap.size (.slice Q10 (l0.length + 1) q10) (l0 ++ [(x : Int)]), Sp.rows (Kd.slice 3 (Kd.int .i64)) 32 w.heap.size Pw (.slice (some adW) ws1.length cw) ws1, Sp.ints w.heap.size (.slice As8 (st1.length + 1) cs8) (st1 ++ [t]), Sp.mp mb (Value.int .i64) (Value.int .i64) (seenOf 0 (st1 ++ [t])), Sp.blk w.heap.size #[.int .i64 kd, .int .i64 K, .int .i64 O, .int .i64 N, .slice (some adA) nx.length c4, .slice A5 out.length c5] 50] w10) := ⟨HD9.out.app 0 rfl rfl ho hg hat HB9.out.size⟩
                           have HB10 := Aside0.mk hb
                           clear ho hb hg hat HD9 HB9)
                        | ((with_reducible refine gate_builtin (b := .append) (xs := #[.tmp 65, .tmp 74]) rfl ?_)
                           at_builtin
                           refine Kd.S_append (Kd.slice 3 (Kd.int .i64)) (w0 := w) w.heap.size rfl (.tmp 65) (.tmp 74) 41 32 (.slice none 0 0) 24 rfl Try.underlying41 infoL rfl (by decide) (by omega) (.slice (some adW) ws1.length cw) ws1 (l0 ++ [(x : Int)]) [.slice Q10 (l0.length + 1) q10] (fun k => Pw k ∨ some k = (Value.slice Q10 (l0.length + 1) q10).ownBlock ∨ w10.heap.size ≤ k) (fun k => some k = (Value.slice Q10 (l0.length + 1) q10).ownBlock) rfl rfl ?aP ?aK ?aF ?aO ?aB ?aS ?aL ?_
                           (case aP => exact Kd.M_row (HD10.out.get 0 rfl))
                           (case aK => exact (fun k hk => ⟨.inr (.inl hk), fun he => HD10.out.apart (i := 0) (j := 1) rfl rfl (by decide) hk ((Kd.S_R (HD10.out.get 1 rfl)).1 k he.symm)⟩))
                           (case aB => exact HB10.out)
                           (case aF => exact (fun k hk => .inr (.inr hk)))
                           (case aO => exact Kd.S_mono (HD10.out.get 1 rfl) (fun k hk => ⟨.inl hk, fun h0 => HD10.out.apart (i := 0) (j := 1) rfl rfl (by decide) h0 hk⟩))
                           (case aS => exact HB10.out.size)
                           (case aL => have := HLS.out; omega)
                           intro v11 w11 ho hb hg hat
                           obtain ⟨Q11, q11, hq⟩ := Kd.S_slice ho
                           rw [show (ws1 ++ [l0 ++ [(x : Int)]]).length = ws1.length + 1 from by simp] at hq
                           subst hq
                           obtain ⟨P11, hP11⟩ : ∃ P, P = (fun k => (Pw k ∨ some k = (Value.slice Q10 (l0.length + 1) q10).ownBlock ∨ w10.heap.size ≤ k) ∧ k < w11.heap.size) := ⟨_, rfl⟩
                           have HD11 : Aside0 (Sp.Sep w.heap.size [Sp.rows (Kd.slice 3 (Kd.int .i64)) 32 w.heap.size P11 (.slice Q11 (ws1.length + 1) q11) (ws1 ++ [l0 ++ [(x : Int)]]), Sp.ints w.heap.size (.slice As8 (st1.length + 1) cs8) (st1 ++ [t]), Sp.mp mb (Value.int .i64) (Value.int .i64) (seenOf 0 (st1 ++ [t])), Sp.blk w.heap.size #[.int .i64 kd, .int .i64 K, .int .i64 O, .int .i64 N, .slice (some adA) nx.length c4, .slice A5 out.length c5] 50] w11) := ⟨by rw [hP11]; exact Sp.Sep.tail (r := Sp.none_) (HD10.out.appRows 1 0 rfl rfl (by decide) ho hg HB10.out.size)⟩
                           clear hP11
                           have HB11 := Aside0.mk hb
                           have hx3 : w11.cell? ⟨w.heap.size, 3, none⟩ = some (.int .i64 N) := (blk_cell (HD11.out.get 3 rfl) 3).trans rfl
                           clear ho hb hg hat HD10 HB10))
                      go_roundw
                      case rel => exact ⟨x + 1, st1 ++ [t], ws1 ++ [l0 ++ [(x : Int)]], P11, by go_num, ⟨by have := HLT.out; omega⟩, HH3, by simpa using HD11, HB11, ⟨by
                        intro q hq
                        rcases List.mem_append.1 hq with hq | hq
                        · exact HKE.out q hq
                        · simp only [List.mem_singleton] at hq; rw [hq]; exact HT.out⟩, ⟨by
                        refine ⟨?_, by have := HS.out.2; simp only [List.length_append, List.length_singleton]; omega⟩
                        rw [← HS.out.1]
                        exact rd_append_left HS.out.2⟩⟩
                      case measure => have := HLT.out; simp [intOf]; omega
                · rw [if_neg e4] at H; exact absurd H (by simp)
              · rw [if_neg e3] at H; exact absurd H (by simp)
            · have H := HIN.out
              rw [List.drop_of_length_le (by simp; omega)] at H
              simp only [rcIn, Option.some.injEq] at H
              subst H
              have hlt' : ¬ ((x : Int) < K) := by omega
              have hr := HNX.out
              simp only [] at hr
              have hib : (i : Int) < 1099511627776 := by have := HIB.out; omega
              go_wp2
              go_roundg k1
              case rel => exact ⟨i + 1, st1, ws1, Pw, by go_num, ⟨hr⟩, ⟨by have := HK.out; omega⟩, HD, HB, HKE⟩
              case measure => have := HK.out; omega
      · rw [if_neg e1] at H
        have hlt1 : ¬ ((i : Int) < (st.length : Int)) := by omega
        simp only [Option.some.injEq, Prod.mk.injEq] at H
        obtain ⟨rfl, rfl⟩ := H
        go_wp2
        try simp only [Exit.inBlock, Exit.then]
        try rw [Exit.noGoto_ret]
        refine bodyPost_ret (v := .tuple #[_, _, .int .i64 0]) (by simp [results, Try.results86, go_sem]) rfl ⟨_, _, _, rfl, HD.out.sub (List.Sublist.cons_cons _ (List.Sublist.cons_cons _ (List.nil_sublist _))), HB.out⟩
end Go.Proofs.Ytocejofjmmoeaaa.X
end

section
namespace Go.Proofs.Ytocejofjmmoeaaa.X
open Go.RowKit Go.Proofs.YtocejofjmmoeaaaW.PrintWords Go.Proofs.YtocejofjmmoeaaaW.PrintLast Go.Proofs.YtocejofjmmoeaaaW.PrintMore
open Go.Proofs.Ytocejofjmmoeaaa
def rcBig : Nat := 200000
end Go.Proofs.Ytocejofjmmoeaaa.X
end
