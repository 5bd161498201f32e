/- Texts of the statement SampleSays, one behind the other: Go functions as Lean functions, the machine's calls, the plain law. -/
import Derived.Test.YtocejofjmmoeaaaMSampleSays4
import Derived.Test.YtocejofjmmoeaaaMSampleSays10
import Derived.Carry
import Derived.Deep.WholeRow
set_option linter.unusedVariables false
set_option linter.unusedSimpArgs false
section
namespace Go.Proofs.Ytocejofjmmoeaaa.X
open Go.RowKit Go.Proofs.YtocejofjmmoeaaaW.PrintWords Go.Proofs.YtocejofjmmoeaaaW.PrintLast Go.Proofs.YtocejofjmmoeaaaW.PrintMore
open Go.Proofs.Ytocejofjmmoeaaa
theorem infoL : (Try.prog.info? 32).map (fun i => (i.zero, i.size, i.bytes)) = some (some (.slice none 0 0), 1, 24) := by kernel_rfl
theorem zeroI (w : World) : (zeroValue 3).run Try.prog w = .ok (.int .i64 0) w := (zero_of_info (show (Try.prog.info? 3).map (fun i => (i.zero, i.size)) = some (some (.int .i64 0), 1) by kernel_rfl)).1 w
def stI (K s : Int) (x : Nat) : Int := wrap64 (wrap64 (s * K) + (x : Int))
def seenOf (n : Nat) : List Int → List (Int × Int)
  | [] => []
  | t :: r => (t, (n : Int)) :: seenOf (n + 1) r
theorem seen_key {n : Nat} {st : List Int} {p : Int × Int} (h : p ∈ seenOf n st) : p.1 ∈ st := by
  induction st generalizing n with
  | nil => simp [seenOf] at h
  | cons t r ih =>
    simp only [seenOf, List.mem_cons] at h
    rcases h with rfl | h
    · simp
    · exact List.mem_cons_of_mem _ (ih h)
theorem seen_some {n : Nat} {st : List Int} {t : Int} (h : t ∈ st) : ∃ v, Vm.getK (seenOf n st) t = some v := by
  induction st generalizing n with
  | nil => cases h
  | cons u r ih =>
    rw [seenOf, Vm.getK]
    by_cases e : u = t
    · exact ⟨_, if_pos e⟩
    · rw [if_neg e]
      exact ih (by rcases List.mem_cons.1 h with h | h; exact absurd h.symm e; exact h)
theorem seen_none {n : Nat} {st : List Int} {t : Int} (h : t ∉ st) : Vm.getK (seenOf n st) t = none := Vm.getK_none (fun p hp e => h (by rw [← e]; exact seen_key hp))
theorem seen_put {n : Nat} {st : List Int} {t : Int} (h : t ∉ st) : Vm.putK (seenOf n st) t ((n + st.length : Nat) : Int) = seenOf n (st ++ [t]) := by
  rw [Vm.putK_new (fun p hp e => h (by rw [← e]; exact seen_key hp))]
  clear h
  induction st generalizing n with
  | nil => simp [seenOf]
  | cons u r ih =>
    rw [List.cons_append, seenOf, seenOf, List.cons_append, ← ih (n := n + 1)]
    simp only [List.length_cons]
    congr 4
    omega
theorem seen0_put {st : List Int} {t : Int} (h : t ∉ st) : Vm.putK (seenOf 0 st) t (st.length : Int) = seenOf 0 (st ++ [t]) := by
  have := seen_put (n := 0) h
  rw [Nat.zero_add] at this
  exact this
theorem rd_append_left {l m : List Int} {i : Nat} (h : i < l.length) : rd (l ++ m) (i : Int) = rd l (i : Int) := by
  simp only [rd, Int.toNat_natCast, List.getD_eq_getElem?_getD, List.getElem?_append_left h]
theorem wf_of {t : Int} (h0 : 0 ≤ t) (h1 : t < 1099511627776) : (Lit.int .i64 t).wf = true := by
  simp [Lit.wf, IntKind.min, IntKind.max, IntKind.signed, IntKind.bits]
  omega
def rcIn (K N : Int) (nx : List Int) (s : Int) (i : Nat) : List Nat → List Int → List (List Int) → Option (Bool × List Int × List (List Int))
  | [], st, ws => some (false, st, ws)
  | x :: r, st, ws => if (0 ≤ stI K s x ∧ stI K s x < (nx.length : Int)) ∧ x < 1099511627776 then
      (if (0 ≤ rd nx (stI K s x) ∧ rd nx (stI K s x) < 1099511627776) ∧ st.length < 1099511627776 ∧ ws.length < 1099511627776 ∧ (ws.getD i []).length < 1099511627776 ∧ i < ws.length then
        (if rd nx (stI K s x) ∈ st then rcIn K N nx s i r st ws
         else if ((st.length : Int) + 1) = N then some (true, st ++ [rd nx (stI K s x)], ws ++ [ws.getD i [] ++ [(x : Int)]])
         else rcIn K N nx s i r (st ++ [rd nx (stI K s x)]) (ws ++ [ws.getD i [] ++ [(x : Int)]])) else none) else none
def rcF (K N : Int) (nx : List Int) : Nat → Nat → List Int → List (List Int) → Option (List Int × List (List Int))
  | 0, _, _, _ => none
  | q + 1, i, st, ws => if i < st.length then (if i < 1099511627776 then (match rcIn K N nx (rd st i) i (List.range K.toNat) st ws with
      | none => none
      | some (true, st1, ws1) => some (st1, ws1)
      | some (false, st1, ws1) => rcF K N nx q (i + 1) st1 ws1) else none) else some (st, ws)
/-- What Reach leaves: its answers, in memory of their own. -/
def RcPost (w : World) (st : List Int) (ws : List (List Int)) (er : Int) (e : Ending) (w' : World) : Prop := ∃ (v2 v3 : Value) (P : Nat → Prop), e = .returned (.tuple #[v2, v3, .int .i64 er]) ∧ Sp.Sep w.heap.size [Sp.rows (Kd.slice 3 (Kd.int .i64)) 32 w.heap.size P v3 ws, Sp.ints w.heap.size v2 st] w' ∧ Below w.heap.size w w'
def DC12.T12 : Bool × List (List Nat × List Nat) := (true, [([], []), ([0], [0]), ([], []), ([], []), ([2, 3], [2, 3]), ([4], [4]), ([], []), ([6], [6]), ([5, 7], [5, 7]), ([], []), ([8, 9], [8, 9]), ([1, 10], [1, 10]), ([11], [11]), ([12, 0, 1, 2, 3, 4, 5, 6, 7, 8, 9, 10, 11, 12], [12])])
def DC12.B12 : List Nat := [0, 1, 0, 0, 12, 28, 0, 64, 252, 0, 1020, 2047, 4095, 8191]
theorem DC12.tab12 : rtab .any (opsOf Try.f86 12) = DC12.T12 := by kernel_rfl
theorem DC12.bits12 : waitsOk DC12.T12.2 DC12.B12 = true := by kernel_rfl
set_option maxHeartbeats 8000000 in
set_option maxRecDepth 100000 in
theorem Reach_walk (k k0 : Nat) (kd K O N : Int) (A4 : Option Addr) (c4 : Nat) (nx : List Int) (A5 : Option Addr) (c5 : Nat) (out : List Int) (at1 e1 : Int) (st0 : List Int) (ws0 : List (List Int)) (w : World)
    (ha4 : Kd.C (Kd.int .i64) w A4 nx.length nx) (hc4 : nx.length ≤ c4) (ha5 : Kd.C (Kd.int .i64) w A5 out.length out) (hc5 : out.length ≤ c5) (hm : jY.f k0 kd K O N nx out = some (at1, e1))
    (h : (e1 ≠ 0 ∧ st0 = [] ∧ ws0 = []) ∨ (e1 = 0 ∧ rcF K N nx k 0 [0] [[]] = some (st0, ws0))) :
    Calls Try.prog 86 #[.agg #[.int .i64 kd, .int .i64 K, .int .i64 O, .int .i64 N, .slice A4 nx.length c4, .slice A5 out.length c5]] w (RcPost w st0 ws0 e1) := by
  have hu43 := Try.underlying50
  have hm1 := fun (W : World) (hb : Below w.heap.size w W) => jY.calls k0 kd K O N A4 c4 nx A5 c5 out at1 e1 W (Kd.aX ha4 hb) hc4 (Kd.aX ha5 hb) hc5 hm
  have HAR := aA.mk ha4
  have HH := aA.mk h
  have hmm := @run_makeMap Try.prog
  clear ha4 ha5 hc4 hc5 hm h
  by_cases q1 : e1 ≠ 0
  · have qb : (e1 != 0) = true := by simpa using q1
    have hH := HH.out
    obtain ⟨rfl, rfl⟩ : st0 = [] ∧ ws0 = [] := by
      rcases hH with h | h
      · exact h.2
      · exact absurd h.1 q1
    clear hH HH q1
    go_enter Try.func86, Try.ntmps86
    go_wp2
    go_step3
    go_wp2_with (first
      | (go_at_call 52; with_reducible refine (hm1 _ (aH (Below.refl _ _) _)).mono ?_
         rintro e w1 ⟨rfl, hb1⟩
         have HB1 := aA.mk (aW (aH (Below.refl w.heap.size w) (.cells #[.int .i64 kd, .int .i64 K, .int .i64 O, .int .i64 N, .slice A4 nx.length c4, .slice A5 out.length c5] 50)) hb1)
         clear hb1))
    try rw [Exit.noGoto_ret]
    refine bodyPost_ret (v := .tuple #[.slice none 0 0, .slice none 0 0, .int .i64 e1]) (by simp [results, Try.results86, go_sem]) rfl ⟨_, _, fun _ => False, rfl, ?_, HB1.out⟩
    exact ((Sp.Sep.nil _ _).nilRow (Kd.int .i64) 3).free _ (Kd.S_nil _ _ _ _ _) (fun _ hk => hk)
  obtain rfl : e1 = 0 := by omega
  have hr : rcF K N nx k 0 [0] [[]] = some (st0, ws0) := by
    rcases HH.out with h | h
    · exact absurd h.1 (by decide)
    · exact h.2
  clear HH q1
  have HR0 := aA.mk hr
  clear hr
  go_enter Try.func86, Try.ntmps86
  go_wp2
  go_step3
  go_wp2_with (first
    | (go_at_call 52; with_reducible refine (hm1 _ (aH (Below.refl _ _) _)).mono ?_
       rintro e w1 ⟨rfl, hb1⟩
       have HD1 : aA (Sp.Sep w.heap.size [Sp.blk w.heap.size #[.int .i64 kd, .int .i64 K, .int .i64 O, .int .i64 N, .slice A4 nx.length c4, .slice A5 out.length c5] 50] w1) := ⟨((Sp.Sep.nil w.heap.size w).alloc #[.int .i64 kd, .int .i64 K, .int .i64 O, .int .i64 N, .slice A4 nx.length c4, .slice A5 out.length c5] 50 (Nat.le_refl _)).low hb1⟩
       have HB1 := aA.mk (aW (aH (Below.refl w.heap.size w) (.cells #[.int .i64 kd, .int .i64 K, .int .i64 O, .int .i64 N, .slice A4 nx.length c4, .slice A5 out.length c5] 50)) hb1)
       have hp0 := Vm.map_new w1 (Value.int .i64) (Value.int .i64)
       clear hb1)
    | ((with_reducible refine Sp.gate_insert rfl ?_)
       refine Vm.fC (Vm.int_keys Try.underlying3) Try.underlying110 rfl (.tmp 21) (.const (.int .i64 0)) (.const (.int .i64 0)) (.inl rfl) (0 : Int) (0 : Int) rfl rfl rfl rfl hp0 (by simp) (wf_of (by omega) (by omega)) ?_
       intro w6 hp6 hg6
       have HD6 : aA (Sp.Sep w.heap.size [Sp.mp w1.heap.size (Value.int .i64) (Value.int .i64) (seenOf 0 [0]), Sp.blk w.heap.size #[.int .i64 kd, .int .i64 K, .int .i64 O, .int .i64 N, .slice A4 nx.length c4, .slice A5 out.length c5] 50] w6) := ⟨(HD1.out.newMap (Value.int .i64) (Value.int .i64) HB1.out.size).putMap 0 rfl hp6 hg6 (by simp; have := HB1.out.size; omega)⟩
       have HB6 := aA.mk ((aH HB1.out (.map #[] 0)).grown hg6 (by simp; have := HB1.out.size; omega) (fun k hk => by injection hk with hk; rw [← hk]; exact HB1.out.size))
       clear hp6 hg6 hp0)
    | ((with_reducible refine bT (N := 23) rfl ?_)
       refine Kd.R_lit (Kd.int .i64) (w0 := w) w.heap.size 3 rfl (N := 23) rfl (xs := [(0 : Int)]) (inner := [.int .i64 0]) (ok := fun _ => True) (okp := fun _ => True) ?hr ?hp (fun _ hk => hk) trivial HB6.out HB6.out.size (by simp) ?_
       (case hr => first | (go_simp; done) | (go_simp; rfl))
       (case hp => exact (Reps.one (show Kd.M (Kd.int .i64) _ _ _ (0 : Int) [.int .i64 0] from rfl) (Reps.none _ _)))
       intro v7 w7 ho hb hg hnew
       have HD7 := aA.mk (HD6.out.newRow rfl ho hg hnew HB6.out.size)
       have HB7 := aA.mk hb
       clear ho hb hg hnew)
    | ((with_reducible refine bT (N := 24) rfl ?_)
       refine Kd.R_lit (Kd.int .i64) (w0 := w) w.heap.size 3 rfl (N := 24) rfl (xs := ([] : List Int)) (inner := []) (ok := fun _ => True) (okp := fun _ => True) ?hr ?hp (fun _ hk => hk) trivial HB7.out HB7.out.size (by simp) ?_
       (case hr => first | (go_simp; done) | (go_simp; rfl))
       (case hp => exact (Reps.none _ _))
       intro v8 w8 ho hb hg hnew
       have HD8 := aA.mk (HD7.out.newRow rfl ho hg hnew HB7.out.size)
       have HB8 := aA.mk hb
       obtain ⟨g8, c8, rfl⟩ := Sp.jX ho hnew
       clear ho hb hg hnew)
    | ((with_reducible refine bT (N := 25) rfl ?_)
       refine Kd.R_lit (Kd.slice 3 (Kd.int .i64)) (w0 := w) w.heap.size 32 rfl (N := 25) rfl (xs := [([] : List Int)]) (inner := [.slice (some ⟨g8, 0, none⟩) 0 c8]) (ok := fun k => some k = (Value.slice (some ⟨g8, 0, none⟩) 0 c8).ownBlock ∨ w8.heap.size ≤ k) (okp := fun k => some k = (Value.slice (some ⟨g8, 0, none⟩) 0 c8).ownBlock) ?hr ?hp (fun _ hk => .inl hk) (.inr (Nat.le_refl _)) HB8.out HB8.out.size (by simp) ?_
       (case hr => first | (go_simp; done) | (go_simp; rfl))
       (case hp => exact (Reps.one (Kd.M_row (HD8.out.get 0 rfl)) (Reps.none _ _)))
       intro v9 w9 ho hb hg hnew
       obtain ⟨P9, hP9⟩ : ∃ P, P = (fun k => (some k = (Value.slice (some ⟨g8, 0, none⟩) 0 c8).ownBlock ∨ w8.heap.size ≤ k) ∧ k < w9.heap.size) := ⟨_, rfl⟩
       have HD9 : aA (Sp.Sep w.heap.size [Sp.rows (Kd.slice 3 (Kd.int .i64)) 32 w.heap.size P9 v9 [[]], Sp.ints w.heap.size v7 [0], Sp.mp w1.heap.size (Value.int .i64) (Value.int .i64) (seenOf 0 [0]), Sp.blk w.heap.size #[.int .i64 kd, .int .i64 K, .int .i64 O, .int .i64 N, .slice A4 nx.length c4, .slice A5 out.length c5] 50] w9) := ⟨by rw [hP9]; exact HD8.out.rowsOf 0 rfl (Sp.S_single ho) hg HB8.out.size⟩
       have HB9 := aA.mk hb
       clear ho hb hg hnew hP9))
  clear HD1 HB1 HD6 HB6 HD7 HB7 HD8 HB8
  generalize w1.heap.size = mb at HD9 ⊢
  try go_step3
  go_wp2
  go_loopg [8, 2, 3] k (fun kq v8 v2 v3 wr => ∃ (i : Nat) (st : List Int) (ws : List (List Int)) (P : Nat → Prop), v8 = .int .i64 (i : Int) ∧ aA (rcF K N nx kq i st ws = some (st0, ws0)) ∧ aA (kq ≤ k) ∧ aA (Sp.Sep w.heap.size [Sp.rows (Kd.slice 3 (Kd.int .i64)) 32 w.heap.size P v3 ws, Sp.ints w.heap.size v2 st, Sp.mp mb (Value.int .i64) (Value.int .i64) (seenOf 0 st), Sp.blk w.heap.size #[.int .i64 kd, .int .i64 K, .int .i64 O, .int .i64 N, .slice A4 nx.length c4, .slice A5 out.length c5] 50] wr) ∧ aA (Below w.heap.size w wr) ∧ aA (∀ t ∈ st, (Lit.int .i64 t).wf = true))
  case atStart => exact ⟨0, [0], [[]], P9, rfl, HR0, ⟨Nat.le_refl _⟩, HD9, HB9, ⟨by intro t ht; simp only [List.mem_singleton] at ht; rw [ht]; exact wf_of (by omega) (by omega)⟩⟩
  case round =>
    clear HD9 HB9 HR0
    obtain ⟨i, st, ws, P, rfl, HF, HK, HD, HB, HKE⟩ := hrel
    obtain ⟨Aw, cw, rfl⟩ := Kd.S_slice (HD.out.get 0 rfl)
    obtain ⟨As, cs, rfl⟩ := Kd.cB (HD.out.get 1 rfl)
    cases gk with
    | zero => exact absurd HF.out (by simp [rcF])
    | succ k1 =>
      have H := HF.out
      clear HF
      rw [rcF] at H
      by_cases e1 : i < st.length
      · rw [if_pos e1] at H
        by_cases eb : i < 1099511627776
        rotate_left
        · rw [if_neg eb] at H; exact absurd H (by simp)
        rw [if_pos eb] at H
        have HIB := aA.mk eb
        have hlt1 : (i : Int) < (st.length : Int) := by omega
        obtain ⟨s, hs⟩ : ∃ s, rd st i = s := ⟨_, rfl⟩
        rw [hs] at H
        cases hin : rcIn K N nx s i (List.range K.toNat) st ws with
        | none => rw [hin] at H; exact absurd H (by simp)
        | some ires =>
          rw [hin] at H
          have HIN := aA.mk hin
          have HNX := aA.mk H
          have HS := aA.mk (And.intro hs e1)
          clear hin H hs
          have hx1 : wr.cell? ⟨w.heap.size, 1, none⟩ = some (.int .i64 K) := (aD (HD.out.get 3 rfl) 1).trans rfl
          go_wp2
          clear hx1
          go_loopw [34, 2, 3] (fun v34 v2 v3 wr2 => ∃ (x : Nat) (st1 : List Int) (ws1 : List (List Int)) (P1 : Nat → Prop), v34 = .int .i64 (x : Int) ∧ aA (x ≤ K.toNat) ∧ aA (rcIn K N nx s i ((List.range K.toNat).drop x) st1 ws1 = some ires) ∧ aA (Sp.Sep w.heap.size [Sp.rows (Kd.slice 3 (Kd.int .i64)) 32 w.heap.size P1 v3 ws1, Sp.ints w.heap.size v2 st1, Sp.mp mb (Value.int .i64) (Value.int .i64) (seenOf 0 st1), Sp.blk w.heap.size #[.int .i64 kd, .int .i64 K, .int .i64 O, .int .i64 N, .slice A4 nx.length c4, .slice A5 out.length c5] 50] wr2) ∧ aA (Below w.heap.size w wr2) ∧ aA (∀ t ∈ st1, (Lit.int .i64 t).wf = true) ∧ aA (rd st1 i = s ∧ i < st1.length)) (fun v34 _ _ _ => K.toNat - (intOf v34).toNat)
          case atStart => exact ⟨0, st, ws, P, rfl, ⟨by omega⟩, HIN, HD, HB, HKE, HS⟩
          case round =>
            clear HIN HD HB HKE HS hlt1 e1
            obtain ⟨x, st1, ws1, Pw, rfl, HX, HIN, HD, HB, HKE, HS⟩ := hrel
            obtain ⟨Aw, cw, rfl⟩ := Kd.S_slice (HD.out.get 0 rfl)
            obtain ⟨As, cs, rfl⟩ := Kd.cB (HD.out.get 1 rfl)
            by_cases hlt : x < K.toNat
            · have H := HIN.out
              have hd : (List.range K.toNat).drop x = x :: (List.range K.toNat).drop (x + 1) := by
                rw [List.drop_eq_getElem_cons (by simpa using hlt)]
                simp
              rw [hd] at H
              clear HIN hd
              simp only [rcIn] at H
              have hlt' : (x : Int) < K := by omega
              have HLT := aA.mk hlt
              by_cases e3 : (0 ≤ stI K s x ∧ stI K s x < (nx.length : Int)) ∧ x < 1099511627776
              · rw [if_pos e3] at H
                obtain ⟨⟨e3a, e3b⟩, e3c⟩ := e3
                have hxb : (x : Int) < 1099511627776 := by omega
                obtain ⟨adA, eA, hvA⟩ := Kd.dN (Kd.aX HAR.out HB.out) _ e3a e3b
                subst eA
                obtain ⟨adS, eS, hvS⟩ := Kd.dN (Kd.dw (HD.out.get 1 rfl)).2.2 (i : Int) (by omega) (by have := HS.out.2; omega)
                subst eS
                rw [HS.out.1] at hvS
                simp only [Int.toNat_natCast] at hvS
                generalize rd nx (stI K s x) = t at H hvA
                simp only [stI] at hvA e3a e3b
                obtain ⟨l0, hl0⟩ : ∃ l, ws1.getD i [] = l := ⟨_, rfl⟩
                rw [hl0] at H
                by_cases e4 : (0 ≤ t ∧ t < 1099511627776) ∧ st1.length < 1099511627776 ∧ ws1.length < 1099511627776 ∧ l0.length < 1099511627776 ∧ i < ws1.length
                · rw [if_pos e4] at H
                  obtain ⟨⟨e4a, e4b⟩, e4c, e4d, e4e, e4f⟩ := e4
                  have HT := aA.mk (wf_of e4a e4b)
                  have HL1 := aA.mk e4c
                  have HLS := aA.mk e4d
                  have HLW := aA.mk (show l0.length ≤ 17592186044415 by omega)
                  have HIW := aA.mk e4f
                  have HH := aA.mk H
                  have HL0 := aA.mk hl0
                  have his : (i : Int) < (st1.length : Int) := by have := HS.out.2; omega
                  have hiw : (i : Int) < (ws1.length : Int) := by omega
                  have hx4 : wr.cell? ⟨w.heap.size, 4, none⟩ = some (.slice (some adA) nx.length c4) := (aD (HD.out.get 3 rfl) 4).trans rfl
                  have hx1 : wr.cell? ⟨w.heap.size, 1, none⟩ = some (.int .i64 K) := (aD (HD.out.get 3 rfl) 1).trans rfl
                  clear H hl0 e4a e4b e4c e4d e4e e4f
                  go_wp2
                  refine l7 (n := 14) (S := fun w' => w'.cell? ⟨w.heap.size, 4, none⟩ = some (.slice (some adA) nx.length c4) ∧ w'.cell? ⟨w.heap.size, 1, none⟩ = some (.int .i64 K) ∧ w'.cell? (adS.add i) = some (.int .i64 s) ∧ w'.cell? (adA.add (wrap64 (wrap64 (s * K) + (x : Int))).toNat) = some (.int .i64 t)) (ds := []) #[false, false, false, false, false, false, false, false, false, false, false, false, false, false] (by kernel_rfl) rfl rfl ⟨hx4, hx1, hvS, hvA⟩ (fun hHeld => ?_)
                  refine iL DC12.tab12 DC12.bits12 (fun HT_ HW_ => ?_)
                  have HDE := aA.mk (HD.out.low (aI (Below.refl wr.heap.size wr)))
                  have HBE := aA.mk (aI HB.out)
                  generalize wr.drew = we at HDE HBE hHeld ⊢
                  refine bR (i := 0) (N := (some 37)) (v := ?_) (a' := ?_) #[true, false, false, false, false, false, false, false, false, false, false, false, false, false] rfl rfl (bF HT_.out (by kernel_rfl)) (fun _ _ _ h => h) (Or.inl ⟨by rfl, ?_⟩) ?_ ?_
                  rotate_left
                  · intro w'
                    go_simp
                    with_reducible rfl
                  rotate_left
                  · simp only [Act.put, List.setIfInBounds_toArray, List.set_cons_zero, List.set_cons_succ, aj, av]
                    rfl
                  refine bR (i := 2) (N := (some 39)) (v := ?_) (a' := ?_) #[true, false, true, false, false, false, false, false, false, false, false, false, false, false] rfl rfl (bF HT_.out (by kernel_rfl)) (fun _ _ _ h => h) (Or.inl ⟨by rfl, ?_⟩) ?_ ?_
                  rotate_left
                  · intro w'
                    go_simp
                    with_reducible rfl
                  rotate_left
                  · simp only [Act.put, List.setIfInBounds_toArray, List.set_cons_zero, List.set_cons_succ, aj, av]
                    rfl
                  refine bR (i := 3) (N := (some 40)) (v := ?_) (a' := ?_) #[true, false, true, true, false, false, false, false, false, false, false, false, false, false] rfl rfl (bF HT_.out (by kernel_rfl)) (fun _ _ _ h => h) (Or.inl ⟨by rfl, ?_⟩) ?_ ?_
                  rotate_left
                  · intro w'
                    go_simp
                    with_reducible rfl
                  rotate_left
                  · simp only [Act.put, List.setIfInBounds_toArray, List.set_cons_zero, List.set_cons_succ, aj, av]
                    rfl
                  refine bR (i := 4) (N := (some 41)) (v := ?_) (a' := ?_) #[true, false, true, true, true, false, false, false, false, false, false, false, false, false] rfl rfl (bF HT_.out (by kernel_rfl)) (fun _ _ _ h => h) (Or.inl ⟨by rfl, ?_⟩) ?_ ?_
                  rotate_left
                  · intro w'
                    go_simp
                    with_reducible rfl
                  rotate_left
                  · simp only [Act.put, List.setIfInBounds_toArray, List.set_cons_zero, List.set_cons_succ, aj, av]
                    rfl
                  refine bR (i := 6) (N := (some 43)) (v := ?_) (a' := ?_) #[true, false, true, true, true, false, true, false, false, false, false, false, false, false] rfl rfl (bF HT_.out (by kernel_rfl)) (fun _ _ _ h => h) (Or.inl ⟨by rfl, ?_⟩) ?_ ?_
                  rotate_left
                  · intro w'
                    go_simp
                    with_reducible rfl
                  rotate_left
                  · simp only [Act.put, List.setIfInBounds_toArray, List.set_cons_zero, List.set_cons_succ, aj, av]
                    rfl
                  refine bR (i := 9) (N := (some 46)) (v := ?_) (a' := ?_) #[true, false, true, true, true, false, true, false, false, true, false, false, false, false] rfl rfl (bF HT_.out (by kernel_rfl)) (fun _ _ _ h => h) (Or.inl ⟨by rfl, ?_⟩) ?_ ?_
                  rotate_left
                  · intro w'
                    go_simp
                    with_reducible rfl
                  rotate_left
                  · simp only [Act.put, List.setIfInBounds_toArray, List.set_cons_zero, List.set_cons_succ, aj, av]
                    rfl
                  refine gD (i := 1) (N := (some 38)) (v := ?_) (a' := ?_) #[true, true, true, true, true, false, true, false, false, true, false, false, false, false] rfl rfl (df HT_.out HW_.out (by kernel_rfl)) (fun _ _ _ h => h) (Or.inl ⟨by rfl, ?_⟩) hHeld ?_ ?_
                  rotate_left
                  · rintro w' ⟨s0, s1, s2, s3⟩
                    go_simp
                    with_reducible rfl
                  rotate_left
                  · simp only [Act.put, List.setIfInBounds_toArray, List.set_cons_zero, List.set_cons_succ, aj, av]
                    rfl
                  refine gD (i := 5) (N := (some 42)) (v := ?_) (a' := ?_) #[true, true, true, true, true, true, true, false, false, true, false, false, false, false] rfl rfl (df HT_.out HW_.out (by kernel_rfl)) (fun _ _ _ h => h) (Or.inl ⟨by rfl, ?_⟩) hHeld ?_ ?_
                  rotate_left
                  · rintro w' ⟨s0, s1, s2, s3⟩
                    go_simp
                    with_reducible rfl
                  rotate_left
                  · simp only [Act.put, List.setIfInBounds_toArray, List.set_cons_zero, List.set_cons_succ, aj, av]
                    rfl
                  refine gD (i := 7) (N := (some 44)) (v := ?_) (a' := ?_) #[true, true, true, true, true, true, true, true, false, true, false, false, false, false] rfl rfl (df HT_.out HW_.out (by kernel_rfl)) (fun _ _ _ h => h) (Or.inl ⟨by rfl, ?_⟩) hHeld ?_ ?_
                  rotate_left
                  · rintro w' ⟨s0, s1, s2, s3⟩
                    go_simp
                    with_reducible rfl
                  rotate_left
                  · simp only [Act.put, List.setIfInBounds_toArray, List.set_cons_zero, List.set_cons_succ, aj, av]
                    rfl
                  refine bR (i := 8) (N := (some 45)) (v := ?_) (a' := ?_) #[true, true, true, true, true, true, true, true, true, true, false, false, false, false] rfl rfl (bF HT_.out (by kernel_rfl)) (fun _ _ _ h => h) (Or.inl ⟨by rfl, ?_⟩) ?_ ?_
                  rotate_left
                  · intro w'
                    go_simp
                    with_reducible rfl
                  rotate_left
                  · simp only [Act.put, List.setIfInBounds_toArray, List.set_cons_zero, List.set_cons_succ, aj, av]
                    rfl
                  refine bR (i := 10) (N := (some 47)) (v := ?_) (a' := ?_) #[true, true, true, true, true, true, true, true, true, true, true, false, false, false] rfl rfl (bF HT_.out (by kernel_rfl)) (fun _ _ _ h => h) (Or.inl ⟨by rfl, ?_⟩) ?_ ?_
                  rotate_left
                  · intro w'
                    go_simp
                    with_reducible rfl
                  rotate_left
                  · simp only [Act.put, List.setIfInBounds_toArray, List.set_cons_zero, List.set_cons_succ, aj, av]
                    rfl
                  refine bR (i := 11) (N := (some 48)) (v := ?_) (a' := ?_) #[true, true, true, true, true, true, true, true, true, true, true, true, false, false] rfl rfl (bF HT_.out (by kernel_rfl)) (fun _ _ _ h => h) (Or.inl ⟨by rfl, ?_⟩) ?_ ?_
                  rotate_left
                  · intro w'
                    go_simp
                    with_reducible rfl
                  rotate_left
                  · simp only [Act.put, List.setIfInBounds_toArray, List.set_cons_zero, List.set_cons_succ, aj, av]
                    rfl
                  refine gD (i := 12) (N := (some 49)) (v := ?_) (a' := ?_) #[true, true, true, true, true, true, true, true, true, true, true, true, true, false] rfl rfl (df HT_.out HW_.out (by kernel_rfl)) (fun _ _ _ h => h) (Or.inl ⟨by rfl, ?_⟩) hHeld ?_ ?_
                  rotate_left
                  · rintro w' ⟨s0, s1, s2, s3⟩
                    go_simp
                    with_reducible rfl
                  rotate_left
                  · simp only [Act.put, List.setIfInBounds_toArray, List.set_cons_zero, List.set_cons_succ, aj, av]
                    rfl
                  refine bR (i := 13) (N := (some 10)) (v := ?_) (a' := ?_) #[true, true, true, true, true, true, true, true, true, true, true, true, true, true] rfl rfl (bF HT_.out (by kernel_rfl)) (fun _ _ _ h => h) (Or.inl ⟨by rfl, ?_⟩) ?_ ?_
                  rotate_left
                  · intro w'
                    go_simp
                    with_reducible rfl
                  rotate_left
                  · simp only [Act.put, List.setIfInBounds_toArray, List.set_cons_zero, List.set_cons_succ, aj, av]
                    rfl
                  refine done_ (ku HT_.out (by kernel_rfl)) ?_
                  clear hHeld hx4 hx1 hvS hvA HD HB e3a e3b
                  have hlk := Vm.gP (Vm.int_keys Try.underlying3) Try.underlying110 zeroI (HDE.out.get 2 rfl) (fun p hp => HKE.out _ (seen_key hp)) HT.out true
                  by_cases e5 : t ∈ st1
                  · have H := HH.out
                    rw [if_pos e5] at H
                    have HH2 := aA.mk H
                    obtain ⟨v, hgv⟩ := seen_some (n := 0) e5
                    rw [hgv] at hlk
                    simp only [Option.map_some, Option.getD_some, Option.isSome_some, if_true] at hlk
                    clear H HH hgv e5
                    go_wp2
                    clear hlk
                    go_roundw
                    case rel => exact ⟨x + 1, st1, ws1, Pw, by go_num, ⟨by have := HLT.out; omega⟩, HH2, HDE, HBE, HKE, HS⟩
                    case measure => have := HLT.out; simp [intOf]; omega
                  · have H := HH.out
                    rw [if_neg e5] at H
                    have HH2 := aA.mk H
                    rw [seen_none e5] at hlk
                    simp only [Option.map_none, Option.getD_none, Option.isSome_none, if_true] at hlk
                    have HE5 := aA.mk e5
                    clear H HH e5
                    have H := HH2.out
                    clear HH2
                    by_cases e6 : (st1.length : Int) + 1 = N
                    · rw [if_pos e6] at H
                      simp only [Option.some.injEq] at H
                      subst H
                      have hr := HNX.out
                      simp only [Option.some.injEq, Prod.mk.injEq] at hr
                      obtain ⟨rfl, rfl⟩ := hr
                      have e6b : ((st1.length : Int) + 1 == N) = true := by simpa using e6
                      have e6c : (((st1.length + 1 : Nat) : Int) == N) = true := by simpa using e6
                      go_wp2_with (first
                        | ((with_reducible refine Sp.gV rfl ?_)
                           refine Vm.fC (Vm.int_keys Try.underlying3) Try.underlying110 rfl (.tmp 57) (.tmp 58) (.tmp 60) (.inr rfl) t (st1.length : Int) rfl rfl rfl rfl (HDE.out.get 2 rfl) (fun p hp => HKE.out _ (seen_key hp)) HT.out ?_
                           intro w6 hp6 hg6
                           rw [seen0_put HE5.out] at hp6
                           have HD6 := aA.mk (HDE.out.putMap 2 rfl hp6 hg6 HBE.out.size)
                           have HB6 := aA.mk (HDE.out.gy (i := 2) rfl (fun k hk => by injection hk with hk; exact hk.symm) HBE.out HBE.out.size hg6)
                           clear hp6 hg6 hlk)
                        | ((with_reducible refine eX (b := .append) (xs := #[.tmp 61, .tmp 63]) rfl ?_)
                           at_builtin
                           refine Kd.iG (Kd.int .i64) (w0 := w) w.heap.size rfl (.tmp 61) (.tmp 63) 32 3 (.int .i64 0) 8 rfl Try.underlying32 infoI rfl (by decide) (by omega) (.slice (some adS) st1.length cs) st1 t [.int .i64 t] (fun _ => True) (fun _ => False) rfl rfl ?aP (fun _ hk => hk.elim) ?aF ?aO ?aB ?aS ?aL ?_
                           (case aP => exact rfl)
                           (case aB => exact HB6.out)
                           (case aF => exact (fun _ _ => trivial))
                           (case aO => exact Kd.bV (HD6.out.get 1 rfl) (fun _ _ => trivial))
                           (case aS => exact HB6.out.size)
                           (case aL => have := HL1.out; omega)
                           intro v8 w8 ho hb hg hat
                           obtain ⟨As8, cs8, hq⟩ := Kd.cB ho
                           rw [show (st1 ++ [t]).length = st1.length + 1 from by simp] at hq
                           subst hq
                           have HD8 : aA (Sp.Sep w.heap.size [Sp.rows (Kd.slice 3 (Kd.int .i64)) 32 w.heap.size Pw (.slice Aw ws1.length cw) ws1, Sp.ints w.heap.size (.slice As8 (st1.length + 1) cs8) (st1 ++ [t]), Sp.mp mb (Value.int .i64) (Value.int .i64) (seenOf 0 (st1 ++ [t])), Sp.blk w.heap.size #[.int .i64 kd, .int .i64 K, .int .i64 O, .int .i64 N, .slice (some adA) nx.length c4, .slice A5 out.length c5] 50] w8) := ⟨HD6.out.app 1 rfl rfl ho hg hat HB6.out.size⟩
                           have HB8 := aA.mk hb
                           have hcw := Kd.C_get (Kd.S_reads' (HD8.out.get 0 rfl)).2.2 ([] : List Int) (i : Int) (by omega) (by have := HIW.out; omega)
                           obtain ⟨adW, c8, eW, hsz, hk8, hc8⟩ := hcw
                           clear hsz
                           subst eW
                           simp only [Int.toNat_natCast, HL0.out] at hk8 hc8
                           obtain ⟨AI, ci, rfl, hci, hCW⟩ := hk8
                           have hvW := hc8 0 _ rfl
                           simp only [Kd.slice, Nat.mul_one, Nat.add_zero] at hvW
                           have HCW := aA.mk hCW
                           have HCI := aA.mk hci
                           clear hc8 hCW hci HD6 HB6 HDE HBE
                           clear ho hb hg hat)
                        | (go_at_call 45; with_reducible refine (Clone_calls AI ci l0 _ HCW.out HCI.out HLW.out).mono ?_
                           rintro e w9 ⟨v9, rfl, hR9, hb9⟩
                           obtain ⟨Q9, q9, rfl⟩ := Kd.cB hR9
                           have HD9 := aA.mk (HD8.out.addRow rfl hR9 hb9 HB8.out.size)
                           have HB9 := aA.mk (lK HB8.out HB8.out.size hb9)
                           clear hR9 hb9 HCW HCI hvW HD8 HB8)
                        | ((with_reducible refine eX (b := .append) (xs := #[.tmp 70, .tmp 72]) rfl ?_)
                           at_builtin
                           refine Kd.iG (Kd.int .i64) (w0 := w) w.heap.size rfl (.tmp 70) (.tmp 72) 32 3 (.int .i64 0) 8 rfl Try.underlying32 infoI rfl (by decide) (by omega) (.slice Q9 l0.length q9) l0 (x : Int) [.int .i64 (x : Int)] (fun _ => True) (fun _ => False) rfl rfl ?aP (fun _ hk => hk.elim) ?aF ?aO ?aB ?aS ?aL ?_
                           (case aP => exact rfl)
                           (case aB => exact HB9.out)
                           (case aF => exact (fun _ _ => trivial))
                           (case aO => exact Kd.bV (HD9.out.get 0 rfl) (fun _ _ => trivial))
                           (case aS => exact HB9.out.size)
                           (case aL => have := HLW.out; omega)
                           intro v10 w10 ho hb hg hat
                           obtain ⟨Q10, q10, hq⟩ := Kd.cB ho
                           rw [show (l0 ++ [(x : Int)]).length = l0.length + 1 from by simp] at hq
                           subst hq
                           have HD10 : aA (Sp.Sep w.heap.size [Sp.ints w.heap.size (.slice Q10 (l0.length + 1) q10) (l0 ++ [(x : Int)]), Sp.rows (Kd.slice 3 (Kd.int .i64)) 32 w.heap.size Pw (.slice (some adW) ws1.length cw) ws1, Sp.ints w.heap.size (.slice As8 (st1.length + 1) cs8) (st1 ++ [t]), Sp.mp mb (Value.int .i64) (Value.int .i64) (seenOf 0 (st1 ++ [t])), Sp.blk w.heap.size #[.int .i64 kd, .int .i64 K, .int .i64 O, .int .i64 N, .slice (some adA) nx.length c4, .slice A5 out.length c5] 50] w10) := ⟨HD9.out.app 0 rfl rfl ho hg hat HB9.out.size⟩
                           have HB10 := aA.mk hb
                           clear ho hb hg hat HD9 HB9)
                        | ((with_reducible refine eX (b := .append) (xs := #[.tmp 65, .tmp 74]) rfl ?_)
                           at_builtin
                           refine Kd.S_append (Kd.slice 3 (Kd.int .i64)) (w0 := w) w.heap.size rfl (.tmp 65) (.tmp 74) 41 32 (.slice none 0 0) 24 rfl Try.underlying41 infoL rfl (by decide) (by omega) (.slice (some adW) ws1.length cw) ws1 (l0 ++ [(x : Int)]) [.slice Q10 (l0.length + 1) q10] (fun k => Pw k ∨ some k = (Value.slice Q10 (l0.length + 1) q10).ownBlock ∨ w10.heap.size ≤ k) (fun k => some k = (Value.slice Q10 (l0.length + 1) q10).ownBlock) rfl rfl ?aP ?aK ?aF ?aO ?aB ?aS ?aL ?_
                           (case aP => exact Kd.M_row (HD10.out.get 0 rfl))
                           (case aK => exact (fun k hk => ⟨.inr (.inl hk), fun he => HD10.out.apart (i := 0) (j := 1) rfl rfl (by decide) hk ((Kd.S_R (HD10.out.get 1 rfl)).1 k he.symm)⟩))
                           (case aB => exact HB10.out)
                           (case aF => exact (fun k hk => .inr (.inr hk)))
                           (case aO => exact Kd.S_mono (HD10.out.get 1 rfl) (fun k hk => ⟨.inl hk, fun h0 => HD10.out.apart (i := 0) (j := 1) rfl rfl (by decide) h0 hk⟩))
                           (case aS => exact HB10.out.size)
                           (case aL => have := HLS.out; omega)
                           intro v11 w11 ho hb hg hat
                           obtain ⟨Q11, q11, hq⟩ := Kd.S_slice ho
                           rw [show (ws1 ++ [l0 ++ [(x : Int)]]).length = ws1.length + 1 from by simp] at hq
                           subst hq
                           obtain ⟨P11, hP11⟩ : ∃ P, P = (fun k => (Pw k ∨ some k = (Value.slice Q10 (l0.length + 1) q10).ownBlock ∨ w10.heap.size ≤ k) ∧ k < w11.heap.size) := ⟨_, rfl⟩
                           have HD11 : aA (Sp.Sep w.heap.size [Sp.rows (Kd.slice 3 (Kd.int .i64)) 32 w.heap.size P11 (.slice Q11 (ws1.length + 1) q11) (ws1 ++ [l0 ++ [(x : Int)]]), Sp.ints w.heap.size (.slice As8 (st1.length + 1) cs8) (st1 ++ [t]), Sp.mp mb (Value.int .i64) (Value.int .i64) (seenOf 0 (st1 ++ [t])), Sp.blk w.heap.size #[.int .i64 kd, .int .i64 K, .int .i64 O, .int .i64 N, .slice (some adA) nx.length c4, .slice A5 out.length c5] 50] w11) := ⟨by rw [hP11]; exact Sp.Sep.tail (r := Sp.none_) (HD10.out.appRows 1 0 rfl rfl (by decide) ho hg HB10.out.size)⟩
                           clear hP11
                           have HB11 := aA.mk hb
                           have hx3 : w11.cell? ⟨w.heap.size, 3, none⟩ = some (.int .i64 N) := (aD (HD11.out.get 3 rfl) 3).trans rfl
                           clear ho hb hg hat HD10 HB10))
                      try simp only [Exit.inBlock, Exit.then]
                      try rw [Exit.noGoto_ret]
                      refine bodyPost_ret (v := .tuple #[_, _, .int .i64 0]) (by simp [results, Try.results86, go_sem]) rfl ⟨_, _, _, rfl, HD11.out.sub (List.Sublist.cons_cons _ (List.Sublist.cons_cons _ (List.nil_sublist _))), HB11.out⟩
                    · rw [if_neg e6] at H
                      have HH3 := aA.mk H
                      have e6b : ((st1.length : Int) + 1 == N) = false := by simpa using e6
                      have e6c : (((st1.length + 1 : Nat) : Int) == N) = false := by simpa using e6
                      clear H e6
                      go_wp2_with (first
                        | ((with_reducible refine Sp.gV rfl ?_)
                           refine Vm.fC (Vm.int_keys Try.underlying3) Try.underlying110 rfl (.tmp 57) (.tmp 58) (.tmp 60) (.inr rfl) t (st1.length : Int) rfl rfl rfl rfl (HDE.out.get 2 rfl) (fun p hp => HKE.out _ (seen_key hp)) HT.out ?_
                           intro w6 hp6 hg6
                           rw [seen0_put HE5.out] at hp6
                           have HD6 := aA.mk (HDE.out.putMap 2 rfl hp6 hg6 HBE.out.size)
                           have HB6 := aA.mk (HDE.out.gy (i := 2) rfl (fun k hk => by injection hk with hk; exact hk.symm) HBE.out HBE.out.size hg6)
                           clear hp6 hg6 hlk)
                        | ((with_reducible refine eX (b := .append) (xs := #[.tmp 61, .tmp 63]) rfl ?_)
                           at_builtin
                           refine Kd.iG (Kd.int .i64) (w0 := w) w.heap.size rfl (.tmp 61) (.tmp 63) 32 3 (.int .i64 0) 8 rfl Try.underlying32 infoI rfl (by decide) (by omega) (.slice (some adS) st1.length cs) st1 t [.int .i64 t] (fun _ => True) (fun _ => False) rfl rfl ?aP (fun _ hk => hk.elim) ?aF ?aO ?aB ?aS ?aL ?_
                           (case aP => exact rfl)
                           (case aB => exact HB6.out)
                           (case aF => exact (fun _ _ => trivial))
                           (case aO => exact Kd.bV (HD6.out.get 1 rfl) (fun _ _ => trivial))
                           (case aS => exact HB6.out.size)
                           (case aL => have := HL1.out; omega)
                           intro v8 w8 ho hb hg hat
                           obtain ⟨As8, cs8, hq⟩ := Kd.cB ho
                           rw [show (st1 ++ [t]).length = st1.length + 1 from by simp] at hq
                           subst hq
                           have HD8 : aA (Sp.Sep w.heap.size [Sp.rows (Kd.slice 3 (Kd.int .i64)) 32 w.heap.size Pw (.slice Aw ws1.length cw) ws1, Sp.ints w.heap.size (.slice As8 (st1.length + 1) cs8) (st1 ++ [t]), Sp.mp mb (Value.int .i64) (Value.int .i64) (seenOf 0 (st1 ++ [t])), Sp.blk w.heap.size #[.int .i64 kd, .int .i64 K, .int .i64 O, .int .i64 N, .slice (some adA) nx.length c4, .slice A5 out.length c5] 50] w8) := ⟨HD6.out.app 1 rfl rfl ho hg hat HB6.out.size⟩
                           have HB8 := aA.mk hb
                           have hcw := Kd.C_get (Kd.S_reads' (HD8.out.get 0 rfl)).2.2 ([] : List Int) (i : Int) (by omega) (by have := HIW.out; omega)
                           obtain ⟨adW, c8, eW, hsz, hk8, hc8⟩ := hcw
                           clear hsz
                           subst eW
                           simp only [Int.toNat_natCast, HL0.out] at hk8 hc8
                           obtain ⟨AI, ci, rfl, hci, hCW⟩ := hk8
                           have hvW := hc8 0 _ rfl
                           simp only [Kd.slice, Nat.mul_one, Nat.add_zero] at hvW
                           have HCW := aA.mk hCW
                           have HCI := aA.mk hci
                           clear hc8 hCW hci HD6 HB6 HDE HBE
                           clear ho hb hg hat)
                        | (go_at_call 45; with_reducible refine (Clone_calls AI ci l0 _ HCW.out HCI.out HLW.out).mono ?_
                           rintro e w9 ⟨v9, rfl, hR9, hb9⟩
                           obtain ⟨Q9, q9, rfl⟩ := Kd.cB hR9
                           have HD9 := aA.mk (HD8.out.addRow rfl hR9 hb9 HB8.out.size)
                           have HB9 := aA.mk (lK HB8.out HB8.out.size hb9)
                           clear hR9 hb9 HCW HCI hvW HD8 HB8)
                        | ((with_reducible refine eX (b := .append) (xs := #[.tmp 70, .tmp 72]) rfl ?_)
                           at_builtin
                           refine Kd.iG (Kd.int .i64) (w0 := w) w.heap.size rfl (.tmp 70) (.tmp 72) 32 3 (.int .i64 0) 8 rfl Try.underlying32 infoI rfl (by decide) (by omega) (.slice Q9 l0.length q9) l0 (x : Int) [.int .i64 (x : Int)] (fun _ => True) (fun _ => False) rfl rfl ?aP (fun _ hk => hk.elim) ?aF ?aO ?aB ?aS ?aL ?_
                           (case aP => exact rfl)
                           (case aB => exact HB9.out)
                           (case aF => exact (fun _ _ => trivial))
                           (case aO => exact Kd.bV (HD9.out.get 0 rfl) (fun _ _ => trivial))
                           (case aS => exact HB9.out.size)
                           (case aL => have := HLW.out; omega)
                           intro v10 w10 ho hb hg hat
                           obtain ⟨Q10, q10, hq⟩ := Kd.cB ho
                           rw [show (l0 ++ [(x : Int)]).length = l0.length + 1 from by simp] at hq
                           subst hq
                           have HD10 : aA (Sp.Sep w.heap.size [Sp.ints w.heap.size (.slice Q10 (l0.length + 1) q10) (l0 ++ [(x : Int)]), Sp.rows (Kd.slice 3 (Kd.int .i64)) 32 w.heap.size Pw (.slice (some adW) ws1.length cw) ws1, Sp.ints w.heap.size (.slice As8 (st1.length + 1) cs8) (st1 ++ [t]), Sp.mp mb (Value.int .i64) (Value.int .i64) (seenOf 0 (st1 ++ [t])), Sp.blk w.heap.size #[.int .i64 kd, .int .i64 K, .int .i64 O, .int .i64 N, .slice (some adA) nx.length c4, .slice A5 out.length c5] 50] w10) := ⟨HD9.out.app 0 rfl rfl ho hg hat HB9.out.size⟩
                           have HB10 := aA.mk hb
                           clear ho hb hg hat HD9 HB9)
                        | ((with_reducible refine eX (b := .append) (xs := #[.tmp 65, .tmp 74]) rfl ?_)
                           at_builtin
                           refine Kd.S_append (Kd.slice 3 (Kd.int .i64)) (w0 := w) w.heap.size rfl (.tmp 65) (.tmp 74) 41 32 (.slice none 0 0) 24 rfl Try.underlying41 infoL rfl (by decide) (by omega) (.slice (some adW) ws1.length cw) ws1 (l0 ++ [(x : Int)]) [.slice Q10 (l0.length + 1) q10] (fun k => Pw k ∨ some k = (Value.slice Q10 (l0.length + 1) q10).ownBlock ∨ w10.heap.size ≤ k) (fun k => some k = (Value.slice Q10 (l0.length + 1) q10).ownBlock) rfl rfl ?aP ?aK ?aF ?aO ?aB ?aS ?aL ?_
                           (case aP => exact Kd.M_row (HD10.out.get 0 rfl))
                           (case aK => exact (fun k hk => ⟨.inr (.inl hk), fun he => HD10.out.apart (i := 0) (j := 1) rfl rfl (by decide) hk ((Kd.S_R (HD10.out.get 1 rfl)).1 k he.symm)⟩))
                           (case aB => exact HB10.out)
                           (case aF => exact (fun k hk => .inr (.inr hk)))
                           (case aO => exact Kd.S_mono (HD10.out.get 1 rfl) (fun k hk => ⟨.inl hk, fun h0 => HD10.out.apart (i := 0) (j := 1) rfl rfl (by decide) h0 hk⟩))
                           (case aS => exact HB10.out.size)
                           (case aL => have := HLS.out; omega)
                           intro v11 w11 ho hb hg hat
                           obtain ⟨Q11, q11, hq⟩ := Kd.S_slice ho
                           rw [show (ws1 ++ [l0 ++ [(x : Int)]]).length = ws1.length + 1 from by simp] at hq
                           subst hq
                           obtain ⟨P11, hP11⟩ : ∃ P, P = (fun k => (Pw k ∨ some k = (Value.slice Q10 (l0.length + 1) q10).ownBlock ∨ w10.heap.size ≤ k) ∧ k < w11.heap.size) := ⟨_, rfl⟩
                           have HD11 : aA (Sp.Sep w.heap.size [Sp.rows (Kd.slice 3 (Kd.int .i64)) 32 w.heap.size P11 (.slice Q11 (ws1.length + 1) q11) (ws1 ++ [l0 ++ [(x : Int)]]), Sp.ints w.heap.size (.slice As8 (st1.length + 1) cs8) (st1 ++ [t]), Sp.mp mb (Value.int .i64) (Value.int .i64) (seenOf 0 (st1 ++ [t])), Sp.blk w.heap.size #[.int .i64 kd, .int .i64 K, .int .i64 O, .int .i64 N, .slice (some adA) nx.length c4, .slice A5 out.length c5] 50] w11) := ⟨by rw [hP11]; exact Sp.Sep.tail (r := Sp.none_) (HD10.out.appRows 1 0 rfl rfl (by decide) ho hg HB10.out.size)⟩
                           clear hP11
                           have HB11 := aA.mk hb
                           have hx3 : w11.cell? ⟨w.heap.size, 3, none⟩ = some (.int .i64 N) := (aD (HD11.out.get 3 rfl) 3).trans rfl
                           clear ho hb hg hat HD10 HB10))
                      go_roundw
                      case rel => exact ⟨x + 1, st1 ++ [t], ws1 ++ [l0 ++ [(x : Int)]], P11, by go_num, ⟨by have := HLT.out; omega⟩, HH3, by simpa using HD11, HB11, ⟨by
                        intro q hq
                        rcases List.mem_append.1 hq with hq | hq
                        · exact HKE.out q hq
                        · simp only [List.mem_singleton] at hq; rw [hq]; exact HT.out⟩, ⟨by
                        refine ⟨?_, by have := HS.out.2; simp only [List.length_append, List.length_singleton]; omega⟩
                        rw [← HS.out.1]
                        exact rd_append_left HS.out.2⟩⟩
                      case measure => have := HLT.out; simp [intOf]; omega
                · rw [if_neg e4] at H; exact absurd H (by simp)
              · rw [if_neg e3] at H; exact absurd H (by simp)
            · have H := HIN.out
              rw [List.drop_of_length_le (by simp; omega)] at H
              simp only [rcIn, Option.some.injEq] at H
              subst H
              have hlt' : ¬ ((x : Int) < K) := by omega
              have hr := HNX.out
              simp only [] at hr
              have hib : (i : Int) < 1099511627776 := by have := HIB.out; omega
              go_wp2
              go_roundg k1
              case rel => exact ⟨i + 1, st1, ws1, Pw, by go_num, ⟨hr⟩, ⟨by have := HK.out; omega⟩, HD, HB, HKE⟩
              case measure => have := HK.out; omega
      · rw [if_neg e1] at H
        have hlt1 : ¬ ((i : Int) < (st.length : Int)) := by omega
        simp only [Option.some.injEq, Prod.mk.injEq] at H
        obtain ⟨rfl, rfl⟩ := H
        go_wp2
        try simp only [Exit.inBlock, Exit.then]
        try rw [Exit.noGoto_ret]
        refine bodyPost_ret (v := .tuple #[_, _, .int .i64 0]) (by simp [results, Try.results86, go_sem]) rfl ⟨_, _, _, rfl, HD.out.sub (List.Sublist.cons_cons _ (List.Sublist.cons_cons _ (List.nil_sublist _))), HB.out⟩
end Go.Proofs.Ytocejofjmmoeaaa.X
end

section
namespace Go.Proofs.Ytocejofjmmoeaaa.X
open Go.RowKit Go.Proofs.YtocejofjmmoeaaaW.PrintWords Go.Proofs.YtocejofjmmoeaaaW.PrintLast Go.Proofs.YtocejofjmmoeaaaW.PrintMore
open Go.Proofs.Ytocejofjmmoeaaa
def rcG (k : Nat) (kd K O N : Int) (nx out : List Int) : Option (List Int × List (List Int) × Int) :=
  match jY.f k kd K O N nx out with
  | none => none
  | some (_, e1) => if e1 ≠ 0 then some ([], [], e1) else match rcF K N nx k 0 [0] [[]] with
    | none => none
    | some (st, ws) => some (st, ws, 0)
def rcBig : Nat := 200000
def kw.f (aT aU bQ bG : Int) (bN bI : List Int) : Option (List Int × List (List Int) × Int) := rcG rcBig aT aU bQ bG bN bI
theorem kw.calls (aT : Int) (aU : Int) (bQ : Int) (bG : Int) (eD : Option Addr) (eB : Nat) (bN : List Int) (eH : Option Addr) (eG : Nat) (bI : List Int) (r1 : List Int) (r2 : List (List Int)) (r3 : Int) (w : World)
    (hr0_4 : Kd.C (Kd.int .i64) w eD bN.length bN) (hc0_4 : bN.length ≤ eB) (hr0_5 : Kd.C (Kd.int .i64) w eH bI.length bI) (hc0_5 : bI.length ≤ eG) (h : kw.f aT aU bQ bG bN bI = some (r1, r2, r3)) :
    Calls Try.prog 86 #[.agg #[.int .i64 aT, .int .i64 aU, .int .i64 bQ, .int .i64 bG, .slice eD bN.length eB, .slice eH bI.length eG]] w fun e w' => ∃ v0_ v1_ : Value, e = .returned (.tuple #[v0_, v1_, .int .i64 r3]) ∧ Kd.R (Kd.int .i64) 3 w' w.heap.size (fun _ => True) v0_ r1 ∧ Kd.S (Kd.slice 3 (Kd.int .i64)) 32 w' w.heap.size (fun k_ => some k_ ≠ (v0_ : Value).ownBlock) v1_ r2 ∧ Below w.heap.size w w' := by
  unfold kw.f rcG at h
  cases hm : jY.f rcBig aT aU bQ bG bN bI with
  | none => rw [hm] at h; exact absurd h (by simp)
  | some p =>
    obtain ⟨at1, e1⟩ := p
    rw [hm] at h
    simp only [] at h
    have hd : (e1 ≠ 0 ∧ r1 = [] ∧ r2 = []) ∨ (e1 = 0 ∧ rcF aU bG bN rcBig 0 [0] [[]] = some (r1, r2)) := by
      by_cases q : e1 ≠ 0
      · rw [if_pos q] at h
        simp only [Option.some.injEq, Prod.mk.injEq] at h
        exact .inl ⟨q, h.1.symm, h.2.1.symm⟩
      · rw [if_neg q] at h
        cases hf : rcF aU bG bN rcBig 0 [0] [[]] with
        | none => rw [hf] at h; exact absurd h (by simp)
        | some p =>
          rw [hf] at h
          simp only [Option.some.injEq, Prod.mk.injEq] at h
          obtain ⟨rfl, rfl, _⟩ := h
          exact .inr ⟨by omega, rfl⟩
    have he : e1 = r3 := by
      by_cases q : e1 ≠ 0
      · rw [if_pos q] at h
        simp only [Option.some.injEq, Prod.mk.injEq] at h
        exact h.2.2
      · rw [if_neg q] at h
        cases hf : rcF aU bG bN rcBig 0 [0] [[]] with
        | none => rw [hf] at h; exact absurd h (by simp)
        | some p =>
          rw [hf] at h
          simp only [Option.some.injEq, Prod.mk.injEq] at h
          omega
    subst he
    refine (Reach_walk rcBig rcBig aT aU bQ bG eD eB bN eH eG bI at1 e1 r1 r2 w hr0_4 hc0_4 hr0_5 hc0_5 hm hd).mono ?_
    rintro e w' ⟨v2, v3, P, rfl, hs, hb⟩
    exact ⟨v2, v3, rfl, Kd.bV (hs.get 1 rfl) (fun _ _ => trivial), Kd.S_mono (hs.get 0 rfl) (fun k hk he => hs.apart (i := 0) (j := 1) rfl rfl (by decide) hk he), hb⟩
end Go.Proofs.Ytocejofjmmoeaaa.X
end

section
namespace Go.Proofs.Ytocejofjmmoeaaa.X
open Go.RowKit Go.Proofs.YtocejofjmmoeaaaW.PrintWords Go.Proofs.YtocejofjmmoeaaaW.PrintLast Go.Proofs.YtocejofjmmoeaaaW.PrintMore
attribute [local go_sem] eZ eu fV fU eP eO fF fE   -- for this text's walks alone
set_option linter.unusedVariables false
set_option linter.unusedSimpArgs false
mutual
def bL.l0 : Nat → List Int → List Int → List Int → Int → Int → Int → Int → Int → Int → List Int → List Int → Option (Int × Int × Int × Int × List Int × List Int × Int)
  | 0, _, _, _, _, _, _, _, _, _, _, _ => none
  | k + 1, x4, x7, x29, x30, x31, x133000, ig, x133002, ic, x133004, iH => if x31 < x30 then (if 0 ≤ x31 then (if x31 < (x29.length : Int) then (if 0 ≤ (rd x29 x31) then (if (rd x29 x31) < (x7.length : Int) then (bL.l0 k x4 (x7.set ((rd x29 x31) : Int).toNat x31) x29 x30 (wrap64 (x31 + 1)) x133000 ig x133002 ic x133004 iH) else (none)) else (none)) else (none)) else (none)) else (bL.l1 k x7 x4 (x4.length : Int) 0 x133000 ig x133002 ic x133004 iH x133000 ig x133002 (x4.length : Int) ([] : List Int) ([] : List Int))
def bL.l1 : Nat → List Int → List Int → Int → Int → Int → Int → Int → Int → List Int → List Int → Int → Int → Int → Int → List Int → List Int → Option (Int × Int × Int × Int × List Int × List Int × Int)
  | 0, _, _, _, _, _, _, _, _, _, _, _, _, _, _, _, _ => none
  | k + 1, x7, x50, x51, x52, x133000, ig, x133002, ic, x133004, iH, x147000, x147001, x147002, x147003, x147004, x147005 => if x52 < x51 then (if 0 ≤ x52 then (if x52 < (x50.length : Int) then (if 0 ≤ (wrap64 ((rd x50 x52) * ig)) then (if (wrap64 ((rd x50 x52) * ig)) ≤ (wrap64 ((wrap64 ((rd x50 x52) + 1)) * ig)) then (if (wrap64 ((wrap64 ((rd x50 x52) + 1)) * ig)) ≤ (x133004.length : Int) then (bL.l2 k x7 (rd x50 x52) x50 x51 x52 ((x133004.take ((wrap64 ((wrap64 ((rd x50 x52) + 1)) * ig)) : Int).toNat).drop ((wrap64 ((rd x50 x52) * ig)) : Int).toNat) (((x133004.take ((wrap64 ((wrap64 ((rd x50 x52) + 1)) * ig)) : Int).toNat).drop ((wrap64 ((rd x50 x52) * ig)) : Int).toNat).length : Int) 0 x133000 ig x133002 ic x133004 iH x147000 x147001 x147002 x147003 x147004 x147005) else (none)) else (none)) else (none)) else (none)) else (none)) else (some (x147000, x147001, x147002, x147003, x147004, x147005, 0))
def bL.l2 : Nat → List Int → Int → List Int → Int → Int → List Int → Int → Int → Int → Int → Int → Int → List Int → List Int → Int → Int → Int → Int → List Int → List Int → Option (Int × Int × Int × Int × List Int × List Int × Int)
  | 0, _, _, _, _, _, _, _, _, _, _, _, _, _, _, _, _, _, _, _, _ => none
  | k + 1, x7, x12, x50, x51, x52, x67, x68, x69, x133000, ig, x133002, ic, x133004, iH, x147000, x147001, x147002, x147003, x147004, x147005 => if x69 < x68 then (if 0 ≤ x69 then (if x69 < (x67.length : Int) then (if 0 ≤ (rd x67 x69) then (if (rd x67 x69) < (x7.length : Int) then (if x147004.length < 17592186044416 then (bL.l2 k x7 x12 x50 x51 x52 x67 x68 (wrap64 (x69 + 1)) x133000 ig x133002 ic x133004 iH x147000 x147001 x147002 x147003 (x147004 ++ [rd x7 (rd x67 x69)]) x147005) else (none)) else (none)) else (none)) else (none)) else (none)) else (if ic = 0 then (none) else (if 0 ≤ (wrap64 (x12 * (wrap64 ((iH.length : Int) / ic)))) then (if (wrap64 (x12 * (wrap64 ((iH.length : Int) / ic)))) ≤ (wrap64 ((wrap64 (x12 + 1)) * (wrap64 ((iH.length : Int) / ic)))) then (if (wrap64 ((wrap64 (x12 + 1)) * (wrap64 ((iH.length : Int) / ic)))) ≤ (iH.length : Int) then (if x147005.length + ((iH.take ((wrap64 ((wrap64 (x12 + 1)) * (wrap64 ((iH.length : Int) / ic)))) : Int).toNat).drop ((wrap64 (x12 * (wrap64 ((iH.length : Int) / ic)))) : Int).toNat).length < 17592186044416 then (bL.l1 k x7 x50 x51 (wrap64 (x52 + 1)) x133000 ig x133002 ic x133004 iH x147000 x147001 x147002 x147003 x147004 (x147005 ++ ((iH.take ((wrap64 ((wrap64 (x12 + 1)) * (wrap64 ((iH.length : Int) / ic)))) : Int).toNat).drop ((wrap64 (x12 * (wrap64 ((iH.length : Int) / ic)))) : Int).toNat))) else (none)) else (none)) else (none)) else (none)))
end
def bL.f (k : Nat) (aT : Int) (aU : Int) (bQ : Int) (bG : Int) (bN : List Int) (bI : List Int) : Option (Int × Int × Int × Int × List Int × List Int × Int) := (kw.f aT aU bQ bG bN bI).bind fun bt134 => (if bt134.2.2 = 0 then (if 0 ≤ bG then (if (bG : Int).toNat ≤ 35184372088832 then (bL.l0 k bt134.1 (List.replicate (bG : Int).toNat 0) bt134.1 (bt134.1.length : Int) 0 aT aU bQ bG bN bI) else (none)) else (none)) else (some (0, 0, 0, 0, ([] : List Int), ([] : List Int), bt134.2.2)))
def bL.T17 : Bool × List (List Nat × List Nat) := (true, [([], []), ([0], [0]), ([], []), ([], []), ([2, 3], [2, 3]), ([4], [4]), ([5], [5]), ([1, 6], [1, 6]), ([0, 1, 2, 3, 4, 5, 6, 7], []), ([8, 7, 7, 0, 1, 2, 3, 4, 5, 6, 7], [7, 8])])
def bL.B17 : List Nat := [0, 1, 0, 0, 12, 28, 60, 127, 255, 511]
theorem bL.tab17 : rtab .any (opsOf Try.f67 17) = bL.T17 := by kernel_rfl
theorem bL.bits17 : waitsOk bL.T17.2 bL.B17 = true := by kernel_rfl
def bL.T20 : Bool × List (List Nat × List Nat) := (true, [([], []), ([0], [0]), ([], []), ([2], [2]), ([], []), ([], []), ([4, 5], [4, 5]), ([], []), ([7], [7]), ([], []), ([8, 9], [8, 9]), ([3, 6, 10], [3, 6, 10]), ([1, 11], [1, 11]), ([0, 1, 2, 3, 4, 5, 6, 7, 8, 9, 10, 11, 12], []), ([13, 12, 12, 0, 1, 2, 3, 4, 5, 6, 7, 8, 9, 10, 11, 12], [12, 13])])
def bL.B20 : List Nat := [0, 1, 0, 4, 0, 0, 48, 0, 128, 0, 896, 2044, 4095, 8191, 16383]
theorem bL.tab20 : rtab .any (opsOf Try.f67 20) = bL.T20 := by kernel_rfl
theorem bL.bits20 : waitsOk bL.T20.2 bL.B20 = true := by kernel_rfl
set_option maxHeartbeats 8000000 in
set_option maxRecDepth 100000 in
theorem bL.calls (k : Nat) (aT : Int) (aU : Int) (bQ : Int) (bG : Int) (eD : Option Addr) (eB : Nat) (bN : List Int) (eH : Option Addr) (eG : Nat) (bI : List Int) (r1 : Int) (r2 : Int) (r3 : Int) (r4 : Int) (r5 : List Int) (r6 : List Int) (r7 : Int) (w : World) (hr0_4 : Kd.C (Kd.int .i64) w eD bN.length bN) (hc0_4 : bN.length ≤ eB) (hr0_5 : Kd.C (Kd.int .i64) w eH bI.length bI) (hc0_5 : bI.length ≤ eG) (h : bL.f k aT aU bQ bG bN bI = some (r1, r2, r3, r4, r5, r6, r7)) :
    Calls Try.prog 67 #[.agg #[.int .i64 aT, .int .i64 aU, .int .i64 bQ, .int .i64 bG, .slice eD bN.length eB, .slice eH bI.length eG]] w fun e w' => ∃ v4_ v5_ : Value, e = .returned (.tuple #[.agg #[.int .i64 r1, .int .i64 r2, .int .i64 r3, .int .i64 r4, v4_, v5_], .int .i64 r7]) ∧ Kd.R (Kd.int .i64) 3 w' w.heap.size (fun k_ => some k_ ≠ (v5_ : Value).ownBlock) v4_ r5 ∧ Kd.R (Kd.int .i64) 3 w' w.heap.size (fun k_ => some k_ ≠ (v4_ : Value).ownBlock) v5_ r6 ∧ Below w.heap.size w w' := by
  have hu50 := Try.underlying50
  have HR0_4 := aA.mk hr0_4
  have HC0_4 := aA.mk hc0_4
  clear hr0_4 hc0_4
  have HR0_5 := aA.mk hr0_5
  have HC0_5 := aA.mk hc0_5
  clear hr0_5 hc0_5
  have HB := aA.mk (Below.refl w.heap.size w)
  have H : ((kw.f aT aU bQ bG bN bI).bind fun bt134 => (if bt134.2.2 = 0 then (if 0 ≤ bG then (if (bG : Int).toNat ≤ 35184372088832 then (bL.l0 k bt134.1 (List.replicate (bG : Int).toNat 0) bt134.1 (bt134.1.length : Int) 0 aT aU bQ bG bN bI) else (none)) else (none)) else (some (0, 0, 0, 0, ([] : List Int), ([] : List Int), bt134.2.2)))) = some (r1, r2, r3, r4, r5, r6, r7) := h
  clear h
  replace H := Option.bind_eq_some_iff.mp H
  obtain ⟨⟨bz, t137, t140⟩, A20, H⟩ := H
  replace H : (if t140 = 0 then (if 0 ≤ bG then (if (bG : Int).toNat ≤ 35184372088832 then (bL.l0 k bz (List.replicate (bG : Int).toNat 0) bz (bz.length : Int) 0 aT aU bQ bG bN bI) else (none)) else (none)) else (some (0, 0, 0, 0, ([] : List Int), ([] : List Int), t140))) = some (r1, r2, r3, r4, r5, r6, r7) := H
  have A2 := aA.mk A20
  clear A20
  by_cases c3 : t140 = 0
  · rw [if_pos c3] at H
    have c3b0 : (t140 == 0) = true := beq_iff_eq.mpr c3
    have c3b1 : (t140 != 0) = false := bne_eq_false_iff_eq.mpr c3
    clear c3
    by_cases c4 : 0 ≤ bG
    · rw [if_pos c4] at H
      have gz := eq_true c4
      have c4b1 : decide (0 ≤ bG) = true := decide_eq_true c4
      clear c4
      by_cases c5 : (bG : Int).toNat ≤ 35184372088832
      · rw [if_pos c5] at H
        have c5b0 := eq_true c5
        have c5b1 : decide ((bG : Int).toNat ≤ 35184372088832) = true := decide_eq_true c5
        clear c5
        obtain ⟨y141, hy141⟩ : ∃ y_ : List Int, y_ = (List.replicate (bG : Int).toNat 0) := ⟨_, rfl⟩
        replace H : (bL.l0 k bz y141 bz (bz.length : Int) 0 aT aU bQ bG bN bI) = some (r1, r2, r3, r4, r5, r6, r7) := by first | (rw [hy141]; with_reducible exact H) | (have H2_ := (Option.bind_some _ _).symm.trans H; rw [hy141]; with_reducible exact H2_) | (have H2_ := (Option.bind_some _ _).symm.trans H; with_reducible exact H2_) | with_reducible exact H | (rw [hy141]; exact H) | exact H
        have Ny141 := aA.mk hy141
        clear hy141
        have H' := aA.mk H
        clear H
        go_enter Try.func67, Try.ntmps67
        go_wp2_with (first | ((with_reducible refine bT (N := 1) rfl ?_); refine dD ?hg (N := 1) ?hd (cs := #[.int .i64 aT, .int .i64 aU, .int .i64 bQ, .int .i64 bG, .slice eD bN.length eB, .slice eH bI.length eG]) (t := 50) ?hr ?_; (case hd => rfl); (case hg => rfl); (case hr => first | (go_simp; done) | (go_simp; rfl)); intro dU hg w6 hbox hb; have n0_ := aA.mk (aW (by repeat (first | (with_reducible first | exact HB.out | apply aH | apply aG | apply aI) | exact HB.out)) hb); have n1_ := aA.mk (hbox); have n2_ := aA.mk ((by rw [hg]; exact (aY (by repeat (first | (with_reducible first | exact HB.out | apply aH | apply aG | apply aI) | exact HB.out))) : w.heap.size ≤ dU)); have n3_ := aA.mk ((by rw [hg]; exact (aY (by repeat (first | (with_reducible first | exact HB.out | apply aH | apply aG | apply aI) | exact HB.out))) : w.heap.size ≤ dU)); clear HB; have HB := n0_; have bK := n1_; have GW132 := n2_; have iI := n3_; clear n0_ n1_ n2_ n3_; clear hb hbox hg) | ((with_reducible refine bT (N := 2) rfl ?_); refine dD ?hg (N := 2) ?hd (cs := #[.int .i64 0, .int .i64 0, .int .i64 0, .int .i64 0, .slice none 0 0, .slice none 0 0]) (t := 50) ?hr ?_; (case hd => rfl); (case hg => rfl); (case hr => first | (go_simp; done) | (go_simp; rfl)); intro fJ hg w7 hbox hb; have n0_ := aA.mk (bH (g := dU) (o := .cells #[.int .i64 aT, .int .i64 aU, .int .i64 bQ, .int .i64 bG, .slice eD bN.length eB, .slice eH bI.length eG] 50 (0, 0)) (by (with_reducible repeat (first | refine aM ?_ _ | refine aQ ?_ | refine aJ ?_ _)); exact bK.out) hb); have n1_ := aA.mk (aW (by repeat (first | (with_reducible first | exact HB.out | apply aH | apply aG | apply aI | refine aN ?_ iI.out) | exact HB.out)) hb); have n2_ := aA.mk (hbox); have n3_ := aA.mk ((by rw [hg]; exact (aY (by repeat (first | (with_reducible first | exact HB.out | apply aH | apply aG | apply aI | refine aN ?_ iI.out) | exact HB.out))) : w.heap.size ≤ fJ)); have n4_ := aA.mk ((by rw [hg]; exact (aY (by repeat (first | (with_reducible first | exact HB.out | apply aH | apply aG | apply aI | refine aN ?_ iI.out) | exact HB.out))) : w.heap.size ≤ fJ)); have n5_ := aA.mk ((by rw [hg]; exact Nat.ne_of_lt (dM (g := dU) (o := .cells #[.int .i64 aT, .int .i64 aU, .int .i64 bQ, .int .i64 bG, .slice eD bN.length eB, .slice eH bI.length eG] 50 (0, 0)) (by (with_reducible repeat (first | refine aM ?_ _ | refine aQ ?_ | refine aJ ?_ _)); exact bK.out)) : dU ≠ fJ)); have n6_ := aA.mk ((by rw [hg]; exact Nat.ne_of_gt (dM (g := dU) (o := .cells #[.int .i64 aT, .int .i64 aU, .int .i64 bQ, .int .i64 bG, .slice eD bN.length eB, .slice eH bI.length eG] 50 (0, 0)) (by (with_reducible repeat (first | refine aM ?_ _ | refine aQ ?_ | refine aJ ?_ _)); exact bK.out)) : fJ ≠ dU)); clear bK; clear HB; have bK := n0_; have HB := n1_; have dR := n2_; have GW133 := n3_; have jo := n4_; have NB132_133 := n5_; have NB133_132 := n6_; clear n0_ n1_ n2_ n3_ n4_ n5_ n6_; clear hb hbox hg; have hnb8 := NB132_133.out; have hnc8 := NB133_132.out; have jF : w7.cell? ⟨dU, 0, none⟩ = some (.int .i64 aT) := (aD bK.out 0).trans rfl; have jE : w7.cell? ⟨dU, 1, none⟩ = some (.int .i64 aU) := (aD bK.out 1).trans rfl; have jD : w7.cell? ⟨dU, 2, none⟩ = some (.int .i64 bQ) := (aD bK.out 2).trans rfl; have jC : w7.cell? ⟨dU, 3, none⟩ = some (.int .i64 bG) := (aD bK.out 3).trans rfl; have hcz9_4 : w7.cell? ⟨dU, 4, none⟩ = some (.slice eD bN.length eB) := (aD bK.out 4).trans rfl; have hcz9_5 : w7.cell? ⟨dU, 5, none⟩ = some (.slice eH bI.length eG) := (aD bK.out 5).trans rfl; have jB := aC bK.out 0; have jA := aC bK.out 1; have iy := aC bK.out 2; have iw := aC bK.out 3; have hfz9_4 := aC bK.out 4; have hfz9_5 := aC bK.out 5) | ((with_reducible refine bC (f := 86) rfl ?_); refine dV (some 18) rfl rfl Try.func86 (by kernel_rfl) rfl #[.agg #[.int .i64 aT, .int .i64 aU, .int .i64 bQ, .int .i64 bG, .slice eD bN.length eB, .slice eH bI.length eG]] rfl (by (try simp only [List.map_toArray, List.map_cons, List.map_nil]); first | done | rfl | (simp only [List.length_drop, List.length_take]; rfl)) ?_; (with_reducible refine (kw.calls aT aU bQ bG _ _ bN _ _ bI bz t137 t140 _ ?dB ?dA ?di ?dh A2.out).mono ?_); (case dB => repeat (first | exact (Kd.aX HR0_4.out HB.out) | (with_reducible refine Kd.bE ?_ _) | (with_reducible refine Kd.bD ?_ _) | (with_reducible refine Kd.bS ?_))); (case dA => exact HC0_4.out); (case di => repeat (first | exact (Kd.aX HR0_5.out HB.out) | (with_reducible refine Kd.bE ?_ _) | (with_reducible refine Kd.bD ?_ _) | (with_reducible refine Kd.bS ?_))); (case dh => exact HC0_5.out); rintro e w10 ⟨v135, v138, rfl, ho0, ho1, hb⟩; refine ⟨_, rfl, ?_⟩; have n0_ := aA.mk (Kd.gI ho0 (aY (by repeat (first | (with_reducible first | exact HB.out | apply aH | apply aG | apply aI | refine aN ?_ iI.out | refine aN ?_ jo.out) | exact HB.out)))); have n1_ := aA.mk (Kd.S_lower ho1 (aY (by repeat (first | (with_reducible first | exact HB.out | apply aH | apply aG | apply aI | refine aN ?_ iI.out | refine aN ?_ jo.out) | exact HB.out)))); have n2_ := aA.mk (bH (g := dU) (o := .cells #[.int .i64 aT, .int .i64 aU, .int .i64 bQ, .int .i64 bG, .slice eD bN.length eB, .slice eH bI.length eG] 50 (0, 0)) (by (with_reducible repeat (first | refine aM ?_ _ | refine aQ ?_ | refine aJ ?_ _)); exact bK.out) hb); have n3_ := aA.mk (bH (g := fJ) (o := .cells #[.int .i64 0, .int .i64 0, .int .i64 0, .int .i64 0, .slice none 0 0, .slice none 0 0] 50 (0, 0)) (by (with_reducible repeat (first | refine aM ?_ _ | refine aQ ?_ | refine aJ ?_ _)); exact dR.out) hb); have n4_ := aA.mk (aW (by repeat (first | (with_reducible first | exact HB.out | apply aH | apply aG | apply aI | refine aN ?_ iI.out | refine aN ?_ jo.out) | exact HB.out)) hb); clear bK; clear dR; clear HB; have HO136 := n0_; have HO139 := n1_; have bK := n2_; have dR := n3_; have HB := n4_; clear n0_ n1_ n2_ n3_ n4_; (try clear hb); (try clear hb2); (try clear hk); (try clear hi); (try clear ho0); (try clear ho1); have kP : w10.cell? ⟨dU, 0, none⟩ = some (.int .i64 aT) := (aD bK.out 0).trans rfl; have kN : w10.cell? ⟨dU, 1, none⟩ = some (.int .i64 aU) := (aD bK.out 1).trans rfl; have kM : w10.cell? ⟨dU, 2, none⟩ = some (.int .i64 bQ) := (aD bK.out 2).trans rfl; have kL : w10.cell? ⟨dU, 3, none⟩ = some (.int .i64 bG) := (aD bK.out 3).trans rfl; have hcz11_4 : w10.cell? ⟨dU, 4, none⟩ = some (.slice eD bN.length eB) := (aD bK.out 4).trans rfl; have hcz11_5 : w10.cell? ⟨dU, 5, none⟩ = some (.slice eH bI.length eG) := (aD bK.out 5).trans rfl; have kK := aC bK.out 0; have kJ := aC bK.out 1; have kI := aC bK.out 2; have kG := aC bK.out 3; have hfz11_4 := aC bK.out 4; have hfz11_5 := aC bK.out 5) | ((with_reducible refine bT (N := 28) rfl ?_); refine Kd.R_make (Kd.int .i64) _ 3 rfl (N := 28) rfl 32 _ _ rfl bG rfl rfl Try.underlying32 (.int .i64 0) 8 info3 rfl (by decide) (by omega) 0 (ok := fun _ => True) (okp := fun _ => True) rfl (fun _ hk => hk) trivial (of_decide_eq_true (by first | (with_reducible assumption) | assumption)) (Nat.le_trans (Nat.mul_le_mul_right _ (of_decide_eq_true (by first | (with_reducible assumption) | assumption) : bG.toNat ≤ 35184372088832)) (by omega)) (Below.refl _ _) (Nat.le_refl _) ?_; intro v142 w12 ho13 hb hg_ hnew_; clear hg_ hnew_; (first | rw [← Ny141.out] at ho13 | (simp only [Int.reduceToNat] at ho13; rw [← Ny141.out] at ho13)); have n0_ := aA.mk (Kd.R_elder' (by (with_reducible repeat (first | apply Kd.ai | apply Kd.ah | apply Kd.ax)); exact HO136.out) (Kd.iJ ho13) hb); have n1_ := aA.mk (Kd.S_elder' (by (with_reducible repeat (first | apply Kd.S_alloc | apply Kd.S_drewN | apply Kd.S_drew)); exact HO139.out) (Kd.iJ ho13) hb); have n2_ := aA.mk (Kd.gI (Kd.iW ho13 (Kd.j6 (by (with_reducible repeat (first | apply Kd.ai | apply Kd.ah | apply Kd.ax)); exact HO136.out))) (aY (by repeat (first | (with_reducible first | exact HB.out | apply aH | apply aG | apply aI | refine aN ?_ iI.out | refine aN ?_ jo.out) | exact HB.out)))); have n3_ := aA.mk (bH (g := dU) (o := .cells #[.int .i64 aT, .int .i64 aU, .int .i64 bQ, .int .i64 bG, .slice eD bN.length eB, .slice eH bI.length eG] 50 (0, 0)) (by (with_reducible repeat (first | refine aM ?_ _ | refine aQ ?_ | refine aJ ?_ _)); exact bK.out) hb); have n4_ := aA.mk (bH (g := fJ) (o := .cells #[.int .i64 0, .int .i64 0, .int .i64 0, .int .i64 0, .slice none 0 0, .slice none 0 0] 50 (0, 0)) (by (with_reducible repeat (first | refine aM ?_ _ | refine aQ ?_ | refine aJ ?_ _)); exact dR.out) hb); have n5_ := aA.mk (aW (by repeat (first | (with_reducible first | exact HB.out | apply aH | apply aG | apply aI | refine aN ?_ iI.out | refine aN ?_ jo.out) | exact HB.out)) hb); clear HO136; clear HO139; clear bK; clear dR; clear HB; have HO136 := n0_; have HO139 := n1_; have HO143 := n2_; have bK := n3_; have dR := n4_; have HB := n5_; clear n0_ n1_ n2_ n3_ n4_ n5_; clear hb ho13; obtain ⟨Ao14, co14, eo14⟩ := Kd.cB HO136.out; subst eo14))
        go_loopg [31] k (fun kq v31 w' => ∃ (fu : List Int) (iX : Int), v31 = .int .i64 iX ∧ aA (bL.l0 kq bz fu bz (bz.length : Int) iX aT aU bQ bG bN bI = some (r1, r2, r3, r4, r5, r6, r7)) ∧ aA (kq ≤ k) ∧ aA (Kd.R (Kd.int .i64) 3 w' w.heap.size (fun k_ => some k_ ≠ (v142 : Value).ownBlock) (.slice Ao14 bz.length co14) bz) ∧ aA (Kd.R (Kd.int .i64) 3 w' w.heap.size (fun k_ => some k_ ≠ ((.slice Ao14 bz.length co14) : Value).ownBlock ∧ some k_ ≠ ((.slice Ao14 bz.length co14) : Value).ownBlock) v142 fu) ∧ aA (Kd.R (Kd.int .i64) 3 w' w.heap.size (fun k_ => some k_ ≠ (v142 : Value).ownBlock) (.slice Ao14 bz.length co14) bz) ∧ aA (w'.heap[dU]? = some (.cells #[.int .i64 aT, .int .i64 aU, .int .i64 bQ, .int .i64 bG, (.slice eD bN.length eB), (.slice eH bI.length eG)] 50 (0, 0))) ∧ aA (w'.heap[fJ]? = some (.cells #[.int .i64 0, .int .i64 0, .int .i64 0, .int .i64 0, (.slice none 0 0), (.slice none 0 0)] 50 (0, 0))) ∧ aA (Below w.heap.size w w'))
        case atStart => exact ⟨(y141), (0), (by first | rfl | (simp; done) | (simp [*]; done)), H', ⟨Nat.le_refl _⟩, ⟨by (with_reducible repeat (first | apply Kd.ai | apply Kd.ah | apply Kd.ax)); exact Kd.bV HO136.out (fun _ hk => hk.2)⟩, ⟨by (with_reducible repeat (first | apply Kd.ai | apply Kd.ah | apply Kd.ax)); exact Kd.bV HO143.out (fun _ hk => ⟨hk.2, hk.2⟩)⟩, ⟨by (with_reducible repeat (first | apply Kd.ai | apply Kd.ah | apply Kd.ax)); exact Kd.bV HO136.out (fun _ hk => hk.2)⟩, ⟨by (with_reducible repeat (first | refine aM ?_ _ | refine aQ ?_ | refine aJ ?_ _)); exact bK.out⟩, ⟨by (with_reducible repeat (first | refine aM ?_ _ | refine aQ ?_ | refine aJ ?_ _)); exact dR.out⟩, ⟨by repeat (first | (with_reducible first | exact HB.out | apply aH | apply aG | apply aI | refine aN ?_ iI.out | refine aN ?_ jo.out) | exact HB.out)⟩⟩
        case round =>
          clear H'
          try clear p2
          try clear c3
          try clear c3b0
          try clear c3b1
          try clear c4
          try clear gz
          try clear c4b1
          try clear c5
          try clear c5b0
          try clear c5b1
          try clear c6
          try clear c8
          try clear kP
          try clear kN
          try clear kM
          try clear kL
          try clear hcz11_4
          try clear hcz11_5
          try clear jF
          try clear jE
          try clear jD
          try clear jC
          try clear hcz9_4
          try clear hcz9_5
          try clear kK
          try clear kJ
          try clear kI
          try clear kG
          try clear hfz11_4
          try clear hfz11_5
          try clear jB
          try clear jA
          try clear iy
          try clear iw
          try clear hfz9_4
          try clear hfz9_5
          obtain ⟨fu, iX, rfl, HA, HK1, HO_4, HO_7, HO_29, bK, dR, HB⟩ := hrel
          cases gk with
          | zero => exact absurd HA.out (by simp [bL.l0])
          | succ k1 =>
            have H := HA.out
            clear HA
            simp only [bL.l0] at H
            by_cases c15 : iX < (bz.length : Int)
            · rw [if_pos c15] at H
              have c15b0 : decide (iX < (bz.length : Int)) = true := decide_eq_true c15
              clear c15
              by_cases c16 : 0 ≤ iX
              · rw [if_pos c16] at H
                have c16b0 : decide (0 ≤ iX) = true := decide_eq_true c16
                clear c16
                by_cases c17 : iX < (bz.length : Int)
                · rw [if_pos c17] at H
                  have c17b0 : decide (iX < (bz.length : Int)) = true := decide_eq_true c17
                  clear c17
                  by_cases c18 : 0 ≤ (rd bz iX)
                  · rw [if_pos c18] at H
                    have c18b0 : decide (0 ≤ (rd bz iX)) = true := decide_eq_true c18
                    clear c18
                    by_cases c19 : (rd bz iX) < (fu.length : Int)
                    · rw [if_pos c19] at H
                      have c19b0 : decide ((rd bz iX) < (fu.length : Int)) = true := decide_eq_true c19
                      clear c19
                      obtain ⟨y145, hy145⟩ : ∃ y_ : List Int, y_ = (fu.set ((rd bz iX) : Int).toNat iX) := ⟨_, rfl⟩
                      replace H : (bL.l0 k1 bz y145 bz (bz.length : Int) (wrap64 (iX + 1)) aT aU bQ bG bN bI) = some (r1, r2, r3, r4, r5, r6, r7) := by first | (rw [hy145]; with_reducible exact H) | (have H2_ := (Option.bind_some _ _).symm.trans H; rw [hy145]; with_reducible exact H2_) | (have H2_ := (Option.bind_some _ _).symm.trans H; with_reducible exact H2_) | with_reducible exact H | (rw [hy145]; exact H) | exact H
                      have Ny145 := aA.mk hy145
                      clear hy145
                      have H' := aA.mk H
                      clear H
                      have p144 : 0 ≤ (iX : Int) := of_decide_eq_true (by first | (with_reducible assumption) | assumption)
                      have q144 : iX < (bz.length : Int) := of_decide_eq_true (by first | (with_reducible assumption) | assumption)
                      obtain ⟨ad144, e144, hx144_0⟩ := Kd.dN (Kd.dw HO_29.out).2.2 iX p144 q144
                      cases e144
                      replace p144 := eq_true p144
                      replace q144 := eq_true q144
                      have p20 : 0 ≤ ((rd bz iX) : Int) := of_decide_eq_true (by first | (with_reducible assumption) | assumption)
                      have q20 : ((rd bz iX) : Int) < ((fu.length : Int) : Int) := of_decide_eq_true (by first | (with_reducible assumption) | assumption)
                      obtain ⟨go20, co20, eo20, gb20, gl20, cl20, HG20⟩ := Kd.R_form HO_7.out (by omega)
                      (first | cases eo20 | (injection eo20 with ea_ en_ ec_; (first | subst ea_ | (injection ea_ with ea_; subst ea_)); subst ec_; clear en_))
                      have GB20 := aA.mk gb20
                      have GG20 := aA.mk HG20
                      clear gb20 gl20 HG20
                      obtain ⟨hx20_0, hf20_0⟩ := Kd.R_celln 0 HO_7.out ((rd bz iX) : Int) p20 q20
                      replace p20 := eq_true p20
                      replace q20 := eq_true q20
                      have HP21 := Kd.R_putg HO_7.out ((rd bz iX) : Int) iX
                      go_wp2_with (first | ((with_reducible refine eF (t := 3) (p := 39) rfl ?_); refine store_event (t := 3) (p := 39) (v := ?vo_w22) (w1 := (wr.setCell ⟨go20, ((rd bz iX) : Int).toNat, none⟩ (.int .i64 iX))) ?hg ?ho ?hn ?hr ?_; (case ho => rfl); (case hg => rfl); (case hn => rfl); (case hr => first | (go_simp; done) | (go_simp; rfl)); intro w22 hw; have hg : wr.grownBy w22 (some go20) := (by rw [hw]; exact HP21.2); have hp_ : Kd.R (Kd.int .i64) 3 w22 w.heap.size (fun k_ => some k_ ≠ (.slice (some ad144) bz.length co14 : Value).ownBlock ∧ some k_ ≠ (.slice (some ad144) bz.length co14 : Value).ownBlock) (.slice (some ⟨go20, 0, none⟩) fu.length co20) y145 := (by rw [hw, Ny145.out]; exact HP21.1); clear HP21; have n0_ := aA.mk (Kd.lc (v := (.slice (some ⟨go20, 0, none⟩) fu.length co20)) (v1 := (.slice (some ⟨go20, 0, none⟩) fu.length co20)) (ok := (fun _ => True)) (by (with_reducible repeat (first | apply Kd.ai | apply Kd.ah | apply Kd.ax)); exact Kd.bV HO_4.out (fun _ hk => ⟨trivial, hk⟩)) hg (.inl rfl)); have n1_ := aA.mk (hp_); have n2_ := aA.mk (Kd.lc (v := (.slice (some ⟨go20, 0, none⟩) fu.length co20)) (v1 := (.slice (some ⟨go20, 0, none⟩) fu.length co20)) (ok := (fun _ => True)) (by (with_reducible repeat (first | apply Kd.ai | apply Kd.ah | apply Kd.ax)); exact Kd.bV HO_29.out (fun _ hk => ⟨trivial, hk⟩)) hg (.inl rfl)); have n3_ := aA.mk (fA (g := dU) (o := .cells #[.int .i64 aT, .int .i64 aU, .int .i64 bQ, .int .i64 bG, .slice eD bN.length eB, .slice eH bI.length eG] 50 (0, 0)) (by (with_reducible repeat (first | refine aM ?_ _ | refine aQ ?_ | refine aJ ?_ _)); exact bK.out) hg (Kd.R_ne HO_7.out bK.out (by decide))); have n4_ := aA.mk (fA (g := fJ) (o := .cells #[.int .i64 0, .int .i64 0, .int .i64 0, .int .i64 0, .slice none 0 0, .slice none 0 0] 50 (0, 0)) (by (with_reducible repeat (first | refine aM ?_ _ | refine aQ ?_ | refine aJ ?_ _)); exact dR.out) hg (Kd.R_ne HO_7.out dR.out (by decide))); have n5_ := aA.mk ((by rw [hw]; exact aN (HB.out) GB20.out : Below w.heap.size w w22)); clear HO_4; clear HO_7; clear HO_29; clear bK; clear dR; clear HB; have HO_4 := n0_; have HO_7 := n1_; have HO_29 := n2_; have bK := n3_; have dR := n4_; have HB := n5_; clear n0_ n1_ n2_ n3_ n4_ n5_; clear hg hw hp_))
                      go_roundg k1
                      case measure => have := HK1.out; omega
                      case rel => exact ⟨(y145), (wrap64 (iX + 1)), (by first | rfl | (simp; done) | (simp [*]; done)), H', ⟨by have := HK1.out; omega⟩, ⟨by (with_reducible repeat (first | apply Kd.ai | apply Kd.ah | apply Kd.ax)); exact Kd.bV HO_4.out (fun _ hk => hk.2)⟩, ⟨by (with_reducible repeat (first | apply Kd.ai | apply Kd.ah | apply Kd.ax)); exact HO_7.out⟩, ⟨by (with_reducible repeat (first | apply Kd.ai | apply Kd.ah | apply Kd.ax)); exact Kd.bV HO_29.out (fun _ hk => hk.2)⟩, ⟨by (with_reducible repeat (first | refine aM ?_ _ | refine aQ ?_ | refine aJ ?_ _)); exact bK.out⟩, ⟨by (with_reducible repeat (first | refine aM ?_ _ | refine aQ ?_ | refine aJ ?_ _)); exact dR.out⟩, ⟨by repeat (first | (with_reducible first | exact HB.out | apply aH | apply aG | apply aI | refine aN ?_ iI.out | refine aN ?_ jo.out) | exact HB.out)⟩⟩
                    · rw [if_neg c19] at H
                      exact absurd H (by simp)
                  · rw [if_neg c18] at H
                    exact absurd H (by simp)
                · rw [if_neg c17] at H
                  exact absurd H (by simp)
              · rw [if_neg c16] at H
                exact absurd H (by simp)
            · rw [if_neg c15] at H
              have c15b0 : decide (iX < (bz.length : Int)) = false := decide_eq_false c15
              clear c15
              have H' := aA.mk H
              clear H
              have hnb23 := NB132_133.out
              have hnc23 := NB133_132.out
              have hcz24_0 : wr.cell? ⟨dU, 0, none⟩ = some (.int .i64 aT) := (aD bK.out 0).trans rfl
              have hcz24_1 : wr.cell? ⟨dU, 1, none⟩ = some (.int .i64 aU) := (aD bK.out 1).trans rfl
              have hcz24_2 : wr.cell? ⟨dU, 2, none⟩ = some (.int .i64 bQ) := (aD bK.out 2).trans rfl
              have hcz24_3 : wr.cell? ⟨dU, 3, none⟩ = some (.int .i64 bG) := (aD bK.out 3).trans rfl
              have hcz24_4 : wr.cell? ⟨dU, 4, none⟩ = some (.slice eD bN.length eB) := (aD bK.out 4).trans rfl
              have hcz24_5 : wr.cell? ⟨dU, 5, none⟩ = some (.slice eH bI.length eG) := (aD bK.out 5).trans rfl
              have hfz24_0 := aC bK.out 0
              have hfz24_1 := aC bK.out 1
              have hfz24_2 := aC bK.out 2
              have hfz24_3 := aC bK.out 3
              have hfz24_4 := aC bK.out 4
              have hfz24_5 := aC bK.out 5
              go_wp2_with (first | ((with_reducible refine bT (N := 10) rfl ?_); refine dD ?hg (N := 10) ?hd (cs := #[.int .i64 0, .int .i64 0, .int .i64 0, .int .i64 0, .slice none 0 0, .slice none 0 0]) (t := 50) ?hr ?_; (case hd => rfl); (case hg => rfl); (case hr => first | (go_simp; done) | (go_simp; rfl)); intro ek hg w25 hbox hb; have n0_ := aA.mk (Kd.iD (by (with_reducible repeat (first | apply Kd.ai | apply Kd.ah | apply Kd.ax)); exact HO_4.out) hb); have n1_ := aA.mk (Kd.iD (by (with_reducible repeat (first | apply Kd.ai | apply Kd.ah | apply Kd.ax)); exact HO_7.out) hb); have n2_ := aA.mk (Kd.iD (by (with_reducible repeat (first | apply Kd.ai | apply Kd.ah | apply Kd.ax)); exact HO_29.out) hb); have n3_ := aA.mk (bH (g := dU) (o := .cells #[.int .i64 aT, .int .i64 aU, .int .i64 bQ, .int .i64 bG, .slice eD bN.length eB, .slice eH bI.length eG] 50 (0, 0)) (by (with_reducible repeat (first | refine aM ?_ _ | refine aQ ?_ | refine aJ ?_ _)); exact bK.out) hb); have n4_ := aA.mk (bH (g := fJ) (o := .cells #[.int .i64 0, .int .i64 0, .int .i64 0, .int .i64 0, .slice none 0 0, .slice none 0 0] 50 (0, 0)) (by (with_reducible repeat (first | refine aM ?_ _ | refine aQ ?_ | refine aJ ?_ _)); exact dR.out) hb); have n5_ := aA.mk (aW (by repeat (first | (with_reducible first | exact HB.out | apply aH | apply aG | apply aI | refine aN ?_ iI.out | refine aN ?_ jo.out) | exact HB.out)) hb); have n6_ := aA.mk (hbox); have n7_ := aA.mk ((by rw [hg]; exact (aY (by repeat (first | (with_reducible first | exact HB.out | apply aH | apply aG | apply aI | refine aN ?_ iI.out | refine aN ?_ jo.out) | exact HB.out))) : w.heap.size ≤ ek)); have n8_ := aA.mk ((by rw [hg]; exact (aY (by repeat (first | (with_reducible first | exact HB.out | apply aH | apply aG | apply aI | refine aN ?_ iI.out | refine aN ?_ jo.out) | exact HB.out))) : w.heap.size ≤ ek)); have n9_ := aA.mk ((by rw [hg]; exact Nat.ne_of_lt (dM (g := dU) (o := .cells #[.int .i64 aT, .int .i64 aU, .int .i64 bQ, .int .i64 bG, .slice eD bN.length eB, .slice eH bI.length eG] 50 (0, 0)) (by (with_reducible repeat (first | refine aM ?_ _ | refine aQ ?_ | refine aJ ?_ _)); exact bK.out)) : dU ≠ ek)); have n10_ := aA.mk ((by rw [hg]; exact Nat.ne_of_gt (dM (g := dU) (o := .cells #[.int .i64 aT, .int .i64 aU, .int .i64 bQ, .int .i64 bG, .slice eD bN.length eB, .slice eH bI.length eG] 50 (0, 0)) (by (with_reducible repeat (first | refine aM ?_ _ | refine aQ ?_ | refine aJ ?_ _)); exact bK.out)) : ek ≠ dU)); have n11_ := aA.mk ((by rw [hg]; exact Nat.ne_of_lt (dM (g := fJ) (o := .cells #[.int .i64 0, .int .i64 0, .int .i64 0, .int .i64 0, .slice none 0 0, .slice none 0 0] 50 (0, 0)) (by (with_reducible repeat (first | refine aM ?_ _ | refine aQ ?_ | refine aJ ?_ _)); exact dR.out)) : fJ ≠ ek)); have n12_ := aA.mk ((by rw [hg]; exact Nat.ne_of_gt (dM (g := fJ) (o := .cells #[.int .i64 0, .int .i64 0, .int .i64 0, .int .i64 0, .slice none 0 0, .slice none 0 0] 50 (0, 0)) (by (with_reducible repeat (first | refine aM ?_ _ | refine aQ ?_ | refine aJ ?_ _)); exact dR.out)) : ek ≠ fJ)); clear HO_4; clear HO_7; clear HO_29; clear bK; clear dR; clear HB; have HO_4 := n0_; have HO_7 := n1_; have HO_29 := n2_; have bK := n3_; have dR := n4_; have HB := n5_; have dH := n6_; have GW146 := n7_; have GE146 := n8_; have gZ := n9_; have NB146_132 := n10_; have iN := n11_; have NB146_133 := n12_; clear n0_ n1_ n2_ n3_ n4_ n5_ n6_ n7_ n8_ n9_ n10_ n11_ n12_; clear hb hbox hg; have hnb26 := NB146_132.out; have hnc26 := gZ.out; have hnb27 := NB146_133.out; have hnc27 := iN.out; have hcz28_0 : w25.cell? ⟨ek, 0, none⟩ = some (.int .i64 0) := (aD dH.out 0).trans rfl; have hcz28_1 : w25.cell? ⟨ek, 1, none⟩ = some (.int .i64 0) := (aD dH.out 1).trans rfl; have hcz28_2 : w25.cell? ⟨ek, 2, none⟩ = some (.int .i64 0) := (aD dH.out 2).trans rfl; have hcz28_3 : w25.cell? ⟨ek, 3, none⟩ = some (.int .i64 0) := (aD dH.out 3).trans rfl; have hcz28_4 : w25.cell? ⟨ek, 4, none⟩ = some (.slice none 0 0) := (aD dH.out 4).trans rfl; have hcz28_5 : w25.cell? ⟨ek, 5, none⟩ = some (.slice none 0 0) := (aD dH.out 5).trans rfl; have hfz28_0 := aC dH.out 0; have hfz28_1 := aC dH.out 1; have hfz28_2 := aC dH.out 2; have hfz28_3 := aC dH.out 3; have hfz28_4 := aC dH.out 4; have hfz28_5 := aC dH.out 5))
              go_loopg [52] k1 (fun kq v52 w' => ∃ (dO : Int) (kE : List Int) (gJ : List Int) (fO : Value) (gG : Value), v52 = .int .i64 dO ∧ aA (bL.l1 kq fu bz (bz.length : Int) dO aT aU bQ bG bN bI aT aU bQ (bz.length : Int) kE gJ = some (r1, r2, r3, r4, r5, r6, r7)) ∧ aA (kq ≤ k1) ∧ aA (Kd.R (Kd.int .i64) 3 w' w.heap.size (fun k_ => some k_ ≠ ((.slice Ao14 bz.length co14) : Value).ownBlock ∧ some k_ ≠ (fO : Value).ownBlock ∧ some k_ ≠ (gG : Value).ownBlock) v142 fu) ∧ aA (Kd.R (Kd.int .i64) 3 w' w.heap.size (fun k_ => some k_ ≠ (v142 : Value).ownBlock ∧ some k_ ≠ (fO : Value).ownBlock ∧ some k_ ≠ (gG : Value).ownBlock) (.slice Ao14 bz.length co14) bz) ∧ aA (Kd.R (Kd.int .i64) 3 w' w.heap.size (fun k_ => some k_ ≠ (v142 : Value).ownBlock ∧ some k_ ≠ ((.slice Ao14 bz.length co14) : Value).ownBlock ∧ some k_ ≠ (gG : Value).ownBlock) fO kE) ∧ aA (Kd.R (Kd.int .i64) 3 w' w.heap.size (fun k_ => some k_ ≠ (v142 : Value).ownBlock ∧ some k_ ≠ ((.slice Ao14 bz.length co14) : Value).ownBlock ∧ some k_ ≠ (fO : Value).ownBlock) gG gJ) ∧ aA (w'.heap[dU]? = some (.cells #[.int .i64 aT, .int .i64 aU, .int .i64 bQ, .int .i64 bG, (.slice eD bN.length eB), (.slice eH bI.length eG)] 50 (0, 0))) ∧ aA (w'.heap[fJ]? = some (.cells #[.int .i64 0, .int .i64 0, .int .i64 0, .int .i64 0, (.slice none 0 0), (.slice none 0 0)] 50 (0, 0))) ∧ aA (w'.heap[ek]? = some (.cells #[.int .i64 aT, .int .i64 aU, .int .i64 bQ, .int .i64 (bz.length : Int), fO, gG] 50 (0, 0))) ∧ aA (Below w.heap.size w w'))
              case atStart => exact ⟨(0), (([] : List Int)), (([] : List Int)), (.slice none 0 0), (.slice none 0 0), (by first | rfl | (simp; done) | (simp [*]; done)), H', ⟨Nat.le_refl _⟩, ⟨by (with_reducible repeat (first | apply Kd.ai | apply Kd.ah | apply Kd.ax)); exact Kd.bV (Kd.bg (p := ⟨ek, 5, none⟩) (Kd.bg (p := ⟨ek, 4, none⟩) (Kd.bg (p := ⟨ek, 3, none⟩) (Kd.bg (p := ⟨ek, 2, none⟩) (Kd.bg (p := ⟨ek, 1, none⟩) (Kd.bg (p := ⟨ek, 0, none⟩) (Kd.eY HO_7.out dH.out (by decide)) (fun _ hk => hk.2) (.int .i64 aT)) (fun _ hk => hk.2) (.int .i64 aU)) (fun _ hk => hk.2) (.int .i64 bQ)) (fun _ hk => hk.2) (.int .i64 (bz.length : Int))) (fun _ hk => hk.2) (.slice none 0 0)) (fun _ hk => hk.2) (.slice none 0 0)) (fun _ hk => ⟨hk.1.1, ⟨(by simp [Value.ownBlock]), (by simp [Value.ownBlock])⟩⟩)⟩, ⟨by (with_reducible repeat (first | apply Kd.ai | apply Kd.ah | apply Kd.ax)); exact Kd.bV (Kd.bg (p := ⟨ek, 5, none⟩) (Kd.bg (p := ⟨ek, 4, none⟩) (Kd.bg (p := ⟨ek, 3, none⟩) (Kd.bg (p := ⟨ek, 2, none⟩) (Kd.bg (p := ⟨ek, 1, none⟩) (Kd.bg (p := ⟨ek, 0, none⟩) (Kd.eY HO_4.out dH.out (by decide)) (fun _ hk => hk.2) (.int .i64 aT)) (fun _ hk => hk.2) (.int .i64 aU)) (fun _ hk => hk.2) (.int .i64 bQ)) (fun _ hk => hk.2) (.int .i64 (bz.length : Int))) (fun _ hk => hk.2) (.slice none 0 0)) (fun _ hk => hk.2) (.slice none 0 0)) (fun _ hk => ⟨hk.1, ⟨(by simp [Value.ownBlock]), (by simp [Value.ownBlock])⟩⟩)⟩, ⟨by first | exact Kd.R_nil _ _ _ _ _ | exact Kd.N_nil _ _ _ _ _ | exact Kd.V_nil _ _ _ _ _ | exact Kd.Q_nil _ _ _ _ _ | exact Kd.S_nil _ _ _ _ _⟩, ⟨by first | exact Kd.R_nil _ _ _ _ _ | exact Kd.N_nil _ _ _ _ _ | exact Kd.V_nil _ _ _ _ _ | exact Kd.Q_nil _ _ _ _ _ | exact Kd.S_nil _ _ _ _ _⟩, ⟨by (with_reducible repeat (first | refine aM ?_ _ | refine aQ ?_ | refine aJ ?_ _)); refine bX ?_ gZ.out _; (with_reducible repeat (first | refine aM ?_ _ | refine aQ ?_ | refine aJ ?_ _)); refine bX ?_ gZ.out _; (with_reducible repeat (first | refine aM ?_ _ | refine aQ ?_ | refine aJ ?_ _)); refine bX ?_ gZ.out _; (with_reducible repeat (first | refine aM ?_ _ | refine aQ ?_ | refine aJ ?_ _)); refine bX ?_ gZ.out _; (with_reducible repeat (first | refine aM ?_ _ | refine aQ ?_ | refine aJ ?_ _)); refine bX ?_ gZ.out _; (with_reducible repeat (first | refine aM ?_ _ | refine aQ ?_ | refine aJ ?_ _)); refine bX ?_ gZ.out _; (with_reducible repeat (first | refine aM ?_ _ | refine aQ ?_ | refine aJ ?_ _)); exact bK.out⟩, ⟨by (with_reducible repeat (first | refine aM ?_ _ | refine aQ ?_ | refine aJ ?_ _)); refine bX ?_ iN.out _; (with_reducible repeat (first | refine aM ?_ _ | refine aQ ?_ | refine aJ ?_ _)); refine bX ?_ iN.out _; (with_reducible repeat (first | refine aM ?_ _ | refine aQ ?_ | refine aJ ?_ _)); refine bX ?_ iN.out _; (with_reducible repeat (first | refine aM ?_ _ | refine aQ ?_ | refine aJ ?_ _)); refine bX ?_ iN.out _; (with_reducible repeat (first | refine aM ?_ _ | refine aQ ?_ | refine aJ ?_ _)); refine bX ?_ iN.out _; (with_reducible repeat (first | refine aM ?_ _ | refine aQ ?_ | refine aJ ?_ _)); refine bX ?_ iN.out _; (with_reducible repeat (first | refine aM ?_ _ | refine aQ ?_ | refine aJ ?_ _)); exact dR.out⟩, ⟨by (with_reducible repeat (first | refine aM ?_ _ | refine aQ ?_ | refine aJ ?_ _)); refine bU (cs := #[.int .i64 aT, .int .i64 aU, .int .i64 bQ, .int .i64 (bz.length : Int), .slice none 0 0, .slice none 0 0]) ?_ 5 _ rfl; (with_reducible repeat (first | refine aM ?_ _ | refine aQ ?_ | refine aJ ?_ _)); refine bU (cs := #[.int .i64 aT, .int .i64 aU, .int .i64 bQ, .int .i64 (bz.length : Int), .slice none 0 0, .slice none 0 0]) ?_ 4 _ rfl; (with_reducible repeat (first | refine aM ?_ _ | refine aQ ?_ | refine aJ ?_ _)); refine bU (cs := #[.int .i64 aT, .int .i64 aU, .int .i64 bQ, .int .i64 0, .slice none 0 0, .slice none 0 0]) ?_ 3 _ rfl; (with_reducible repeat (first | refine aM ?_ _ | refine aQ ?_ | refine aJ ?_ _)); refine bU (cs := #[.int .i64 aT, .int .i64 aU, .int .i64 0, .int .i64 0, .slice none 0 0, .slice none 0 0]) ?_ 2 _ rfl; (with_reducible repeat (first | refine aM ?_ _ | refine aQ ?_ | refine aJ ?_ _)); refine bU (cs := #[.int .i64 aT, .int .i64 0, .int .i64 0, .int .i64 0, .slice none 0 0, .slice none 0 0]) ?_ 1 _ rfl; (with_reducible repeat (first | refine aM ?_ _ | refine aQ ?_ | refine aJ ?_ _)); refine bU (cs := #[.int .i64 0, .int .i64 0, .int .i64 0, .int .i64 0, .slice none 0 0, .slice none 0 0]) ?_ 0 _ rfl; (with_reducible repeat (first | refine aM ?_ _ | refine aQ ?_ | refine aJ ?_ _)); exact dH.out⟩, ⟨by repeat (first | (with_reducible first | exact HB.out | apply aH | apply aG | apply aI | refine aN ?_ iI.out | refine aN ?_ jo.out | refine aN ?_ GE146.out) | exact HB.out)⟩⟩
              case round =>
                clear H'
                try clear c1
                try clear p1
                try clear q1
                try clear hx1
                try clear c2
                try clear p2
                try clear q2
                try clear hx2
                try clear hf2
                try clear c3
                try clear c3b0
                try clear c3b1
                try clear c4
                try clear gz
                try clear c4b1
                try clear c5
                try clear c5b0
                try clear c5b1
                try clear c6
                try clear p6
                try clear c8
                try clear p14
                try clear q14
                try clear hx14
                try clear c15
                try clear c15b0
                try clear c16
                try clear c16b0
                try clear c17
                try clear c17b0
                try clear c18
                try clear c18b0
                try clear c19
                try clear c19b0
                try clear p20
                try clear q20
                try clear hx20
                try clear hf20
                try clear c23
                try clear c26
                try clear c27
                try clear kP
                try clear kN
                try clear kM
                try clear kL
                try clear hcz11_4
                try clear hcz11_5
                try clear hcz24_0
                try clear hcz24_1
                try clear hcz24_2
                try clear hcz24_3
                try clear hcz24_4
                try clear hcz24_5
                try clear hcz28_0
                try clear hcz28_1
                try clear hcz28_2
                try clear hcz28_3
                try clear hcz28_4
                try clear hcz28_5
                try clear jF
                try clear jE
                try clear jD
                try clear jC
                try clear hcz9_4
                try clear hcz9_5
                try clear kK
                try clear kJ
                try clear kI
                try clear kG
                try clear hfz11_4
                try clear hfz11_5
                try clear hfz24_0
                try clear hfz24_1
                try clear hfz24_2
                try clear hfz24_3
                try clear hfz24_4
                try clear hfz24_5
                try clear hfz28_0
                try clear hfz28_1
                try clear hfz28_2
                try clear hfz28_3
                try clear hfz28_4
                try clear hfz28_5
                try clear jB
                try clear jA
                try clear iy
                try clear iw
                try clear hfz9_4
                try clear hfz9_5
                try clear hx144_0
                try clear hx20_0
                try clear p144
                try clear p2
                try clear p20
                try clear q144
                try clear q20
                obtain ⟨dO, kE, gJ, fO, gG, rfl, HA, HK2, HO_7, HO_50, HO_147004, HO_147005, bK, dR, dH, HB⟩ := hrel
                cases gk with
                | zero => exact absurd HA.out (by simp [bL.l1])
                | succ k2 =>
                  have H := HA.out
                  clear HA
                  simp only [bL.l1] at H
                  by_cases c29 : dO < (bz.length : Int)
                  · rw [if_pos c29] at H
                    have c29b0 : decide (dO < (bz.length : Int)) = true := decide_eq_true c29
                    clear c29
                    by_cases c30 : 0 ≤ dO
                    · rw [if_pos c30] at H
                      have c30b0 : decide (0 ≤ dO) = true := decide_eq_true c30
                      clear c30
                      by_cases c31 : dO < (bz.length : Int)
                      · rw [if_pos c31] at H
                        have c31b0 : decide (dO < (bz.length : Int)) = true := decide_eq_true c31
                        clear c31
                        obtain ⟨ji32, hji32⟩ : ∃ j_ : Int, (wrap64 ((rd bz dO) * aU)) = j_ := ⟨_, rfl⟩
                        replace H : (if 0 ≤ (ji32) then (if (ji32) ≤ (wrap64 ((wrap64 ((rd bz dO) + 1)) * aU)) then (if (wrap64 ((wrap64 ((rd bz dO) + 1)) * aU)) ≤ (bN.length : Int) then (bL.l2 k2 fu (rd bz dO) bz (bz.length : Int) dO ((bN.take ((wrap64 ((wrap64 ((rd bz dO) + 1)) * aU)) : Int).toNat).drop ((ji32) : Int).toNat) (((bN.take ((wrap64 ((wrap64 ((rd bz dO) + 1)) * aU)) : Int).toNat).drop ((ji32) : Int).toNat).length : Int) 0 aT aU bQ bG bN bI aT aU bQ (bz.length : Int) kE gJ) else (none)) else (none)) else (none)) = some (r1, r2, r3, r4, r5, r6, r7) := by first | (rw [hji32] at H; exact H) | (simp only [hji32] at H ⊢; exact H)
                        have hji32w : (IntKind.i64.wrap ((rd bz dO) * aU)) = ji32 := (aj _).trans hji32
                        by_cases c33 : 0 ≤ (ji32)
                        · rw [if_pos c33] at H
                          have c33b0 := eq_true c33
                          have c33b1 : decide (0 ≤ (ji32)) = true := decide_eq_true c33
                          clear c33
                          by_cases c34 : (ji32) ≤ (wrap64 ((wrap64 ((rd bz dO) + 1)) * aU))
                          · rw [if_pos c34] at H
                            have c34b0 := eq_true c34
                            have c34b1 : decide ((ji32) ≤ (wrap64 ((wrap64 ((rd bz dO) + 1)) * aU))) = true := decide_eq_true c34
                            by_cases c35 : (wrap64 ((wrap64 ((rd bz dO) + 1)) * aU)) ≤ (bN.length : Int)
                            · rw [if_pos c35] at H
                              have c35b0 := eq_true c35
                              have c35b1 : decide ((wrap64 ((wrap64 ((rd bz dO) + 1)) * aU)) ≤ (bN.length : Int)) = true := decide_eq_true c35
                              have H' := aA.mk H
                              clear H
                              have p147 : 0 ≤ (dO : Int) := of_decide_eq_true (by first | (with_reducible assumption) | assumption)
                              have q147 : dO < (bz.length : Int) := of_decide_eq_true (by first | (with_reducible assumption) | assumption)
                              obtain ⟨ad147, e147, hx147_0⟩ := Kd.dN (Kd.dw HO_50.out).2.2 dO p147 q147
                              cases e147
                              replace p147 := eq_true p147
                              replace q147 := eq_true q147
                              have hnb36 := NB132_133.out
                              have hnc36 := NB133_132.out
                              have hnb37 := gZ.out
                              have hnc37 := NB146_132.out
                              have hcz38_0 : wr.cell? ⟨dU, 0, none⟩ = some (.int .i64 aT) := (aD bK.out 0).trans rfl
                              have hcz38_1 : wr.cell? ⟨dU, 1, none⟩ = some (.int .i64 aU) := (aD bK.out 1).trans rfl
                              have hcz38_2 : wr.cell? ⟨dU, 2, none⟩ = some (.int .i64 bQ) := (aD bK.out 2).trans rfl
                              have hcz38_3 : wr.cell? ⟨dU, 3, none⟩ = some (.int .i64 bG) := (aD bK.out 3).trans rfl
                              have hcz38_4 : wr.cell? ⟨dU, 4, none⟩ = some (.slice eD bN.length eB) := (aD bK.out 4).trans rfl
                              have hcz38_5 : wr.cell? ⟨dU, 5, none⟩ = some (.slice eH bI.length eG) := (aD bK.out 5).trans rfl
                              have hfz38_0 := aC bK.out 0
                              have hfz38_1 := aC bK.out 1
                              have hfz38_2 := aC bK.out 2
                              have hfz38_3 := aC bK.out 3
                              have hfz38_4 := aC bK.out 4
                              have hfz38_5 := aC bK.out 5
                              obtain ⟨i039, hi039, _, hsz39, _⟩ := info_parts info3
                              obtain ⟨A39, hcut39, hA39, hC39⟩ := print_mid_of (P := Try.prog) (Value.int .i64) 0 32 3 .i64 .i64 Try.underlying32 hi039 hsz39 eD eB bN (ji32) (wrap64 ((wrap64 ((rd bz dO) + 1)) * aU)) (of_decide_eq_true (by first | (with_reducible assumption) | assumption)) (by first | omega | exact of_decide_eq_true (by first | (with_reducible assumption) | assumption)) (of_decide_eq_true (by first | (with_reducible assumption) | assumption)) HC0_4.out
                              have hl39_ := aA.mk (show ((bN.take ((wrap64 ((wrap64 ((rd bz dO) + 1)) * aU)) : Int).toNat).drop ((ji32) : Int).toNat).length = ((wrap64 ((wrap64 ((rd bz dO) + 1)) * aU)) : Int).toNat - ((ji32) : Int).toNat from by have hm_ : (wrap64 ((wrap64 ((rd bz dO) + 1)) * aU)) ≤ (bN.length : Int) := of_decide_eq_true (by first | (with_reducible assumption) | assumption); rw [List.length_drop, List.length_take]; omega)
                              have HR148 := aA.mk (Kd.C_of_reads (h1 := fun _ => rfl) (hA39 _ (Kd.reads_of_C HR0_4.out)))
                              have HC148 := aA.mk hC39
                              clear hA39 hC39 hi039 hsz39
                              go_wp2
                              go_loopg [69] k2 (fun kq v69 w' => ∃ (x69_3 : Int) (il : List Int) (fO : Value), v69 = .int .i64 x69_3 ∧ aA (bL.l2 kq fu (rd bz dO) bz (bz.length : Int) dO ((bN.take ((wrap64 ((wrap64 ((rd bz dO) + 1)) * aU)) : Int).toNat).drop ((ji32) : Int).toNat) (((bN.take ((wrap64 ((wrap64 ((rd bz dO) + 1)) * aU)) : Int).toNat).drop ((ji32) : Int).toNat).length : Int) x69_3 aT aU bQ bG bN bI aT aU bQ (bz.length : Int) il gJ = some (r1, r2, r3, r4, r5, r6, r7)) ∧ aA (kq ≤ k2) ∧ aA (Kd.R (Kd.int .i64) 3 w' w.heap.size (fun k_ => some k_ ≠ ((.slice (some ad147) bz.length co14) : Value).ownBlock ∧ some k_ ≠ (fO : Value).ownBlock ∧ some k_ ≠ (gG : Value).ownBlock) v142 fu) ∧ aA (Kd.R (Kd.int .i64) 3 w' w.heap.size (fun k_ => some k_ ≠ (v142 : Value).ownBlock ∧ some k_ ≠ (fO : Value).ownBlock ∧ some k_ ≠ (gG : Value).ownBlock) (.slice (some ad147) bz.length co14) bz) ∧ aA (Kd.R (Kd.int .i64) 3 w' w.heap.size (fun k_ => some k_ ≠ (v142 : Value).ownBlock ∧ some k_ ≠ ((.slice (some ad147) bz.length co14) : Value).ownBlock ∧ some k_ ≠ (gG : Value).ownBlock) fO il) ∧ aA (Kd.R (Kd.int .i64) 3 w' w.heap.size (fun k_ => some k_ ≠ (v142 : Value).ownBlock ∧ some k_ ≠ ((.slice (some ad147) bz.length co14) : Value).ownBlock ∧ some k_ ≠ (fO : Value).ownBlock) gG gJ) ∧ aA (w'.heap[dU]? = some (.cells #[.int .i64 aT, .int .i64 aU, .int .i64 bQ, .int .i64 bG, (.slice eD bN.length eB), (.slice eH bI.length eG)] 50 (0, 0))) ∧ aA (w'.heap[fJ]? = some (.cells #[.int .i64 0, .int .i64 0, .int .i64 0, .int .i64 0, (.slice none 0 0), (.slice none 0 0)] 50 (0, 0))) ∧ aA (w'.heap[ek]? = some (.cells #[.int .i64 aT, .int .i64 aU, .int .i64 bQ, .int .i64 (bz.length : Int), fO, gG] 50 (0, 0))) ∧ aA (Below w.heap.size w w'))
                              case atStart => exact ⟨(0), (kE), (fO), (by first | rfl | (simp; done) | (simp [*]; done)), H', ⟨Nat.le_refl _⟩, ⟨by (with_reducible repeat (first | apply Kd.ai | apply Kd.ah | apply Kd.ax)); exact HO_7.out⟩, ⟨by (with_reducible repeat (first | apply Kd.ai | apply Kd.ah | apply Kd.ax)); exact HO_50.out⟩, ⟨by (with_reducible repeat (first | apply Kd.ai | apply Kd.ah | apply Kd.ax)); exact HO_147004.out⟩, ⟨by (with_reducible repeat (first | apply Kd.ai | apply Kd.ah | apply Kd.ax)); exact HO_147005.out⟩, ⟨by (with_reducible repeat (first | refine aM ?_ _ | refine aQ ?_ | refine aJ ?_ _)); exact bK.out⟩, ⟨by (with_reducible repeat (first | refine aM ?_ _ | refine aQ ?_ | refine aJ ?_ _)); exact dR.out⟩, ⟨by (with_reducible repeat (first | refine aM ?_ _ | refine aQ ?_ | refine aJ ?_ _)); exact dH.out⟩, ⟨by repeat (first | (with_reducible first | exact HB.out | apply aH | apply aG | apply aI | refine aN ?_ iI.out | refine aN ?_ jo.out | refine aN ?_ GE146.out) | exact HB.out)⟩⟩
                              case round =>
                                clear H'
                                try clear c1
                                try clear p1
                                try clear q1
                                try clear hx1
                                try clear c2
                                try clear p2
                                try clear q2
                                try clear hx2
                                try clear hf2
                                try clear c3
                                try clear c3b0
                                try clear c3b1
                                try clear c4
                                try clear gz
                                try clear c4b1
                                try clear c5
                                try clear c5b0
                                try clear c5b1
                                try clear c6
                                try clear p6
                                try clear c8
                                try clear p14
                                try clear q14
                                try clear hx14
                                try clear c15
                                try clear c15b0
                                try clear c16
                                try clear c16b0
                                try clear c17
                                try clear c17b0
                                try clear c18
                                try clear c18b0
                                try clear c19
                                try clear c19b0
                                try clear p20
                                try clear q20
                                try clear hx20
                                try clear hf20
                                try clear c23
                                try clear c26
                                try clear c27
                                try clear c29
                                try clear c29b0
                                try clear c30
                                try clear c30b0
                                try clear c31
                                try clear c31b0
                                try clear c33
                                try clear c33b0
                                try clear c33b1
                                try clear c34
                                try clear c34b0
                                try clear c34b1
                                try clear c35
                                try clear c35b0
                                try clear c35b1
                                try clear c36
                                try clear c37
                                try clear kP
                                try clear kN
                                try clear kM
                                try clear kL
                                try clear hcz11_4
                                try clear hcz11_5
                                try clear hcz24_0
                                try clear hcz24_1
                                try clear hcz24_2
                                try clear hcz24_3
                                try clear hcz24_4
                                try clear hcz24_5
                                try clear hcz28_0
                                try clear hcz28_1
                                try clear hcz28_2
                                try clear hcz28_3
                                try clear hcz28_4
                                try clear hcz28_5
                                try clear hcz38_0
                                try clear hcz38_1
                                try clear hcz38_2
                                try clear hcz38_3
                                try clear hcz38_4
                                try clear hcz38_5
                                try clear jF
                                try clear jE
                                try clear jD
                                try clear jC
                                try clear hcz9_4
                                try clear hcz9_5
                                try clear kK
                                try clear kJ
                                try clear kI
                                try clear kG
                                try clear hfz11_4
                                try clear hfz11_5
                                try clear hfz24_0
                                try clear hfz24_1
                                try clear hfz24_2
                                try clear hfz24_3
                                try clear hfz24_4
                                try clear hfz24_5
                                try clear hfz28_0
                                try clear hfz28_1
                                try clear hfz28_2
                                try clear hfz28_3
                                try clear hfz28_4
                                try clear hfz28_5
                                try clear hfz38_0
                                try clear hfz38_1
                                try clear hfz38_2
                                try clear hfz38_3
                                try clear hfz38_4
                                try clear hfz38_5
                                try clear jB
                                try clear jA
                                try clear iy
                                try clear iw
                                try clear hfz9_4
                                try clear hfz9_5
                                try clear hx144_0
                                try clear hx147_0
                                try clear hx20_0
                                try clear p1
                                try clear p14
                                try clear p144
                                try clear p147
                                try clear p2
                                try clear p20
                                try clear p6
                                try clear q1
                                try clear q14
                                try clear q144
                                try clear q147
                                try clear q2
                                try clear q20
                                obtain ⟨x69_3, il, fO, rfl, HA, HK3, HO_7, HO_50, HO_147004, HO_147005, bK, dR, dH, HB⟩ := hrel
                                cases gk with
                                | zero => exact absurd HA.out (by simp [bL.l2])
                                | succ k3 =>
                                  have H := HA.out
                                  clear HA
                                  simp only [bL.l2] at H
                                  by_cases c40 : x69_3 < (((bN.take ((wrap64 ((wrap64 ((rd bz dO) + 1)) * aU)) : Int).toNat).drop ((ji32) : Int).toNat).length : Int)
                                  · rw [if_pos c40] at H
                                    have c40b0 : decide (x69_3 < (((bN.take ((wrap64 ((wrap64 ((rd bz dO) + 1)) * aU)) : Int).toNat).drop ((ji32) : Int).toNat).length : Int)) = true := decide_eq_true c40
                                    clear c40
                                    by_cases c41 : 0 ≤ x69_3
                                    · rw [if_pos c41] at H
                                      have c41b0 : decide (0 ≤ x69_3) = true := decide_eq_true c41
                                      clear c41
                                      by_cases c42 : x69_3 < (((bN.take ((wrap64 ((wrap64 ((rd bz dO) + 1)) * aU)) : Int).toNat).drop ((ji32) : Int).toNat).length : Int)
                                      · rw [if_pos c42] at H
                                        have c42b0 : decide (x69_3 < (((bN.take ((wrap64 ((wrap64 ((rd bz dO) + 1)) * aU)) : Int).toNat).drop ((ji32) : Int).toNat).length : Int)) = true := decide_eq_true c42
                                        clear c42
                                        obtain ⟨ji43, hji43⟩ : ∃ j_ : Int, (rd ((bN.take ((wrap64 ((wrap64 ((rd bz dO) + 1)) * aU)) : Int).toNat).drop ((ji32) : Int).toNat) x69_3) = j_ := ⟨_, rfl⟩
                                        replace H : (if 0 ≤ (ji43) then (if (ji43) < (fu.length : Int) then (if il.length < 17592186044416 then (bL.l2 k3 fu (rd bz dO) bz (bz.length : Int) dO ((bN.take ((wrap64 ((wrap64 ((rd bz dO) + 1)) * aU)) : Int).toNat).drop ((ji32) : Int).toNat) (((bN.take ((wrap64 ((wrap64 ((rd bz dO) + 1)) * aU)) : Int).toNat).drop ((ji32) : Int).toNat).length : Int) (wrap64 (x69_3 + 1)) aT aU bQ bG bN bI aT aU bQ (bz.length : Int) (il ++ [rd fu (ji43)]) gJ) else (none)) else (none)) else (none)) = some (r1, r2, r3, r4, r5, r6, r7) := by first | (rw [hji43] at H; exact H) | (simp only [hji43] at H ⊢; exact H)
                                        by_cases c44 : 0 ≤ (ji43)
                                        · rw [if_pos c44] at H
                                          have c44b0 : decide (0 ≤ (ji43)) = true := decide_eq_true c44
                                          clear c44
                                          by_cases c45 : (ji43) < (fu.length : Int)
                                          · rw [if_pos c45] at H
                                            have c45b0 : decide ((ji43) < (fu.length : Int)) = true := decide_eq_true c45
                                            clear c45
                                            by_cases c46 : il.length < 17592186044416
                                            · rw [if_pos c46] at H
                                              have LMc46 := aA.mk c46
                                              clear c46
                                              obtain ⟨y151, hy151⟩ : ∃ y_ : List Int, y_ = (il ++ [rd fu (ji43)]) := ⟨_, rfl⟩
                                              replace H : (bL.l2 k3 fu (rd bz dO) bz (bz.length : Int) dO ((bN.take ((wrap64 ((wrap64 ((rd bz dO) + 1)) * aU)) : Int).toNat).drop ((ji32) : Int).toNat) (((bN.take ((wrap64 ((wrap64 ((rd bz dO) + 1)) * aU)) : Int).toNat).drop ((ji32) : Int).toNat).length : Int) (wrap64 (x69_3 + 1)) aT aU bQ bG bN bI aT aU bQ (bz.length : Int) y151 gJ) = some (r1, r2, r3, r4, r5, r6, r7) := by first | (rw [hy151]; with_reducible exact H) | (have H2_ := (Option.bind_some _ _).symm.trans H; rw [hy151]; with_reducible exact H2_) | (have H2_ := (Option.bind_some _ _).symm.trans H; with_reducible exact H2_) | with_reducible exact H | (rw [hy151]; exact H) | exact H
                                              have Ny151 := aA.mk hy151
                                              clear hy151
                                              have H' := aA.mk H
                                              clear H
                                              have p149 : 0 ≤ (x69_3 : Int) := of_decide_eq_true (by first | (with_reducible assumption) | assumption)
                                              have q149 : x69_3 < (((bN.take ((wrap64 ((wrap64 ((rd bz dO) + 1)) * aU)) : Int).toNat).drop ((ji32) : Int).toNat).length : Int) := of_decide_eq_true (by first | (with_reducible assumption) | assumption)
                                              obtain ⟨ad149, e149, hx149_0⟩ := Kd.dN HR148.out x69_3 p149 q149
                                              cases e149
                                              replace hx149_0 := (HB.out.cell (World.block_lt_of_cell? w _ hx149_0)).trans hx149_0
                                              replace p149 := eq_true p149
                                              replace q149 := eq_true q149
                                              (try (have d39_c40b0 := c40b0; rw [hl39_.out] at d39_c40b0))
                                              (try (have d39_c42b0 := c42b0; rw [hl39_.out] at d39_c42b0))
                                              (try (have d39_q149 := q149; rw [hl39_.out] at d39_q149))
                                              try go_wp2
                                              have n0_ := aA.mk (Kd.ax HO_7.out)
                                              have n1_ := aA.mk (Kd.ax HO_50.out)
                                              have n2_ := aA.mk (Kd.ax HO_147004.out)
                                              have n3_ := aA.mk (Kd.ax HO_147005.out)
                                              have n4_ := aA.mk (aQ bK.out)
                                              have n5_ := aA.mk (aQ dR.out)
                                              have n6_ := aA.mk (aQ dH.out)
                                              have n7_ := aA.mk (aI HB.out)
                                              clear HO_7
                                              clear HO_50
                                              clear HO_147004
                                              clear HO_147005
                                              clear bK
                                              clear dR
                                              clear dH
                                              clear HB
                                              have HO_7 := n0_
                                              have HO_50 := n1_
                                              have HO_147004 := n2_
                                              have HO_147005 := n3_
                                              have bK := n4_
                                              have dR := n5_
                                              have dH := n6_
                                              have HB := n7_
                                              clear n0_ n1_ n2_ n3_ n4_ n5_ n6_ n7_
                                              obtain ⟨Ao48, co48, eo48⟩ := Kd.cB HO_7.out
                                              (first | subst eo48 | (injection eo48 with f1_ f2_ f3_; have f4_ := f1_.symm; have f5_ := f3_.symm; clear f1_ f2_ f3_; subst f4_; subst f5_))
                                              have p150 : 0 ≤ ((ji43) : Int) := of_decide_eq_true (by first | (with_reducible assumption) | assumption)
                                              have q150 : (ji43) < (fu.length : Int) := of_decide_eq_true (by first | (with_reducible assumption) | assumption)
                                              obtain ⟨ad150, e150, hx150_0⟩ := Kd.dN (Kd.dw HO_7.out).2.2 (ji43) p150 q150
                                              cases e150
                                              replace p150 := eq_true p150
                                              replace q150 := eq_true q150
                                              refine l7 (n := 10) (S := fun w' => w'.cell? ⟨ek, 0, none⟩ = some (.int .i64 aT) ∧ w'.cell? ⟨ek, 1, none⟩ = some (.int .i64 aU) ∧ w'.cell? ⟨ek, 2, none⟩ = some (.int .i64 bQ) ∧ w'.cell? ⟨ek, 3, none⟩ = some (.int .i64 (bz.length : Int)) ∧ w'.cell? ⟨ek, 4, none⟩ = some (fO) ∧ w'.cell? ⟨ek, 5, none⟩ = some (gG) ∧ w'.cell? (ad150.add ((ji43)).toNat) = some (.int .i64 (rd fu (ji43)))) (ds := [7, 9]) #[false, false, false, false, false, false, false, false, false, false] (by kernel_rfl) rfl rfl ⟨(aD dH.out 0).trans rfl, (aD dH.out 1).trans rfl, (aD dH.out 2).trans rfl, (aD dH.out 3).trans rfl, (aD dH.out 4).trans rfl, (aD dH.out 5).trans rfl, hx150_0⟩ (fun hHeld => ?_); refine iL bL.tab17 bL.bits17 (fun HT_ HW_ => ?_)
                                              generalize wr.drew = w47 at HO_7 HO_50 HO_147004 HO_147005 bK dR dH HB hx150_0 hHeld ⊢
                                              refine bR (i := 0) (N := some 73) (v := ?_) (a' := ?_) #[true, false, false, false, false, false, false, false, false, false] rfl rfl (bF HT_.out (by kernel_rfl)) (fun _ _ _ h => h) (Or.inl ⟨by rfl, ?_⟩) ?_ ?_
                                              rotate_left
                                              · intro w'
                                                go_simp
                                                with_reducible rfl
                                              rotate_left
                                              · simp only [Act.put, List.setIfInBounds_toArray, List.set_cons_zero, List.set_cons_succ, aj, av]
                                                rfl
                                              refine bR (i := 2) (N := some 75) (v := ?_) (a' := ?_) #[true, false, true, false, false, false, false, false, false, false] rfl rfl (bF HT_.out (by kernel_rfl)) (fun _ _ _ h => h) (Or.inl ⟨by rfl, ?_⟩) ?_ ?_
                                              rotate_left
                                              · intro w'
                                                go_simp
                                                with_reducible rfl
                                              rotate_left
                                              · simp only [Act.put, List.setIfInBounds_toArray, List.set_cons_zero, List.set_cons_succ, aj, av]
                                                rfl
                                              refine bR (i := 3) (N := some 76) (v := ?_) (a' := ?_) #[true, false, true, true, false, false, false, false, false, false] rfl rfl (bF HT_.out (by kernel_rfl)) (fun _ _ _ h => h) (Or.inl ⟨by rfl, ?_⟩) ?_ ?_
                                              rotate_left
                                              · intro w'
                                                go_simp
                                                with_reducible rfl
                                              rotate_left
                                              · simp only [Act.put, List.setIfInBounds_toArray, List.set_cons_zero, List.set_cons_succ, aj, av]
                                                rfl
                                              refine bR (i := 4) (N := some 77) (v := ?_) (a' := ?_) #[true, false, true, true, true, false, false, false, false, false] rfl rfl (bF HT_.out (by kernel_rfl)) (fun _ _ _ h => h) (Or.inl ⟨by rfl, ?_⟩) ?_ ?_
                                              rotate_left
                                              · intro w'
                                                go_simp
                                                with_reducible rfl
                                              rotate_left
                                              · simp only [Act.put, List.setIfInBounds_toArray, List.set_cons_zero, List.set_cons_succ, aj, av]
                                                rfl
                                              refine gD (i := 1) (N := some 74) (v := ?_) (a' := ?_) #[true, true, true, true, true, false, false, false, false, false] rfl rfl (df HT_.out HW_.out (by kernel_rfl)) (fun _ _ _ h => h) (Or.inl ⟨by rfl, ?_⟩) hHeld ?_ ?_
                                              rotate_left
                                              · rintro w' ⟨s0, s1, s2, s3, s4, s5, s6⟩
                                                go_simp
                                                with_reducible rfl
                                              rotate_left
                                              · simp only [Act.put, List.setIfInBounds_toArray, List.set_cons_zero, List.set_cons_succ, aj, av]
                                                rfl
                                              refine gD (i := 5) (N := some 78) (v := ?_) (a' := ?_) #[true, true, true, true, true, true, false, false, false, false] rfl rfl (df HT_.out HW_.out (by kernel_rfl)) (fun _ _ _ h => h) (Or.inl ⟨by rfl, ?_⟩) hHeld ?_ ?_
                                              rotate_left
                                              · rintro w' ⟨s0, s1, s2, s3, s4, s5, s6⟩
                                                go_simp
                                                with_reducible rfl
                                              rotate_left
                                              · simp only [Act.put, List.setIfInBounds_toArray, List.set_cons_zero, List.set_cons_succ, aj, av]
                                                rfl
                                              refine one_ (i := 6) (N := some 79) #[true, true, true, true, true, true, true, false, false, false] rfl rfl (gU HT_.out (by kernel_rfl)) (by decide) (fun K hK => ?_)
                                              refine value_ (w1 := ?_) (v := ?_) (by rfl) rfl ?_ ?_
                                              rotate_left 2
                                              · go_simp
                                                constructor
                                                · rfl
                                                · rfl
                                              refine hK.out _ _ ⟨(aD (aJ dH.out _) 0).trans rfl, (aD (aJ dH.out _) 1).trans rfl, (aD (aJ dH.out _) 2).trans rfl, (aD (aJ dH.out _) 3).trans rfl, (aD (aJ dH.out _) 4).trans rfl, (aD (aJ dH.out _) 5).trans rfl, (World.cell?_alloc_lt _ _ _ (World.block_lt_of_cell? _ _ (hHeld.2.2.2.2.2.2))).trans (hHeld.2.2.2.2.2.2)⟩ (fun hHeld => ?_)
                                              clear hK K
                                              refine gB (a' := ?_) ?_ ?_
                                              rotate_left
                                              · show Act.put _ (some 79) _ = _
                                                simp only [Act.put, List.setIfInBounds_toArray, List.set_cons_zero, List.set_cons_succ, aj, av]
                                                rfl
                                              refine last_ (i := 7) (N := some 80) #[true, true, true, true, true, true, true, true, false, false] rfl rfl (gU HT_.out (by kernel_rfl)) (by decide) (fun K hK => ?_)
                                              refine Kd.R_append_step (Kd.int .i64) (w0 := w) w.heap.size (by rfl) (.tmp 74) (.tmp 79) 32 3 (.int .i64 0) 8 rfl Try.underlying32 info3 rfl (by decide) (by omega) fO il (rd fu (ji43)) [.int .i64 (rd fu (ji43))] (fun k_ => some k_ ≠ (.slice (some ad150) fu.length co48 : Value).ownBlock ∧ some k_ ≠ (.slice (some ad147) bz.length co14 : Value).ownBlock ∧ some k_ ≠ (gG : Value).ownBlock) (fun _ => False) rfl rfl ?aP (fun _ hk => hk.elim) ?aF ?aO ?aB ?aS ?aL ?_
                                              (case aP => exact rfl)
                                              (case aB => exact (by repeat (first | (with_reducible first | exact HB.out | apply aH | apply aG | apply aI | refine aN ?_ iI.out | refine aN ?_ jo.out | refine aN ?_ GE146.out) | exact HB.out)))
                                              (case aF => exact (fun k_ hk => ⟨Kd.fresh' (Kd.j6 (by (with_reducible repeat (first | apply Kd.ai | apply Kd.ah | apply Kd.ax)); exact HO_7.out)) k_ hk, Kd.fresh' (Kd.j6 (by (with_reducible repeat (first | apply Kd.ai | apply Kd.ah | apply Kd.ax)); exact HO_50.out)) k_ hk, Kd.fresh' (Kd.j6 (by (with_reducible repeat (first | apply Kd.ai | apply Kd.ah | apply Kd.ax)); exact HO_147005.out)) k_ hk⟩))
                                              (case aO => exact (by (with_reducible repeat (first | apply Kd.ai | apply Kd.ah | apply Kd.ax)); exact HO_147004.out))
                                              (case aS => exact (aY (by repeat (first | (with_reducible first | exact HB.out | apply aH | apply aG | apply aI | refine aN ?_ iI.out | refine aN ?_ jo.out | refine aN ?_ GE146.out) | exact HB.out))))
                                              (case aL => have := LMc46.out; omega)
                                              intro v152 w49 ho hb hg hat
                                              rw [← Ny151.out] at ho
                                              have n0_ := aA.mk (Kd.lc (ok := (fun k_ => some k_ ≠ (.slice (some ad147) bz.length co14 : Value).ownBlock ∧ some k_ ≠ (gG : Value).ownBlock)) (by (with_reducible repeat (first | apply Kd.ai | apply Kd.ah | apply Kd.ax)); exact Kd.bV HO_7.out (fun _ hk => ⟨⟨hk.1, hk.2.2⟩, hk.2.1⟩)) hg hat)
                                              have n1_ := aA.mk (Kd.lc (ok := (fun k_ => some k_ ≠ (.slice (some ad150) fu.length co48 : Value).ownBlock ∧ some k_ ≠ (gG : Value).ownBlock)) (by (with_reducible repeat (first | apply Kd.ai | apply Kd.ah | apply Kd.ax)); exact Kd.bV HO_50.out (fun _ hk => ⟨⟨hk.1, hk.2.2⟩, hk.2.1⟩)) hg hat)
                                              have n2_ := aA.mk (Kd.lc (ok := (fun k_ => some k_ ≠ (.slice (some ad150) fu.length co48 : Value).ownBlock ∧ some k_ ≠ (.slice (some ad147) bz.length co14 : Value).ownBlock)) (by (with_reducible repeat (first | apply Kd.ai | apply Kd.ah | apply Kd.ax)); exact Kd.bV HO_147005.out (fun _ hk => ⟨⟨hk.1, hk.2.1⟩, hk.2.2⟩)) hg hat)
                                              have n3_ := aA.mk (fA (g := dU) (o := .cells #[.int .i64 aT, .int .i64 aU, .int .i64 bQ, .int .i64 bG, .slice eD bN.length eB, .slice eH bI.length eG] 50 (0, 0)) (by (with_reducible repeat (first | refine aM ?_ _ | refine aQ ?_ | refine aJ ?_ _)); exact bK.out) hg (Kd.R_ne HO_147004.out bK.out (by decide)))
                                              have n4_ := aA.mk (fA (g := fJ) (o := .cells #[.int .i64 0, .int .i64 0, .int .i64 0, .int .i64 0, .slice none 0 0, .slice none 0 0] 50 (0, 0)) (by (with_reducible repeat (first | refine aM ?_ _ | refine aQ ?_ | refine aJ ?_ _)); exact dR.out) hg (Kd.R_ne HO_147004.out dR.out (by decide)))
                                              have n5_ := aA.mk (fA (g := ek) (o := .cells #[.int .i64 aT, .int .i64 aU, .int .i64 bQ, .int .i64 (bz.length : Int), fO, gG] 50 (0, 0)) (by (with_reducible repeat (first | refine aM ?_ _ | refine aQ ?_ | refine aJ ?_ _)); exact dH.out) hg (Kd.R_ne HO_147004.out dH.out (by decide)))
                                              have n6_ := aA.mk (hb)
                                              have n7_ := aA.mk (ho)
                                              clear HO_7
                                              clear HO_50
                                              clear HO_147005
                                              clear bK
                                              clear dR
                                              clear dH
                                              clear HB
                                              clear HO_147004
                                              have HO_7 := n0_
                                              have HO_50 := n1_
                                              have HO_147005 := n2_
                                              have bK := n3_
                                              have dR := n4_
                                              have dH := n5_
                                              have HB := n6_
                                              have HO153 := n7_
                                              clear n0_ n1_ n2_ n3_ n4_ n5_ n6_ n7_
                                              clear ho hb hg hat
                                              obtain ⟨Ao50, co50, eo50⟩ := Kd.cB HO153.out
                                              (first | subst eo50 | (injection eo50 with f1_ f2_ f3_; have f4_ := f1_.symm; have f5_ := f3_.symm; clear f1_ f2_ f3_; subst f4_; subst f5_))
                                              refine hK.out _ _ ?_
                                              clear hK K
                                              refine gB (a' := ?_) ?_ ?_
                                              rotate_left
                                              · show Act.put _ (some 80) _ = _
                                                simp only [Act.put, List.setIfInBounds_toArray, List.set_cons_zero, List.set_cons_succ, aj, av]
                                                rfl
                                              refine bR (i := 8) (N := some 81) (v := ?_) (a' := ?_) #[true, true, true, true, true, true, true, true, true, false] rfl rfl (bF HT_.out (by kernel_rfl)) (fun _ _ _ h => h) (Or.inl ⟨by rfl, ?_⟩) ?_ ?_
                                              rotate_left
                                              · intro w'
                                                go_simp
                                                with_reducible rfl
                                              rotate_left
                                              · simp only [Act.put, List.setIfInBounds_toArray, List.set_cons_zero, List.set_cons_succ, aj, av]
                                                rfl
                                              refine last_ (i := 9) (N := none) #[true, true, true, true, true, true, true, true, true, true] rfl rfl (gU HT_.out (by kernel_rfl)) (by decide) (fun K hK => ?_)
                                              have hs51 : w49.cell? ⟨ek, 4, none⟩ = some (fO) := (aD dH.out 4).trans rfl
                                              have hfs51 := aC dH.out 4
                                              have hns51_0 := gZ.out
                                              have hns51_1 := iN.out
                                              have hms51_0 := NB146_132.out
                                              have hms51_1 := NB146_133.out
                                              refine skip_ (w1 := ?_) (by rfl) rfl ?_ ?_
                                              rotate_left
                                              · go_simp
                                                rfl
                                              refine hK.out _ _ ?_
                                              clear hK K
                                              refine done_ (ku HT_.out (by kernel_rfl)) ?_
                                              (try (have d39_c40b0 := c40b0; rw [hl39_.out] at d39_c40b0))
                                              (try (have d39_c42b0 := c42b0; rw [hl39_.out] at d39_c42b0))
                                              (try (have d39_q149 := q149; rw [hl39_.out] at d39_q149))
                                              try go_wp2
                                              go_roundg k3
                                              case measure => have := HK1.out; have := HK2.out; have := HK3.out; omega
                                              case rel => exact ⟨(wrap64 (x69_3 + 1)), (y151), (.slice Ao50 y151.length co50), (by first | rfl | (simp; done) | (simp [*]; done)), H', ⟨by have := HK1.out; have := HK2.out; have := HK3.out; omega⟩, ⟨by (with_reducible repeat (first | apply Kd.ai | apply Kd.ah | apply Kd.ax)); exact Kd.bV (Kd.bg (p := ⟨ek, 4, none⟩) (Kd.eY HO_7.out dH.out (by decide)) (fun _ hk => hk.2) (.slice Ao50 y151.length co50)) (fun _ hk => ⟨hk.1.1.1, ⟨hk.1.2, hk.1.1.2⟩⟩)⟩, ⟨by (with_reducible repeat (first | apply Kd.ai | apply Kd.ah | apply Kd.ax)); exact Kd.bV (Kd.bg (p := ⟨ek, 4, none⟩) (Kd.eY HO_50.out dH.out (by decide)) (fun _ hk => hk.2) (.slice Ao50 y151.length co50)) (fun _ hk => ⟨hk.1.1.1, ⟨hk.1.2, hk.1.1.2⟩⟩)⟩, ⟨by (with_reducible repeat (first | apply Kd.ai | apply Kd.ah | apply Kd.ax)); exact Kd.bV (Kd.bg (p := ⟨ek, 4, none⟩) (Kd.eY HO153.out dH.out (by decide)) (fun _ hk => hk.2) (.slice Ao50 y151.length co50)) (fun _ hk => ⟨hk.1.1, ⟨hk.1.2.1, hk.1.2.2⟩⟩)⟩, ⟨by (with_reducible repeat (first | apply Kd.ai | apply Kd.ah | apply Kd.ax)); exact Kd.bV (Kd.bg (p := ⟨ek, 4, none⟩) (Kd.eY HO_147005.out dH.out (by decide)) (fun _ hk => hk.2) (.slice Ao50 y151.length co50)) (fun _ hk => ⟨hk.1.1.1, ⟨hk.1.1.2, hk.1.2⟩⟩)⟩, ⟨by (with_reducible repeat (first | refine aM ?_ _ | refine aQ ?_ | refine aJ ?_ _)); refine bX ?_ gZ.out _; (with_reducible repeat (first | refine aM ?_ _ | refine aQ ?_ | refine aJ ?_ _)); exact bK.out⟩, ⟨by (with_reducible repeat (first | refine aM ?_ _ | refine aQ ?_ | refine aJ ?_ _)); refine bX ?_ iN.out _; (with_reducible repeat (first | refine aM ?_ _ | refine aQ ?_ | refine aJ ?_ _)); exact dR.out⟩, ⟨by (with_reducible repeat (first | refine aM ?_ _ | refine aQ ?_ | refine aJ ?_ _)); refine bU (cs := #[.int .i64 aT, .int .i64 aU, .int .i64 bQ, .int .i64 (bz.length : Int), fO, gG]) ?_ 4 _ rfl; (with_reducible repeat (first | refine aM ?_ _ | refine aQ ?_ | refine aJ ?_ _)); exact dH.out⟩, ⟨by repeat (first | (with_reducible first | exact HB.out | apply aH | apply aG | apply aI | refine aN ?_ iI.out | refine aN ?_ jo.out | refine aN ?_ GE146.out) | exact HB.out)⟩⟩
                                            · rw [if_neg c46] at H
                                              exact absurd H (by simp)
                                          · rw [if_neg c45] at H
                                            exact absurd H (by simp)
                                        · rw [if_neg c44] at H
                                          exact absurd H (by simp)
                                      · rw [if_neg c42] at H
                                        exact absurd H (by simp)
                                    · rw [if_neg c41] at H
                                      exact absurd H (by simp)
                                  · rw [if_neg c40] at H
                                    have c40b0 : decide (x69_3 < (((bN.take ((wrap64 ((wrap64 ((rd bz dO) + 1)) * aU)) : Int).toNat).drop ((ji32) : Int).toNat).length : Int)) = false := decide_eq_false c40
                                    clear c40
                                    by_cases c52 : bG = 0
                                    · rw [if_pos c52] at H
                                      exact absurd H (by simp)
                                    · rw [if_neg c52] at H
                                      have c52b0 : (bG == 0) = false := beq_eq_false_iff_ne.mpr c52
                                      have c52b1 : (bG != 0) = true := bne_iff_ne.mpr c52
                                      obtain ⟨ji53, hji53⟩ : ∃ j_ : Int, (wrap64 ((rd bz dO) * (wrap64 ((bI.length : Int) / bG)))) = j_ := ⟨_, rfl⟩
                                      replace H : (if 0 ≤ (ji53) then (if (ji53) ≤ (wrap64 ((wrap64 ((rd bz dO) + 1)) * (wrap64 ((bI.length : Int) / bG)))) then (if (wrap64 ((wrap64 ((rd bz dO) + 1)) * (wrap64 ((bI.length : Int) / bG)))) ≤ (bI.length : Int) then (if gJ.length + ((bI.take ((wrap64 ((wrap64 ((rd bz dO) + 1)) * (wrap64 ((bI.length : Int) / bG)))) : Int).toNat).drop ((ji53) : Int).toNat).length < 17592186044416 then (bL.l1 k3 fu bz (bz.length : Int) (wrap64 (dO + 1)) aT aU bQ bG bN bI aT aU bQ (bz.length : Int) il (gJ ++ ((bI.take ((wrap64 ((wrap64 ((rd bz dO) + 1)) * (wrap64 ((bI.length : Int) / bG)))) : Int).toNat).drop ((ji53) : Int).toNat))) else (none)) else (none)) else (none)) else (none)) = some (r1, r2, r3, r4, r5, r6, r7) := by first | (rw [hji53] at H; exact H) | (simp only [hji53] at H ⊢; exact H)
                                      have hji53w : (IntKind.i64.wrap ((rd bz dO) * (wrap64 ((bI.length : Int) / bG)))) = ji53 := (aj _).trans hji53
                                      by_cases c54 : 0 ≤ (ji53)
                                      · rw [if_pos c54] at H
                                        have c54b0 := eq_true c54
                                        have c54b1 : decide (0 ≤ (ji53)) = true := decide_eq_true c54
                                        clear c54
                                        by_cases c55 : (ji53) ≤ (wrap64 ((wrap64 ((rd bz dO) + 1)) * (wrap64 ((bI.length : Int) / bG))))
                                        · rw [if_pos c55] at H
                                          have c55b0 := eq_true c55
                                          have c55b1 : decide ((ji53) ≤ (wrap64 ((wrap64 ((rd bz dO) + 1)) * (wrap64 ((bI.length : Int) / bG))))) = true := decide_eq_true c55
                                          by_cases c56 : (wrap64 ((wrap64 ((rd bz dO) + 1)) * (wrap64 ((bI.length : Int) / bG)))) ≤ (bI.length : Int)
                                          · rw [if_pos c56] at H
                                            have c56b0 := eq_true c56
                                            have c56b1 : decide ((wrap64 ((wrap64 ((rd bz dO) + 1)) * (wrap64 ((bI.length : Int) / bG)))) ≤ (bI.length : Int)) = true := decide_eq_true c56
                                            by_cases c57 : gJ.length + ((bI.take ((wrap64 ((wrap64 ((rd bz dO) + 1)) * (wrap64 ((bI.length : Int) / bG)))) : Int).toNat).drop ((ji53) : Int).toNat).length < 17592186044416
                                            · rw [if_pos c57] at H
                                              have LMc57 := aA.mk c57
                                              clear c57
                                              obtain ⟨y155, hy155⟩ : ∃ y_ : List Int, y_ = (gJ ++ ((bI.take ((wrap64 ((wrap64 ((rd bz dO) + 1)) * (wrap64 ((bI.length : Int) / bG)))) : Int).toNat).drop ((ji53) : Int).toNat)) := ⟨_, rfl⟩
                                              replace H : (bL.l1 k3 fu bz (bz.length : Int) (wrap64 (dO + 1)) aT aU bQ bG bN bI aT aU bQ (bz.length : Int) il y155) = some (r1, r2, r3, r4, r5, r6, r7) := by first | (rw [hy155]; with_reducible exact H) | (have H2_ := (Option.bind_some _ _).symm.trans H; rw [hy155]; with_reducible exact H2_) | (have H2_ := (Option.bind_some _ _).symm.trans H; with_reducible exact H2_) | with_reducible exact H | (rw [hy155]; exact H) | exact H
                                              have Ny155 := aA.mk hy155
                                              clear hy155
                                              have H' := aA.mk H
                                              clear H
                                              have hnb58 := NB132_133.out
                                              have hnc58 := NB133_132.out
                                              have hnb59 := gZ.out
                                              have hnc59 := NB146_132.out
                                              have hcz60_0 : wr.cell? ⟨dU, 0, none⟩ = some (.int .i64 aT) := (aD bK.out 0).trans rfl
                                              have hcz60_1 : wr.cell? ⟨dU, 1, none⟩ = some (.int .i64 aU) := (aD bK.out 1).trans rfl
                                              have hcz60_2 : wr.cell? ⟨dU, 2, none⟩ = some (.int .i64 bQ) := (aD bK.out 2).trans rfl
                                              have hcz60_3 : wr.cell? ⟨dU, 3, none⟩ = some (.int .i64 bG) := (aD bK.out 3).trans rfl
                                              have hcz60_4 : wr.cell? ⟨dU, 4, none⟩ = some (.slice eD bN.length eB) := (aD bK.out 4).trans rfl
                                              have hcz60_5 : wr.cell? ⟨dU, 5, none⟩ = some (.slice eH bI.length eG) := (aD bK.out 5).trans rfl
                                              have hfz60_0 := aC bK.out 0
                                              have hfz60_1 := aC bK.out 1
                                              have hfz60_2 := aC bK.out 2
                                              have hfz60_3 := aC bK.out 3
                                              have hfz60_4 := aC bK.out 4
                                              have hfz60_5 := aC bK.out 5
                                              (try (have d39_c40b0 := c40b0; rw [hl39_.out] at d39_c40b0))
                                              (try (have d39_c42b0 := c42b0; rw [hl39_.out] at d39_c42b0))
                                              (try (have d39_q149 := q149; rw [hl39_.out] at d39_q149))
                                              (try (have d39_c40b0 := c40b0; rw [hl39_.out] at d39_c40b0))
                                              try go_wp2
                                              have n0_ := aA.mk (Kd.ax HO_7.out)
                                              have n1_ := aA.mk (Kd.ax HO_50.out)
                                              have n2_ := aA.mk (Kd.ax HO_147004.out)
                                              have n3_ := aA.mk (Kd.ax HO_147005.out)
                                              have n4_ := aA.mk (aQ bK.out)
                                              have n5_ := aA.mk (aQ dR.out)
                                              have n6_ := aA.mk (aQ dH.out)
                                              have n7_ := aA.mk (aI HB.out)
                                              clear HO_7
                                              clear HO_50
                                              clear HO_147004
                                              clear HO_147005
                                              clear bK
                                              clear dR
                                              clear dH
                                              clear HB
                                              have HO_7 := n0_
                                              have HO_50 := n1_
                                              have HO_147004 := n2_
                                              have HO_147005 := n3_
                                              have bK := n4_
                                              have dR := n5_
                                              have dH := n6_
                                              have HB := n7_
                                              clear n0_ n1_ n2_ n3_ n4_ n5_ n6_ n7_
                                              obtain ⟨i062, hi062, _, hsz62, _⟩ := info_parts info3
                                              obtain ⟨A62, hcut62, hA62, hC62⟩ := print_mid_of (P := Try.prog) (Value.int .i64) 0 32 3 .i64 .i64 Try.underlying32 hi062 hsz62 eH eG bI (ji53) (wrap64 ((wrap64 ((rd bz dO) + 1)) * (wrap64 ((bI.length : Int) / bG)))) (of_decide_eq_true (by first | (with_reducible assumption) | assumption)) (by first | omega | exact of_decide_eq_true (by first | (with_reducible assumption) | assumption)) (of_decide_eq_true (by first | (with_reducible assumption) | assumption)) HC0_5.out
                                              have hl62_ := aA.mk (show ((bI.take ((wrap64 ((wrap64 ((rd bz dO) + 1)) * (wrap64 ((bI.length : Int) / bG)))) : Int).toNat).drop ((ji53) : Int).toNat).length = ((wrap64 ((wrap64 ((rd bz dO) + 1)) * (wrap64 ((bI.length : Int) / bG)))) : Int).toNat - ((ji53) : Int).toNat from by have hm_ : (wrap64 ((wrap64 ((rd bz dO) + 1)) * (wrap64 ((bI.length : Int) / bG)))) ≤ (bI.length : Int) := of_decide_eq_true (by first | (with_reducible assumption) | assumption); rw [List.length_drop, List.length_take]; omega)
                                              have HR154 := aA.mk (Kd.C_of_reads (h1 := fun _ => rfl) (hA62 _ (Kd.reads_of_C HR0_5.out)))
                                              have HC154 := aA.mk hC62
                                              clear hA62 hC62 hi062 hsz62
                                              refine l7 (n := 15) (S := fun w' => w'.cell? ⟨ek, 0, none⟩ = some (.int .i64 aT) ∧ w'.cell? ⟨ek, 1, none⟩ = some (.int .i64 aU) ∧ w'.cell? ⟨ek, 2, none⟩ = some (.int .i64 bQ) ∧ w'.cell? ⟨ek, 3, none⟩ = some (.int .i64 (bz.length : Int)) ∧ w'.cell? ⟨ek, 4, none⟩ = some (fO) ∧ w'.cell? ⟨ek, 5, none⟩ = some (gG) ∧ w'.cell? ⟨dU, 0, none⟩ = some (.int .i64 aT) ∧ w'.cell? ⟨dU, 1, none⟩ = some (.int .i64 aU) ∧ w'.cell? ⟨dU, 2, none⟩ = some (.int .i64 bQ) ∧ w'.cell? ⟨dU, 3, none⟩ = some (.int .i64 bG) ∧ w'.cell? ⟨dU, 4, none⟩ = some (.slice eD bN.length eB) ∧ w'.cell? ⟨dU, 5, none⟩ = some (.slice eH bI.length eG)) (ds := [14]) #[false, false, false, false, false, false, false, false, false, false, false, false, false, false, false] (by kernel_rfl) rfl rfl ⟨(aD dH.out 0).trans rfl, (aD dH.out 1).trans rfl, (aD dH.out 2).trans rfl, (aD dH.out 3).trans rfl, (aD dH.out 4).trans rfl, (aD dH.out 5).trans rfl, (aD bK.out 0).trans rfl, (aD bK.out 1).trans rfl, (aD bK.out 2).trans rfl, (aD bK.out 3).trans rfl, (aD bK.out 4).trans rfl, (aD bK.out 5).trans rfl⟩ (fun hHeld => ?_); refine iL bL.tab20 bL.bits20 (fun HT_ HW_ => ?_)
                                              generalize wr.drew = w61 at HO_7 HO_50 HO_147004 HO_147005 bK dR dH HB HR154 hHeld ⊢
                                              refine bR (i := 0) (N := some 89) (v := ?_) (a' := ?_) #[true, false, false, false, false, false, false, false, false, false, false, false, false, false, false] rfl rfl (bF HT_.out (by kernel_rfl)) (fun _ _ _ h => h) (Or.inl ⟨by rfl, ?_⟩) ?_ ?_
                                              rotate_left
                                              · intro w'
                                                go_simp
                                                with_reducible rfl
                                              rotate_left
                                              · simp only [Act.put, List.setIfInBounds_toArray, List.set_cons_zero, List.set_cons_succ, aj, av]
                                                rfl
                                              refine bR (i := 2) (N := some 91) (v := ?_) (a' := ?_) #[true, false, true, false, false, false, false, false, false, false, false, false, false, false, false] rfl rfl (bF HT_.out (by kernel_rfl)) (fun _ _ _ h => h) (Or.inl ⟨by rfl, ?_⟩) ?_ ?_
                                              rotate_left
                                              · intro w'
                                                go_simp
                                                with_reducible rfl
                                              rotate_left
                                              · simp only [Act.put, List.setIfInBounds_toArray, List.set_cons_zero, List.set_cons_succ, aj, av]
                                                rfl
                                              refine bR (i := 4) (N := some 93) (v := ?_) (a' := ?_) #[true, false, true, false, true, false, false, false, false, false, false, false, false, false, false] rfl rfl (bF HT_.out (by kernel_rfl)) (fun _ _ _ h => h) (Or.inl ⟨by rfl, ?_⟩) ?_ ?_
                                              rotate_left
                                              · intro w'
                                                go_simp
                                                with_reducible rfl
                                              rotate_left
                                              · simp only [Act.put, List.setIfInBounds_toArray, List.set_cons_zero, List.set_cons_succ, aj, av]
                                                rfl
                                              refine bR (i := 5) (N := some 94) (v := ?_) (a' := ?_) #[true, false, true, false, true, true, false, false, false, false, false, false, false, false, false] rfl rfl (bF HT_.out (by kernel_rfl)) (fun _ _ _ h => h) (Or.inl ⟨by rfl, ?_⟩) ?_ ?_
                                              rotate_left
                                              · intro w'
                                                go_simp
                                                with_reducible rfl
                                              rotate_left
                                              · simp only [Act.put, List.setIfInBounds_toArray, List.set_cons_zero, List.set_cons_succ, aj, av]
                                                rfl
                                              refine bR (i := 6) (N := some 95) (v := ?_) (a' := ?_) #[true, false, true, false, true, true, true, false, false, false, false, false, false, false, false] rfl rfl (bF HT_.out (by kernel_rfl)) (fun _ _ _ h => h) (Or.inl ⟨by rfl, ?_⟩) ?_ ?_
                                              rotate_left
                                              · intro w'
                                                go_simp
                                                with_reducible rfl
                                              rotate_left
                                              · simp only [Act.put, List.setIfInBounds_toArray, List.set_cons_zero, List.set_cons_succ, aj, av]
                                                rfl
                                              refine bR (i := 7) (N := some 96) (v := ?_) (a' := ?_) #[true, false, true, false, true, true, true, true, false, false, false, false, false, false, false] rfl rfl (bF HT_.out (by kernel_rfl)) (fun _ _ _ h => h) (Or.inl ⟨by rfl, ?_⟩) ?_ ?_
                                              rotate_left
                                              · intro w'
                                                go_simp
                                                with_reducible rfl
                                              rotate_left
                                              · simp only [Act.put, List.setIfInBounds_toArray, List.set_cons_zero, List.set_cons_succ, aj, av]
                                                rfl
                                              refine bR (i := 8) (N := some 97) (v := ?_) (a' := ?_) #[true, false, true, false, true, true, true, true, true, false, false, false, false, false, false] rfl rfl (bF HT_.out (by kernel_rfl)) (fun _ _ _ h => h) (Or.inl ⟨by rfl, ?_⟩) ?_ ?_
                                              rotate_left
                                              · intro w'
                                                go_simp
                                                with_reducible rfl
                                              rotate_left
                                              · simp only [Act.put, List.setIfInBounds_toArray, List.set_cons_zero, List.set_cons_succ, aj, av]
                                                rfl
                                              refine bR (i := 9) (N := some 98) (v := ?_) (a' := ?_) #[true, false, true, false, true, true, true, true, true, true, false, false, false, false, false] rfl rfl (bF HT_.out (by kernel_rfl)) (fun _ _ _ h => h) (Or.inl ⟨by rfl, ?_⟩) ?_ ?_
                                              rotate_left
                                              · intro w'
                                                go_simp
                                                with_reducible rfl
                                              rotate_left
                                              · simp only [Act.put, List.setIfInBounds_toArray, List.set_cons_zero, List.set_cons_succ, aj, av]
                                                rfl
                                              refine bR (i := 10) (N := some 99) (v := ?_) (a' := ?_) #[true, false, true, false, true, true, true, true, true, true, true, false, false, false, false] rfl rfl (bF HT_.out (by kernel_rfl)) (fun _ _ _ h => h) (Or.inl ⟨by rfl, ?_⟩) ?_ ?_
                                              rotate_left
                                              · intro w'
                                                go_simp
                                                with_reducible rfl
                                              rotate_left
                                              · simp only [Act.put, List.setIfInBounds_toArray, List.set_cons_zero, List.set_cons_succ, aj, av]
                                                rfl
                                              refine gD (i := 1) (N := some 90) (v := ?_) (a' := ?_) #[true, true, true, false, true, true, true, true, true, true, true, false, false, false, false] rfl rfl (df HT_.out HW_.out (by kernel_rfl)) (fun _ _ _ h => h) (Or.inl ⟨by rfl, ?_⟩) hHeld ?_ ?_
                                              rotate_left
                                              · rintro w' ⟨s0, s1, s2, s3, s4, s5, s6, s7, s8, s9, s10, s11⟩
                                                go_simp
                                                with_reducible rfl
                                              rotate_left
                                              · simp only [Act.put, List.setIfInBounds_toArray, List.set_cons_zero, List.set_cons_succ, aj, av]
                                                rfl
                                              refine gD (i := 3) (N := some 92) (v := ?_) (a' := ?_) #[true, true, true, true, true, true, true, true, true, true, true, false, false, false, false] rfl rfl (df HT_.out HW_.out (by kernel_rfl)) (fun _ _ _ h => h) (Or.inl ⟨by rfl, ?_⟩) hHeld ?_ ?_
                                              rotate_left
                                              · rintro w' ⟨s0, s1, s2, s3, s4, s5, s6, s7, s8, s9, s10, s11⟩
                                                go_simp
                                                with_reducible rfl
                                              rotate_left
                                              · simp only [Act.put, List.setIfInBounds_toArray, List.set_cons_zero, List.set_cons_succ, aj, av]
                                                rfl
                                              refine bR (i := 11) (N := some 100) (v := ?_) (a' := ?_) #[true, true, true, true, true, true, true, true, true, true, true, true, false, false, false] rfl rfl (bF HT_.out (by kernel_rfl)) (fun _ _ _ h => h) (Or.inl ⟨by rfl, ?_⟩) ?_ ?_
                                              rotate_left
                                              · intro w'
                                                go_simp
                                                with_reducible rfl
                                              rotate_left
                                              · simp only [Act.put, List.setIfInBounds_toArray, List.set_cons_zero, List.set_cons_succ, aj, av]
                                                rfl
                                              refine one_ (i := 12) (N := some 101) #[true, true, true, true, true, true, true, true, true, true, true, true, true, false, false] rfl rfl (gU HT_.out (by kernel_rfl)) (by decide) (fun K hK => ?_)
                                              refine Kd.R_append_rows_step (Kd.int .i64) (w0 := w) w.heap.size (by rfl) (.tmp 90) (.tmp 100) 32 3 (.int .i64 0) 8 rfl Try.underlying32 info3 rfl (by decide) (by omega) gG gJ ((bI.take ((wrap64 ((wrap64 ((rd bz dO) + 1)) * (wrap64 ((bI.length : Int) / bG)))) : Int).toNat).drop ((ji53) : Int).toNat) _ _ _ (fun k_ => some k_ ≠ (v142 : Value).ownBlock ∧ some k_ ≠ (.slice (some ad147) bz.length co14 : Value).ownBlock ∧ some k_ ≠ (fO : Value).ownBlock) (fun _ => False) rfl rfl ?aO ?aR (fun _ _ h => h) (fun _ h => h.elim) ?aF ?aB ?aS ?aL ?_
                                              (case aR => first | (have hl_ : ((bI.take ((wrap64 ((wrap64 ((rd bz dO) + 1)) * (wrap64 ((bI.length : Int) / bG)))) : Int).toNat).drop ((ji53) : Int).toNat).length = ((wrap64 ((wrap64 ((rd bz dO) + 1)) * (wrap64 ((bI.length : Int) / bG)))).toNat - (ji53).toNat) := (by rw [List.length_drop, List.length_take]; have h_ : ((wrap64 ((wrap64 ((rd bz dO) + 1)) * (wrap64 ((bI.length : Int) / bG)))) : Int) ≤ (bI.length : Int) := (by first | exact of_decide_eq_true (by first | (with_reducible assumption) | assumption) | exact Int.le_of_lt (of_eq_true (by assumption)) | exact Int.le_of_lt (of_decide_eq_true (by assumption))); omega); first | (have hz_ := (Kd.aX HR154.out HB.out); rw [hl_] at hz_; exact hz_) | (have hz_ := Kd.bE (Kd.aX HR154.out HB.out) _; rw [hl_] at hz_; exact hz_)) | ((repeat (first | exact (Kd.aX HR154.out HB.out) | (with_reducible refine Kd.bE ?_ _) | (with_reducible refine Kd.bD ?_ _) | (with_reducible refine Kd.bS ?_))); done) | (rw [← show ((bI.take ((wrap64 ((wrap64 ((rd bz dO) + 1)) * (wrap64 ((bI.length : Int) / bG)))) : Int).toNat).drop ((ji53) : Int).toNat).length = ((wrap64 ((wrap64 ((rd bz dO) + 1)) * (wrap64 ((bI.length : Int) / bG)))).toNat - (ji53).toNat) from (by rw [List.length_drop, List.length_take]; have h_ : ((wrap64 ((wrap64 ((rd bz dO) + 1)) * (wrap64 ((bI.length : Int) / bG)))) : Int) ≤ (bI.length : Int) := (by first | exact of_decide_eq_true (by first | (with_reducible assumption) | assumption) | exact Int.le_of_lt (of_eq_true (by assumption)) | exact Int.le_of_lt (of_decide_eq_true (by assumption))); omega)]; repeat (first | exact (Kd.aX HR154.out HB.out) | (with_reducible refine Kd.bE ?_ _) | (with_reducible refine Kd.bD ?_ _) | (with_reducible refine Kd.bS ?_))))
                                              (case aB => exact (by repeat (first | (with_reducible first | exact HB.out | apply aH | apply aG | apply aI | refine aN ?_ iI.out | refine aN ?_ jo.out | refine aN ?_ GE146.out) | exact HB.out)))
                                              (case aF => exact (fun k_ hk => ⟨Kd.fresh' (Kd.j6 (by (with_reducible repeat (first | apply Kd.ai | apply Kd.ah | apply Kd.ax)); exact HO_7.out)) k_ hk, Kd.fresh' (Kd.j6 (by (with_reducible repeat (first | apply Kd.ai | apply Kd.ah | apply Kd.ax)); exact HO_50.out)) k_ hk, Kd.fresh' (Kd.j6 (by (with_reducible repeat (first | apply Kd.ai | apply Kd.ah | apply Kd.ax)); exact HO_147004.out)) k_ hk⟩))
                                              (case aO => exact (by (with_reducible repeat (first | apply Kd.ai | apply Kd.ah | apply Kd.ax)); exact HO_147005.out))
                                              (case aS => exact (aY (by repeat (first | (with_reducible first | exact HB.out | apply aH | apply aG | apply aI | refine aN ?_ iI.out | refine aN ?_ jo.out | refine aN ?_ GE146.out) | exact HB.out))))
                                              (case aL => have := LMc57.out; have hlx_ := (show ((bI.take ((wrap64 ((wrap64 ((rd bz dO) + 1)) * (wrap64 ((bI.length : Int) / bG)))) : Int).toNat).drop ((ji53) : Int).toNat).length = ((wrap64 ((wrap64 ((rd bz dO) + 1)) * (wrap64 ((bI.length : Int) / bG)))).toNat - (ji53).toNat) from (by rw [List.length_drop, List.length_take]; have h_ : ((wrap64 ((wrap64 ((rd bz dO) + 1)) * (wrap64 ((bI.length : Int) / bG)))) : Int) ≤ (bI.length : Int) := (by first | exact of_decide_eq_true (by first | (with_reducible assumption) | assumption) | exact Int.le_of_lt (of_eq_true (by assumption)) | exact Int.le_of_lt (of_decide_eq_true (by assumption))); omega)); omega)
                                              intro v156 w63 ho hb hg hat
                                              rw [← Ny155.out] at ho
                                              have n0_ := aA.mk (Kd.lc (ok := (fun k_ => some k_ ≠ (.slice (some ad147) bz.length co14 : Value).ownBlock ∧ some k_ ≠ (fO : Value).ownBlock)) (by (with_reducible repeat (first | apply Kd.ai | apply Kd.ah | apply Kd.ax)); exact Kd.bV HO_7.out (fun _ hk => ⟨⟨hk.1, hk.2.1⟩, hk.2.2⟩)) hg hat)
                                              have n1_ := aA.mk (Kd.lc (ok := (fun k_ => some k_ ≠ (v142 : Value).ownBlock ∧ some k_ ≠ (fO : Value).ownBlock)) (by (with_reducible repeat (first | apply Kd.ai | apply Kd.ah | apply Kd.ax)); exact Kd.bV HO_50.out (fun _ hk => ⟨⟨hk.1, hk.2.1⟩, hk.2.2⟩)) hg hat)
                                              have n2_ := aA.mk (Kd.lc (ok := (fun k_ => some k_ ≠ (v142 : Value).ownBlock ∧ some k_ ≠ (.slice (some ad147) bz.length co14 : Value).ownBlock)) (by (with_reducible repeat (first | apply Kd.ai | apply Kd.ah | apply Kd.ax)); exact Kd.bV HO_147004.out (fun _ hk => ⟨⟨hk.1, hk.2.1⟩, hk.2.2⟩)) hg hat)
                                              have n3_ := aA.mk (fA (g := dU) (o := .cells #[.int .i64 aT, .int .i64 aU, .int .i64 bQ, .int .i64 bG, .slice eD bN.length eB, .slice eH bI.length eG] 50 (0, 0)) (by (with_reducible repeat (first | refine aM ?_ _ | refine aQ ?_ | refine aJ ?_ _)); exact bK.out) hg (Kd.R_ne HO_147005.out bK.out (by decide)))
                                              have n4_ := aA.mk (fA (g := fJ) (o := .cells #[.int .i64 0, .int .i64 0, .int .i64 0, .int .i64 0, .slice none 0 0, .slice none 0 0] 50 (0, 0)) (by (with_reducible repeat (first | refine aM ?_ _ | refine aQ ?_ | refine aJ ?_ _)); exact dR.out) hg (Kd.R_ne HO_147005.out dR.out (by decide)))
                                              have n5_ := aA.mk (fA (g := ek) (o := .cells #[.int .i64 aT, .int .i64 aU, .int .i64 bQ, .int .i64 (bz.length : Int), fO, gG] 50 (0, 0)) (by (with_reducible repeat (first | refine aM ?_ _ | refine aQ ?_ | refine aJ ?_ _)); exact dH.out) hg (Kd.R_ne HO_147005.out dH.out (by decide)))
                                              have n6_ := aA.mk (hb)
                                              have n7_ := aA.mk (ho)
                                              clear HO_7
                                              clear HO_50
                                              clear HO_147004
                                              clear bK
                                              clear dR
                                              clear dH
                                              clear HB
                                              clear HO_147005
                                              have HO_7 := n0_
                                              have HO_50 := n1_
                                              have HO_147004 := n2_
                                              have bK := n3_
                                              have dR := n4_
                                              have dH := n5_
                                              have HB := n6_
                                              have HO157 := n7_
                                              clear n0_ n1_ n2_ n3_ n4_ n5_ n6_ n7_
                                              clear ho hb hg hat
                                              obtain ⟨Ao64, co64, eo64⟩ := Kd.cB HO157.out
                                              (first | subst eo64 | (injection eo64 with f1_ f2_ f3_; have f4_ := f1_.symm; have f5_ := f3_.symm; clear f1_ f2_ f3_; subst f4_; subst f5_))
                                              refine hK.out _ _ ⟨(aD dH.out 0).trans rfl, (aD dH.out 1).trans rfl, (aD dH.out 2).trans rfl, (aD dH.out 3).trans rfl, (aD dH.out 4).trans rfl, (aD dH.out 5).trans rfl, (aD bK.out 0).trans rfl, (aD bK.out 1).trans rfl, (aD bK.out 2).trans rfl, (aD bK.out 3).trans rfl, (aD bK.out 4).trans rfl, (aD bK.out 5).trans rfl⟩ (fun hHeld => ?_)
                                              clear hK K
                                              refine gB (a' := ?_) ?_ ?_
                                              rotate_left
                                              · show Act.put _ (some 101) _ = _
                                                simp only [Act.put, List.setIfInBounds_toArray, List.set_cons_zero, List.set_cons_succ, aj, av]
                                                rfl
                                              refine bR (i := 13) (N := some 102) (v := ?_) (a' := ?_) #[true, true, true, true, true, true, true, true, true, true, true, true, true, true, false] rfl rfl (bF HT_.out (by kernel_rfl)) (fun _ _ _ h => h) (Or.inl ⟨by rfl, ?_⟩) ?_ ?_
                                              rotate_left
                                              · intro w'
                                                go_simp
                                                with_reducible rfl
                                              rotate_left
                                              · simp only [Act.put, List.setIfInBounds_toArray, List.set_cons_zero, List.set_cons_succ, aj, av]
                                                rfl
                                              refine last_ (i := 14) (N := none) #[true, true, true, true, true, true, true, true, true, true, true, true, true, true, true] rfl rfl (gU HT_.out (by kernel_rfl)) (by decide) (fun K hK => ?_)
                                              have hs65 : w63.cell? ⟨ek, 5, none⟩ = some (gG) := (aD dH.out 5).trans rfl
                                              have hfs65 := aC dH.out 5
                                              have hns65_0 := gZ.out
                                              have hns65_1 := iN.out
                                              have hms65_0 := NB146_132.out
                                              have hms65_1 := NB146_133.out
                                              refine skip_ (w1 := ?_) (by rfl) rfl ?_ ?_
                                              rotate_left
                                              · go_simp
                                                rfl
                                              refine hK.out _ _ ?_
                                              clear hK K
                                              refine done_ (ku HT_.out (by kernel_rfl)) ?_
                                              (try (have d39_c40b0 := c40b0; rw [hl39_.out] at d39_c40b0))
                                              (try (have d39_c42b0 := c42b0; rw [hl39_.out] at d39_c42b0))
                                              (try (have d39_q149 := q149; rw [hl39_.out] at d39_q149))
                                              (try (have d39_c40b0 := c40b0; rw [hl39_.out] at d39_c40b0))
                                              try go_wp2
                                              go_roundg k3
                                              case measure => have := HK1.out; have := HK2.out; have := HK3.out; omega
                                              case rel => exact ⟨(wrap64 (dO + 1)), (il), (y155), (fO), (.slice Ao64 y155.length co64), (by first | rfl | (simp; done) | (simp [*]; done)), H', ⟨by have := HK1.out; have := HK2.out; have := HK3.out; omega⟩, ⟨by (with_reducible repeat (first | apply Kd.ai | apply Kd.ah | apply Kd.ax)); exact Kd.bV (Kd.bg (p := ⟨ek, 5, none⟩) (Kd.eY HO_7.out dH.out (by decide)) (fun _ hk => hk.2) (.slice Ao64 y155.length co64)) (fun _ hk => ⟨hk.1.1.1, ⟨hk.1.1.2, hk.1.2⟩⟩)⟩, ⟨by (with_reducible repeat (first | apply Kd.ai | apply Kd.ah | apply Kd.ax)); exact Kd.bV (Kd.bg (p := ⟨ek, 5, none⟩) (Kd.eY HO_50.out dH.out (by decide)) (fun _ hk => hk.2) (.slice Ao64 y155.length co64)) (fun _ hk => ⟨hk.1.1.1, ⟨hk.1.1.2, hk.1.2⟩⟩)⟩, ⟨by (with_reducible repeat (first | apply Kd.ai | apply Kd.ah | apply Kd.ax)); exact Kd.bV (Kd.bg (p := ⟨ek, 5, none⟩) (Kd.eY HO_147004.out dH.out (by decide)) (fun _ hk => hk.2) (.slice Ao64 y155.length co64)) (fun _ hk => ⟨hk.1.1.1, ⟨hk.1.1.2, hk.1.2⟩⟩)⟩, ⟨by (with_reducible repeat (first | apply Kd.ai | apply Kd.ah | apply Kd.ax)); exact Kd.bV (Kd.bg (p := ⟨ek, 5, none⟩) (Kd.eY HO157.out dH.out (by decide)) (fun _ hk => hk.2) (.slice Ao64 y155.length co64)) (fun _ hk => ⟨hk.1.1, ⟨hk.1.2.1, hk.1.2.2⟩⟩)⟩, ⟨by (with_reducible repeat (first | refine aM ?_ _ | refine aQ ?_ | refine aJ ?_ _)); refine bX ?_ gZ.out _; (with_reducible repeat (first | refine aM ?_ _ | refine aQ ?_ | refine aJ ?_ _)); exact bK.out⟩, ⟨by (with_reducible repeat (first | refine aM ?_ _ | refine aQ ?_ | refine aJ ?_ _)); refine bX ?_ iN.out _; (with_reducible repeat (first | refine aM ?_ _ | refine aQ ?_ | refine aJ ?_ _)); exact dR.out⟩, ⟨by (with_reducible repeat (first | refine aM ?_ _ | refine aQ ?_ | refine aJ ?_ _)); refine bU (cs := #[.int .i64 aT, .int .i64 aU, .int .i64 bQ, .int .i64 (bz.length : Int), fO, gG]) ?_ 5 _ rfl; (with_reducible repeat (first | refine aM ?_ _ | refine aQ ?_ | refine aJ ?_ _)); exact dH.out⟩, ⟨by repeat (first | (with_reducible first | exact HB.out | apply aH | apply aG | apply aI | refine aN ?_ iI.out | refine aN ?_ jo.out | refine aN ?_ GE146.out) | exact HB.out)⟩⟩
                                            · rw [if_neg c57] at H
                                              exact absurd H (by simp)
                                          · rw [if_neg c56] at H
                                            exact absurd H (by simp)
                                        · rw [if_neg c55] at H
                                          exact absurd H (by simp)
                                      · rw [if_neg c54] at H
                                        exact absurd H (by simp)
                            · rw [if_neg c35] at H
                              exact absurd H (by simp)
                          · rw [if_neg c34] at H
                            exact absurd H (by simp)
                        · rw [if_neg c33] at H
                          exact absurd H (by simp)
                      · rw [if_neg c31] at H
                        exact absurd H (by simp)
                    · rw [if_neg c30] at H
                      exact absurd H (by simp)
                  · rw [if_neg c29] at H
                    have c29b0 : decide (dO < (bz.length : Int)) = false := decide_eq_false c29
                    clear c29
                    simp only [Option.some.injEq, Prod.mk.injEq] at H
                    obtain ⟨rfl, rfl, rfl, rfl, rfl, rfl, rfl⟩ := H
                    have hnb66 := NB146_132.out
                    have hnc66 := gZ.out
                    have hnb67 := NB146_133.out
                    have hnc67 := iN.out
                    have hcz68_0 : wr.cell? ⟨ek, 0, none⟩ = some (.int .i64 aT) := (aD dH.out 0).trans rfl
                    have hcz68_1 : wr.cell? ⟨ek, 1, none⟩ = some (.int .i64 aU) := (aD dH.out 1).trans rfl
                    have hcz68_2 : wr.cell? ⟨ek, 2, none⟩ = some (.int .i64 bQ) := (aD dH.out 2).trans rfl
                    have hcz68_3 : wr.cell? ⟨ek, 3, none⟩ = some (.int .i64 (bz.length : Int)) := (aD dH.out 3).trans rfl
                    have hcz68_4 : wr.cell? ⟨ek, 4, none⟩ = some (fO) := (aD dH.out 4).trans rfl
                    have hcz68_5 : wr.cell? ⟨ek, 5, none⟩ = some (gG) := (aD dH.out 5).trans rfl
                    have hfz68_0 := aC dH.out 0
                    have hfz68_1 := aC dH.out 1
                    have hfz68_2 := aC dH.out 2
                    have hfz68_3 := aC dH.out 3
                    have hfz68_4 := aC dH.out 4
                    have hfz68_5 := aC dH.out 5
                    have hnb69 := NB133_132.out
                    have hnc69 := NB132_133.out
                    have hcz70_0 : wr.cell? ⟨fJ, 0, none⟩ = some (.int .i64 0) := (aD dR.out 0).trans rfl
                    have hcz70_1 : wr.cell? ⟨fJ, 1, none⟩ = some (.int .i64 0) := (aD dR.out 1).trans rfl
                    have hcz70_2 : wr.cell? ⟨fJ, 2, none⟩ = some (.int .i64 0) := (aD dR.out 2).trans rfl
                    have hcz70_3 : wr.cell? ⟨fJ, 3, none⟩ = some (.int .i64 0) := (aD dR.out 3).trans rfl
                    have hcz70_4 : wr.cell? ⟨fJ, 4, none⟩ = some (.slice none 0 0) := (aD dR.out 4).trans rfl
                    have hcz70_5 : wr.cell? ⟨fJ, 5, none⟩ = some (.slice none 0 0) := (aD dR.out 5).trans rfl
                    have hfz70_0 := aC dR.out 0
                    have hfz70_1 := aC dR.out 1
                    have hfz70_2 := aC dR.out 2
                    have hfz70_3 := aC dR.out 3
                    have hfz70_4 := aC dR.out 4
                    have hfz70_5 := aC dR.out 5
                    obtain ⟨Ao71, co71, eo71⟩ := Kd.cB HO_147004.out
                    subst eo71
                    obtain ⟨Ao72, co72, eo72⟩ := Kd.cB HO_147005.out
                    subst eo72
                    go_wp2
                    refine bodyPost_ret (iV rfl _ _ fJ 50 #[.int .i64 aT, .int .i64 aU, .int .i64 bQ, .int .i64 (bz.length : Int), .slice Ao71 kE.length co71, .slice Ao72 gJ.length co72] (0, 0) _ rfl (by (with_reducible repeat (first | refine aM ?_ _ | refine aQ ?_ | refine aJ ?_ _)); refine bU (cs := #[.int .i64 aT, .int .i64 aU, .int .i64 bQ, .int .i64 (bz.length : Int), .slice Ao71 kE.length co71, .slice none 0 0]) ?_ 5 _ rfl; (with_reducible repeat (first | refine aM ?_ _ | refine aQ ?_ | refine aJ ?_ _)); refine bU (cs := #[.int .i64 aT, .int .i64 aU, .int .i64 bQ, .int .i64 (bz.length : Int), .slice none 0 0, .slice none 0 0]) ?_ 4 _ rfl; (with_reducible repeat (first | refine aM ?_ _ | refine aQ ?_ | refine aJ ?_ _)); refine bU (cs := #[.int .i64 aT, .int .i64 aU, .int .i64 bQ, .int .i64 0, .slice none 0 0, .slice none 0 0]) ?_ 3 _ rfl; (with_reducible repeat (first | refine aM ?_ _ | refine aQ ?_ | refine aJ ?_ _)); refine bU (cs := #[.int .i64 aT, .int .i64 aU, .int .i64 0, .int .i64 0, .slice none 0 0, .slice none 0 0]) ?_ 2 _ rfl; (with_reducible repeat (first | refine aM ?_ _ | refine aQ ?_ | refine aJ ?_ _)); refine bU (cs := #[.int .i64 aT, .int .i64 0, .int .i64 0, .int .i64 0, .slice none 0 0, .slice none 0 0]) ?_ 1 _ rfl; (with_reducible repeat (first | refine aM ?_ _ | refine aQ ?_ | refine aJ ?_ _)); refine bU (cs := #[.int .i64 0, .int .i64 0, .int .i64 0, .int .i64 0, .slice none 0 0, .slice none 0 0]) ?_ 0 _ rfl; (with_reducible repeat (first | refine aM ?_ _ | refine aQ ?_ | refine aJ ?_ _)); exact dR.out) Try.underlying50 rfl (by kernel_rfl)) rfl ?_
                    exact ⟨_, _, by first | rfl | (simp [ag, af] <;> rfl) | (simp [*, ag, af] <;> rfl), by (with_reducible repeat (first | apply Kd.ai | apply Kd.ah | apply Kd.ax)); exact Kd.bV (Kd.bg (p := ⟨fJ, 5, none⟩) (Kd.bg (p := ⟨fJ, 4, none⟩) (Kd.bg (p := ⟨fJ, 3, none⟩) (Kd.bg (p := ⟨fJ, 2, none⟩) (Kd.bg (p := ⟨fJ, 1, none⟩) (Kd.bg (p := ⟨fJ, 0, none⟩) (Kd.eY HO_147004.out dR.out (by decide)) (fun _ hk => hk.2) (.int .i64 aT)) (fun _ hk => hk.2) (.int .i64 aU)) (fun _ hk => hk.2) (.int .i64 bQ)) (fun _ hk => hk.2) (.int .i64 (bz.length : Int))) (fun _ hk => hk.2) (.slice Ao71 kE.length co71)) (fun _ hk => hk.2) (.slice Ao72 gJ.length co72)) (fun _ hk => hk.1.2.2), by (with_reducible repeat (first | apply Kd.ai | apply Kd.ah | apply Kd.ax)); exact Kd.bV (Kd.bg (p := ⟨fJ, 5, none⟩) (Kd.bg (p := ⟨fJ, 4, none⟩) (Kd.bg (p := ⟨fJ, 3, none⟩) (Kd.bg (p := ⟨fJ, 2, none⟩) (Kd.bg (p := ⟨fJ, 1, none⟩) (Kd.bg (p := ⟨fJ, 0, none⟩) (Kd.eY HO_147005.out dR.out (by decide)) (fun _ hk => hk.2) (.int .i64 aT)) (fun _ hk => hk.2) (.int .i64 aU)) (fun _ hk => hk.2) (.int .i64 bQ)) (fun _ hk => hk.2) (.int .i64 (bz.length : Int))) (fun _ hk => hk.2) (.slice Ao71 kE.length co71)) (fun _ hk => hk.2) (.slice Ao72 gJ.length co72)) (fun _ hk => hk.1.2.2), by repeat (first | (with_reducible first | exact HB.out | apply aH | apply aG | apply aI | refine aN ?_ iI.out | refine aN ?_ jo.out | refine aN ?_ GE146.out) | exact HB.out)⟩
      · rw [if_neg c5] at H
        exact absurd H (by simp)
    · rw [if_neg c4] at H
      exact absurd H (by simp)
  · rw [if_neg c3] at H
    have c3b0 : (t140 == 0) = false := beq_eq_false_iff_ne.mpr c3
    have c3b1 : (t140 != 0) = true := bne_iff_ne.mpr c3
    simp only [Option.some.injEq, Prod.mk.injEq] at H
    obtain ⟨rfl, rfl, rfl, rfl, rfl, rfl, rfl⟩ := H
    go_enter Try.func67, Try.ntmps67
    go_wp2_with (first | ((with_reducible refine bT (N := 1) rfl ?_); refine dD ?hg (N := 1) ?hd (cs := #[.int .i64 aT, .int .i64 aU, .int .i64 bQ, .int .i64 bG, .slice eD bN.length eB, .slice eH bI.length eG]) (t := 50) ?hr ?_; (case hd => rfl); (case hg => rfl); (case hr => first | (go_simp; done) | (go_simp; rfl)); intro dU hg w73 hbox hb; have n0_ := aA.mk (aW (by repeat (first | (with_reducible first | exact HB.out | apply aH | apply aG | apply aI) | exact HB.out)) hb); have n1_ := aA.mk (hbox); have n2_ := aA.mk ((by rw [hg]; exact (aY (by repeat (first | (with_reducible first | exact HB.out | apply aH | apply aG | apply aI) | exact HB.out))) : w.heap.size ≤ dU)); have n3_ := aA.mk ((by rw [hg]; exact (aY (by repeat (first | (with_reducible first | exact HB.out | apply aH | apply aG | apply aI) | exact HB.out))) : w.heap.size ≤ dU)); clear HB; have HB := n0_; have bK := n1_; have GW132 := n2_; have iI := n3_; clear n0_ n1_ n2_ n3_; clear hb hbox hg) | ((with_reducible refine bT (N := 2) rfl ?_); refine dD ?hg (N := 2) ?hd (cs := #[.int .i64 0, .int .i64 0, .int .i64 0, .int .i64 0, .slice none 0 0, .slice none 0 0]) (t := 50) ?hr ?_; (case hd => rfl); (case hg => rfl); (case hr => first | (go_simp; done) | (go_simp; rfl)); intro fJ hg w74 hbox hb; have n0_ := aA.mk (bH (g := dU) (o := .cells #[.int .i64 aT, .int .i64 aU, .int .i64 bQ, .int .i64 bG, .slice eD bN.length eB, .slice eH bI.length eG] 50 (0, 0)) (by (with_reducible repeat (first | refine aM ?_ _ | refine aQ ?_ | refine aJ ?_ _)); exact bK.out) hb); have n1_ := aA.mk (aW (by repeat (first | (with_reducible first | exact HB.out | apply aH | apply aG | apply aI | refine aN ?_ iI.out) | exact HB.out)) hb); have n2_ := aA.mk (hbox); have n3_ := aA.mk ((by rw [hg]; exact (aY (by repeat (first | (with_reducible first | exact HB.out | apply aH | apply aG | apply aI | refine aN ?_ iI.out) | exact HB.out))) : w.heap.size ≤ fJ)); have n4_ := aA.mk ((by rw [hg]; exact (aY (by repeat (first | (with_reducible first | exact HB.out | apply aH | apply aG | apply aI | refine aN ?_ iI.out) | exact HB.out))) : w.heap.size ≤ fJ)); have n5_ := aA.mk ((by rw [hg]; exact Nat.ne_of_lt (dM (g := dU) (o := .cells #[.int .i64 aT, .int .i64 aU, .int .i64 bQ, .int .i64 bG, .slice eD bN.length eB, .slice eH bI.length eG] 50 (0, 0)) (by (with_reducible repeat (first | refine aM ?_ _ | refine aQ ?_ | refine aJ ?_ _)); exact bK.out)) : dU ≠ fJ)); have n6_ := aA.mk ((by rw [hg]; exact Nat.ne_of_gt (dM (g := dU) (o := .cells #[.int .i64 aT, .int .i64 aU, .int .i64 bQ, .int .i64 bG, .slice eD bN.length eB, .slice eH bI.length eG] 50 (0, 0)) (by (with_reducible repeat (first | refine aM ?_ _ | refine aQ ?_ | refine aJ ?_ _)); exact bK.out)) : fJ ≠ dU)); clear bK; clear HB; have bK := n0_; have HB := n1_; have dR := n2_; have GW133 := n3_; have jo := n4_; have NB132_133 := n5_; have NB133_132 := n6_; clear n0_ n1_ n2_ n3_ n4_ n5_ n6_; clear hb hbox hg; have hnb75 := NB132_133.out; have hnc75 := NB133_132.out; have hcz76_0 : w74.cell? ⟨dU, 0, none⟩ = some (.int .i64 aT) := (aD bK.out 0).trans rfl; have hcz76_1 : w74.cell? ⟨dU, 1, none⟩ = some (.int .i64 aU) := (aD bK.out 1).trans rfl; have hcz76_2 : w74.cell? ⟨dU, 2, none⟩ = some (.int .i64 bQ) := (aD bK.out 2).trans rfl; have hcz76_3 : w74.cell? ⟨dU, 3, none⟩ = some (.int .i64 bG) := (aD bK.out 3).trans rfl; have hcz76_4 : w74.cell? ⟨dU, 4, none⟩ = some (.slice eD bN.length eB) := (aD bK.out 4).trans rfl; have hcz76_5 : w74.cell? ⟨dU, 5, none⟩ = some (.slice eH bI.length eG) := (aD bK.out 5).trans rfl; have hfz76_0 := aC bK.out 0; have hfz76_1 := aC bK.out 1; have hfz76_2 := aC bK.out 2; have hfz76_3 := aC bK.out 3; have hfz76_4 := aC bK.out 4; have hfz76_5 := aC bK.out 5) | ((with_reducible refine bC (f := 86) rfl ?_); refine dV (some 18) rfl rfl Try.func86 (by kernel_rfl) rfl #[.agg #[.int .i64 aT, .int .i64 aU, .int .i64 bQ, .int .i64 bG, .slice eD bN.length eB, .slice eH bI.length eG]] rfl (by (try simp only [List.map_toArray, List.map_cons, List.map_nil]); first | done | rfl | (simp only [List.length_drop, List.length_take]; rfl)) ?_; (with_reducible refine (kw.calls aT aU bQ bG _ _ bN _ _ bI bz t137 t140 _ ?dB ?dA ?di ?dh A2.out).mono ?_); (case dB => repeat (first | exact (Kd.aX HR0_4.out HB.out) | (with_reducible refine Kd.bE ?_ _) | (with_reducible refine Kd.bD ?_ _) | (with_reducible refine Kd.bS ?_))); (case dA => exact HC0_4.out); (case di => repeat (first | exact (Kd.aX HR0_5.out HB.out) | (with_reducible refine Kd.bE ?_ _) | (with_reducible refine Kd.bD ?_ _) | (with_reducible refine Kd.bS ?_))); (case dh => exact HC0_5.out); rintro e w77 ⟨v135, v138, rfl, ho0, ho1, hb⟩; refine ⟨_, rfl, ?_⟩; have n0_ := aA.mk (Kd.gI ho0 (aY (by repeat (first | (with_reducible first | exact HB.out | apply aH | apply aG | apply aI | refine aN ?_ iI.out | refine aN ?_ jo.out) | exact HB.out)))); have n1_ := aA.mk (Kd.S_lower ho1 (aY (by repeat (first | (with_reducible first | exact HB.out | apply aH | apply aG | apply aI | refine aN ?_ iI.out | refine aN ?_ jo.out) | exact HB.out)))); have n2_ := aA.mk (bH (g := dU) (o := .cells #[.int .i64 aT, .int .i64 aU, .int .i64 bQ, .int .i64 bG, .slice eD bN.length eB, .slice eH bI.length eG] 50 (0, 0)) (by (with_reducible repeat (first | refine aM ?_ _ | refine aQ ?_ | refine aJ ?_ _)); exact bK.out) hb); have n3_ := aA.mk (bH (g := fJ) (o := .cells #[.int .i64 0, .int .i64 0, .int .i64 0, .int .i64 0, .slice none 0 0, .slice none 0 0] 50 (0, 0)) (by (with_reducible repeat (first | refine aM ?_ _ | refine aQ ?_ | refine aJ ?_ _)); exact dR.out) hb); have n4_ := aA.mk (aW (by repeat (first | (with_reducible first | exact HB.out | apply aH | apply aG | apply aI | refine aN ?_ iI.out | refine aN ?_ jo.out) | exact HB.out)) hb); clear bK; clear dR; clear HB; have HO136 := n0_; have HO139 := n1_; have bK := n2_; have dR := n3_; have HB := n4_; clear n0_ n1_ n2_ n3_ n4_; (try clear hb); (try clear hb2); (try clear hk); (try clear hi); (try clear ho0); (try clear ho1); have hcz78_0 : w77.cell? ⟨fJ, 0, none⟩ = some (.int .i64 0) := (aD dR.out 0).trans rfl; have hcz78_1 : w77.cell? ⟨fJ, 1, none⟩ = some (.int .i64 0) := (aD dR.out 1).trans rfl; have hcz78_2 : w77.cell? ⟨fJ, 2, none⟩ = some (.int .i64 0) := (aD dR.out 2).trans rfl; have hcz78_3 : w77.cell? ⟨fJ, 3, none⟩ = some (.int .i64 0) := (aD dR.out 3).trans rfl; have hcz78_4 : w77.cell? ⟨fJ, 4, none⟩ = some (.slice none 0 0) := (aD dR.out 4).trans rfl; have hcz78_5 : w77.cell? ⟨fJ, 5, none⟩ = some (.slice none 0 0) := (aD dR.out 5).trans rfl; have hfz78_0 := aC dR.out 0; have hfz78_1 := aC dR.out 1; have hfz78_2 := aC dR.out 2; have hfz78_3 := aC dR.out 3; have hfz78_4 := aC dR.out 4; have hfz78_5 := aC dR.out 5))
    refine bodyPost_ret (iV rfl _ _ fJ 50 #[.int .i64 0, .int .i64 0, .int .i64 0, .int .i64 0, .slice none 0 0, .slice none 0 0] (0, 0) _ rfl (by (with_reducible repeat (first | refine aM ?_ _ | refine aQ ?_ | refine aJ ?_ _)); refine bU (cs := #[.int .i64 0, .int .i64 0, .int .i64 0, .int .i64 0, .slice none 0 0, .slice none 0 0]) ?_ 5 _ rfl; (with_reducible repeat (first | refine aM ?_ _ | refine aQ ?_ | refine aJ ?_ _)); refine bU (cs := #[.int .i64 0, .int .i64 0, .int .i64 0, .int .i64 0, .slice none 0 0, .slice none 0 0]) ?_ 4 _ rfl; (with_reducible repeat (first | refine aM ?_ _ | refine aQ ?_ | refine aJ ?_ _)); refine bU (cs := #[.int .i64 0, .int .i64 0, .int .i64 0, .int .i64 0, .slice none 0 0, .slice none 0 0]) ?_ 3 _ rfl; (with_reducible repeat (first | refine aM ?_ _ | refine aQ ?_ | refine aJ ?_ _)); refine bU (cs := #[.int .i64 0, .int .i64 0, .int .i64 0, .int .i64 0, .slice none 0 0, .slice none 0 0]) ?_ 2 _ rfl; (with_reducible repeat (first | refine aM ?_ _ | refine aQ ?_ | refine aJ ?_ _)); refine bU (cs := #[.int .i64 0, .int .i64 0, .int .i64 0, .int .i64 0, .slice none 0 0, .slice none 0 0]) ?_ 1 _ rfl; (with_reducible repeat (first | refine aM ?_ _ | refine aQ ?_ | refine aJ ?_ _)); refine bU (cs := #[.int .i64 0, .int .i64 0, .int .i64 0, .int .i64 0, .slice none 0 0, .slice none 0 0]) ?_ 0 _ rfl; (with_reducible repeat (first | refine aM ?_ _ | refine aQ ?_ | refine aJ ?_ _)); exact dR.out) Try.underlying50 rfl (by kernel_rfl)) rfl ?_
    exact ⟨_, _, by first | rfl | (simp [ag, af] <;> rfl) | (simp [*, ag, af] <;> rfl), by first | exact Kd.R_nil _ _ _ _ _ | exact Kd.N_nil _ _ _ _ _ | exact Kd.V_nil _ _ _ _ _ | exact Kd.Q_nil _ _ _ _ _ | exact Kd.S_nil _ _ _ _ _, by first | exact Kd.R_nil _ _ _ _ _ | exact Kd.N_nil _ _ _ _ _ | exact Kd.V_nil _ _ _ _ _ | exact Kd.Q_nil _ _ _ _ _ | exact Kd.S_nil _ _ _ _ _, by repeat (first | (with_reducible first | exact HB.out | apply aH | apply aG | apply aI | refine aN ?_ iI.out | refine aN ?_ jo.out) | exact HB.out)⟩
end Go.Proofs.Ytocejofjmmoeaaa.X
end
