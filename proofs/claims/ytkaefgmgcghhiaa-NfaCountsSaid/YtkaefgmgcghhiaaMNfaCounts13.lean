/- Texts of the statement NfaCounts, one behind the other: Go functions as Lean functions, the machine's calls, the plain law. -/
import Derived.Test.YtkaefgmgcghhiaaMNfaCounts4
import Derived.Test.YtkaefgmgcghhiaaMNfaCounts5
import Derived.Test.YtkaefgmgcghhiaaMNfaCounts12
import Derived.Carry
import Derived.Deep.WholeRow
set_option linter.unusedVariables false
set_option linter.unusedSimpArgs false
section
namespace Go.Proofs.Ytkaefgmgcghhiaa.X
open Go.RowKit Go.Proofs.YtkaefgmgcghhiaaW.PrintWords Go.Proofs.YtkaefgmgcghhiaaW.PrintLast Go.Proofs.YtkaefgmgcghhiaaW.PrintMore
open Go.Proofs.Ytkaefgmgcghhiaa
theorem infoL : (Try.prog.info? 22).map (fun i => (i.zero, i.size, i.bytes)) = some (some (.slice none 0 0), 1, 24) := by kernel_rfl
theorem zeroI (w : World) : (zeroValue 3).run Try.prog w = .ok (.int .i64 0) w := (zero_of_info (show (Try.prog.info? 3).map (fun i => (i.zero, i.size)) = some (some (.int .i64 0), 1) by kernel_rfl)).1 w
def stI (K s : Int) (x : Nat) : Int := wrap64 (wrap64 (s * K) + (x : Int))
def seenOf (n : Nat) : List Int → List (Int × Int)
  | [] => []
  | t :: r => (t, (n : Int)) :: seenOf (n + 1) r
theorem seen_key {n : Nat} {st : List Int} {p : Int × Int} (h : p ∈ seenOf n st) : p.1 ∈ st := by
  induction st generalizing n with
  | nil => simp [seenOf] at h
  | cons t r ih =>
    simp only [seenOf, List.mem_cons] at h
    rcases h with rfl | h
    · simp
    · exact List.mem_cons_of_mem _ (ih h)
theorem seen_some {n : Nat} {st : List Int} {t : Int} (h : t ∈ st) : ∃ v, Vm.getK (seenOf n st) t = some v := by
  induction st generalizing n with
  | nil => cases h
  | cons u r ih =>
    rw [seenOf, Vm.getK]
    by_cases e : u = t
    · exact ⟨_, if_pos e⟩
    · rw [if_neg e]
      exact ih (by rcases List.mem_cons.1 h with h | h; exact absurd h.symm e; exact h)
theorem seen_none {n : Nat} {st : List Int} {t : Int} (h : t ∉ st) : Vm.getK (seenOf n st) t = none := Vm.getK_none (fun p hp e => h (by rw [← e]; exact seen_key hp))
theorem seen_put {n : Nat} {st : List Int} {t : Int} (h : t ∉ st) : Vm.putK (seenOf n st) t ((n + st.length : Nat) : Int) = seenOf n (st ++ [t]) := by
  rw [Vm.putK_new (fun p hp e => h (by rw [← e]; exact seen_key hp))]
  clear h
  induction st generalizing n with
  | nil => simp [seenOf]
  | cons u r ih =>
    rw [List.cons_append, seenOf, seenOf, List.cons_append, ← ih (n := n + 1)]
    simp only [List.length_cons]
    congr 4
    omega
theorem seen0_put {st : List Int} {t : Int} (h : t ∉ st) : Vm.putK (seenOf 0 st) t (st.length : Int) = seenOf 0 (st ++ [t]) := by
  have := seen_put (n := 0) h
  rw [Nat.zero_add] at this
  exact this
theorem rd_append_left {l m : List Int} {i : Nat} (h : i < l.length) : rd (l ++ m) (i : Int) = rd l (i : Int) := by
  simp only [rd, Int.toNat_natCast, List.getD_eq_getElem?_getD, List.getElem?_append_left h]
theorem wf_of {t : Int} (h0 : 0 ≤ t) (h1 : t < 1099511627776) : (Lit.int .i64 t).wf = true := by
  simp [Lit.wf, IntKind.min, IntKind.max, IntKind.signed, IntKind.bits]
  omega
def rcIn (K N : Int) (nx : List Int) (s : Int) (i : Nat) : List Nat → List Int → List (List Int) → Option (Bool × List Int × List (List Int))
  | [], st, ws => some (false, st, ws)
  | x :: r, st, ws => if (0 ≤ stI K s x ∧ stI K s x < (nx.length : Int)) ∧ x < 1099511627776 then
      (if (0 ≤ rd nx (stI K s x) ∧ rd nx (stI K s x) < 1099511627776) ∧ st.length < 1099511627776 ∧ ws.length < 1099511627776 ∧ (ws.getD i []).length < 1099511627776 ∧ i < ws.length then
        (if rd nx (stI K s x) ∈ st then rcIn K N nx s i r st ws
         else if ((st.length : Int) + 1) = N then some (true, st ++ [rd nx (stI K s x)], ws ++ [ws.getD i [] ++ [(x : Int)]])
         else rcIn K N nx s i r (st ++ [rd nx (stI K s x)]) (ws ++ [ws.getD i [] ++ [(x : Int)]])) else none) else none
def rcF (K N : Int) (nx : List Int) : Nat → Nat → List Int → List (List Int) → Option (List Int × List (List Int))
  | 0, _, _, _ => none
  | q + 1, i, st, ws => if i < st.length then (if i < 1099511627776 then (match rcIn K N nx (rd st i) i (List.range K.toNat) st ws with
      | none => none
      | some (true, st1, ws1) => some (st1, ws1)
      | some (false, st1, ws1) => rcF K N nx q (i + 1) st1 ws1) else none) else some (st, ws)
/-- What Reach leaves: its answers, in memory of their own. -/
def RcPost (w : World) (st : List Int) (ws : List (List Int)) (er : Int) (e : Ending) (w' : World) : Prop := ∃ (v2 v3 : Value) (P : Nat → Prop), e = .returned (.tuple #[v2, v3, .int .i64 er]) ∧ Sp.Sep w.heap.size [Sp.rows (Kd.slice 3 (Kd.int .i64)) 22 w.heap.size P v3 ws, Sp.ints w.heap.size v2 st] w' ∧ Below w.heap.size w w'
def DC12.T12 : Bool × List (List Nat × List Nat) := (true, [([], []), ([0], [0]), ([], []), ([], []), ([2, 3], [2, 3]), ([4], [4]), ([], []), ([6], [6]), ([5, 7], [5, 7]), ([], []), ([8, 9], [8, 9]), ([1, 10], [1, 10]), ([11], [11]), ([12, 0, 1, 2, 3, 4, 5, 6, 7, 8, 9, 10, 11, 12], [12])])
def DC12.B12 : List Nat := [0, 1, 0, 0, 12, 28, 0, 64, 252, 0, 1020, 2047, 4095, 8191]
theorem DC12.tab12 : rtab .any (opsOf Try.f73 12) = DC12.T12 := by kernel_rfl
theorem DC12.bits12 : waitsOk DC12.T12.2 DC12.B12 = true := by kernel_rfl
set_option maxHeartbeats 8000000 in
set_option maxRecDepth 100000 in
theorem Reach_walk (k k0 : Nat) (kd K O N : Int) (A4 : Option Addr) (c4 : Nat) (nx : List Int) (A5 : Option Addr) (c5 : Nat) (out : List Int) (at1 e1 : Int) (st0 : List Int) (ws0 : List (List Int)) (w : World)
    (ha4 : Kd.C (Kd.int .i64) w A4 nx.length nx) (hc4 : nx.length ≤ c4) (ha5 : Kd.C (Kd.int .i64) w A5 out.length out) (hc5 : out.length ≤ c5) (hm : dm.f k0 kd K O N nx out = some (at1, e1))
    (h : (e1 ≠ 0 ∧ st0 = [] ∧ ws0 = []) ∨ (e1 = 0 ∧ rcF K N nx k 0 [0] [[]] = some (st0, ws0))) :
    Calls Try.prog 73 #[.agg #[.int .i64 kd, .int .i64 K, .int .i64 O, .int .i64 N, .slice A4 nx.length c4, .slice A5 out.length c5]] w (RcPost w st0 ws0 e1) := by
  have hu43 := Try.underlying43
  have hm1 := fun (W : World) (hb : Below w.heap.size w W) => dm.calls k0 kd K O N A4 c4 nx A5 c5 out at1 e1 W (Kd.ak ha4 hb) hc4 (Kd.ak ha5 hb) hc5 hm
  have HAR := aC.mk ha4
  have HH := aC.mk h
  have hmm := @run_makeMap Try.prog
  clear ha4 ha5 hc4 hc5 hm h
  by_cases q1 : e1 ≠ 0
  · have qb : (e1 != 0) = true := by simpa using q1
    have hH := HH.out
    obtain ⟨rfl, rfl⟩ : st0 = [] ∧ ws0 = [] := by
      rcases hH with h | h
      · exact h.2
      · exact absurd h.1 q1
    clear hH HH q1
    go_enter Try.func73, Try.ntmps73
    go_wp2
    go_step3
    go_wp2_with (first
      | (go_at_call 67; with_reducible refine (hm1 _ (aH (Below.refl _ _) _)).mono ?_
         rintro e w1 ⟨rfl, hb1⟩
         have HB1 := aC.mk (ah (aH (Below.refl w.heap.size w) (.cells #[.int .i64 kd, .int .i64 K, .int .i64 O, .int .i64 N, .slice A4 nx.length c4, .slice A5 out.length c5] 43)) hb1)
         clear hb1))
    try rw [Exit.noGoto_ret]
    refine bodyPost_ret (v := .tuple #[.slice none 0 0, .slice none 0 0, .int .i64 e1]) (by simp [results, Try.results73, go_sem]) rfl ⟨_, _, fun _ => False, rfl, ?_, HB1.out⟩
    exact ((Sp.Sep.nil _ _).nilRow (Kd.int .i64) 3).free _ (Kd.S_nil _ _ _ _ _) (fun _ hk => hk)
  obtain rfl : e1 = 0 := by omega
  have hr : rcF K N nx k 0 [0] [[]] = some (st0, ws0) := by
    rcases HH.out with h | h
    · exact absurd h.1 (by decide)
    · exact h.2
  clear HH q1
  have HR0 := aC.mk hr
  clear hr
  go_enter Try.func73, Try.ntmps73
  go_wp2
  go_step3
  go_wp2_with (first
    | (go_at_call 67; with_reducible refine (hm1 _ (aH (Below.refl _ _) _)).mono ?_
       rintro e w1 ⟨rfl, hb1⟩
       have HD1 : aC (Sp.Sep w.heap.size [Sp.blk w.heap.size #[.int .i64 kd, .int .i64 K, .int .i64 O, .int .i64 N, .slice A4 nx.length c4, .slice A5 out.length c5] 43] w1) := ⟨((Sp.Sep.nil w.heap.size w).alloc #[.int .i64 kd, .int .i64 K, .int .i64 O, .int .i64 N, .slice A4 nx.length c4, .slice A5 out.length c5] 43 (Nat.le_refl _)).low hb1⟩
       have HB1 := aC.mk (ah (aH (Below.refl w.heap.size w) (.cells #[.int .i64 kd, .int .i64 K, .int .i64 O, .int .i64 N, .slice A4 nx.length c4, .slice A5 out.length c5] 43)) hb1)
       have hp0 := Vm.map_new w1 (Value.int .i64) (Value.int .i64)
       clear hb1)
    | ((with_reducible refine Sp.gate_insert rfl ?_)
       refine Vm.wpList_map_put (Vm.int_keys Try.underlying3) Try.underlying146 rfl (.tmp 21) (.const (.int .i64 0)) (.const (.int .i64 0)) (.inl rfl) (0 : Int) (0 : Int) rfl rfl rfl rfl hp0 (by simp) (wf_of (by omega) (by omega)) ?_
       intro w6 hp6 hg6
       have HD6 : aC (Sp.Sep w.heap.size [Sp.mp w1.heap.size (Value.int .i64) (Value.int .i64) (seenOf 0 [0]), Sp.blk w.heap.size #[.int .i64 kd, .int .i64 K, .int .i64 O, .int .i64 N, .slice A4 nx.length c4, .slice A5 out.length c5] 43] w6) := ⟨(HD1.out.newMap (Value.int .i64) (Value.int .i64) HB1.out.size).putMap 0 rfl hp6 hg6 (by simp; have := HB1.out.size; omega)⟩
       have HB6 := aC.mk ((aH HB1.out (.map #[] 0)).grown hg6 (by simp; have := HB1.out.size; omega) (fun k hk => by injection hk with hk; rw [← hk]; exact HB1.out.size))
       clear hp6 hg6 hp0)
    | ((with_reducible refine bK (N := 23) rfl ?_)
       refine Kd.R_lit (Kd.int .i64) (w0 := w) w.heap.size 3 rfl (N := 23) rfl (xs := [(0 : Int)]) (inner := [.int .i64 0]) (ok := fun _ => True) (okp := fun _ => True) ?hr ?hp (fun _ hk => hk) trivial HB6.out HB6.out.size (by simp) ?_
       (case hr => first | (go_simp; done) | (go_simp; rfl))
       (case hp => exact (Reps.one (show Kd.M (Kd.int .i64) _ _ _ (0 : Int) [.int .i64 0] from rfl) (Reps.none _ _)))
       intro v7 w7 ho hb hg hnew
       have HD7 := aC.mk (HD6.out.newRow rfl ho hg hnew HB6.out.size)
       have HB7 := aC.mk hb
       clear ho hb hg hnew)
    | ((with_reducible refine bK (N := 24) rfl ?_)
       refine Kd.R_lit (Kd.int .i64) (w0 := w) w.heap.size 3 rfl (N := 24) rfl (xs := ([] : List Int)) (inner := []) (ok := fun _ => True) (okp := fun _ => True) ?hr ?hp (fun _ hk => hk) trivial HB7.out HB7.out.size (by simp) ?_
       (case hr => first | (go_simp; done) | (go_simp; rfl))
       (case hp => exact (Reps.none _ _))
       intro v8 w8 ho hb hg hnew
       have HD8 := aC.mk (HD7.out.newRow rfl ho hg hnew HB7.out.size)
       have HB8 := aC.mk hb
       obtain ⟨g8, c8, rfl⟩ := Sp.new_slice ho hnew
       clear ho hb hg hnew)
    | ((with_reducible refine bK (N := 25) rfl ?_)
       refine Kd.R_lit (Kd.slice 3 (Kd.int .i64)) (w0 := w) w.heap.size 22 rfl (N := 25) rfl (xs := [([] : List Int)]) (inner := [.slice (some ⟨g8, 0, none⟩) 0 c8]) (ok := fun k => some k = (Value.slice (some ⟨g8, 0, none⟩) 0 c8).ownBlock ∨ w8.heap.size ≤ k) (okp := fun k => some k = (Value.slice (some ⟨g8, 0, none⟩) 0 c8).ownBlock) ?hr ?hp (fun _ hk => .inl hk) (.inr (Nat.le_refl _)) HB8.out HB8.out.size (by simp) ?_
       (case hr => first | (go_simp; done) | (go_simp; rfl))
       (case hp => exact (Reps.one (Kd.M_row (HD8.out.get 0 rfl)) (Reps.none _ _)))
       intro v9 w9 ho hb hg hnew
       obtain ⟨P9, hP9⟩ : ∃ P, P = (fun k => (some k = (Value.slice (some ⟨g8, 0, none⟩) 0 c8).ownBlock ∨ w8.heap.size ≤ k) ∧ k < w9.heap.size) := ⟨_, rfl⟩
       have HD9 : aC (Sp.Sep w.heap.size [Sp.rows (Kd.slice 3 (Kd.int .i64)) 22 w.heap.size P9 v9 [[]], Sp.ints w.heap.size v7 [0], Sp.mp w1.heap.size (Value.int .i64) (Value.int .i64) (seenOf 0 [0]), Sp.blk w.heap.size #[.int .i64 kd, .int .i64 K, .int .i64 O, .int .i64 N, .slice A4 nx.length c4, .slice A5 out.length c5] 43] w9) := ⟨by rw [hP9]; exact HD8.out.rowsOf 0 rfl (Sp.S_single ho) hg HB8.out.size⟩
       have HB9 := aC.mk hb
       clear ho hb hg hnew hP9))
  clear HD1 HB1 HD6 HB6 HD7 HB7 HD8 HB8
  generalize w1.heap.size = mb at HD9 ⊢
  try go_step3
  go_wp2
  go_loopg [8, 2, 3] k (fun kq v8 v2 v3 wr => ∃ (i : Nat) (st : List Int) (ws : List (List Int)) (P : Nat → Prop), v8 = .int .i64 (i : Int) ∧ aC (rcF K N nx kq i st ws = some (st0, ws0)) ∧ aC (kq ≤ k) ∧ aC (Sp.Sep w.heap.size [Sp.rows (Kd.slice 3 (Kd.int .i64)) 22 w.heap.size P v3 ws, Sp.ints w.heap.size v2 st, Sp.mp mb (Value.int .i64) (Value.int .i64) (seenOf 0 st), Sp.blk w.heap.size #[.int .i64 kd, .int .i64 K, .int .i64 O, .int .i64 N, .slice A4 nx.length c4, .slice A5 out.length c5] 43] wr) ∧ aC (Below w.heap.size w wr) ∧ aC (∀ t ∈ st, (Lit.int .i64 t).wf = true))
  case atStart => exact ⟨0, [0], [[]], P9, rfl, HR0, ⟨Nat.le_refl _⟩, HD9, HB9, ⟨by intro t ht; simp only [List.mem_singleton] at ht; rw [ht]; exact wf_of (by omega) (by omega)⟩⟩
  case round =>
    clear HD9 HB9 HR0
    obtain ⟨i, st, ws, P, rfl, HF, HK, HD, HB, HKE⟩ := hrel
    obtain ⟨Aw, cw, rfl⟩ := Kd.S_slice (HD.out.get 0 rfl)
    obtain ⟨As, cs, rfl⟩ := Kd.bu (HD.out.get 1 rfl)
    cases gk with
    | zero => exact absurd HF.out (by simp [rcF])
    | succ k1 =>
      have H := HF.out
      clear HF
      rw [rcF] at H
      by_cases e1 : i < st.length
      · rw [if_pos e1] at H
        by_cases eb : i < 1099511627776
        rotate_left
        · rw [if_neg eb] at H; exact absurd H (by simp)
        rw [if_pos eb] at H
        have HIB := aC.mk eb
        have hlt1 : (i : Int) < (st.length : Int) := by omega
        obtain ⟨s, hs⟩ : ∃ s, rd st i = s := ⟨_, rfl⟩
        rw [hs] at H
        cases hin : rcIn K N nx s i (List.range K.toNat) st ws with
        | none => rw [hin] at H; exact absurd H (by simp)
        | some ires =>
          rw [hin] at H
          have HIN := aC.mk hin
          have HNX := aC.mk H
          have HS := aC.mk (And.intro hs e1)
          clear hin H hs
          have hx1 : wr.cell? ⟨w.heap.size, 1, none⟩ = some (.int .i64 K) := (aD (HD.out.get 3 rfl) 1).trans rfl
          go_wp2
          clear hx1
          go_loopw [34, 2, 3] (fun v34 v2 v3 wr2 => ∃ (x : Nat) (st1 : List Int) (ws1 : List (List Int)) (P1 : Nat → Prop), v34 = .int .i64 (x : Int) ∧ aC (x ≤ K.toNat) ∧ aC (rcIn K N nx s i ((List.range K.toNat).drop x) st1 ws1 = some ires) ∧ aC (Sp.Sep w.heap.size [Sp.rows (Kd.slice 3 (Kd.int .i64)) 22 w.heap.size P1 v3 ws1, Sp.ints w.heap.size v2 st1, Sp.mp mb (Value.int .i64) (Value.int .i64) (seenOf 0 st1), Sp.blk w.heap.size #[.int .i64 kd, .int .i64 K, .int .i64 O, .int .i64 N, .slice A4 nx.length c4, .slice A5 out.length c5] 43] wr2) ∧ aC (Below w.heap.size w wr2) ∧ aC (∀ t ∈ st1, (Lit.int .i64 t).wf = true) ∧ aC (rd st1 i = s ∧ i < st1.length)) (fun v34 _ _ _ => K.toNat - (intOf v34).toNat)
          case atStart => exact ⟨0, st, ws, P, rfl, ⟨by omega⟩, HIN, HD, HB, HKE, HS⟩
          case round =>
            clear HIN HD HB HKE HS hlt1 e1
            obtain ⟨x, st1, ws1, Pw, rfl, HX, HIN, HD, HB, HKE, HS⟩ := hrel
            obtain ⟨Aw, cw, rfl⟩ := Kd.S_slice (HD.out.get 0 rfl)
            obtain ⟨As, cs, rfl⟩ := Kd.bu (HD.out.get 1 rfl)
            by_cases hlt : x < K.toNat
            · have H := HIN.out
              have hd : (List.range K.toNat).drop x = x :: (List.range K.toNat).drop (x + 1) := by
                rw [List.drop_eq_getElem_cons (by simpa using hlt)]
                simp
              rw [hd] at H
              clear HIN hd
              simp only [rcIn] at H
              have hlt' : (x : Int) < K := by omega
              have HLT := aC.mk hlt
              by_cases e3 : (0 ≤ stI K s x ∧ stI K s x < (nx.length : Int)) ∧ x < 1099511627776
              · rw [if_pos e3] at H
                obtain ⟨⟨e3a, e3b⟩, e3c⟩ := e3
                have hxb : (x : Int) < 1099511627776 := by omega
                obtain ⟨adA, eA, hvA⟩ := Kd.cz (Kd.ak HAR.out HB.out) _ e3a e3b
                subst eA
                obtain ⟨adS, eS, hvS⟩ := Kd.cz (Kd.bX (HD.out.get 1 rfl)).2.2 (i : Int) (by omega) (by have := HS.out.2; omega)
                subst eS
                rw [HS.out.1] at hvS
                simp only [Int.toNat_natCast] at hvS
                generalize rd nx (stI K s x) = t at H hvA
                simp only [stI] at hvA e3a e3b
                obtain ⟨l0, hl0⟩ : ∃ l, ws1.getD i [] = l := ⟨_, rfl⟩
                rw [hl0] at H
                by_cases e4 : (0 ≤ t ∧ t < 1099511627776) ∧ st1.length < 1099511627776 ∧ ws1.length < 1099511627776 ∧ l0.length < 1099511627776 ∧ i < ws1.length
                · rw [if_pos e4] at H
                  obtain ⟨⟨e4a, e4b⟩, e4c, e4d, e4e, e4f⟩ := e4
                  have HT := aC.mk (wf_of e4a e4b)
                  have HL1 := aC.mk e4c
                  have HLS := aC.mk e4d
                  have HLW := aC.mk (show l0.length ≤ 17592186044415 by omega)
                  have HIW := aC.mk e4f
                  have HH := aC.mk H
                  have HL0 := aC.mk hl0
                  have his : (i : Int) < (st1.length : Int) := by have := HS.out.2; omega
                  have hiw : (i : Int) < (ws1.length : Int) := by omega
                  have hx4 : wr.cell? ⟨w.heap.size, 4, none⟩ = some (.slice (some adA) nx.length c4) := (aD (HD.out.get 3 rfl) 4).trans rfl
                  have hx1 : wr.cell? ⟨w.heap.size, 1, none⟩ = some (.int .i64 K) := (aD (HD.out.get 3 rfl) 1).trans rfl
                  clear H hl0 e4a e4b e4c e4d e4e e4f
                  go_wp2
                  refine start_ (n := 14) (S := fun w' => w'.cell? ⟨w.heap.size, 4, none⟩ = some (.slice (some adA) nx.length c4) ∧ w'.cell? ⟨w.heap.size, 1, none⟩ = some (.int .i64 K) ∧ w'.cell? (adS.add i) = some (.int .i64 s) ∧ w'.cell? (adA.add (wrap64 (wrap64 (s * K) + (x : Int))).toNat) = some (.int .i64 t)) (ds := []) #[false, false, false, false, false, false, false, false, false, false, false, false, false, false] (by kernel_rfl) rfl rfl ⟨hx4, hx1, hvS, hvA⟩ (fun hHeld => ?_)
                  refine with_tabW DC12.tab12 DC12.bits12 (fun HT_ HW_ => ?_)
                  have HDE := aC.mk (HD.out.low (aI (Below.refl wr.heap.size wr)))
                  have HBE := aC.mk (aI HB.out)
                  generalize wr.drew = we at HDE HBE hHeld ⊢
                  refine dM (i := 0) (N := (some 37)) (v := ?_) (a' := ?_) #[true, false, false, false, false, false, false, false, false, false, false, false, false, false] rfl rfl (dE HT_.out (by kernel_rfl)) (fun _ _ _ h => h) (Or.inl ⟨by rfl, ?_⟩) ?_ ?_
                  rotate_left
                  · intro w'
                    go_simp
                    with_reducible rfl
                  rotate_left
                  · simp only [Act.put, List.setIfInBounds_toArray, List.set_cons_zero, List.set_cons_succ, bT, bU]
                    rfl
                  refine dM (i := 2) (N := (some 39)) (v := ?_) (a' := ?_) #[true, false, true, false, false, false, false, false, false, false, false, false, false, false] rfl rfl (dE HT_.out (by kernel_rfl)) (fun _ _ _ h => h) (Or.inl ⟨by rfl, ?_⟩) ?_ ?_
                  rotate_left
                  · intro w'
                    go_simp
                    with_reducible rfl
                  rotate_left
                  · simp only [Act.put, List.setIfInBounds_toArray, List.set_cons_zero, List.set_cons_succ, bT, bU]
                    rfl
                  refine dM (i := 3) (N := (some 40)) (v := ?_) (a' := ?_) #[true, false, true, true, false, false, false, false, false, false, false, false, false, false] rfl rfl (dE HT_.out (by kernel_rfl)) (fun _ _ _ h => h) (Or.inl ⟨by rfl, ?_⟩) ?_ ?_
                  rotate_left
                  · intro w'
                    go_simp
                    with_reducible rfl
                  rotate_left
                  · simp only [Act.put, List.setIfInBounds_toArray, List.set_cons_zero, List.set_cons_succ, bT, bU]
                    rfl
                  refine dM (i := 4) (N := (some 41)) (v := ?_) (a' := ?_) #[true, false, true, true, true, false, false, false, false, false, false, false, false, false] rfl rfl (dE HT_.out (by kernel_rfl)) (fun _ _ _ h => h) (Or.inl ⟨by rfl, ?_⟩) ?_ ?_
                  rotate_left
                  · intro w'
                    go_simp
                    with_reducible rfl
                  rotate_left
                  · simp only [Act.put, List.setIfInBounds_toArray, List.set_cons_zero, List.set_cons_succ, bT, bU]
                    rfl
                  refine dM (i := 6) (N := (some 43)) (v := ?_) (a' := ?_) #[true, false, true, true, true, false, true, false, false, false, false, false, false, false] rfl rfl (dE HT_.out (by kernel_rfl)) (fun _ _ _ h => h) (Or.inl ⟨by rfl, ?_⟩) ?_ ?_
                  rotate_left
                  · intro w'
                    go_simp
                    with_reducible rfl
                  rotate_left
                  · simp only [Act.put, List.setIfInBounds_toArray, List.set_cons_zero, List.set_cons_succ, bT, bU]
                    rfl
                  refine dM (i := 9) (N := (some 46)) (v := ?_) (a' := ?_) #[true, false, true, true, true, false, true, false, false, true, false, false, false, false] rfl rfl (dE HT_.out (by kernel_rfl)) (fun _ _ _ h => h) (Or.inl ⟨by rfl, ?_⟩) ?_ ?_
                  rotate_left
                  · intro w'
                    go_simp
                    with_reducible rfl
                  rotate_left
                  · simp only [Act.put, List.setIfInBounds_toArray, List.set_cons_zero, List.set_cons_succ, bT, bU]
                    rfl
                  refine jB (i := 1) (N := (some 38)) (v := ?_) (a' := ?_) #[true, true, true, true, true, false, true, false, false, true, false, false, false, false] rfl rfl (ek HT_.out HW_.out (by kernel_rfl)) (fun _ _ _ h => h) (Or.inl ⟨by rfl, ?_⟩) hHeld ?_ ?_
                  rotate_left
                  · rintro w' ⟨s0, s1, s2, s3⟩
                    go_simp
                    with_reducible rfl
                  rotate_left
                  · simp only [Act.put, List.setIfInBounds_toArray, List.set_cons_zero, List.set_cons_succ, bT, bU]
                    rfl
                  refine jB (i := 5) (N := (some 42)) (v := ?_) (a' := ?_) #[true, true, true, true, true, true, true, false, false, true, false, false, false, false] rfl rfl (ek HT_.out HW_.out (by kernel_rfl)) (fun _ _ _ h => h) (Or.inl ⟨by rfl, ?_⟩) hHeld ?_ ?_
                  rotate_left
                  · rintro w' ⟨s0, s1, s2, s3⟩
                    go_simp
                    with_reducible rfl
                  rotate_left
                  · simp only [Act.put, List.setIfInBounds_toArray, List.set_cons_zero, List.set_cons_succ, bT, bU]
                    rfl
                  refine jB (i := 7) (N := (some 44)) (v := ?_) (a' := ?_) #[true, true, true, true, true, true, true, true, false, true, false, false, false, false] rfl rfl (ek HT_.out HW_.out (by kernel_rfl)) (fun _ _ _ h => h) (Or.inl ⟨by rfl, ?_⟩) hHeld ?_ ?_
                  rotate_left
                  · rintro w' ⟨s0, s1, s2, s3⟩
                    go_simp
                    with_reducible rfl
                  rotate_left
                  · simp only [Act.put, List.setIfInBounds_toArray, List.set_cons_zero, List.set_cons_succ, bT, bU]
                    rfl
                  refine dM (i := 8) (N := (some 45)) (v := ?_) (a' := ?_) #[true, true, true, true, true, true, true, true, true, true, false, false, false, false] rfl rfl (dE HT_.out (by kernel_rfl)) (fun _ _ _ h => h) (Or.inl ⟨by rfl, ?_⟩) ?_ ?_
                  rotate_left
                  · intro w'
                    go_simp
                    with_reducible rfl
                  rotate_left
                  · simp only [Act.put, List.setIfInBounds_toArray, List.set_cons_zero, List.set_cons_succ, bT, bU]
                    rfl
                  refine dM (i := 10) (N := (some 47)) (v := ?_) (a' := ?_) #[true, true, true, true, true, true, true, true, true, true, true, false, false, false] rfl rfl (dE HT_.out (by kernel_rfl)) (fun _ _ _ h => h) (Or.inl ⟨by rfl, ?_⟩) ?_ ?_
                  rotate_left
                  · intro w'
                    go_simp
                    with_reducible rfl
                  rotate_left
                  · simp only [Act.put, List.setIfInBounds_toArray, List.set_cons_zero, List.set_cons_succ, bT, bU]
                    rfl
                  refine dM (i := 11) (N := (some 48)) (v := ?_) (a' := ?_) #[true, true, true, true, true, true, true, true, true, true, true, true, false, false] rfl rfl (dE HT_.out (by kernel_rfl)) (fun _ _ _ h => h) (Or.inl ⟨by rfl, ?_⟩) ?_ ?_
                  rotate_left
                  · intro w'
                    go_simp
                    with_reducible rfl
                  rotate_left
                  · simp only [Act.put, List.setIfInBounds_toArray, List.set_cons_zero, List.set_cons_succ, bT, bU]
                    rfl
                  refine jB (i := 12) (N := (some 49)) (v := ?_) (a' := ?_) #[true, true, true, true, true, true, true, true, true, true, true, true, true, false] rfl rfl (ek HT_.out HW_.out (by kernel_rfl)) (fun _ _ _ h => h) (Or.inl ⟨by rfl, ?_⟩) hHeld ?_ ?_
                  rotate_left
                  · rintro w' ⟨s0, s1, s2, s3⟩
                    go_simp
                    with_reducible rfl
                  rotate_left
                  · simp only [Act.put, List.setIfInBounds_toArray, List.set_cons_zero, List.set_cons_succ, bT, bU]
                    rfl
                  refine dM (i := 13) (N := (some 10)) (v := ?_) (a' := ?_) #[true, true, true, true, true, true, true, true, true, true, true, true, true, true] rfl rfl (dE HT_.out (by kernel_rfl)) (fun _ _ _ h => h) (Or.inl ⟨by rfl, ?_⟩) ?_ ?_
                  rotate_left
                  · intro w'
                    go_simp
                    with_reducible rfl
                  rotate_left
                  · simp only [Act.put, List.setIfInBounds_toArray, List.set_cons_zero, List.set_cons_succ, bT, bU]
                    rfl
                  refine done_ (done_of HT_.out (by kernel_rfl)) ?_
                  clear hHeld hx4 hx1 hvS hvA HD HB e3a e3b
                  have hlk := Vm.map_lookup (Vm.int_keys Try.underlying3) Try.underlying146 zeroI (HDE.out.get 2 rfl) (fun p hp => HKE.out _ (seen_key hp)) HT.out true
                  by_cases e5 : t ∈ st1
                  · have H := HH.out
                    rw [if_pos e5] at H
                    have HH2 := aC.mk H
                    obtain ⟨v, hgv⟩ := seen_some (n := 0) e5
                    rw [hgv] at hlk
                    simp only [Option.map_some, Option.getD_some, Option.isSome_some, if_true] at hlk
                    clear H HH hgv e5
                    go_wp2
                    clear hlk
                    go_roundw
                    case rel => exact ⟨x + 1, st1, ws1, Pw, by go_num, ⟨by have := HLT.out; omega⟩, HH2, HDE, HBE, HKE, HS⟩
                    case measure => have := HLT.out; simp [intOf]; omega
                  · have H := HH.out
                    rw [if_neg e5] at H
                    have HH2 := aC.mk H
                    rw [seen_none e5] at hlk
                    simp only [Option.map_none, Option.getD_none, Option.isSome_none, if_true] at hlk
                    have HE5 := aC.mk e5
                    clear H HH e5
                    have H := HH2.out
                    clear HH2
                    by_cases e6 : (st1.length : Int) + 1 = N
                    · rw [if_pos e6] at H
                      simp only [Option.some.injEq] at H
                      subst H
                      have hr := HNX.out
                      simp only [Option.some.injEq, Prod.mk.injEq] at hr
                      obtain ⟨rfl, rfl⟩ := hr
                      have e6b : ((st1.length : Int) + 1 == N) = true := by simpa using e6
                      have e6c : (((st1.length + 1 : Nat) : Int) == N) = true := by simpa using e6
                      go_wp2_with (first
                        | ((with_reducible refine Sp.gate_update rfl ?_)
                           refine Vm.wpList_map_put (Vm.int_keys Try.underlying3) Try.underlying146 rfl (.tmp 57) (.tmp 58) (.tmp 60) (.inr rfl) t (st1.length : Int) rfl rfl rfl rfl (HDE.out.get 2 rfl) (fun p hp => HKE.out _ (seen_key hp)) HT.out ?_
                           intro w6 hp6 hg6
                           rw [seen0_put HE5.out] at hp6
                           have HD6 := aC.mk (HDE.out.putMap 2 rfl hp6 hg6 HBE.out.size)
                           have HB6 := aC.mk (HDE.out.belowGrown (i := 2) rfl (fun k hk => by injection hk with hk; exact hk.symm) HBE.out HBE.out.size hg6)
                           clear hp6 hg6 hlk)
                        | ((with_reducible refine dF (b := .append) (xs := #[.tmp 61, .tmp 63]) rfl ?_)
                           at_builtin
                           refine Kd.iP (Kd.int .i64) (w0 := w) w.heap.size rfl (.tmp 61) (.tmp 63) 22 3 (.int .i64 0) 8 rfl Try.underlying22 infoI rfl (by decide) (by omega) (.slice (some adS) st1.length cs) st1 t [.int .i64 t] (fun _ => True) (fun _ => False) rfl rfl ?aP (fun _ hk => hk.elim) ?aF ?aO ?aB ?aS ?aL ?_
                           (case aP => exact rfl)
                           (case aB => exact HB6.out)
                           (case aF => exact (fun _ _ => trivial))
                           (case aO => exact Kd.dB (HD6.out.get 1 rfl) (fun _ _ => trivial))
                           (case aS => exact HB6.out.size)
                           (case aL => have := HL1.out; omega)
                           intro v8 w8 ho hb hg hat
                           obtain ⟨As8, cs8, hq⟩ := Kd.bu ho
                           rw [show (st1 ++ [t]).length = st1.length + 1 from by simp] at hq
                           subst hq
                           have HD8 : aC (Sp.Sep w.heap.size [Sp.rows (Kd.slice 3 (Kd.int .i64)) 22 w.heap.size Pw (.slice Aw ws1.length cw) ws1, Sp.ints w.heap.size (.slice As8 (st1.length + 1) cs8) (st1 ++ [t]), Sp.mp mb (Value.int .i64) (Value.int .i64) (seenOf 0 (st1 ++ [t])), Sp.blk w.heap.size #[.int .i64 kd, .int .i64 K, .int .i64 O, .int .i64 N, .slice (some adA) nx.length c4, .slice A5 out.length c5] 43] w8) := ⟨HD6.out.app 1 rfl rfl ho hg hat HB6.out.size⟩
                           have HB8 := aC.mk hb
                           have hcw := Kd.C_get (Kd.S_reads' (HD8.out.get 0 rfl)).2.2 ([] : List Int) (i : Int) (by omega) (by have := HIW.out; omega)
                           obtain ⟨adW, c8, eW, hsz, hk8, hc8⟩ := hcw
                           clear hsz
                           subst eW
                           simp only [Int.toNat_natCast, HL0.out] at hk8 hc8
                           obtain ⟨AI, ci, rfl, hci, hCW⟩ := hk8
                           have hvW := hc8 0 _ rfl
                           simp only [Kd.slice, Nat.mul_one, Nat.add_zero] at hvW
                           have HCW := aC.mk hCW
                           have HCI := aC.mk hci
                           clear hc8 hCW hci HD6 HB6 HDE HBE
                           clear ho hb hg hat)
                        | (go_at_call 69; with_reducible refine (Clone_calls AI ci l0 _ HCW.out HCI.out HLW.out).mono ?_
                           rintro e w9 ⟨v9, rfl, hR9, hb9⟩
                           obtain ⟨Q9, q9, rfl⟩ := Kd.bu hR9
                           have HD9 := aC.mk (HD8.out.addRow rfl hR9 hb9 HB8.out.size)
                           have HB9 := aC.mk (di HB8.out HB8.out.size hb9)
                           clear hR9 hb9 HCW HCI hvW HD8 HB8)
                        | ((with_reducible refine dF (b := .append) (xs := #[.tmp 70, .tmp 72]) rfl ?_)
                           at_builtin
                           refine Kd.iP (Kd.int .i64) (w0 := w) w.heap.size rfl (.tmp 70) (.tmp 72) 22 3 (.int .i64 0) 8 rfl Try.underlying22 infoI rfl (by decide) (by omega) (.slice Q9 l0.length q9) l0 (x : Int) [.int .i64 (x : Int)] (fun _ => True) (fun _ => False) rfl rfl ?aP (fun _ hk => hk.elim) ?aF ?aO ?aB ?aS ?aL ?_
                           (case aP => exact rfl)
                           (case aB => exact HB9.out)
                           (case aF => exact (fun _ _ => trivial))
                           (case aO => exact Kd.dB (HD9.out.get 0 rfl) (fun _ _ => trivial))
                           (case aS => exact HB9.out.size)
                           (case aL => have := HLW.out; omega)
                           intro v10 w10 ho hb hg hat
                           obtain ⟨Q10, q10, hq⟩ := Kd.bu ho
                           rw [show (l0 ++ [(x : Int)]).length = l0.length + 1 from by simp] at hq
                           subst hq
                           have HD10 : aC (Sp.Sep w.heap.size [Sp.ints w.heap.size (.slice Q10 (l0.length + 1) q10) (l0 ++ [(x : Int)]), Sp.rows (Kd.slice 3 (Kd.int .i64)) 22 w.heap.size Pw (.slice (some adW) ws1.length cw) ws1, Sp.ints w.heap.size (.slice As8 (st1.length + 1) cs8) (st1 ++ [t]), Sp.mp mb (Value.int .i64) (Value.int .i64) (seenOf 0 (st1 ++ [t])), Sp.blk w.heap.size #[.int .i64 kd, .int .i64 K, .int .i64 O, .int .i64 N, .slice (some adA) nx.length c4, .slice A5 out.length c5] 43] w10) := ⟨HD9.out.app 0 rfl rfl ho hg hat HB9.out.size⟩
                           have HB10 := aC.mk hb
                           clear ho hb hg hat HD9 HB9)
                        | ((with_reducible refine dF (b := .append) (xs := #[.tmp 65, .tmp 74]) rfl ?_)
                           at_builtin
                           refine Kd.S_append (Kd.slice 3 (Kd.int .i64)) (w0 := w) w.heap.size rfl (.tmp 65) (.tmp 74) 50 22 (.slice none 0 0) 24 rfl Try.underlying50 infoL rfl (by decide) (by omega) (.slice (some adW) ws1.length cw) ws1 (l0 ++ [(x : Int)]) [.slice Q10 (l0.length + 1) q10] (fun k => Pw k ∨ some k = (Value.slice Q10 (l0.length + 1) q10).ownBlock ∨ w10.heap.size ≤ k) (fun k => some k = (Value.slice Q10 (l0.length + 1) q10).ownBlock) rfl rfl ?aP ?aK ?aF ?aO ?aB ?aS ?aL ?_
                           (case aP => exact Kd.M_row (HD10.out.get 0 rfl))
                           (case aK => exact (fun k hk => ⟨.inr (.inl hk), fun he => HD10.out.apart (i := 0) (j := 1) rfl rfl (by decide) hk ((Kd.S_R (HD10.out.get 1 rfl)).1 k he.symm)⟩))
                           (case aB => exact HB10.out)
                           (case aF => exact (fun k hk => .inr (.inr hk)))
                           (case aO => exact Kd.S_mono (HD10.out.get 1 rfl) (fun k hk => ⟨.inl hk, fun h0 => HD10.out.apart (i := 0) (j := 1) rfl rfl (by decide) h0 hk⟩))
                           (case aS => exact HB10.out.size)
                           (case aL => have := HLS.out; omega)
                           intro v11 w11 ho hb hg hat
                           obtain ⟨Q11, q11, hq⟩ := Kd.S_slice ho
                           rw [show (ws1 ++ [l0 ++ [(x : Int)]]).length = ws1.length + 1 from by simp] at hq
                           subst hq
                           obtain ⟨P11, hP11⟩ : ∃ P, P = (fun k => (Pw k ∨ some k = (Value.slice Q10 (l0.length + 1) q10).ownBlock ∨ w10.heap.size ≤ k) ∧ k < w11.heap.size) := ⟨_, rfl⟩
                           have HD11 : aC (Sp.Sep w.heap.size [Sp.rows (Kd.slice 3 (Kd.int .i64)) 22 w.heap.size P11 (.slice Q11 (ws1.length + 1) q11) (ws1 ++ [l0 ++ [(x : Int)]]), Sp.ints w.heap.size (.slice As8 (st1.length + 1) cs8) (st1 ++ [t]), Sp.mp mb (Value.int .i64) (Value.int .i64) (seenOf 0 (st1 ++ [t])), Sp.blk w.heap.size #[.int .i64 kd, .int .i64 K, .int .i64 O, .int .i64 N, .slice (some adA) nx.length c4, .slice A5 out.length c5] 43] w11) := ⟨by rw [hP11]; exact Sp.Sep.tail (r := Sp.none_) (HD10.out.appRows 1 0 rfl rfl (by decide) ho hg HB10.out.size)⟩
                           clear hP11
                           have HB11 := aC.mk hb
                           have hx3 : w11.cell? ⟨w.heap.size, 3, none⟩ = some (.int .i64 N) := (aD (HD11.out.get 3 rfl) 3).trans rfl
                           clear ho hb hg hat HD10 HB10))
                      try simp only [Exit.inBlock, Exit.then]
                      try rw [Exit.noGoto_ret]
                      refine bodyPost_ret (v := .tuple #[_, _, .int .i64 0]) (by simp [results, Try.results73, go_sem]) rfl ⟨_, _, _, rfl, HD11.out.sub (List.Sublist.cons_cons _ (List.Sublist.cons_cons _ (List.nil_sublist _))), HB11.out⟩
                    · rw [if_neg e6] at H
                      have HH3 := aC.mk H
                      have e6b : ((st1.length : Int) + 1 == N) = false := by simpa using e6
                      have e6c : (((st1.length + 1 : Nat) : Int) == N) = false := by simpa using e6
                      clear H e6
                      go_wp2_with (first
                        | ((with_reducible refine Sp.gate_update rfl ?_)
                           refine Vm.wpList_map_put (Vm.int_keys Try.underlying3) Try.underlying146 rfl (.tmp 57) (.tmp 58) (.tmp 60) (.inr rfl) t (st1.length : Int) rfl rfl rfl rfl (HDE.out.get 2 rfl) (fun p hp => HKE.out _ (seen_key hp)) HT.out ?_
                           intro w6 hp6 hg6
                           rw [seen0_put HE5.out] at hp6
                           have HD6 := aC.mk (HDE.out.putMap 2 rfl hp6 hg6 HBE.out.size)
                           have HB6 := aC.mk (HDE.out.belowGrown (i := 2) rfl (fun k hk => by injection hk with hk; exact hk.symm) HBE.out HBE.out.size hg6)
                           clear hp6 hg6 hlk)
                        | ((with_reducible refine dF (b := .append) (xs := #[.tmp 61, .tmp 63]) rfl ?_)
                           at_builtin
                           refine Kd.iP (Kd.int .i64) (w0 := w) w.heap.size rfl (.tmp 61) (.tmp 63) 22 3 (.int .i64 0) 8 rfl Try.underlying22 infoI rfl (by decide) (by omega) (.slice (some adS) st1.length cs) st1 t [.int .i64 t] (fun _ => True) (fun _ => False) rfl rfl ?aP (fun _ hk => hk.elim) ?aF ?aO ?aB ?aS ?aL ?_
                           (case aP => exact rfl)
                           (case aB => exact HB6.out)
                           (case aF => exact (fun _ _ => trivial))
                           (case aO => exact Kd.dB (HD6.out.get 1 rfl) (fun _ _ => trivial))
                           (case aS => exact HB6.out.size)
                           (case aL => have := HL1.out; omega)
                           intro v8 w8 ho hb hg hat
                           obtain ⟨As8, cs8, hq⟩ := Kd.bu ho
                           rw [show (st1 ++ [t]).length = st1.length + 1 from by simp] at hq
                           subst hq
                           have HD8 : aC (Sp.Sep w.heap.size [Sp.rows (Kd.slice 3 (Kd.int .i64)) 22 w.heap.size Pw (.slice Aw ws1.length cw) ws1, Sp.ints w.heap.size (.slice As8 (st1.length + 1) cs8) (st1 ++ [t]), Sp.mp mb (Value.int .i64) (Value.int .i64) (seenOf 0 (st1 ++ [t])), Sp.blk w.heap.size #[.int .i64 kd, .int .i64 K, .int .i64 O, .int .i64 N, .slice (some adA) nx.length c4, .slice A5 out.length c5] 43] w8) := ⟨HD6.out.app 1 rfl rfl ho hg hat HB6.out.size⟩
                           have HB8 := aC.mk hb
                           have hcw := Kd.C_get (Kd.S_reads' (HD8.out.get 0 rfl)).2.2 ([] : List Int) (i : Int) (by omega) (by have := HIW.out; omega)
                           obtain ⟨adW, c8, eW, hsz, hk8, hc8⟩ := hcw
                           clear hsz
                           subst eW
                           simp only [Int.toNat_natCast, HL0.out] at hk8 hc8
                           obtain ⟨AI, ci, rfl, hci, hCW⟩ := hk8
                           have hvW := hc8 0 _ rfl
                           simp only [Kd.slice, Nat.mul_one, Nat.add_zero] at hvW
                           have HCW := aC.mk hCW
                           have HCI := aC.mk hci
                           clear hc8 hCW hci HD6 HB6 HDE HBE
                           clear ho hb hg hat)
                        | (go_at_call 69; with_reducible refine (Clone_calls AI ci l0 _ HCW.out HCI.out HLW.out).mono ?_
                           rintro e w9 ⟨v9, rfl, hR9, hb9⟩
                           obtain ⟨Q9, q9, rfl⟩ := Kd.bu hR9
                           have HD9 := aC.mk (HD8.out.addRow rfl hR9 hb9 HB8.out.size)
                           have HB9 := aC.mk (di HB8.out HB8.out.size hb9)
                           clear hR9 hb9 HCW HCI hvW HD8 HB8)
                        | ((with_reducible refine dF (b := .append) (xs := #[.tmp 70, .tmp 72]) rfl ?_)
                           at_builtin
                           refine Kd.iP (Kd.int .i64) (w0 := w) w.heap.size rfl (.tmp 70) (.tmp 72) 22 3 (.int .i64 0) 8 rfl Try.underlying22 infoI rfl (by decide) (by omega) (.slice Q9 l0.length q9) l0 (x : Int) [.int .i64 (x : Int)] (fun _ => True) (fun _ => False) rfl rfl ?aP (fun _ hk => hk.elim) ?aF ?aO ?aB ?aS ?aL ?_
                           (case aP => exact rfl)
                           (case aB => exact HB9.out)
                           (case aF => exact (fun _ _ => trivial))
                           (case aO => exact Kd.dB (HD9.out.get 0 rfl) (fun _ _ => trivial))
                           (case aS => exact HB9.out.size)
                           (case aL => have := HLW.out; omega)
                           intro v10 w10 ho hb hg hat
                           obtain ⟨Q10, q10, hq⟩ := Kd.bu ho
                           rw [show (l0 ++ [(x : Int)]).length = l0.length + 1 from by simp] at hq
                           subst hq
                           have HD10 : aC (Sp.Sep w.heap.size [Sp.ints w.heap.size (.slice Q10 (l0.length + 1) q10) (l0 ++ [(x : Int)]), Sp.rows (Kd.slice 3 (Kd.int .i64)) 22 w.heap.size Pw (.slice (some adW) ws1.length cw) ws1, Sp.ints w.heap.size (.slice As8 (st1.length + 1) cs8) (st1 ++ [t]), Sp.mp mb (Value.int .i64) (Value.int .i64) (seenOf 0 (st1 ++ [t])), Sp.blk w.heap.size #[.int .i64 kd, .int .i64 K, .int .i64 O, .int .i64 N, .slice (some adA) nx.length c4, .slice A5 out.length c5] 43] w10) := ⟨HD9.out.app 0 rfl rfl ho hg hat HB9.out.size⟩
                           have HB10 := aC.mk hb
                           clear ho hb hg hat HD9 HB9)
                        | ((with_reducible refine dF (b := .append) (xs := #[.tmp 65, .tmp 74]) rfl ?_)
                           at_builtin
                           refine Kd.S_append (Kd.slice 3 (Kd.int .i64)) (w0 := w) w.heap.size rfl (.tmp 65) (.tmp 74) 50 22 (.slice none 0 0) 24 rfl Try.underlying50 infoL rfl (by decide) (by omega) (.slice (some adW) ws1.length cw) ws1 (l0 ++ [(x : Int)]) [.slice Q10 (l0.length + 1) q10] (fun k => Pw k ∨ some k = (Value.slice Q10 (l0.length + 1) q10).ownBlock ∨ w10.heap.size ≤ k) (fun k => some k = (Value.slice Q10 (l0.length + 1) q10).ownBlock) rfl rfl ?aP ?aK ?aF ?aO ?aB ?aS ?aL ?_
                           (case aP => exact Kd.M_row (HD10.out.get 0 rfl))
                           (case aK => exact (fun k hk => ⟨.inr (.inl hk), fun he => HD10.out.apart (i := 0) (j := 1) rfl rfl (by decide) hk ((Kd.S_R (HD10.out.get 1 rfl)).1 k he.symm)⟩))
                           (case aB => exact HB10.out)
                           (case aF => exact (fun k hk => .inr (.inr hk)))
                           (case aO => exact Kd.S_mono (HD10.out.get 1 rfl) (fun k hk => ⟨.inl hk, fun h0 => HD10.out.apart (i := 0) (j := 1) rfl rfl (by decide) h0 hk⟩))
                           (case aS => exact HB10.out.size)
                           (case aL => have := HLS.out; omega)
                           intro v11 w11 ho hb hg hat
                           obtain ⟨Q11, q11, hq⟩ := Kd.S_slice ho
                           rw [show (ws1 ++ [l0 ++ [(x : Int)]]).length = ws1.length + 1 from by simp] at hq
                           subst hq
                           obtain ⟨P11, hP11⟩ : ∃ P, P = (fun k => (Pw k ∨ some k = (Value.slice Q10 (l0.length + 1) q10).ownBlock ∨ w10.heap.size ≤ k) ∧ k < w11.heap.size) := ⟨_, rfl⟩
                           have HD11 : aC (Sp.Sep w.heap.size [Sp.rows (Kd.slice 3 (Kd.int .i64)) 22 w.heap.size P11 (.slice Q11 (ws1.length + 1) q11) (ws1 ++ [l0 ++ [(x : Int)]]), Sp.ints w.heap.size (.slice As8 (st1.length + 1) cs8) (st1 ++ [t]), Sp.mp mb (Value.int .i64) (Value.int .i64) (seenOf 0 (st1 ++ [t])), Sp.blk w.heap.size #[.int .i64 kd, .int .i64 K, .int .i64 O, .int .i64 N, .slice (some adA) nx.length c4, .slice A5 out.length c5] 43] w11) := ⟨by rw [hP11]; exact Sp.Sep.tail (r := Sp.none_) (HD10.out.appRows 1 0 rfl rfl (by decide) ho hg HB10.out.size)⟩
                           clear hP11
                           have HB11 := aC.mk hb
                           have hx3 : w11.cell? ⟨w.heap.size, 3, none⟩ = some (.int .i64 N) := (aD (HD11.out.get 3 rfl) 3).trans rfl
                           clear ho hb hg hat HD10 HB10))
                      go_roundw
                      case rel => exact ⟨x + 1, st1 ++ [t], ws1 ++ [l0 ++ [(x : Int)]], P11, by go_num, ⟨by have := HLT.out; omega⟩, HH3, by simpa using HD11, HB11, ⟨by
                        intro q hq
                        rcases List.mem_append.1 hq with hq | hq
                        · exact HKE.out q hq
                        · simp only [List.mem_singleton] at hq; rw [hq]; exact HT.out⟩, ⟨by
                        refine ⟨?_, by have := HS.out.2; simp only [List.length_append, List.length_singleton]; omega⟩
                        rw [← HS.out.1]
                        exact rd_append_left HS.out.2⟩⟩
                      case measure => have := HLT.out; simp [intOf]; omega
                · rw [if_neg e4] at H; exact absurd H (by simp)
              · rw [if_neg e3] at H; exact absurd H (by simp)
            · have H := HIN.out
              rw [List.drop_of_length_le (by simp; omega)] at H
              simp only [rcIn, Option.some.injEq] at H
              subst H
              have hlt' : ¬ ((x : Int) < K) := by omega
              have hr := HNX.out
              simp only [] at hr
              have hib : (i : Int) < 1099511627776 := by have := HIB.out; omega
              go_wp2
              go_roundg k1
              case rel => exact ⟨i + 1, st1, ws1, Pw, by go_num, ⟨hr⟩, ⟨by have := HK.out; omega⟩, HD, HB, HKE⟩
              case measure => have := HK.out; omega
      · rw [if_neg e1] at H
        have hlt1 : ¬ ((i : Int) < (st.length : Int)) := by omega
        simp only [Option.some.injEq, Prod.mk.injEq] at H
        obtain ⟨rfl, rfl⟩ := H
        go_wp2
        try simp only [Exit.inBlock, Exit.then]
        try rw [Exit.noGoto_ret]
        refine bodyPost_ret (v := .tuple #[_, _, .int .i64 0]) (by simp [results, Try.results73, go_sem]) rfl ⟨_, _, _, rfl, HD.out.sub (List.Sublist.cons_cons _ (List.Sublist.cons_cons _ (List.nil_sublist _))), HB.out⟩
end Go.Proofs.Ytkaefgmgcghhiaa.X
end

section
namespace Go.Proofs.Ytkaefgmgcghhiaa.X
open Go.RowKit Go.Proofs.YtkaefgmgcghhiaaW.PrintWords Go.Proofs.YtkaefgmgcghhiaaW.PrintLast Go.Proofs.YtkaefgmgcghhiaaW.PrintMore
open Go.Proofs.Ytkaefgmgcghhiaa
def rcG (k : Nat) (kd K O N : Int) (nx out : List Int) : Option (List Int × List (List Int) × Int) :=
  match dm.f k kd K O N nx out with
  | none => none
  | some (_, e1) => if e1 ≠ 0 then some ([], [], e1) else match rcF K N nx k 0 [0] [[]] with
    | none => none
    | some (st, ws) => some (st, ws, 0)
def rcBig : Nat := 200000
def fe.f (aX aY ae aT : Int) (aM aU : List Int) : Option (List Int × List (List Int) × Int) := rcG rcBig aX aY ae aT aM aU
theorem fe.calls (aX : Int) (aY : Int) (ae : Int) (aT : Int) (bH : Option Addr) (bC : Nat) (aM : List Int) (bE : Option Addr) (bD : Nat) (aU : List Int) (r1 : List Int) (r2 : List (List Int)) (r3 : Int) (w : World)
    (eQ : Kd.C (Kd.int .i64) w bH aM.length aM) (eu : aM.length ≤ bC) (fD : Kd.C (Kd.int .i64) w bE aU.length aU) (fG : aU.length ≤ bD) (h : fe.f aX aY ae aT aM aU = some (r1, r2, r3)) :
    Calls Try.prog 73 #[.agg #[.int .i64 aX, .int .i64 aY, .int .i64 ae, .int .i64 aT, .slice bH aM.length bC, .slice bE aU.length bD]] w fun e w' => ∃ v0_ v1_ : Value, e = .returned (.tuple #[v0_, v1_, .int .i64 r3]) ∧ Kd.R (Kd.int .i64) 3 w' w.heap.size (fun _ => True) v0_ r1 ∧ Kd.S (Kd.slice 3 (Kd.int .i64)) 22 w' w.heap.size (fun k_ => some k_ ≠ (v0_ : Value).ownBlock) v1_ r2 ∧ Below w.heap.size w w' := by
  unfold fe.f rcG at h
  cases hm : dm.f rcBig aX aY ae aT aM aU with
  | none => rw [hm] at h; exact absurd h (by simp)
  | some p =>
    obtain ⟨at1, e1⟩ := p
    rw [hm] at h
    simp only [] at h
    have hd : (e1 ≠ 0 ∧ r1 = [] ∧ r2 = []) ∨ (e1 = 0 ∧ rcF aY aT aM rcBig 0 [0] [[]] = some (r1, r2)) := by
      by_cases q : e1 ≠ 0
      · rw [if_pos q] at h
        simp only [Option.some.injEq, Prod.mk.injEq] at h
        exact .inl ⟨q, h.1.symm, h.2.1.symm⟩
      · rw [if_neg q] at h
        cases hf : rcF aY aT aM rcBig 0 [0] [[]] with
        | none => rw [hf] at h; exact absurd h (by simp)
        | some p =>
          rw [hf] at h
          simp only [Option.some.injEq, Prod.mk.injEq] at h
          obtain ⟨rfl, rfl, _⟩ := h
          exact .inr ⟨by omega, rfl⟩
    have he : e1 = r3 := by
      by_cases q : e1 ≠ 0
      · rw [if_pos q] at h
        simp only [Option.some.injEq, Prod.mk.injEq] at h
        exact h.2.2
      · rw [if_neg q] at h
        cases hf : rcF aY aT aM rcBig 0 [0] [[]] with
        | none => rw [hf] at h; exact absurd h (by simp)
        | some p =>
          rw [hf] at h
          simp only [Option.some.injEq, Prod.mk.injEq] at h
          omega
    subst he
    refine (Reach_walk rcBig rcBig aX aY ae aT bH bC aM bE bD aU at1 e1 r1 r2 w eQ eu fD fG hm hd).mono ?_
    rintro e w' ⟨v2, v3, P, rfl, hs, hb⟩
    exact ⟨v2, v3, rfl, Kd.dB (hs.get 1 rfl) (fun _ _ => trivial), Kd.S_mono (hs.get 0 rfl) (fun k hk he => hs.apart (i := 0) (j := 1) rfl rfl (by decide) hk he), hb⟩
end Go.Proofs.Ytkaefgmgcghhiaa.X
end

section
namespace Go.Proofs.Ytkaefgmgcghhiaa.X
open Go.RowKit Go.Proofs.YtkaefgmgcghhiaaW.PrintWords Go.Proofs.YtkaefgmgcghhiaaW.PrintLast Go.Proofs.YtkaefgmgcghhiaaW.PrintMore
/-- A word's place in the order by length, then by symbols. -/
def rk (K : Int) (u : List Int) : Nat := u.foldl (fun a x => a * K.toNat + x.toNat + 1) 0
theorem rk_snoc (K : Int) (u : List Int) (x : Int) : rk K (u ++ [x]) = rk K u * K.toNat + x.toNat + 1 := by simp [rk]
def nxt (K : Int) (nx : List Int) (s : Int) (x : Nat) : Int := rd nx ((s.toNat * K.toNat + x : Nat) : Int)
/-- Where a word leads. -/
def far (K : Int) (nx : List Int) : Int → List Int → Int
  | s, [] => s
  | s, x :: u => far K nx (nxt K nx s x.toNat) u
theorem far_app (K : Int) (nx : List Int) : ∀ (u v : List Int) (s : Int), far K nx s (u ++ v) = far K nx (far K nx s u) v
  | [], _, _ => rfl
  | x :: u, v, s => far_app K nx u v _
structure Nx (K N : Int) (nx : List Int) : Prop where
  k : 1 ≤ K ∧ K ≤ 64
  n : 1 ≤ N ∧ N ≤ 1024
  nxl : nx.length = N.toNat * K.toNat
  nxr : ∀ x ∈ nx, 0 ≤ x ∧ x < N
theorem Nx.idx {K N : Int} {nx : List Int} (R : Nx K N nx) {s : Int} (h0 : 0 ≤ s) (h1 : s < N) {x : Nat} (hx : x < K.toNat) : stI K s x = ((s.toNat * K.toNat + x : Nat) : Int) ∧ s.toNat * K.toNat + x < nx.length := by
  have hk := R.k
  have hn := R.n
  obtain ⟨a, rfl⟩ : ∃ a : Nat, s = (a : Int) := ⟨s.toNat, by omega⟩
  obtain ⟨c, rfl⟩ : ∃ c : Nat, K = (c : Int) := ⟨K.toNat, by omega⟩
  simp only [Int.toNat_natCast] at hx ⊢
  have ha : a < 1024 := by omega
  have hc : c ≤ 64 := by omega
  have hm : a * c ≤ 1024 * 64 := Nat.mul_le_mul (by omega) hc
  have e : ((a * c : Nat) : Int) = (a : Int) * (c : Int) := by simp
  refine ⟨?_, ?_⟩
  · unfold stI
    rw [← e]
    unfold wrap64
    omega
  · rw [R.nxl]
    simp only [Int.toNat_natCast]
    have : (a + 1) * c ≤ N.toNat * c := Nat.mul_le_mul_right _ (by omega)
    rw [Nat.add_mul, Nat.one_mul] at this
    omega
theorem jm {l : List Int} {i : Nat} (h : i < l.length) : rd l (i : Int) = l[i] := by simp [rd, List.getD_eq_getElem?_getD, List.getElem?_eq_getElem h]
theorem Nx.step {K N : Int} {nx : List Int} (R : Nx K N nx) {s : Int} (h0 : 0 ≤ s) (h1 : s < N) {x : Nat} (hx : x < K.toNat) : 0 ≤ nxt K nx s x ∧ nxt K nx s x < N := by
  have h := (R.idx h0 h1 hx).2
  unfold nxt
  rw [jm h]
  exact R.nxr _ (List.getElem_mem h)
theorem few_nat : ∀ (n : Nat) (l : List Nat), l.Nodup → (∀ x ∈ l, x < n) → l.length ≤ n := by
  intro n
  induction n with
  | zero =>
    intro l _ h
    cases l with
    | nil => simp
    | cons a r => exact absurd (h a (by simp)) (by omega)
  | succ n ih =>
    intro l hn h
    have h1 := ih (l.erase n) (hn.erase n) (fun x hx => by
      have h2 := h x (List.mem_of_mem_erase hx)
      have h3 : x ≠ n := fun e => by rw [e] at hx; exact (hn.not_mem_erase) hx
      omega)
    have h2 := List.length_erase_le (a := n) (l := l)
    by_cases hm : n ∈ l
    · rw [List.length_erase_of_mem hm] at h1
      omega
    · rw [List.erase_of_not_mem hm] at h1
      omega
theorem few_int {N : Int} (hN : 0 ≤ N) {l : List Int} (hn : l.Nodup) (h : ∀ x ∈ l, 0 ≤ x ∧ x < N) : l.length ≤ N.toNat := by
  have h1 : (l.map Int.toNat).Nodup := by
    rw [List.nodup_iff_pairwise_ne] at hn ⊢
    rw [List.pairwise_map]
    exact hn.imp_of_mem (fun {a b} ha hb hne e => hne (by have := h a ha; have := h b hb; omega))
  have := few_nat N.toNat _ h1 (fun x hx => by
    obtain ⟨y, hy, rfl⟩ := List.mem_map.1 hx
    have := h y hy
    omega)
  simpa using this
theorem all_in {N : Int} (hN : 0 ≤ N) {l : List Int} (hn : l.Nodup) (h : ∀ x ∈ l, 0 ≤ x ∧ x < N) (hl : (l.length : Int) = N) {t : Int} (ht : 0 ≤ t ∧ t < N) : t ∈ l := by
  apply Classical.byContradiction
  intro hc
  have := few_int hN (l := t :: l) (List.nodup_cons.2 ⟨hc, hn⟩) (fun x hx => by
    rcases List.mem_cons.1 hx with rfl | hx
    · exact ht
    · exact h x hx)
  simp at this
  omega
/-- States and their words, so far. -/
structure Way (K N : Int) (nx : List Int) (st : List Int) (ws : List (List Int)) : Prop where
  len : ws.length = st.length
  first : st[0]? = some 0 ∧ ws[0]? = some []
  rng : ∀ s ∈ st, 0 ≤ s ∧ s < N
  sym : ∀ w ∈ ws, ∀ c ∈ w, 0 ≤ c ∧ c < K
  go : ∀ (j : Nat) (s : Int) (w : List Int), st[j]? = some s → ws[j]? = some w → far K nx 0 w = s
  nd : st.Nodup
  inc : ∀ (j l : Nat) (u v : List Int), j < l → ws[j]? = some u → ws[l]? = some v → rk K u < rk K v
  wl : ∀ (j : Nat) (w : List Int), ws[j]? = some w → w.length ≤ j
/-- The states ahead of place i are done, of the i-th one the symbols ahead of x. -/
structure Bfs (K N : Int) (nx : List Int) (i x : Nat) (st : List Int) (ws : List (List Int)) : Prop extends Way K N nx st ws where
  low : ∀ u ∈ ws, ∀ v, ws[i]? = some v → rk K u < rk K v * K.toNat + x + 1
  done : ∀ (j y : Nat) (s : Int) (w : List Int), st[j]? = some s → ws[j]? = some w → y < K.toNat → (j < i ∨ (j = i ∧ y < x)) → ∃ (m : Nat) (u : List Int), st[m]? = some (nxt K nx s y) ∧ ws[m]? = some u ∧ rk K u ≤ rk K w * K.toNat + y + 1
structure Rch (K N : Int) (nx : List Int) (st : List Int) (ws : List (List Int)) : Prop extends Way K N nx st ws where
  all : ∀ (j y : Nat) (s : Int) (w : List Int), st[j]? = some s → ws[j]? = some w → y < K.toNat → ∃ (m : Nat) (u : List Int), st[m]? = some (nxt K nx s y) ∧ ws[m]? = some u ∧ rk K u ≤ rk K w * K.toNat + y + 1
theorem Rch.least {K N : Int} {nx : List Int} {st : List Int} {ws : List (List Int)} (h : Rch K N nx st ws) : ∀ (u : List Int), (∀ c ∈ u, 0 ≤ c ∧ c < K) → ∃ (m : Nat) (w : List Int), st[m]? = some (far K nx 0 u) ∧ ws[m]? = some w ∧ rk K w ≤ rk K u := by
  have main : ∀ (n : Nat) (u : List Int), u.length = n → (∀ c ∈ u, 0 ≤ c ∧ c < K) → ∃ (m : Nat) (w : List Int), st[m]? = some (far K nx 0 u) ∧ ws[m]? = some w ∧ rk K w ≤ rk K u := by
    intro n
    induction n with
    | zero =>
      intro u hu _
      have : u = [] := List.eq_nil_of_length_eq_zero hu
      subst this
      exact ⟨0, [], h.first.1, h.first.2, Nat.le_refl _⟩
    | succ n ih =>
      intro u hu hc
      rcases List.eq_nil_or_concat u with rfl | ⟨v, x, e⟩
      · simp at hu
      · rw [List.concat_eq_append] at e
        subst e
        obtain ⟨m, w, h1, h2, h3⟩ := ih v (by simpa using hu) (fun c hu => hc c (List.mem_append_left _ hu))
        have hx := hc x (by simp)
        obtain ⟨m', w', g1, g2, g3⟩ := h.all m x.toNat _ w h1 h2 (by omega)
        refine ⟨m', w', ?_, g2, ?_⟩
        · rw [far_app]
          exact g1
        · rw [rk_snoc]
          have := Nat.mul_le_mul_right K.toNat h3
          omega
  exact fun u => main _ u rfl
theorem get_app_l {α : Type} {l : List α} {i : Nat} {a : α} (h : l[i]? = some a) (r : List α) : (l ++ r)[i]? = some a := by
  have := (List.getElem?_eq_some_iff.1 h).1
  rw [List.getElem?_append_left this]
  exact h
theorem get_snoc {α : Type} {l : List α} {i : Nat} {a b : α} (h : (l ++ [b])[i]? = some a) : l[i]? = some a ∨ (i = l.length ∧ a = b) := by
  rcases Nat.lt_trichotomy i l.length with hi | hi | hi
  · rw [List.getElem?_append_left hi] at h
    exact .inl h
  · subst hi
    rw [List.getElem?_append_right (Nat.le_refl _)] at h
    simp at h
    exact .inr ⟨rfl, h.symm⟩
  · rw [List.getElem?_eq_none (by simp; omega)] at h
    cases h
/-- One symbol more: the state is there. -/
theorem Bfs.old {K N : Int} {nx : List Int} {i x : Nat} {st : List Int} {ws : List (List Int)} (h : Bfs K N nx i x st ws) {s : Int} {w : List Int} (hs : st[i]? = some s) (hw : ws[i]? = some w) (hm : nxt K nx s x ∈ st) : Bfs K N nx i (x + 1) st ws where
  toWay := h.toWay
  low := fun u hu v hv => by have := h.low u hu v hv; omega
  done := fun j y s' w' hj hj' hy hd => by
    by_cases he : j = i ∧ y = x
    · obtain ⟨rfl, rfl⟩ := he
      rw [hs] at hj
      rw [hw] at hj'
      injection hj with hj
      injection hj' with hj'
      subst hj
      subst hj'
      obtain ⟨m, hm1, hm2⟩ := List.mem_iff_getElem.1 hm
      have hmw : m < ws.length := by rw [h.len]; exact hm1
      refine ⟨m, ws[m], by rw [List.getElem?_eq_getElem hm1, hm2], List.getElem?_eq_getElem hmw, ?_⟩
      have := h.low _ (List.getElem_mem hmw) w hw
      omega
    · exact h.done j y s' w' hj hj' hy (by omega)
/-- One symbol more: the state is new. -/
theorem Bfs.new {K N : Int} {nx : List Int} (R : Nx K N nx) {i x : Nat} {st : List Int} {ws : List (List Int)} (h : Bfs K N nx i x st ws) (hx : x < K.toNat) {s : Int} {w : List Int} (hs : st[i]? = some s) (hw : ws[i]? = some w) (hm : nxt K nx s x ∉ st) : Bfs K N nx i (x + 1) (st ++ [nxt K nx s x]) (ws ++ [w ++ [(x : Int)]]) where
  len := by simp [h.len]
  first := ⟨get_app_l h.first.1 _, get_app_l h.first.2 _⟩
  rng := fun t ht => by
    rcases List.mem_append.1 ht with ht | ht
    · exact h.rng t ht
    · simp only [List.mem_singleton] at ht
      rw [ht]
      have := h.rng s (List.mem_of_getElem? hs)
      exact R.step this.1 this.2 hx
  sym := fun v hv c hc => by
    rcases List.mem_append.1 hv with hv | hv
    · exact h.sym v hv c hc
    · simp only [List.mem_singleton] at hv
      subst hv
      rcases List.mem_append.1 hc with hc | hc
      · exact h.sym w (List.mem_of_getElem? hw) c hc
      · simp only [List.mem_singleton] at hc
        omega
  go := fun j s' w' hj hj' => by
    have hl := h.len
    rcases get_snoc hj with hj | ⟨rfl, rfl⟩
    · rcases get_snoc hj' with hj' | ⟨rfl, rfl⟩
      · exact h.go j s' w' hj hj'
      · rw [List.getElem?_eq_none (by omega)] at hj
        cases hj
    · rcases get_snoc hj' with hj' | ⟨_, rfl⟩
      · rw [List.getElem?_eq_none (by omega)] at hj'
        cases hj'
      · rw [far_app, h.go i s w hs hw]
        simp [far]
  nd := by
    rw [List.nodup_append]
    refine ⟨h.nd, by simp, fun a ha b hb => ?_⟩
    simp only [List.mem_singleton] at hb
    subst hb
    exact fun e => hm (e ▸ ha)
  inc := fun j l u v hjl hj hl => by
    have hlen := (List.getElem?_eq_some_iff.1 hl).1
    simp only [List.length_append, List.length_singleton] at hlen
    rcases get_snoc hj with hj | ⟨rfl, rfl⟩
    · rcases get_snoc hl with hl | ⟨rfl, rfl⟩
      · exact h.inc j l u v hjl hj hl
      · rw [rk_snoc]
        have := h.low u (List.mem_of_getElem? hj) w hw
        simp only [Int.toNat_natCast]
        exact this
    · omega
  wl := fun j v hj => by
    rcases get_snoc hj with hj | ⟨rfl, rfl⟩
    · exact h.wl j v hj
    · have h1 := h.wl i w hw
      have := (List.getElem?_eq_some_iff.1 hw).1
      simp
      omega
  low := fun u hu v hv => by
    have hvi : v = w := by
      rw [get_app_l hw] at hv
      injection hv with hv
      exact hv.symm
    subst hvi
    rcases List.mem_append.1 hu with hu | hu
    · have := h.low u hu v hw
      omega
    · simp only [List.mem_singleton] at hu
      rw [hu, rk_snoc]
      simp only [Int.toNat_natCast]
      omega
  done := fun j y s' w' hj hj' hy hd => by
    have hil := (List.getElem?_eq_some_iff.1 hs).1
    have hl := h.len
    have hj1 : st[j]? = some s' := by rw [List.getElem?_append_left (by omega)] at hj; exact hj
    have hj2 : ws[j]? = some w' := by rw [List.getElem?_append_left (by omega)] at hj'; exact hj'
    by_cases he : j = i ∧ y = x
    · obtain ⟨rfl, rfl⟩ := he
      rw [hs] at hj1
      rw [hw] at hj2
      injection hj1 with hj1
      injection hj2 with hj2
      subst hj1
      subst hj2
      refine ⟨st.length, w ++ [(y : Int)], by simp, by rw [← hl]; simp, ?_⟩
      rw [rk_snoc]
      simp
    · obtain ⟨m, u, g1, g2, g3⟩ := h.done j y s' w' hj1 hj2 hy (by omega)
      exact ⟨m, u, get_app_l g1 _, get_app_l g2 _, g3⟩
/-- All symbols are done: the next state. -/
theorem Bfs.next {K N : Int} {nx : List Int} {i : Nat} {st : List Int} {ws : List (List Int)} (h : Bfs K N nx i K.toNat st ws) (hi : i < st.length) : Bfs K N nx (i + 1) 0 st ws where
  toWay := h.toWay
  low := fun u hu v hv => by
    have hl := h.len
    have hw := List.getElem?_eq_getElem (l := ws) (i := i) (by omega)
    have h1 := h.low u hu _ hw
    have h2 := h.inc i (i + 1) _ v (by omega) hw hv
    have := Nat.mul_le_mul_right K.toNat h2
    rw [Nat.succ_mul] at this
    omega
  done := fun j y s w hj hj' hy hd => h.done j y s w hj hj' hy (by omega)
theorem Bfs.ends {K N : Int} {nx : List Int} {i : Nat} {st : List Int} {ws : List (List Int)} (h : Bfs K N nx i 0 st ws) (hi : ¬ i < st.length) : Rch K N nx st ws where
  toWay := h.toWay
  all := fun j y s w hj hj' hy => h.done j y s w hj hj' hy (.inl (by have := (List.getElem?_eq_some_iff.1 hj).1; omega))
/-- All states are there. -/
theorem Bfs.full {K N : Int} {nx : List Int} (R : Nx K N nx) {i x : Nat} {st : List Int} {ws : List (List Int)} (h : Bfs K N nx i (x + 1) st ws) (hi : i < st.length) (hf : (st.length : Int) = N) (hx : x < K.toNat) : Rch K N nx st ws where
  toWay := h.toWay
  all := fun j y s w hj hj' hy => by
    by_cases hd : j < i ∨ (j = i ∧ y < x + 1)
    · exact h.done j y s w hj hj' hy hd
    · have hn := R.n
      have hl := h.len
      have hs := h.rng s (List.mem_of_getElem? hj)
      have ht := R.step hs.1 hs.2 hy
      obtain ⟨m, hm1, hm2⟩ := List.mem_iff_getElem.1 (all_in (by omega) h.nd h.rng hf ht)
      have hmw : m < ws.length := by omega
      have hw := List.getElem?_eq_getElem (l := ws) (i := i) (by omega)
      refine ⟨m, ws[m], by rw [List.getElem?_eq_getElem hm1, hm2], List.getElem?_eq_getElem hmw, ?_⟩
      have h1 := h.low _ (List.getElem_mem hmw) _ hw
      by_cases he : j = i
      · subst he
        rw [hw] at hj'
        injection hj' with hj'
        rw [hj'] at h1
        omega
      · have h2 := h.inc i j _ w (by omega) hw hj'
        have := Nat.mul_le_mul_right K.toNat h2
        rw [Nat.succ_mul] at this
        omega
theorem lY {K N : Int} {nx : List Int} {st : List Int} {ws : List (List Int)} (R : Nx K N nx) (h : Way K N nx st ws) : (st.length : Int) ≤ N := by
  have hn := R.n
  have := few_int (by omega) h.nd h.rng
  omega
theorem rcIn_spec {K N : Int} {nx : List Int} (R : Nx K N nx) (i : Nat) (s : Int) (hi : i < 1024) : ∀ (d x : Nat) (st : List Int) (ws : List (List Int)), x + d = K.toNat → st[i]? = some s → Bfs K N nx i x st ws →
    ∃ b st1 ws1, rcIn K N nx s i ((List.range K.toNat).drop x) st ws = some (b, st1, ws1) ∧ (b = false → Bfs K N nx i K.toNat st1 ws1 ∧ i < st1.length) ∧ (b = true → Rch K N nx st1 ws1) := by
  intro d
  induction d with
  | zero =>
    intro x st ws hd hs h
    rw [List.drop_of_length_le (by simp; omega)]
    have : x = K.toNat := by omega
    subst this
    exact ⟨false, st, ws, rfl, fun _ => ⟨h, (List.getElem?_eq_some_iff.1 hs).1⟩, fun hb => by cases hb⟩
  | succ d ih =>
    intro x st ws hd hs h
    have hx : x < K.toNat := by omega
    have hn := R.n
    have hk := R.k
    have e : (List.range K.toNat).drop x = x :: (List.range K.toNat).drop (x + 1) := by
      rw [List.drop_eq_getElem_cons (by simpa using hx)]
      simp
    have hil := (List.getElem?_eq_some_iff.1 hs).1
    have hlen := h.len
    have hsr := h.rng s (List.mem_of_getElem? hs)
    obtain ⟨g1, g2⟩ := R.idx hsr.1 hsr.2 hx
    have ht := R.step hsr.1 hsr.2 hx
    have hw : ws[i]? = some ws[i] := List.getElem?_eq_getElem (by omega)
    have hwd : ws.getD i [] = ws[i] := by rw [List.getD_eq_getElem?_getD, hw]; rfl
    have hwl := h.wl i _ hw
    have hf := lY R h.toWay
    have hrd : rd nx (stI K s x) = nxt K nx s x := by rw [g1]; rfl
    rw [e, rcIn, hrd, hwd]
    rw [if_pos ⟨⟨by omega, by omega⟩, by omega⟩, if_pos ⟨⟨ht.1, by omega⟩, by omega, by omega, by omega, by omega⟩]
    by_cases hm : nxt K nx s x ∈ st
    · rw [if_pos hm]
      exact ih (x + 1) st ws (by omega) hs (h.old hs hw hm)
    · rw [if_neg hm]
      have h2 := h.new R hx hs hw hm
      by_cases hl : (st.length : Int) + 1 = N
      · rw [if_pos hl]
        exact ⟨true, _, _, rfl, (fun hb => by cases hb), fun _ => h2.full R (by simp; omega) (by simp; omega) hx⟩
      · rw [if_neg hl]
        exact ih (x + 1) _ _ (by omega) (get_app_l hs _) h2
theorem rcF_spec {K N : Int} {nx : List Int} (R : Nx K N nx) : ∀ (d q i : Nat) (st : List Int) (ws : List (List Int)), i + d = 1025 → d < q → i ≤ st.length → Bfs K N nx i 0 st ws → ∃ st1 ws1, rcF K N nx q i st ws = some (st1, ws1) ∧ Rch K N nx st1 ws1 := by
  intro d
  induction d with
  | zero =>
    intro q i st ws hd hq hi h
    have := lY R h.toWay
    have := R.n
    omega
  | succ d ih =>
    intro q i st ws hd hq hi h
    obtain ⟨q, rfl⟩ : ∃ m, q = m + 1 := ⟨q - 1, by omega⟩
    have hf := lY R h.toWay
    have hn := R.n
    rw [rcF]
    by_cases hl : i < st.length
    · rw [if_pos hl, if_pos (by omega)]
      have hs : st[i]? = some st[i] := List.getElem?_eq_getElem hl
      rw [jm hl]
      obtain ⟨b, st1, ws1, g0, g1, g2⟩ := rcIn_spec R i st[i] (by omega) K.toNat 0 st ws (by omega) hs h
      rw [List.drop_zero] at g0
      rw [g0]
      cases b with
      | true => exact ⟨st1, ws1, rfl, g2 rfl⟩
      | false =>
        obtain ⟨h1, h2⟩ := g1 rfl
        exact ih q (i + 1) st1 ws1 (by omega) (by omega) h2 (h1.next h2)
    · rw [if_neg hl]
      exact ⟨st, ws, rfl, h.ends hl⟩
theorem bfs_start {K N : Int} {nx : List Int} (R : Nx K N nx) : Bfs K N nx 0 0 [0] [[]] where
  len := rfl
  first := ⟨rfl, rfl⟩
  rng := fun s hs => by
    have := R.n
    simp only [List.mem_singleton] at hs
    omega
  sym := fun w hw c hc => by
    simp only [List.mem_singleton] at hw
    subst hw
    simp at hc
  go := fun j s w hj hj' => by
    cases j with
    | zero => simp at hj hj'; subst hj; subst hj'; rfl
    | succ j => simp at hj
  nd := by simp
  inc := fun j l u v hjl hj hl => by
    have := (List.getElem?_eq_some_iff.1 hl).1
    simp at this
    omega
  wl := fun j w hj => by
    cases j with
    | zero => simp at hj; subst hj; simp
    | succ j => simp at hj
  low := fun u hu v hv => by
    simp only [List.mem_singleton] at hu
    subst hu
    simp [rk]
  done := fun j y s w hj hj' hy hd => by omega
theorem reach_spec {K N : Int} {nx : List Int} (R : Nx K N nx) {q : Nat} (hq : 2000 ≤ q) : ∃ st ws, rcF K N nx q 0 [0] [[]] = some (st, ws) ∧ Rch K N nx st ws :=
  rcF_spec R 1025 q 0 [0] [[]] (by omega) (by omega) (by simp) (bfs_start R)
end Go.Proofs.Ytkaefgmgcghhiaa.X
end

section
namespace Go.Proofs.Ytkaefgmgcghhiaa.X
open Go.RowKit Go.Proofs.YtkaefgmgcghhiaaW.PrintWords Go.Proofs.YtkaefgmgcghhiaaW.PrintLast Go.Proofs.YtkaefgmgcghhiaaW.PrintMore
def words (K : Int) : Nat → List (List Int)
  | 0 => [[]]
  | n + 1 => (List.range K.toNat).flatMap fun (x : Nat) => (words K n).map fun u => (x : Int) :: u
theorem drop_range {n x : Nat} (h : x < n) : (List.range n).drop x = x :: (List.range n).drop (x + 1) := by
  rw [List.drop_eq_getElem_cons (by simpa using h)]
  simp
theorem w64a {i : Int} (h0 : -4611686018427387904 ≤ i) (h : i ≤ 4611686018427387903) : wrap64 i = i := by unfold wrap64; omega
end Go.Proofs.Ytkaefgmgcghhiaa.X
end

section
namespace Go.Proofs.Ytkaefgmgcghhiaa.X
open Go.RowKit Go.Proofs.YtkaefgmgcghhiaaW.PrintWords Go.Proofs.YtkaefgmgcghhiaaW.PrintLast Go.Proofs.YtkaefgmgcghhiaaW.PrintMore
attribute [local go_sem] eP eH fQ fP d9 dZ eO eG   -- for this text's walks alone
set_option linter.unusedVariables false
set_option linter.unusedSimpArgs false
def dR.l0 : Nat → List (List Int) → List Int → Int → Int → Int → Int → Int → Int → List Int → List Int → Option (List Int × Bool × Int)
  | 0, _, _, _, _, _, _, _, _, _, _ => none
  | k + 1, x7, x22, x23, x24, x820000, x820001, x820002, x820003, x820004, x820005 => if x24 < x23 then (if 0 ≤ x24 then (if x24 < (x22.length : Int) then (if 0 ≤ (rd x22 x24) then (if (rd x22 x24) < (x820005.length : Int) then (if (rd x820005 (rd x22 x24)) = 1 then (if x24 < (x7.length : Int) then (some (jX x7 x24, true, 0)) else (none)) else (dR.l0 k x7 x22 x23 (wrap64 (x24 + 1)) x820000 x820001 x820002 x820003 x820004 x820005)) else (none)) else (none)) else (none)) else (none)) else (some (([] : List Int), false, 0))
def dR.f (k : Nat) (aX : Int) (aY : Int) (ae : Int) (aT : Int) (aM : List Int) (aU : List Int) : Option (List Int × Bool × Int) := (iT.f k aX aY ae aT aM aU).bind fun t820 => (if t820 = 0 then ((fe.f aX aY ae aT aM aU).bind fun bt821 => (dR.l0 k bt821.2.1 bt821.1 (bt821.1.length : Int) 0 aX aY ae aT aM aU)) else (some (([] : List Int), false, t820)))
set_option maxHeartbeats 8000000 in
set_option maxRecDepth 100000 in
theorem dR.calls (k : Nat) (aX : Int) (aY : Int) (ae : Int) (aT : Int) (bH : Option Addr) (bC : Nat) (aM : List Int) (bE : Option Addr) (bD : Nat) (aU : List Int) (r1 : List Int) (r2 : Bool) (r3 : Int) (w : World) (eQ : Kd.C (Kd.int .i64) w bH aM.length aM) (eu : aM.length ≤ bC) (fD : Kd.C (Kd.int .i64) w bE aU.length aU) (fG : aU.length ≤ bD) (h : dR.f k aX aY ae aT aM aU = some (r1, r2, r3)) :
    Calls Try.prog 36 #[.agg #[.int .i64 aX, .int .i64 aY, .int .i64 ae, .int .i64 aT, .slice bH aM.length bC, .slice bE aU.length bD]] w fun e w' => ∃ v0_ : Value, e = .returned (.tuple #[v0_, .bool r2, .int .i64 r3]) ∧ Kd.R (Kd.int .i64) 3 w' w.heap.size (fun _ => True) v0_ r1 ∧ Below w.heap.size w w' := by
  have hu43 := Try.underlying43
  have dY := aC.mk eQ
  have eX := aC.mk eu
  clear eQ eu
  have dV := aC.mk fD
  have fA := aC.mk fG
  clear fD fG
  have HB := aC.mk (Below.refl w.heap.size w)
  have H : ((iT.f k aX aY ae aT aM aU).bind fun t820 => (if t820 = 0 then ((fe.f aX aY ae aT aM aU).bind fun bt821 => (dR.l0 k bt821.2.1 bt821.1 (bt821.1.length : Int) 0 aX aY ae aT aM aU)) else (some (([] : List Int), false, t820)))) = some (r1, r2, r3) := h
  clear h
  replace H := Option.bind_eq_some_iff.mp H
  obtain ⟨t820, A20, H⟩ := H
  replace H : (if t820 = 0 then ((fe.f aX aY ae aT aM aU).bind fun bt821 => (dR.l0 k bt821.2.1 bt821.1 (bt821.1.length : Int) 0 aX aY ae aT aM aU)) else (some (([] : List Int), false, t820))) = some (r1, r2, r3) := H
  have A2 := aC.mk A20
  clear A20
  by_cases c3 : t820 = 0
  · rw [if_pos c3] at H
    have lL : (t820 == 0) = true := beq_iff_eq.mpr c3
    have c3b1 : (t820 != 0) = false := bne_eq_false_iff_eq.mpr c3
    clear c3
    replace H := Option.bind_eq_some_iff.mp H
    obtain ⟨⟨lX, t824, t827⟩, A40, H⟩ := H
    replace H : (dR.l0 k t824 lX (lX.length : Int) 0 aX aY ae aT aM aU) = some (r1, r2, r3) := H
    have A4 := aC.mk A40
    clear A40
    have H' := aC.mk H
    clear H
    go_enter Try.func36, Try.ntmps36
    go_wp2_with (first | ((with_reducible refine bK (N := 1) rfl ?_); refine dA ?hg (N := 1) ?hd (cs := #[.int .i64 aX, .int .i64 aY, .int .i64 ae, .int .i64 aT, .slice bH aM.length bC, .slice bE aU.length bD]) (t := 43) ?hr ?_; (case hd => rfl); (case hg => rfl); (case hr => first | (go_simp; done) | (go_simp; rfl)); intro gM hg w5 hbox hb; have n0_ := aC.mk (ah (by repeat (first | (with_reducible first | exact HB.out | apply aH | apply aG | apply aI) | exact HB.out)) hb); have n1_ := aC.mk (hbox); have n2_ := aC.mk ((by rw [hg]; exact (aZ (by repeat (first | (with_reducible first | exact HB.out | apply aH | apply aG | apply aI) | exact HB.out))) : w.heap.size ≤ gM)); have n3_ := aC.mk ((by rw [hg]; exact (aZ (by repeat (first | (with_reducible first | exact HB.out | apply aH | apply aG | apply aI) | exact HB.out))) : w.heap.size ≤ gM)); clear HB; have HB := n0_; have dK := n1_; have GW819 := n2_; have GE819 := n3_; clear n0_ n1_ n2_ n3_; clear hb hbox hg; have iO : w5.cell? ⟨gM, 0, none⟩ = some (.int .i64 aX) := (aD dK.out 0).trans rfl; have iN : w5.cell? ⟨gM, 1, none⟩ = some (.int .i64 aY) := (aD dK.out 1).trans rfl; have iM : w5.cell? ⟨gM, 2, none⟩ = some (.int .i64 ae) := (aD dK.out 2).trans rfl; have iL : w5.cell? ⟨gM, 3, none⟩ = some (.int .i64 aT) := (aD dK.out 3).trans rfl; have iK : w5.cell? ⟨gM, 4, none⟩ = some (.slice bH aM.length bC) := (aD dK.out 4).trans rfl; have iJ : w5.cell? ⟨gM, 5, none⟩ = some (.slice bE aU.length bD) := (aD dK.out 5).trans rfl; have iI := aA dK.out 0; have iH := aA dK.out 1; have iG := aA dK.out 2; have iF := aA dK.out 3; have iE := aA dK.out 4; have iD := aA dK.out 5) | ((with_reducible refine dG (f := 68) rfl ?_); refine gW (some 12) rfl rfl Try.func68 (by kernel_rfl) rfl #[.agg #[.int .i64 aX, .int .i64 aY, .int .i64 ae, .int .i64 aT, .slice bH aM.length bC, .slice bE aU.length bD]] rfl (by (try simp only [List.map_toArray, List.map_cons, List.map_nil]); first | done | rfl | (simp only [List.length_drop, List.length_take]; rfl)) ?_; (with_reducible refine (iT.calls k aX aY ae aT _ _ aM _ _ aU t820 _ ?dD ?dC ?dJ ?dI A2.out).mono ?_); (case dD => repeat (first | exact (Kd.ak dY.out HB.out) | (with_reducible refine Kd.bS ?_ _) | (with_reducible refine Kd.bR ?_ _) | (with_reducible refine Kd.bW ?_))); (case dC => exact eX.out); (case dJ => repeat (first | exact (Kd.ak dV.out HB.out) | (with_reducible refine Kd.bS ?_ _) | (with_reducible refine Kd.bR ?_ _) | (with_reducible refine Kd.bW ?_))); (case dI => exact fA.out); rintro e w7 ⟨rfl, hb⟩; refine ⟨_, rfl, ?_⟩; have n0_ := aC.mk (av (g := gM) (o := .cells #[.int .i64 aX, .int .i64 aY, .int .i64 ae, .int .i64 aT, .slice bH aM.length bC, .slice bE aU.length bD] 43 (0, 0)) (by (with_reducible repeat (first | refine ag ?_ _ | refine af ?_ | refine aW ?_ _)); exact dK.out) hb); have n1_ := aC.mk (ah (by repeat (first | (with_reducible first | exact HB.out | apply aH | apply aG | apply aI | refine aJ ?_ GE819.out) | exact HB.out)) hb); clear dK; clear HB; have dK := n0_; have HB := n1_; clear n0_ n1_; (try clear hb); (try clear hb2); (try clear hk); (try clear hi); have hcz8_0 : w7.cell? ⟨gM, 0, none⟩ = some (.int .i64 aX) := (aD dK.out 0).trans rfl; have hcz8_1 : w7.cell? ⟨gM, 1, none⟩ = some (.int .i64 aY) := (aD dK.out 1).trans rfl; have hcz8_2 : w7.cell? ⟨gM, 2, none⟩ = some (.int .i64 ae) := (aD dK.out 2).trans rfl; have hcz8_3 : w7.cell? ⟨gM, 3, none⟩ = some (.int .i64 aT) := (aD dK.out 3).trans rfl; have hcz8_4 : w7.cell? ⟨gM, 4, none⟩ = some (.slice bH aM.length bC) := (aD dK.out 4).trans rfl; have hcz8_5 : w7.cell? ⟨gM, 5, none⟩ = some (.slice bE aU.length bD) := (aD dK.out 5).trans rfl; have hfz8_0 := aA dK.out 0; have hfz8_1 := aA dK.out 1; have hfz8_2 := aA dK.out 2; have hfz8_3 := aA dK.out 3; have hfz8_4 := aA dK.out 4; have hfz8_5 := aA dK.out 5) | ((with_reducible refine dG (f := 73) rfl ?_); refine gW (some 18) rfl rfl Try.func73 (by kernel_rfl) rfl #[.agg #[.int .i64 aX, .int .i64 aY, .int .i64 ae, .int .i64 aT, .slice bH aM.length bC, .slice bE aU.length bD]] rfl (by (try simp only [List.map_toArray, List.map_cons, List.map_nil]); first | done | rfl | (simp only [List.length_drop, List.length_take]; rfl)) ?_; (with_reducible refine (fe.calls aX aY ae aT _ _ aM _ _ aU lX t824 t827 _ ?dD ?dC ?dJ ?dI A4.out).mono ?_); (case dD => repeat (first | exact (Kd.ak dY.out HB.out) | (with_reducible refine Kd.bS ?_ _) | (with_reducible refine Kd.bR ?_ _) | (with_reducible refine Kd.bW ?_))); (case dC => exact eX.out); (case dJ => repeat (first | exact (Kd.ak dV.out HB.out) | (with_reducible refine Kd.bS ?_ _) | (with_reducible refine Kd.bR ?_ _) | (with_reducible refine Kd.bW ?_))); (case dI => exact fA.out); rintro e w9 ⟨v822, v825, rfl, ho0, ho1, hb⟩; refine ⟨_, rfl, ?_⟩; have n0_ := aC.mk (Kd.dn ho0 (aZ (by repeat (first | (with_reducible first | exact HB.out | apply aH | apply aG | apply aI | refine aJ ?_ GE819.out) | exact HB.out)))); have n1_ := aC.mk (Kd.S_lower ho1 (aZ (by repeat (first | (with_reducible first | exact HB.out | apply aH | apply aG | apply aI | refine aJ ?_ GE819.out) | exact HB.out)))); have n2_ := aC.mk (av (g := gM) (o := .cells #[.int .i64 aX, .int .i64 aY, .int .i64 ae, .int .i64 aT, .slice bH aM.length bC, .slice bE aU.length bD] 43 (0, 0)) (by (with_reducible repeat (first | refine ag ?_ _ | refine af ?_ | refine aW ?_ _)); exact dK.out) hb); have n3_ := aC.mk (ah (by repeat (first | (with_reducible first | exact HB.out | apply aH | apply aG | apply aI | refine aJ ?_ GE819.out) | exact HB.out)) hb); clear dK; clear HB; have HO823 := n0_; have HO826 := n1_; have dK := n2_; have HB := n3_; clear n0_ n1_ n2_ n3_; (try clear hb); (try clear hb2); (try clear hk); (try clear hi); (try clear ho0); (try clear ho1); obtain ⟨Ao10, co10, eo10⟩ := Kd.bu HO823.out; subst eo10))
    go_loopg [24] k (fun kq v24 w' => ∃ (fV : Int), v24 = .int .i64 fV ∧ aC (dR.l0 kq t824 lX (lX.length : Int) fV aX aY ae aT aM aU = some (r1, r2, r3)) ∧ aC (kq ≤ k) ∧ aC (Kd.S (Kd.slice 3 (Kd.int .i64)) 22 w' w.heap.size (fun k_ => some k_ ≠ ((.slice Ao10 lX.length co10) : Value).ownBlock) v825 t824) ∧ aC (Kd.R (Kd.int .i64) 3 w' w.heap.size (fun _ => True) (.slice Ao10 lX.length co10) lX) ∧ aC (w'.heap[gM]? = some (.cells #[.int .i64 aX, .int .i64 aY, .int .i64 ae, .int .i64 aT, (.slice bH aM.length bC), (.slice bE aU.length bD)] 43 (0, 0))) ∧ aC (Below w.heap.size w w'))
    case atStart => exact ⟨(0), (by first | rfl | (simp; done) | (simp [*]; done)), H', ⟨Nat.le_refl _⟩, ⟨by (with_reducible repeat (first | apply Kd.S_alloc | apply Kd.S_drewN | apply Kd.S_drew)); exact HO826.out⟩, ⟨by (with_reducible repeat (first | apply Kd.bB | apply Kd.ax | apply Kd.bJ)); exact HO823.out⟩, ⟨by (with_reducible repeat (first | refine ag ?_ _ | refine af ?_ | refine aW ?_ _)); exact dK.out⟩, ⟨by repeat (first | (with_reducible first | exact HB.out | apply aH | apply aG | apply aI | refine aJ ?_ GE819.out) | exact HB.out)⟩⟩
    case round =>
      clear H'
      try clear p2
      try clear c3
      try clear lL
      try clear c3b1
      try clear c6
      try clear c7
      try clear iO
      try clear iN
      try clear iM
      try clear iL
      try clear iK
      try clear iJ
      try clear hcz8_0
      try clear hcz8_1
      try clear hcz8_2
      try clear hcz8_3
      try clear hcz8_4
      try clear hcz8_5
      try clear iI
      try clear iH
      try clear iG
      try clear iF
      try clear iE
      try clear iD
      try clear hfz8_0
      try clear hfz8_1
      try clear hfz8_2
      try clear hfz8_3
      try clear hfz8_4
      try clear hfz8_5
      obtain ⟨fV, rfl, HA, HK1, HO_7, HO_22, dK, HB⟩ := hrel
      cases gk with
      | zero => exact absurd HA.out (by simp [dR.l0])
      | succ k1 =>
        have H := HA.out
        clear HA
        simp only [dR.l0] at H
        by_cases c11 : fV < (lX.length : Int)
        · rw [if_pos c11] at H
          have c11b0 : decide (fV < (lX.length : Int)) = true := decide_eq_true c11
          clear c11
          by_cases c12 : 0 ≤ fV
          · rw [if_pos c12] at H
            have c12b0 : decide (0 ≤ fV) = true := decide_eq_true c12
            clear c12
            by_cases c13 : fV < (lX.length : Int)
            · rw [if_pos c13] at H
              have c13b0 : decide (fV < (lX.length : Int)) = true := decide_eq_true c13
              clear c13
              by_cases c14 : 0 ≤ (rd lX fV)
              · rw [if_pos c14] at H
                have jg : decide (0 ≤ (rd lX fV)) = true := decide_eq_true c14
                clear c14
                by_cases c15 : (rd lX fV) < (aU.length : Int)
                · rw [if_pos c15] at H
                  have c15b0 : decide ((rd lX fV) < (aU.length : Int)) = true := decide_eq_true c15
                  clear c15
                  by_cases c16 : (rd aU (rd lX fV)) = 1
                  · rw [if_pos c16] at H
                    have c16b0 : ((rd aU (rd lX fV)) == 1) = true := beq_iff_eq.mpr c16
                    have c16b1 : ((rd aU (rd lX fV)) != 1) = false := bne_eq_false_iff_eq.mpr c16
                    clear c16
                    by_cases c17 : fV < (t824.length : Int)
                    · rw [if_pos c17] at H
                      have c17b0 : decide (fV < (t824.length : Int)) = true := decide_eq_true c17
                      clear c17
                      simp only [Option.some.injEq, Prod.mk.injEq] at H
                      obtain ⟨rfl, rfl, rfl⟩ := H
                      have p828 : 0 ≤ (fV : Int) := of_decide_eq_true (by first | (with_reducible assumption) | assumption)
                      have q828 : fV < (lX.length : Int) := of_decide_eq_true (by first | (with_reducible assumption) | assumption)
                      obtain ⟨ad828, e828, hx828_0⟩ := Kd.cz (Kd.bX HO_22.out).2.2 fV p828 q828
                      cases e828
                      replace p828 := eq_true p828
                      replace q828 := eq_true q828
                      have hcz18_0 : wr.cell? ⟨gM, 0, none⟩ = some (.int .i64 aX) := (aD dK.out 0).trans rfl
                      have hcz18_1 : wr.cell? ⟨gM, 1, none⟩ = some (.int .i64 aY) := (aD dK.out 1).trans rfl
                      have hcz18_2 : wr.cell? ⟨gM, 2, none⟩ = some (.int .i64 ae) := (aD dK.out 2).trans rfl
                      have hcz18_3 : wr.cell? ⟨gM, 3, none⟩ = some (.int .i64 aT) := (aD dK.out 3).trans rfl
                      have hcz18_4 : wr.cell? ⟨gM, 4, none⟩ = some (.slice bH aM.length bC) := (aD dK.out 4).trans rfl
                      have hcz18_5 : wr.cell? ⟨gM, 5, none⟩ = some (.slice bE aU.length bD) := (aD dK.out 5).trans rfl
                      have hfz18_0 := aA dK.out 0
                      have hfz18_1 := aA dK.out 1
                      have hfz18_2 := aA dK.out 2
                      have hfz18_3 := aA dK.out 3
                      have hfz18_4 := aA dK.out 4
                      have hfz18_5 := aA dK.out 5
                      have p829 : 0 ≤ ((rd lX fV) : Int) := of_decide_eq_true (by first | (with_reducible assumption) | assumption)
                      have q829 : (rd lX fV) < (aU.length : Int) := of_decide_eq_true (by first | (with_reducible assumption) | assumption)
                      obtain ⟨ad829, e829, hx829_0⟩ := Kd.cz dV.out (rd lX fV) p829 q829
                      cases e829
                      replace hx829_0 := (HB.out.cell (World.block_lt_of_cell? w _ hx829_0)).trans hx829_0
                      replace p829 := eq_true p829
                      replace q829 := eq_true q829
                      obtain ⟨Ao19, co19, eo19⟩ := Kd.S_slice HO_7.out
                      subst eo19
                      have p830 : 0 ≤ (fV : Int) := of_decide_eq_true (by first | (with_reducible assumption) | assumption)
                      have q830 : fV < (t824.length : Int) := of_decide_eq_true (by first | (with_reducible assumption) | assumption)
                      obtain ⟨ad830, A830_0, c830_0, e830, hx830_0, hl830_0, hi830_0⟩ := at_L1 (Kd.S_reads' HO_7.out).2.2 fV p830 q830
                      cases e830
                      obtain ⟨ce830, hce830, hMe830, hcc830⟩ := Kd.S_get HO_7.out [] fV p830 (by first | exact q830 | exact of_decide_eq_true (by first | (with_reducible assumption) | assumption) | (have e_ := (Kd.S_reads' HO_7.out).1; omega))
                      obtain ⟨ve830_0, rfl, ge830_0⟩ := hMe830
                      have hv830_0 := hcc830 0 _ rfl
                      rw [Nat.add_zero, show ((Kd.slice 3 (Kd.int .i64))).sz = 1 from rfl, Nat.mul_one] at hv830_0
                      replace hv830_0 := Option.some.inj (hv830_0.symm.trans hx830_0)
                      rw [hv830_0] at ge830_0
                      have HL830_0 := aC.mk (show Kd.R (Kd.int .i64) 3 _ _ _ _ (jX t824 fV) from ge830_0)
                      clear hv830_0 ge830_0
                      clear hcc830 hce830
                      have HR830_0 := aC.mk hi830_0
                      have HC830_0 := aC.mk hl830_0
                      clear hi830_0 hl830_0
                      replace p830 := eq_true p830
                      replace q830 := eq_true q830
                      go_wp2
                      go_ret3
                      exact ⟨_, by first | rfl | (simp [az, ay] <;> rfl) | (simp [*, az, ay] <;> rfl), by (with_reducible repeat (first | apply Kd.bB | apply Kd.ax | apply Kd.bJ)); exact Kd.dB HL830_0.out (fun _ hk => trivial), by repeat (first | (with_reducible first | exact HB.out | apply aH | apply aG | apply aI | refine aJ ?_ GE819.out) | exact HB.out)⟩
                    · rw [if_neg c17] at H
                      exact absurd H (by simp)
                  · rw [if_neg c16] at H
                    have c16b0 : ((rd aU (rd lX fV)) == 1) = false := beq_eq_false_iff_ne.mpr c16
                    have c16b1 : ((rd aU (rd lX fV)) != 1) = true := bne_iff_ne.mpr c16
                    have H' := aC.mk H
                    clear H
                    have p828 : 0 ≤ (fV : Int) := of_decide_eq_true (by first | (with_reducible assumption) | assumption)
                    have q828 : fV < (lX.length : Int) := of_decide_eq_true (by first | (with_reducible assumption) | assumption)
                    obtain ⟨ad828, e828, hx828_0⟩ := Kd.cz (Kd.bX HO_22.out).2.2 fV p828 q828
                    cases e828
                    replace p828 := eq_true p828
                    replace q828 := eq_true q828
                    have hcz20_0 : wr.cell? ⟨gM, 0, none⟩ = some (.int .i64 aX) := (aD dK.out 0).trans rfl
                    have hcz20_1 : wr.cell? ⟨gM, 1, none⟩ = some (.int .i64 aY) := (aD dK.out 1).trans rfl
                    have hcz20_2 : wr.cell? ⟨gM, 2, none⟩ = some (.int .i64 ae) := (aD dK.out 2).trans rfl
                    have hcz20_3 : wr.cell? ⟨gM, 3, none⟩ = some (.int .i64 aT) := (aD dK.out 3).trans rfl
                    have hcz20_4 : wr.cell? ⟨gM, 4, none⟩ = some (.slice bH aM.length bC) := (aD dK.out 4).trans rfl
                    have hcz20_5 : wr.cell? ⟨gM, 5, none⟩ = some (.slice bE aU.length bD) := (aD dK.out 5).trans rfl
                    have hfz20_0 := aA dK.out 0
                    have hfz20_1 := aA dK.out 1
                    have hfz20_2 := aA dK.out 2
                    have hfz20_3 := aA dK.out 3
                    have hfz20_4 := aA dK.out 4
                    have hfz20_5 := aA dK.out 5
                    have p829 : 0 ≤ ((rd lX fV) : Int) := of_decide_eq_true (by first | (with_reducible assumption) | assumption)
                    have q829 : (rd lX fV) < (aU.length : Int) := of_decide_eq_true (by first | (with_reducible assumption) | assumption)
                    obtain ⟨ad829, e829, hx829_0⟩ := Kd.cz dV.out (rd lX fV) p829 q829
                    cases e829
                    replace hx829_0 := (HB.out.cell (World.block_lt_of_cell? w _ hx829_0)).trans hx829_0
                    replace p829 := eq_true p829
                    replace q829 := eq_true q829
                    go_wp2
                    go_roundg k1
                    case measure => have := HK1.out; omega
                    case rel => exact ⟨(wrap64 (fV + 1)), (by first | rfl | (simp; done) | (simp [*]; done)), H', ⟨by have := HK1.out; omega⟩, ⟨by (with_reducible repeat (first | apply Kd.S_alloc | apply Kd.S_drewN | apply Kd.S_drew)); exact HO_7.out⟩, ⟨by (with_reducible repeat (first | apply Kd.bB | apply Kd.ax | apply Kd.bJ)); exact HO_22.out⟩, ⟨by (with_reducible repeat (first | refine ag ?_ _ | refine af ?_ | refine aW ?_ _)); exact dK.out⟩, ⟨by repeat (first | (with_reducible first | exact HB.out | apply aH | apply aG | apply aI | refine aJ ?_ GE819.out) | exact HB.out)⟩⟩
                · rw [if_neg c15] at H
                  exact absurd H (by simp)
              · rw [if_neg c14] at H
                exact absurd H (by simp)
            · rw [if_neg c13] at H
              exact absurd H (by simp)
          · rw [if_neg c12] at H
            exact absurd H (by simp)
        · rw [if_neg c11] at H
          have c11b0 : decide (fV < (lX.length : Int)) = false := decide_eq_false c11
          clear c11
          simp only [Option.some.injEq, Prod.mk.injEq] at H
          obtain ⟨rfl, rfl, rfl⟩ := H
          go_wp2
          go_ret3
          exact ⟨_, by first | rfl | (simp [az, ay] <;> rfl) | (simp [*, az, ay] <;> rfl), by first | exact Kd.jq _ _ _ _ _ | exact Kd.N_nil _ _ _ _ _ | exact Kd.V_nil _ _ _ _ _ | exact Kd.Q_nil _ _ _ _ _ | exact Kd.S_nil _ _ _ _ _, by repeat (first | (with_reducible first | exact HB.out | apply aH | apply aG | apply aI | refine aJ ?_ GE819.out) | exact HB.out)⟩
  · rw [if_neg c3] at H
    have lL : (t820 == 0) = false := beq_eq_false_iff_ne.mpr c3
    have c3b1 : (t820 != 0) = true := bne_iff_ne.mpr c3
    simp only [Option.some.injEq, Prod.mk.injEq] at H
    obtain ⟨rfl, rfl, rfl⟩ := H
    go_enter Try.func36, Try.ntmps36
    go_wp2_with (first | ((with_reducible refine bK (N := 1) rfl ?_); refine dA ?hg (N := 1) ?hd (cs := #[.int .i64 aX, .int .i64 aY, .int .i64 ae, .int .i64 aT, .slice bH aM.length bC, .slice bE aU.length bD]) (t := 43) ?hr ?_; (case hd => rfl); (case hg => rfl); (case hr => first | (go_simp; done) | (go_simp; rfl)); intro gM hg w21 hbox hb; have n0_ := aC.mk (ah (by repeat (first | (with_reducible first | exact HB.out | apply aH | apply aG | apply aI) | exact HB.out)) hb); have n1_ := aC.mk (hbox); have n2_ := aC.mk ((by rw [hg]; exact (aZ (by repeat (first | (with_reducible first | exact HB.out | apply aH | apply aG | apply aI) | exact HB.out))) : w.heap.size ≤ gM)); have n3_ := aC.mk ((by rw [hg]; exact (aZ (by repeat (first | (with_reducible first | exact HB.out | apply aH | apply aG | apply aI) | exact HB.out))) : w.heap.size ≤ gM)); clear HB; have HB := n0_; have dK := n1_; have GW819 := n2_; have GE819 := n3_; clear n0_ n1_ n2_ n3_; clear hb hbox hg; have hcz22_0 : w21.cell? ⟨gM, 0, none⟩ = some (.int .i64 aX) := (aD dK.out 0).trans rfl; have hcz22_1 : w21.cell? ⟨gM, 1, none⟩ = some (.int .i64 aY) := (aD dK.out 1).trans rfl; have hcz22_2 : w21.cell? ⟨gM, 2, none⟩ = some (.int .i64 ae) := (aD dK.out 2).trans rfl; have hcz22_3 : w21.cell? ⟨gM, 3, none⟩ = some (.int .i64 aT) := (aD dK.out 3).trans rfl; have hcz22_4 : w21.cell? ⟨gM, 4, none⟩ = some (.slice bH aM.length bC) := (aD dK.out 4).trans rfl; have hcz22_5 : w21.cell? ⟨gM, 5, none⟩ = some (.slice bE aU.length bD) := (aD dK.out 5).trans rfl; have hfz22_0 := aA dK.out 0; have hfz22_1 := aA dK.out 1; have hfz22_2 := aA dK.out 2; have hfz22_3 := aA dK.out 3; have hfz22_4 := aA dK.out 4; have hfz22_5 := aA dK.out 5) | ((with_reducible refine dG (f := 68) rfl ?_); refine gW (some 12) rfl rfl Try.func68 (by kernel_rfl) rfl #[.agg #[.int .i64 aX, .int .i64 aY, .int .i64 ae, .int .i64 aT, .slice bH aM.length bC, .slice bE aU.length bD]] rfl (by (try simp only [List.map_toArray, List.map_cons, List.map_nil]); first | done | rfl | (simp only [List.length_drop, List.length_take]; rfl)) ?_; (with_reducible refine (iT.calls k aX aY ae aT _ _ aM _ _ aU t820 _ ?dD ?dC ?dJ ?dI A2.out).mono ?_); (case dD => repeat (first | exact (Kd.ak dY.out HB.out) | (with_reducible refine Kd.bS ?_ _) | (with_reducible refine Kd.bR ?_ _) | (with_reducible refine Kd.bW ?_))); (case dC => exact eX.out); (case dJ => repeat (first | exact (Kd.ak dV.out HB.out) | (with_reducible refine Kd.bS ?_ _) | (with_reducible refine Kd.bR ?_ _) | (with_reducible refine Kd.bW ?_))); (case dI => exact fA.out); rintro e w23 ⟨rfl, hb⟩; refine ⟨_, rfl, ?_⟩; have n0_ := aC.mk (av (g := gM) (o := .cells #[.int .i64 aX, .int .i64 aY, .int .i64 ae, .int .i64 aT, .slice bH aM.length bC, .slice bE aU.length bD] 43 (0, 0)) (by (with_reducible repeat (first | refine ag ?_ _ | refine af ?_ | refine aW ?_ _)); exact dK.out) hb); have n1_ := aC.mk (ah (by repeat (first | (with_reducible first | exact HB.out | apply aH | apply aG | apply aI | refine aJ ?_ GE819.out) | exact HB.out)) hb); clear dK; clear HB; have dK := n0_; have HB := n1_; clear n0_ n1_; (try clear hb); (try clear hb2); (try clear hk); (try clear hi)))
    go_ret3
    exact ⟨_, by first | rfl | (simp [az, ay] <;> rfl) | (simp [*, az, ay] <;> rfl), by first | exact Kd.jq _ _ _ _ _ | exact Kd.N_nil _ _ _ _ _ | exact Kd.V_nil _ _ _ _ _ | exact Kd.Q_nil _ _ _ _ _ | exact Kd.S_nil _ _ _ _ _, by repeat (first | (with_reducible first | exact HB.out | apply aH | apply aG | apply aI | refine aJ ?_ GE819.out) | exact HB.out)⟩
end Go.Proofs.Ytkaefgmgcghhiaa.X
end
