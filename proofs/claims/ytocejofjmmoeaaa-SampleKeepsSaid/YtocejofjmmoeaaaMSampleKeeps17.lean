/- Texts of the statement SampleKeeps, one behind the other: Go functions as Lean functions, the machine's calls, the plain law. -/
import Derived.Test.YtocejofjmmoeaaaMSampleKeeps11
import Derived.Test.YtocejofjmmoeaaaMSampleKeeps15
set_option linter.unusedVariables false
set_option linter.unusedSimpArgs false
section
namespace Go.Proofs.Ytocejofjmmoeaaa.X
open Go.RowKit Go.Proofs.YtocejofjmmoeaaaW.PrintWords Go.Proofs.YtocejofjmmoeaaaW.PrintLast Go.Proofs.YtocejofjmmoeaaaW.PrintMore
open Go.Proofs.Ytocejofjmmoeaaa Go.Proofs.Ytocejofjmmoeaaa.Sp
set_option maxHeartbeats 16000000 in
set_option maxRecDepth 100000 in
theorem Canon_err (kd K O N : Int) (A4 : Option Addr) (c4 : Nat) (nx : List Int) (A5 : Option Addr) (c5 : Nat) (out : List Int) (w : World) (hr4 : Kd.C (Kd.int .i64) w A4 nx.length nx) (hc4 : nx.length ≤ c4) (hr5 : Kd.C (Kd.int .i64) w A5 out.length out) (hc5 : out.length ≤ c5) (at1 e1 : Int) (hm : machine_Check.f rcBig kd K O N nx out = some (at1, e1)) (he : e1 ≠ 0) :
    Calls Try.prog 67 #[.agg #[.int .i64 kd, .int .i64 K, .int .i64 O, .int .i64 N, .slice A4 nx.length c4, .slice A5 out.length c5]] w (CanPost (kzero e1) w) := by
  have hu50 := Try.underlying50
  have hu32 := Try.underlying32
  have HS0 : Aside0 (Sep w.heap.size [blk (w.heap.size + 1) #[.int .i64 0, .int .i64 0, .int .i64 0, .int .i64 0, .slice none 0 0, .slice none 0 0] 50, blk w.heap.size #[.int .i64 kd, .int .i64 K, .int .i64 O, .int .i64 N, .slice A4 nx.length c4, .slice A5 out.length c5] 50] ((w.alloc (.cells #[.int .i64 kd, .int .i64 K, .int .i64 O, .int .i64 N, .slice A4 nx.length c4, .slice A5 out.length c5] 50)).alloc (.cells #[.int .i64 0, .int .i64 0, .int .i64 0, .int .i64 0, .slice none 0 0, .slice none 0 0] 50))) := ⟨by
    have h := ((Sep.nil w.heap.size w).alloc #[.int .i64 kd, .int .i64 K, .int .i64 O, .int .i64 N, .slice A4 nx.length c4, .slice A5 out.length c5] 50 (Nat.le_refl _)).alloc #[.int .i64 0, .int .i64 0, .int .i64 0, .int .i64 0, .slice none 0 0, .slice none 0 0] 50 (below_alloc (Below.refl w.heap.size w) _).size
    rw [show (w.alloc (.cells #[.int .i64 kd, .int .i64 K, .int .i64 O, .int .i64 N, .slice A4 nx.length c4, .slice A5 out.length c5] 50)).heap.size = w.heap.size + 1 from Array.size_push _] at h
    exact h⟩
  have HB0 : Aside0 (Below w.heap.size w ((w.alloc (.cells #[.int .i64 kd, .int .i64 K, .int .i64 O, .int .i64 N, .slice A4 nx.length c4, .slice A5 out.length c5] 50)).alloc (.cells #[.int .i64 0, .int .i64 0, .int .i64 0, .int .i64 0, .slice none 0 0, .slice none 0 0] 50))) := ⟨((Below.refl w.heap.size w).alloc (Nat.le_refl _) _).alloc (below_alloc (Below.refl w.heap.size w) _).size _⟩
  have HR4 := Aside0.mk (Kd.C_below hr4 HB0.out)
  have HR5 := Aside0.mk (Kd.C_below hr5 HB0.out)
  have HC4 := Aside0.mk hc4
  have HC5 := Aside0.mk hc5
  have HM := Aside0.mk hm
  have HE := Aside0.mk he
  have hen : (e1 != 0) = true := by simp [he]
  clear hr4 hr5 hc4 hc5 hm he
  go_enter Try.func67, Try.ntmps67
  go_wp2_with (first
  | ((with_reducible refine gate_store (t := 50) (p := 2) rfl ?_)
     refine wpList_store_rowTo rfl 50 (.tmp 2) (.tmp 24) rfl rfl (w.heap.size + 1) #[.int .i64 0, .int .i64 0, .int .i64 0, .int .i64 0, .slice none 0 0, .slice none 0 0] rfl rfl 50 _ (HS2.out.get 0 rfl) ?_ ?_ (by simp [Value.oneCell']) ?_
     (focus (rw [i50]; rfl))
     (focus rfl)
     have HSz := Aside0.mk (HS2.out.setStruct 0 rfl #[.int .i64 0, .int .i64 0, .int .i64 0, .int .i64 0, .slice none 0 0, .slice none 0 0] HB2.out.size)
     have HBz := Aside0.mk (below_setRow HB2.out (HS2.out.bound 0 rfl (show w.heap.size + 1 = w.heap.size + 1 from rfl)).1 #[.int .i64 0, .int .i64 0, .int .i64 0, .int .i64 0, .slice none 0 0, .slice none 0 0])
     generalize World.setRow _ (w.heap.size + 1) _ = wz at HSz HBz ⊢)
  | (go_at_call 86; refine (Reach_walk rcBig rcBig kd K O N A4 c4 nx A5 c5 out at1 e1 [] [] _ HR4.out HC4.out HR5.out HC5.out HM.out (.inl ⟨HE.out, rfl, rfl⟩)).mono ?_; rintro e w2 ⟨v2, v3, P, rfl, hs, hb⟩; have HS2 := Aside0.mk (HS0.out.low hb); have HB2 := Aside0.mk (below_step HB0.out hb); clear hs hb HS0 HB0 HR4 HR5)
  | ((with_reducible refine gate_dst (N := 17) rfl ?_)
     refine wpList_load_row rfl 50 (.tmp 1) rfl w.heap.size rfl 50 #[.int .i64 kd, .int .i64 K, .int .i64 O, .int .i64 N, .slice A4 nx.length c4, .slice A5 out.length c5] (0, 0) _ (HS0.out.get 1 rfl) Try.underlying50 rfl ?_ ?_
     (focus (rw [i50]; rfl))))
  refine bodyPost_ret (results_ct rfl _ _ (w.heap.size + 1) 50 #[.int .i64 0, .int .i64 0, .int .i64 0, .int .i64 0, .slice none 0 0, .slice none 0 0] (0, 0) _ rfl (HSz.out.get 0 rfl) Try.underlying50 rfl (by kernel_rfl)) rfl ?_
  exact CanPost.zero HBz.out
def cn.T17 : Bool × List (List Nat × List Nat) := (true, [([], []), ([0], [0]), ([], []), ([], []), ([2, 3], [2, 3]), ([4], [4]), ([5], [5]), ([1, 6], [1, 6]), ([0, 1, 2, 3, 4, 5, 6, 7], []), ([8, 7, 7, 0, 1, 2, 3, 4, 5, 6, 7], [7, 8])])
def cn.B17 : List Nat := [0, 1, 0, 0, 12, 28, 60, 127, 255, 511]
theorem cn.tab17 : rtab .any (opsOf Try.f67 17) = cn.T17 := by kernel_rfl
theorem cn.bits17 : waitsOk cn.T17.2 cn.B17 = true := by kernel_rfl
def cn.T20 : Bool × List (List Nat × List Nat) := (true, [([], []), ([0], [0]), ([], []), ([2], [2]), ([], []), ([], []), ([4, 5], [4, 5]), ([], []), ([7], [7]), ([], []), ([8, 9], [8, 9]), ([3, 6, 10], [3, 6, 10]), ([1, 11], [1, 11]), ([0, 1, 2, 3, 4, 5, 6, 7, 8, 9, 10, 11, 12], []), ([13, 12, 12, 0, 1, 2, 3, 4, 5, 6, 7, 8, 9, 10, 11, 12], [12, 13])])
def cn.B20 : List Nat := [0, 1, 0, 4, 0, 0, 48, 0, 128, 0, 896, 2044, 4095, 8191, 16383]
theorem cn.tab20 : rtab .any (opsOf Try.f67 20) = cn.T20 := by kernel_rfl
theorem cn.bits20 : waitsOk cn.T20.2 cn.B20 = true := by kernel_rfl
set_option maxHeartbeats 16000000 in
set_option maxRecDepth 100000 in
theorem Canon_main (kd O : Int) (K N E : Nat) (A4 : Option Addr) (c4 : Nat) (nx : List Int) (A5 : Option Addr) (c5 : Nat) (out : List Int) (w : World) (hr4 : Kd.C (Kd.int .i64) w A4 nx.length nx) (hc4 : nx.length ≤ c4) (hr5 : Kd.C (Kd.int .i64) w A5 out.length out) (hc5 : out.length ≤ c5) (at1 : Int) (hm : machine_Check.f rcBig kd (K : Int) O (N : Int) nx out = some (at1, 0)) (st : List Int) (ws : List (List Int)) (hrc : rcF (K : Int) (N : Int) nx rcBig 0 [0] [[]] = some (st, ws)) (hK : 1 ≤ K ∧ K ≤ 64) (hN : 1 ≤ N ∧ N ≤ 1024) (hE : E ≤ 64) (hnl : nx.length = N * K) (hol : out.length = N * E) (hnr : ∀ x ∈ nx, 0 ≤ x ∧ x < (N : Int)) (hst : ∀ s ∈ st, 0 ≤ s ∧ s < (N : Int)) (hsl : st.length ≤ N) :
    Calls Try.prog 67 #[.agg #[.int .i64 kd, .int .i64 (K : Int), .int .i64 O, .int .i64 (N : Int), .slice A4 nx.length c4, .slice A5 out.length c5]] w (CanPost (kd, (K : Int), O, (st.length : Int), canX K nx (plS st 0 (fun _ => 0)) st, canO E out st, 0) w) := by
  have hu50 := Try.underlying50
  have hu32 := Try.underlying32
  have HS0 : Aside0 (Sep w.heap.size [blk (w.heap.size + 1) #[.int .i64 0, .int .i64 0, .int .i64 0, .int .i64 0, .slice none 0 0, .slice none 0 0] 50, blk w.heap.size #[.int .i64 kd, .int .i64 (K : Int), .int .i64 O, .int .i64 (N : Int), .slice A4 nx.length c4, .slice A5 out.length c5] 50] ((w.alloc (.cells #[.int .i64 kd, .int .i64 (K : Int), .int .i64 O, .int .i64 (N : Int), .slice A4 nx.length c4, .slice A5 out.length c5] 50)).alloc (.cells #[.int .i64 0, .int .i64 0, .int .i64 0, .int .i64 0, .slice none 0 0, .slice none 0 0] 50))) := ⟨by
    have h := ((Sep.nil w.heap.size w).alloc #[.int .i64 kd, .int .i64 (K : Int), .int .i64 O, .int .i64 (N : Int), .slice A4 nx.length c4, .slice A5 out.length c5] 50 (Nat.le_refl _)).alloc #[.int .i64 0, .int .i64 0, .int .i64 0, .int .i64 0, .slice none 0 0, .slice none 0 0] 50 (below_alloc (Below.refl w.heap.size w) _).size
    rw [show (w.alloc (.cells #[.int .i64 kd, .int .i64 (K : Int), .int .i64 O, .int .i64 (N : Int), .slice A4 nx.length c4, .slice A5 out.length c5] 50)).heap.size = w.heap.size + 1 from Array.size_push _] at h
    exact h⟩
  have HB0 : Aside0 (Below w.heap.size w ((w.alloc (.cells #[.int .i64 kd, .int .i64 (K : Int), .int .i64 O, .int .i64 (N : Int), .slice A4 nx.length c4, .slice A5 out.length c5] 50)).alloc (.cells #[.int .i64 0, .int .i64 0, .int .i64 0, .int .i64 0, .slice none 0 0, .slice none 0 0] 50))) := ⟨((Below.refl w.heap.size w).alloc (Nat.le_refl _) _).alloc (below_alloc (Below.refl w.heap.size w) _).size _⟩
  have HR4 := Aside0.mk (Kd.C_below hr4 HB0.out)
  have HR5 := Aside0.mk (Kd.C_below hr5 HB0.out)
  have HC4 := Aside0.mk hc4
  have HC5 := Aside0.mk hc5
  have HM := Aside0.mk hm
  have HRC := Aside0.mk hrc
  have HK := Aside0.mk hK
  have HN := Aside0.mk hN
  have HE := Aside0.mk hE
  have HNL := Aside0.mk hnl
  have HOL := Aside0.mk hol
  have HNR := Aside0.mk hnr
  have HST := Aside0.mk hst
  have HSL := Aside0.mk hsl
  have HR4a := Aside0.mk hr4
  have HR5a := Aside0.mk hr5
  clear hr4 hr5 hc4 hc5 hm hrc hK hN hE hnl hol hnr hst hsl
  go_enter Try.func67, Try.ntmps67
  go_wp2_with (first
  | ((with_reducible refine gate_dst (N := 28) rfl ?_)
     refine Kd.R_make (Kd.int .i64) (w0 := w) w.heap.size 3 rfl (N := 28) rfl 32 _ _ rfl (N : Int) rfl rfl Try.underlying32 (.int .i64 0) 8 infoI rfl (by decide) (by omega) 0 (ok := fun _ => True) (okp := fun _ => True) rfl (fun _ hk => hk) trivial (by omega) (by have := HN.out; omega) HB2.out HB2.out.size ?_
     intro v3 w3 ho hb hg hnew
     simp only [Int.toNat_natCast] at ho
     obtain ⟨gp, cp, hv⟩ := Sp.new_slice ho hnew
     rw [List.length_replicate] at hv
     subst hv
     rw [li_rep] at ho
     have HS3 := Aside0.mk (HS2.out.newRow rfl ho hg hnew HB2.out.size)
     have HB3 := Aside0.mk hb
     clear ho hb hg hnew HS2 HB2)
  | (go_at_call 86; refine (Reach_walk rcBig rcBig kd (K : Int) O (N : Int) A4 c4 nx A5 c5 out at1 0 st ws _ HR4.out HC4.out HR5.out HC5.out HM.out (.inr ⟨rfl, HRC.out⟩)).mono ?_; rintro e w2 ⟨v2, v3, P, rfl, hs, hb⟩; obtain ⟨As, cs, hv2⟩ := Kd.R_slice (hs.get 1 rfl); subst hv2; have HS2 := Aside0.mk (Sep.over HS0.out hb (hs.sub (rs' := [Sp.ints _ (.slice As st.length cs) st]) (.cons _ (.cons_cons _ (List.nil_sublist _)))) HB0.out.size); have HB2 := Aside0.mk (below_step HB0.out hb); clear hs hb HS0 HB0 HR4 HR5; have hc3 : w2.cell? ⟨w.heap.size, 3, none⟩ = some (.int .i64 (N : Int)) := (blk_cell (HS2.out.get 2 rfl) 3).trans rfl)
  | ((with_reducible refine gate_dst (N := 17) rfl ?_)
     refine wpList_load_row rfl 50 (.tmp 1) rfl w.heap.size rfl 50 #[.int .i64 kd, .int .i64 (K : Int), .int .i64 O, .int .i64 (N : Int), .slice A4 nx.length c4, .slice A5 out.length c5] (0, 0) _ (HS0.out.get 1 rfl) Try.underlying50 rfl ?_ ?_
     (focus (rw [i50]; rfl))))
  go_wp2
  clear hc3
  generalize hbs : ((w.alloc (.cells #[.int .i64 kd, .int .i64 (K : Int), .int .i64 O, .int .i64 (N : Int), .slice A4 nx.length c4, .slice A5 out.length c5] 50)).alloc (.cells #[.int .i64 0, .int .i64 0, .int .i64 0, .int .i64 0, .slice none 0 0, .slice none 0 0] 50)).heap.size = bs at HS3
  clear hbs
  go_loopw [31] (fun v31 wr => ∃ (j : Nat) (p : Nat → Int), v31 = .int .i64 (j : Int) ∧ Aside0 (j ≤ st.length) ∧ Aside0 (plS (st.drop j) j p = (plS st 0 (fun _ => 0))) ∧ Aside0 (Sep w.heap.size [ints w.heap.size (.slice (some ⟨gp, 0, none⟩) N cp) (li N p), ints bs (.slice As st.length cs) st, blk (w.heap.size + 1) #[.int .i64 0, .int .i64 0, .int .i64 0, .int .i64 0, .slice none 0 0, .slice none 0 0] 50, blk w.heap.size #[.int .i64 kd, .int .i64 (K : Int), .int .i64 O, .int .i64 (N : Int), .slice A4 nx.length c4, .slice A5 out.length c5] 50] wr) ∧ Aside0 (Below w.heap.size w wr)) (fun v31 _ => st.length - (intOf v31).toNat)
  case atStart => exact ⟨0, _, rfl, ⟨Nat.zero_le _⟩, ⟨rfl⟩, HS3, HB3⟩
  case round =>
    clear HS3 HB3
    obtain ⟨j, p, rfl, HJ, HP, HSr, HBr⟩ := hrel
    by_cases hj : j < st.length
    · have HJN := Aside0.mk hj
      have hj' : (j : Int) < (st.length : Int) := by omega
      obtain ⟨s, hs⟩ : ∃ s, st[j]? = some s := ⟨_, List.getElem?_eq_getElem hj⟩
      have hsr := HST.out s (List.mem_of_getElem? hs)
      obtain ⟨a, rfl⟩ : ∃ a : Nat, s = (a : Int) := ⟨s.toNat, by omega⟩
      have HSJ := Aside0.mk hs
      have HAN : Aside0 (a < N) := ⟨by omega⟩
      have haN : (a : Int) < (N : Int) := by have := HAN.out; omega
      obtain ⟨ads, es, hxs⟩ := Kd.at_int (Kd.R_reads' (HSr.out.get 1 rfl)).2.2 (j : Int) (by omega) (by omega)
      cases es
      rw [Int.toNat_natCast, rd_nat hj, show st[j] = (a : Int) from (List.getElem?_eq_some_iff.1 hs).2] at hxs
      have hfz : wr.frozen? ⟨gp, a, none⟩ = false := row_frozen (HSr.out.get 0 rfl) a
      have hcw : wr.cell? ⟨gp, a, none⟩ = some (.int .i64 (p a)) := li_cell (HSr.out.get 0 rfl) HAN.out
      have HS5 := Aside0.mk (HSr.out.put 0 rfl (a : Int) (j : Int) HBr.out.size)
      have HB5 := Aside0.mk (HBr.out.setCell (HSr.out.bound 0 rfl (show some gp = some gp from rfl)).1 (p := ⟨gp, a, none⟩) (.int .i64 (j : Int)))
      clear hs hsr
      go_wp2
      go_roundw
      case rel =>
        refine ⟨j + 1, upd' p a (j : Int), congrArg (Value.int .i64) (w64s (by have := HJN.out; have := HSL.out; have := HN.out; omega)), ⟨HJN.out⟩, ⟨?_⟩, ⟨?_⟩, HB5⟩
        · have h := HP.out
          rw [List.drop_eq_getElem_cons HJN.out, show st[j] = (a : Int) from (List.getElem?_eq_some_iff.1 HSJ.out).2, plS, Int.toNat_natCast] at h
          exact h
        · have h := HS5.out
          rw [Int.toNat_natCast, li_set] at h
          exact h
      case measure => exact meas_at HJN.out (by have := HSL.out; have := HN.out; omega)
    · have hj' : ¬ ((j : Int) < (st.length : Int)) := by omega
      obtain rfl : st.length = j := by have := HJ.out; omega
      rw [List.drop_length, plS] at HP
      have HS6 : Aside0 (Sep w.heap.size [ints w.heap.size (.slice (some ⟨gp, 0, none⟩) N cp) (li N (plS st 0 (fun _ => 0))), ints bs (.slice As st.length cs) st, blk (w.heap.size + 1) #[.int .i64 0, .int .i64 0, .int .i64 0, .int .i64 0, .slice none 0 0, .slice none 0 0] 50, blk w.heap.size #[.int .i64 kd, .int .i64 (K : Int), .int .i64 O, .int .i64 (N : Int), .slice A4 nx.length c4, .slice A5 out.length c5] 50] wr) := ⟨by have h := HSr.out; rw [HP.out] at h; exact h⟩
      have hc0 : wr.cell? ⟨w.heap.size, 0, none⟩ = some (.int .i64 kd) := (blk_cell (HSr.out.get 3 rfl) 0).trans rfl
      have hc1 : wr.cell? ⟨w.heap.size, 1, none⟩ = some (.int .i64 (K : Int)) := (blk_cell (HSr.out.get 3 rfl) 1).trans rfl
      have hc2 : wr.cell? ⟨w.heap.size, 2, none⟩ = some (.int .i64 O) := (blk_cell (HSr.out.get 3 rfl) 2).trans rfl
      clear hj HJ HSr HP
      go_wp2
      clear hc0 hc1 hc2
      have HS7 : Aside0 (Sep w.heap.size [ints w.heap.size (.slice none 0 0) [], ints w.heap.size (.slice none 0 0) [], blk wr.heap.size #[.int .i64 kd, .int .i64 (K : Int), .int .i64 O, .int .i64 (st.length : Int), (.slice none 0 0), (.slice none 0 0)] 50, ints w.heap.size (.slice (some ⟨gp, 0, none⟩) N cp) (li N (plS st 0 (fun _ => 0))), ints bs (.slice As st.length cs) st, blk (w.heap.size + 1) #[.int .i64 0, .int .i64 0, .int .i64 0, .int .i64 0, .slice none 0 0, .slice none 0 0] 50, blk w.heap.size #[.int .i64 kd, .int .i64 (K : Int), .int .i64 O, .int .i64 (N : Int), .slice A4 nx.length c4, .slice A5 out.length c5] 50] (wr.alloc (.cells #[.int .i64 kd, .int .i64 (K : Int), .int .i64 O, .int .i64 (st.length : Int), .slice none 0 0, .slice none 0 0] 50))) := ⟨((HS6.out.alloc #[.int .i64 kd, .int .i64 (K : Int), .int .i64 O, .int .i64 (st.length : Int), .slice none 0 0, .slice none 0 0] 50 HBr.out.size).nilRow (Kd.int .i64) 3).nilRow (Kd.int .i64) 3⟩
      have HB7 := Aside0.mk (HBr.out.alloc HBr.out.size (.cells #[.int .i64 kd, .int .i64 (K : Int), .int .i64 O, .int .i64 (st.length : Int), .slice none 0 0, .slice none 0 0] 50))
      clear HS6 HBr
      generalize wr.alloc (.cells #[.int .i64 kd, .int .i64 (K : Int), .int .i64 O, .int .i64 (st.length : Int), .slice none 0 0, .slice none 0 0] 50) = w7 at HS7 HB7 ⊢
      generalize wr.heap.size = gq at HS7 ⊢
      go_wp2
      go_loopw [52] (fun v52 wr => ∃ (j : Nat) (vx vo : Value), v52 = .int .i64 (j : Int) ∧ Aside0 (j ≤ st.length) ∧ Aside0 (Sep w.heap.size [ints w.heap.size vx (canX K nx (plS st 0 (fun _ => 0)) (st.take j)), ints w.heap.size vo (canO E out (st.take j)), blk gq #[.int .i64 kd, .int .i64 (K : Int), .int .i64 O, .int .i64 (st.length : Int), vx, vo] 50, ints w.heap.size (.slice (some ⟨gp, 0, none⟩) N cp) (li N (plS st 0 (fun _ => 0))), ints bs (.slice As st.length cs) st, blk (w.heap.size + 1) #[.int .i64 0, .int .i64 0, .int .i64 0, .int .i64 0, .slice none 0 0, .slice none 0 0] 50, blk w.heap.size #[.int .i64 kd, .int .i64 (K : Int), .int .i64 O, .int .i64 (N : Int), .slice A4 nx.length c4, .slice A5 out.length c5] 50] wr) ∧ Aside0 (Below w.heap.size w wr)) (fun v52 _ => st.length - (intOf v52).toNat)
      case atStart => exact ⟨0, _, _, rfl, ⟨Nat.zero_le _⟩, HS7, HB7⟩
      case round =>
        clear HS7 HB7
        obtain ⟨j, vx, vo, rfl, HJ, HSr, HBr⟩ := hrel
        by_cases hj : j < st.length
        · have HJN := Aside0.mk hj
          have hj' : (j : Int) < (st.length : Int) := by omega
          obtain ⟨s, hs⟩ : ∃ s, st[j]? = some s := ⟨_, List.getElem?_eq_getElem hj⟩
          have hsr := HST.out s (List.mem_of_getElem? hs)
          obtain ⟨a, rfl⟩ : ∃ a : Nat, s = (a : Int) := ⟨s.toNat, by omega⟩
          have HSJ := Aside0.mk hs
          have HAN : Aside0 (a < N) := ⟨by omega⟩
          have haN : (a : Int) < (N : Int) := by have := HAN.out; omega
          obtain ⟨ads, es, hxs⟩ := Kd.at_int (Kd.R_reads' (HSr.out.get 4 rfl)).2.2 (j : Int) (by omega) (by omega)
          cases es
          rw [Int.toNat_natCast, rd_nat hj, show st[j] = (a : Int) from (List.getElem?_eq_some_iff.1 hs).2] at hxs
          obtain ⟨B1, hB1⟩ : ∃ B, a * K = B := ⟨_, rfl⟩
          obtain ⟨B2, hB2⟩ : ∃ B, (a + 1) * K = B := ⟨_, rfl⟩
          have hb12 : B1 + K = B2 := by rw [← hB1, ← hB2, Nat.add_mul, Nat.one_mul]
          have hb2l : B2 ≤ nx.length := by rw [← hB2, HNL.out]; exact Nat.mul_le_mul_right _ HAN.out
          have hnlb : nx.length ≤ 65536 := by rw [HNL.out]; exact Nat.mul_le_mul HN.out.2 HK.out.2
          obtain ⟨A6, hcut, hC6, hle6⟩ := mid_C HR4a.out HC4.out hb12 hb2l
          obtain ⟨a1, ha1⟩ : ∃ a1, a + 1 = a1 := ⟨_, rfl⟩
          have hw1 : wrap64 ((a : Int) * (K : Int)) = (B1 : Int) := mulI hB1 (le3 hb12 hb2l hnlb).1
          have hw2 : wrap64 ((a : Int) + 1) = (a1 : Int) := by rw [← ha1]; exact w64s (by have := HAN.out; have := HN.out; omega)
          have hw3 : wrap64 ((a1 : Int) * (K : Int)) = (B2 : Int) := mulI (by rw [← ha1]; exact hB2) (le3 hb12 hb2l hnlb).2
          have HB1E := Aside0.mk hB1
          have HC6 := Aside0.mk hC6
          have HA1 := Aside0.mk ha1
          have HXB : Aside0 (B1 + K ≤ nx.length ∧ nx.length ≤ 65536) := ⟨by rw [hb12]; exact hb2l, hnlb⟩
          have hk4 : wr.cell? ⟨w.heap.size, 4, none⟩ = some (.slice A4 nx.length c4) := (blk_cell (HSr.out.get 6 rfl) 4).trans rfl
          have hk1 : wr.cell? ⟨w.heap.size, 1, none⟩ = some (.int .i64 (K : Int)) := (blk_cell (HSr.out.get 6 rfl) 1).trans rfl
          clear hj hs hsr hB1 hB2 hC6 ha1 hb12 hb2l hnlb hle6
          go_wp2
          clear hk4 hk1 hcut hw1 hw2 hw3 hxs
          go_loopw [69] (fun v69 wr => ∃ (x : Nat) (vx : Value), v69 = .int .i64 (x : Int) ∧ Aside0 (x ≤ K) ∧ Aside0 (Sep w.heap.size [ints w.heap.size vx ((canX K nx (plS st 0 (fun _ => 0)) (st.take j)) ++ li x (fun x => (plS st 0 (fun _ => 0)) (rd nx ((a * K + x : Nat) : Int)).toNat)), ints w.heap.size vo (canO E out (st.take j)), blk gq #[.int .i64 kd, .int .i64 (K : Int), .int .i64 O, .int .i64 (st.length : Int), vx, vo] 50, ints w.heap.size (.slice (some ⟨gp, 0, none⟩) N cp) (li N (plS st 0 (fun _ => 0))), ints bs (.slice (some ads) st.length cs) st, blk (w.heap.size + 1) #[.int .i64 0, .int .i64 0, .int .i64 0, .int .i64 0, .slice none 0 0, .slice none 0 0] 50, blk w.heap.size #[.int .i64 kd, .int .i64 (K : Int), .int .i64 O, .int .i64 (N : Int), .slice A4 nx.length c4, .slice A5 out.length c5] 50] wr) ∧ Aside0 (Below w.heap.size w wr)) (fun v69 _ => K - (intOf v69).toNat)
          case atStart => exact ⟨0, vx, rfl, ⟨Nat.zero_le _⟩, ⟨by rw [li_zero, List.append_nil]; exact HSr.out⟩, HBr⟩
          case round =>
            clear HSr HBr
            obtain ⟨x, vx, rfl, HX, HSr, HBr⟩ := hrel
            by_cases hx : x < K
            · have HXK := Aside0.mk hx
              have hx' : (x : Int) < (K : Int) := by omega
              obtain ⟨ad6, e6, hx6⟩ := Kd.at_int (Kd.C_below HC6.out HBr.out) (x : Int) (by omega) hx'
              cases e6
              have hlt : B1 + x < nx.length := by have := HXB.out; omega
              rw [Int.toNat_natCast, rd_li (fun x => rd nx ((B1 + x : Nat) : Int)) hx, rd_nat hlt] at hx6
              have hrg := HNR.out _ (List.getElem_mem hlt)
              obtain ⟨tn, htn⟩ : ∃ tn : Nat, nx[B1 + x] = (tn : Int) := ⟨nx[B1 + x].toNat, by omega⟩
              rw [htn] at hx6 hrg
              have HTN : Aside0 (tn < N) := ⟨by omega⟩
              have htN : (tn : Int) < (N : Int) := by have := HTN.out; omega
              have HRD : Aside0 ((plS st 0 (fun _ => 0)) tn = (fun x => (plS st 0 (fun _ => 0)) (rd nx ((a * K + x : Nat) : Int)).toNat) x) := ⟨by show _ = (plS st 0 (fun _ => 0)) (rd nx ((a * K + x : Nat) : Int)).toNat; rw [HB1E.out, rd_nat hlt, htn, Int.toNat_natCast]⟩
              have HLX : Aside0 ((((canX K nx (plS st 0 (fun _ => 0)) (st.take j)) ++ li x (fun x => (plS st 0 (fun _ => 0)) (rd nx ((a * K + x : Nat) : Int)).toNat)).length + 1) * 8 ≤ 140737488355328) := ⟨by
                rw [List.length_append, li_len, canX_len, List.length_take]
                have h2 : min j st.length * K ≤ 1024 * 64 := Nat.mul_le_mul (by have := HSL.out; have := HN.out; omega) HK.out.2
                have := HK.out
                omega⟩
              clear hx hlt hrg htn
              go_wp2
              refine start_ (n := 10) (S := fun w' => w'.cell? ⟨gq, 4, none⟩ = some vx ∧ w'.cell? ⟨gp, tn, none⟩ = some (.int .i64 ((plS st 0 (fun _ => 0)) tn))) (ds := [7, 9]) #[false, false, false, false, false, false, false, false, false, false] (by kernel_rfl) rfl rfl ⟨(blk_cell ((HSr.out.low (below_drew1 (Below.refl _ _))).get 2 rfl) 4).trans rfl, li_cell ((HSr.out.low (below_drew1 (Below.refl _ _))).get 3 rfl) HTN.out⟩ (fun hHeld => ?_)
              refine with_tabW cn.tab17 cn.bits17 (fun HT_ HW_ => ?_)
              have HSd := Aside0.mk (HSr.out.low (below_drew1 (Below.refl _ _)))
              have HBd := Aside0.mk (below_drew1 HBr.out)
              clear HSr HBr
              generalize wr.drew = wd at HSd HBd hHeld ⊢
              refine pure_ (i := 0) (N := (some 73)) (v := ?_) (a' := ?_) #[true, false, false, false, false, false, false, false, false, false] rfl rfl (any_of HT_.out (by kernel_rfl)) (fun _ _ _ h => h) (Or.inl ⟨by rfl, ?_⟩) ?_ ?_
              rotate_left
              · intro w'
                go_simp
                with_reducible rfl
              rotate_left
              · simp only [Act.put, List.setIfInBounds_toArray, List.set_cons_zero, List.set_cons_succ, i64_w, i32_w]
                rfl
              refine pure_ (i := 2) (N := (some 75)) (v := ?_) (a' := ?_) #[true, false, true, false, false, false, false, false, false, false] rfl rfl (any_of HT_.out (by kernel_rfl)) (fun _ _ _ h => h) (Or.inl ⟨by rfl, ?_⟩) ?_ ?_
              rotate_left
              · intro w'
                go_simp
                with_reducible rfl
              rotate_left
              · simp only [Act.put, List.setIfInBounds_toArray, List.set_cons_zero, List.set_cons_succ, i64_w, i32_w]
                rfl
              refine pure_ (i := 3) (N := (some 76)) (v := ?_) (a' := ?_) #[true, false, true, true, false, false, false, false, false, false] rfl rfl (any_of HT_.out (by kernel_rfl)) (fun _ _ _ h => h) (Or.inl ⟨by rfl, ?_⟩) ?_ ?_
              rotate_left
              · intro w'
                go_simp
                with_reducible rfl
              rotate_left
              · simp only [Act.put, List.setIfInBounds_toArray, List.set_cons_zero, List.set_cons_succ, i64_w, i32_w]
                rfl
              refine pure_ (i := 4) (N := (some 77)) (v := ?_) (a' := ?_) #[true, false, true, true, true, false, false, false, false, false] rfl rfl (any_of HT_.out (by kernel_rfl)) (fun _ _ _ h => h) (Or.inl ⟨by rfl, ?_⟩) ?_ ?_
              rotate_left
              · intro w'
                go_simp
                with_reducible rfl
              rotate_left
              · simp only [Act.put, List.setIfInBounds_toArray, List.set_cons_zero, List.set_cons_succ, i64_w, i32_w]
                rfl
              refine take_ (i := 1) (N := (some 74)) (v := ?_) (a' := ?_) #[true, true, true, true, true, false, false, false, false, false] rfl rfl (take_ofW HT_.out HW_.out (by kernel_rfl)) (fun _ _ _ h => h) (Or.inl ⟨by rfl, ?_⟩) hHeld ?_ ?_
              rotate_left
              · rintro w' ⟨s0, s1⟩
                go_simp
                with_reducible rfl
              rotate_left
              · simp only [Act.put, List.setIfInBounds_toArray, List.set_cons_zero, List.set_cons_succ, i64_w, i32_w]
                rfl
              refine take_ (i := 5) (N := (some 78)) (v := ?_) (a' := ?_) #[true, true, true, true, true, true, false, false, false, false] rfl rfl (take_ofW HT_.out HW_.out (by kernel_rfl)) (fun _ _ _ h => h) (Or.inl ⟨by rfl, ?_⟩) hHeld ?_ ?_
              rotate_left
              · rintro w' ⟨s0, s1⟩
                go_simp
                with_reducible rfl
              rotate_left
              · simp only [Act.put, List.setIfInBounds_toArray, List.set_cons_zero, List.set_cons_succ, i64_w, i32_w]
                rfl
              refine one_ (i := 6) (N := (some 79)) #[true, true, true, true, true, true, true, false, false, false] rfl rfl (one_of HT_.out (by kernel_rfl)) (by decide) (fun Kc hK => ?_)
              refine value_ (w1 := ?_) (v := ?_) (by rfl) rfl ?_ ?_
              rotate_left 2
              · go_simp
                constructor
                · rfl
                · rfl
              refine hK.out _ _ ⟨(blk_cell ((HSd.out.low (below_alloc (Below.refl _ _) _)).get 2 rfl) 4).trans rfl, li_cell ((HSd.out.low (below_alloc (Below.refl _ _) _)).get 3 rfl) HTN.out⟩ (fun hHeld => ?_); clear hK Kc
              refine norm_ (a' := ?_) ?_ ?_
              rotate_left
              · show Act.put _ (some 79) _ = _
                simp only [Act.put, List.setIfInBounds_toArray, List.set_cons_zero, List.set_cons_succ, i64_w, i32_w]
                rfl
              refine last_ (i := 7) (N := (some 80)) #[true, true, true, true, true, true, true, true, false, false] rfl rfl (one_of HT_.out (by kernel_rfl)) (by decide) (fun Kc hK => ?_)
              refine Kd.R_append_step (Kd.int .i64) (w0 := w) w.heap.size (by rfl) (.tmp 74) (.tmp 79) 32 3 (.int .i64 0) 8 rfl Try.underlying32 infoI rfl (by decide) (by omega) vx ((canX K nx (plS st 0 (fun _ => 0)) (st.take j)) ++ li x (fun x => (plS st 0 (fun _ => 0)) (rd nx ((a * K + x : Nat) : Int)).toNat)) ((plS st 0 (fun _ => 0)) tn) [.int .i64 ((plS st 0 (fun _ => 0)) tn)] (fun _ => True) (fun _ => False) rfl rfl rfl (fun _ hk => hk.elim) (fun _ _ => trivial) (Kd.R_mono (HSd.out.get 0 rfl) (fun _ _ => trivial)) HBd.out HBd.out.size HLX.out ?_
              intro v9 w9 ho hb hg hat
              obtain ⟨A9, c9, hv⟩ := Kd.R_slice ho
              obtain ⟨m9, hm9⟩ : ∃ m, (((canX K nx (plS st 0 (fun _ => 0)) (st.take j)) ++ li x (fun x => (plS st 0 (fun _ => 0)) (rd nx ((a * K + x : Nat) : Int)).toNat)) ++ [(plS st 0 (fun _ => 0)) tn]).length = m := ⟨_, rfl⟩
              rw [hm9] at hv
              subst hv
              clear hm9
              have HS9 := Aside0.mk (HSd.out.app 0 rfl rfl ho hg hat HBd.out.size)
              have HB9 := Aside0.mk hb
              clear ho hb hg hat hHeld HSd HBd
              refine hK.out _ _ ?_; clear hK Kc
              refine norm_ (a' := ?_) ?_ ?_
              rotate_left
              · show Act.put _ (some 80) _ = _
                simp only [Act.put, List.setIfInBounds_toArray, List.set_cons_zero, List.set_cons_succ, i64_w, i32_w]
                rfl
              refine pure_ (i := 8) (N := (some 81)) (v := ?_) (a' := ?_) #[true, true, true, true, true, true, true, true, true, false] rfl rfl (any_of HT_.out (by kernel_rfl)) (fun _ _ _ h => h) (Or.inl ⟨by rfl, ?_⟩) ?_ ?_
              rotate_left
              · intro w'
                go_simp
                with_reducible rfl
              rotate_left
              · simp only [Act.put, List.setIfInBounds_toArray, List.set_cons_zero, List.set_cons_succ, i64_w, i32_w]
                rfl
              refine last_ (i := 9) (N := none) #[true, true, true, true, true, true, true, true, true, true] rfl rfl (one_of HT_.out (by kernel_rfl)) (by decide) (fun Kc hK => ?_)
              have hfz : w9.frozen? ⟨gq, 4, none⟩ = false := blk_frozen (HS9.out.get 2 rfl) 4
              have hcl : w9.cell? ⟨gq, 4, none⟩ = some vx := (blk_cell (HS9.out.get 2 rfl) 4).trans rfl
              refine skip_ (w1 := ?_) (by rfl) rfl ?_ ?_
              rotate_left
              · go_simp
                rfl
              have HS10 := Aside0.mk (HS9.out.cell 2 rfl 4 (.slice A9 m9 c9) rfl HB9.out.size)
              have HB10 := Aside0.mk (HS9.out.belowSet (j := 4) (u := .slice A9 m9 c9) 2 rfl HB9.out)
              generalize World.setCell w9 ⟨gq, 4, none⟩ (.slice A9 m9 c9) = w10 at HS10 HB10 ⊢
              clear hfz hcl HS9 HB9
              refine hK.out _ _ ?_; clear hK Kc
              refine done_ (done_of HT_.out (by kernel_rfl)) ?_
              go_wp2
              go_roundw
              case rel =>
                refine ⟨x + 1, .slice A9 m9 c9, congrArg (Value.int .i64) (w64s (by have := HXK.out; have := HK.out; omega)), ⟨HXK.out⟩, ⟨?_⟩, HB10⟩
                rw [li_succ, ← List.append_assoc, ← HRD.out]
                exact HS10.out
              case measure => exact meas_at HXK.out (by have := HK.out; omega)
            · have hx' : ¬ ((x : Int) < (K : Int)) := by omega
              obtain rfl : K = x := by have := HX.out; omega
              clear hx HX
              obtain ⟨BE, hBE⟩ : ∃ B, a * E = B := ⟨_, rfl⟩
              obtain ⟨BF, hBF⟩ : ∃ B, (a + 1) * E = B := ⟨_, rfl⟩
              have hbef : BE + E = BF := by rw [← hBE, ← hBF, Nat.add_mul, Nat.one_mul]
              have hbfl : BF ≤ out.length := by rw [← hBF, HOL.out]; exact Nat.mul_le_mul_right _ HAN.out
              have holb : out.length ≤ 65536 := by rw [HOL.out]; exact Nat.mul_le_mul HN.out.2 HE.out
              obtain ⟨A7, hcut, hC7, hle7⟩ := mid_C HR5a.out HC5.out hbef hbfl
              have hw1 : wrap64 ((a : Int) * (E : Int)) = (BE : Int) := mulI hBE (le3 hbef hbfl holb).1
              have hw2 : wrap64 ((a : Int) + 1) = (a1 : Int) := by rw [← HA1.out]; exact w64s (by have := HAN.out; have := HN.out; omega)
              have hw3 : wrap64 ((a1 : Int) * (E : Int)) = (BF : Int) := mulI (by rw [← HA1.out]; exact hBF) (le3 hbef hbfl holb).2
              have HBE := Aside0.mk hBE
              have HC7 := Aside0.mk hC7
              have hN0 : ((N : Int) == 0) = false := by have := HN.out; simp; omega
              have hqe : (out.length : Int) / (N : Int) = (E : Int) := by rw [HOL.out, Int.natCast_mul]; exact Int.mul_ediv_cancel_left _ (by have := HN.out; omega)
              have hqt : Int.tdiv (out.length : Int) (N : Int) = (E : Int) := by rw [Int.tdiv_eq_ediv_of_nonneg (by omega)]; exact hqe
              have hwE : wrap64 (E : Int) = (E : Int) := wr64 (Nat.le_trans HE.out (by decide))
              have HLO : Aside0 (((canO E out (st.take j)).length + 64) * 8 ≤ 140737488355328) := ⟨by
                rw [canO_len, List.length_take]
                have h2 : min j st.length * E ≤ 1024 * 64 := Nat.mul_le_mul (by have := HSL.out; have := HN.out; omega) HE.out
                omega⟩
              have hk5 : wr.cell? ⟨w.heap.size, 5, none⟩ = some (.slice A5 out.length c5) := (blk_cell (HSr.out.get 6 rfl) 5).trans rfl
              have hk3 : wr.cell? ⟨w.heap.size, 3, none⟩ = some (.int .i64 (N : Int)) := (blk_cell (HSr.out.get 6 rfl) 3).trans rfl
              clear hBE hBF hC7 hbef hbfl holb
              go_wp2
              clear hk5 hk3 hqe hqt hwE hN0
              refine start_ (n := 15) (S := fun w' => w'.cell? ⟨gq, 5, none⟩ = some vo ∧ w'.cell? ⟨w.heap.size, 5, none⟩ = some (.slice A5 out.length c5)) (ds := [12, 14]) #[false, false, false, false, false, false, false, false, false, false, false, false, false, false, false] (by kernel_rfl) rfl rfl ⟨(blk_cell ((HSr.out.low (below_drew1 (Below.refl _ _))).get 2 rfl) 5).trans rfl, (blk_cell ((HSr.out.low (below_drew1 (Below.refl _ _))).get 6 rfl) 5).trans rfl⟩ (fun hHeld => ?_)
              refine with_tabW cn.tab20 cn.bits20 (fun HT_ HW_ => ?_)
              have HSd := Aside0.mk (HSr.out.low (below_drew1 (Below.refl _ _)))
              have HBd := Aside0.mk (below_drew1 HBr.out)
              clear HSr HBr
              generalize wr.drew = wd at HSd HBd hHeld ⊢
              refine pure_ (i := 0) (N := (some 89)) (v := ?_) (a' := ?_) #[true, false, false, false, false, false, false, false, false, false, false, false, false, false, false] rfl rfl (any_of HT_.out (by kernel_rfl)) (fun _ _ _ h => h) (Or.inl ⟨by rfl, ?_⟩) ?_ ?_
              rotate_left
              · intro w'
                go_simp
                with_reducible rfl
              rotate_left
              · simp only [Act.put, List.setIfInBounds_toArray, List.set_cons_zero, List.set_cons_succ, i64_w, i32_w]
                rfl
              refine pure_ (i := 2) (N := (some 91)) (v := ?_) (a' := ?_) #[true, false, true, false, false, false, false, false, false, false, false, false, false, false, false] rfl rfl (any_of HT_.out (by kernel_rfl)) (fun _ _ _ h => h) (Or.inl ⟨by rfl, ?_⟩) ?_ ?_
              rotate_left
              · intro w'
                go_simp
                with_reducible rfl
              rotate_left
              · simp only [Act.put, List.setIfInBounds_toArray, List.set_cons_zero, List.set_cons_succ, i64_w, i32_w]
                rfl
              refine pure_ (i := 4) (N := (some 93)) (v := ?_) (a' := ?_) #[true, false, true, false, true, false, false, false, false, false, false, false, false, false, false] rfl rfl (any_of HT_.out (by kernel_rfl)) (fun _ _ _ h => h) (Or.inl ⟨by rfl, ?_⟩) ?_ ?_
              rotate_left
              · intro w'
                go_simp
                with_reducible rfl
              rotate_left
              · simp only [Act.put, List.setIfInBounds_toArray, List.set_cons_zero, List.set_cons_succ, i64_w, i32_w]
                rfl
              refine pure_ (i := 5) (N := (some 94)) (v := ?_) (a' := ?_) #[true, false, true, false, true, true, false, false, false, false, false, false, false, false, false] rfl rfl (any_of HT_.out (by kernel_rfl)) (fun _ _ _ h => h) (Or.inl ⟨by rfl, ?_⟩) ?_ ?_
              rotate_left
              · intro w'
                go_simp
                with_reducible rfl
              rotate_left
              · simp only [Act.put, List.setIfInBounds_toArray, List.set_cons_zero, List.set_cons_succ, i64_w, i32_w]
                rfl
              refine pure_ (i := 6) (N := (some 95)) (v := ?_) (a' := ?_) #[true, false, true, false, true, true, true, false, false, false, false, false, false, false, false] rfl rfl (any_of HT_.out (by kernel_rfl)) (fun _ _ _ h => h) (Or.inl ⟨by rfl, ?_⟩) ?_ ?_
              rotate_left
              · intro w'
                go_simp
                with_reducible rfl
              rotate_left
              · simp only [Act.put, List.setIfInBounds_toArray, List.set_cons_zero, List.set_cons_succ, i64_w, i32_w]
                rfl
              refine pure_ (i := 7) (N := (some 96)) (v := ?_) (a' := ?_) #[true, false, true, false, true, true, true, true, false, false, false, false, false, false, false] rfl rfl (any_of HT_.out (by kernel_rfl)) (fun _ _ _ h => h) (Or.inl ⟨by rfl, ?_⟩) ?_ ?_
              rotate_left
              · intro w'
                go_simp
                with_reducible rfl
              rotate_left
              · simp only [Act.put, List.setIfInBounds_toArray, List.set_cons_zero, List.set_cons_succ, i64_w, i32_w]
                rfl
              refine pure_ (i := 8) (N := (some 97)) (v := ?_) (a' := ?_) #[true, false, true, false, true, true, true, true, true, false, false, false, false, false, false] rfl rfl (any_of HT_.out (by kernel_rfl)) (fun _ _ _ h => h) (Or.inl ⟨by rfl, ?_⟩) ?_ ?_
              rotate_left
              · intro w'
                go_simp
                with_reducible rfl
              rotate_left
              · simp only [Act.put, List.setIfInBounds_toArray, List.set_cons_zero, List.set_cons_succ, i64_w, i32_w]
                rfl
              refine pure_ (i := 9) (N := (some 98)) (v := ?_) (a' := ?_) #[true, false, true, false, true, true, true, true, true, true, false, false, false, false, false] rfl rfl (any_of HT_.out (by kernel_rfl)) (fun _ _ _ h => h) (Or.inl ⟨by rfl, ?_⟩) ?_ ?_
              rotate_left
              · intro w'
                go_simp
                with_reducible rfl
              rotate_left
              · simp only [Act.put, List.setIfInBounds_toArray, List.set_cons_zero, List.set_cons_succ, i64_w, i32_w]
                rfl
              refine pure_ (i := 10) (N := (some 99)) (v := ?_) (a' := ?_) #[true, false, true, false, true, true, true, true, true, true, true, false, false, false, false] rfl rfl (any_of HT_.out (by kernel_rfl)) (fun _ _ _ h => h) (Or.inl ⟨by rfl, ?_⟩) ?_ ?_
              rotate_left
              · intro w'
                go_simp
                with_reducible rfl
              rotate_left
              · simp only [Act.put, List.setIfInBounds_toArray, List.set_cons_zero, List.set_cons_succ, i64_w, i32_w]
                rfl
              refine take_ (i := 1) (N := (some 90)) (v := ?_) (a' := ?_) #[true, true, true, false, true, true, true, true, true, true, true, false, false, false, false] rfl rfl (take_ofW HT_.out HW_.out (by kernel_rfl)) (fun _ _ _ h => h) (Or.inl ⟨by rfl, ?_⟩) hHeld ?_ ?_
              rotate_left
              · rintro w' ⟨s0, s1⟩
                go_simp
                with_reducible rfl
              rotate_left
              · simp only [Act.put, List.setIfInBounds_toArray, List.set_cons_zero, List.set_cons_succ, i64_w, i32_w]
                rfl
              refine take_ (i := 3) (N := (some 92)) (v := ?_) (a' := ?_) #[true, true, true, true, true, true, true, true, true, true, true, false, false, false, false] rfl rfl (take_ofW HT_.out HW_.out (by kernel_rfl)) (fun _ _ _ h => h) (Or.inl ⟨by rfl, ?_⟩) hHeld ?_ ?_
              rotate_left
              · rintro w' ⟨s0, s1⟩
                go_simp
                with_reducible rfl
              rotate_left
              · simp only [Act.put, List.setIfInBounds_toArray, List.set_cons_zero, List.set_cons_succ, i64_w, i32_w]
                rfl
              refine pure_ (i := 11) (N := (some 100)) (v := ?_) (a' := ?_) #[true, true, true, true, true, true, true, true, true, true, true, true, false, false, false] rfl rfl (any_of HT_.out (by kernel_rfl)) (fun _ _ _ h => h) (Or.inl ⟨by rfl, ?_⟩) ?_ ?_
              rotate_left
              · intro w'
                go_simp
                with_reducible rfl
              rotate_left
              · simp only [Act.put, List.setIfInBounds_toArray, List.set_cons_zero, List.set_cons_succ, i64_w, i32_w]
                rfl
              refine last_ (i := 12) (N := (some 101)) #[true, true, true, true, true, true, true, true, true, true, true, true, true, false, false] rfl rfl (one_of HT_.out (by kernel_rfl)) (by decide) (fun Kc hK => ?_)
              refine Kd.R_append_rows_step (Kd.int .i64) (w0 := w) w.heap.size (by rfl) (.tmp 90) (.tmp 100) 32 3 (.int .i64 0) 8 rfl Try.underlying32 infoI rfl (by decide) (by omega) vo (canO E out (st.take j)) (li E (fun x => rd out ((BE + x : Nat) : Int))) A7 E (c5 - BE) (fun _ => True) (fun _ => False) rfl rfl (Kd.R_mono (HSd.out.get 1 rfl) (fun _ _ => trivial)) (Kd.C_below HC7.out HBd.out) (fun _ _ h => h) (fun _ h => h.elim) (fun _ _ => trivial) HBd.out HBd.out.size (by have := HLO.out; have := HE.out; omega) ?_
              intro v9 w9 ho hb hg hat
              obtain ⟨A9, c9, hv⟩ := Kd.R_slice ho
              obtain ⟨m9, hm9⟩ : ∃ m, ((canO E out (st.take j)) ++ li E (fun x => rd out ((BE + x : Nat) : Int))).length = m := ⟨_, rfl⟩
              rw [hm9] at hv
              subst hv
              clear hm9
              have HS9 := Aside0.mk (HSd.out.app 1 rfl rfl ho hg hat HBd.out.size)
              have HB9 := Aside0.mk hb
              clear ho hb hg hat hHeld HSd HBd
              refine hK.out _ _ ?_; clear hK Kc
              refine norm_ (a' := ?_) ?_ ?_
              rotate_left
              · show Act.put _ (some 101) _ = _
                simp only [Act.put, List.setIfInBounds_toArray, List.set_cons_zero, List.set_cons_succ, i64_w, i32_w]
                rfl
              refine pure_ (i := 13) (N := (some 102)) (v := ?_) (a' := ?_) #[true, true, true, true, true, true, true, true, true, true, true, true, true, true, false] rfl rfl (any_of HT_.out (by kernel_rfl)) (fun _ _ _ h => h) (Or.inl ⟨by rfl, ?_⟩) ?_ ?_
              rotate_left
              · intro w'
                go_simp
                with_reducible rfl
              rotate_left
              · simp only [Act.put, List.setIfInBounds_toArray, List.set_cons_zero, List.set_cons_succ, i64_w, i32_w]
                rfl
              refine last_ (i := 14) (N := none) #[true, true, true, true, true, true, true, true, true, true, true, true, true, true, true] rfl rfl (one_of HT_.out (by kernel_rfl)) (by decide) (fun Kc hK => ?_)
              have hfz : w9.frozen? ⟨gq, 5, none⟩ = false := blk_frozen (HS9.out.get 2 rfl) 5
              have hcl : w9.cell? ⟨gq, 5, none⟩ = some vo := (blk_cell (HS9.out.get 2 rfl) 5).trans rfl
              refine skip_ (w1 := ?_) (by rfl) rfl ?_ ?_
              rotate_left
              · go_simp
                rfl
              have HS10 := Aside0.mk (HS9.out.cell 2 rfl 5 (.slice A9 m9 c9) rfl HB9.out.size)
              have HB10 := Aside0.mk (HS9.out.belowSet (j := 5) (u := .slice A9 m9 c9) 2 rfl HB9.out)
              generalize World.setCell w9 ⟨gq, 5, none⟩ (.slice A9 m9 c9) = w10 at HS10 HB10 ⊢
              clear hfz hcl HS9 HB9
              refine hK.out _ _ ?_; clear hK Kc
              refine done_ (done_of HT_.out (by kernel_rfl)) ?_
              go_wp2
              refine ⟨⟨j + 1, vx, .slice A9 m9 c9, congrArg (Value.int .i64) (w64s (by have := HJN.out; have := HSL.out; have := HN.out; omega)), ⟨HJN.out⟩, ⟨?_⟩, HB10⟩, meas_at HJN.out (by have := HSL.out; have := HN.out; omega)⟩
              have h := HS10.out
              rw [← HBE.out] at h
              rw [take_snoc HSJ.out, canX_snoc, canO_snoc, Int.toNat_natCast]
              exact h
        · have hj' : ¬ ((j : Int) < (st.length : Int)) := by omega
          have hje : j = st.length := by have := HJ.out; omega
          obtain ⟨An, cN, hvn⟩ := Kd.R_slice (HSr.out.get 0 rfl)
          obtain ⟨Ao, cO, hvo⟩ := Kd.R_slice (HSr.out.get 1 rfl)
          obtain ⟨mn, hmn⟩ : ∃ m, (canX K nx (plS st 0 (fun _ => 0)) (st.take j)).length = m := ⟨_, rfl⟩
          obtain ⟨mo, hmo⟩ : ∃ m, (canO E out (st.take j)).length = m := ⟨_, rfl⟩
          rw [hmn] at hvn
          rw [hmo] at hvo
          subst hvn hvo
          have HJE := Aside0.mk hje
          clear hj hje hmn hmo
          go_wp2_with (first
          | ((with_reducible refine gate_store (t := 50) (p := 2) rfl ?_)
             refine wpList_store_rowTo rfl 50 (.tmp 2) (.tmp 104) rfl rfl (w.heap.size + 1) #[.int .i64 kd, .int .i64 (K : Int), .int .i64 O, .int .i64 (st.length : Int), .slice An mn cN, .slice Ao mo cO] rfl rfl 50 _ (HSr.out.get 5 rfl) ?_ ?_ (by simp [Value.oneCell']) ?_
             (focus (rw [i50]; rfl))
             (focus rfl)
             have HSz := Aside0.mk (HSr.out.setStruct 5 rfl #[.int .i64 kd, .int .i64 (K : Int), .int .i64 O, .int .i64 (st.length : Int), .slice An mn cN, .slice Ao mo cO] HBr.out.size)
             have HBz := Aside0.mk (below_setRow HBr.out (HSr.out.bound 5 rfl (show w.heap.size + 1 = w.heap.size + 1 from rfl)).1 #[.int .i64 kd, .int .i64 (K : Int), .int .i64 O, .int .i64 (st.length : Int), .slice An mn cN, .slice Ao mo cO])
             generalize World.setRow _ (w.heap.size + 1) _ = wz at HSz HBz ⊢)
          | ((with_reducible refine gate_dst (N := 104) rfl ?_)
             refine wpList_load_row rfl 50 (.tmp 10) rfl gq rfl 50 #[.int .i64 kd, .int .i64 (K : Int), .int .i64 O, .int .i64 (st.length : Int), .slice An mn cN, .slice Ao mo cO] (0, 0) _ (HSr.out.get 2 rfl) Try.underlying50 rfl ?_ ?_
             (focus (rw [i50]; rfl))))
          refine bodyPost_ret (results_ct rfl _ _ (w.heap.size + 1) 50 #[.int .i64 kd, .int .i64 (K : Int), .int .i64 O, .int .i64 (st.length : Int), .slice An mn cN, .slice Ao mo cO] (0, 0) _ rfl (HSz.out.get 5 rfl) Try.underlying50 rfl (by kernel_rfl)) rfl ?_
          have h := HSz.out
          rw [HJE.out, List.take_length] at h
          exact ⟨_, _, rfl, h.sub (.cons_cons _ (.cons_cons _ (List.nil_sublist _))), HBz.out⟩
def CanOk (K N : Int) (nx out st : List Int) : Prop := (1 ≤ K ∧ K ≤ 64) ∧ (1 ≤ N ∧ N ≤ 1024) ∧ out.length / N.toNat ≤ 64 ∧ nx.length = N.toNat * K.toNat ∧ out.length = N.toNat * (out.length / N.toNat) ∧ (∀ x ∈ nx, 0 ≤ x ∧ x < N) ∧ (∀ s ∈ st, 0 ≤ s ∧ s < N) ∧ st.length ≤ N.toNat
instance (K N : Int) (nx out st : List Int) : Decidable (CanOk K N nx out st) := by unfold CanOk; infer_instance
def trim_Canon.f (a0_0 a0_1 a0_2 a0_3 : Int) (l0_4 l0_5 : List Int) : Option (Int × Int × Int × Int × List Int × List Int × Int) :=
  match machine_Check.f rcBig a0_0 a0_1 a0_2 a0_3 l0_4 l0_5 with
  | none => none
  | some (_, e) => if e ≠ 0 then some (kzero e) else match rcF a0_1 a0_3 l0_4 rcBig 0 [0] [[]] with
    | none => none
    | some (st, _) => if CanOk a0_1 a0_3 l0_4 l0_5 st then some (a0_0, a0_1, a0_2, (st.length : Int), canX a0_1.toNat l0_4 (plS st 0 (fun _ => 0)) st, canO (l0_5.length / a0_3.toNat) l0_5 st, 0) else none
theorem Canon_walk (a0_0 a0_1 a0_2 a0_3 : Int) (A4 : Option Addr) (c4 : Nat) (l0_4 : List Int) (A5 : Option Addr) (c5 : Nat) (l0_5 : List Int) (r : Int × Int × Int × Int × List Int × List Int × Int) (w : World) (hr4 : Kd.C (Kd.int .i64) w A4 l0_4.length l0_4) (hc4 : l0_4.length ≤ c4) (hr5 : Kd.C (Kd.int .i64) w A5 l0_5.length l0_5) (hc5 : l0_5.length ≤ c5) (h : trim_Canon.f a0_0 a0_1 a0_2 a0_3 l0_4 l0_5 = some r) :
    Calls Try.prog 67 #[.agg #[.int .i64 a0_0, .int .i64 a0_1, .int .i64 a0_2, .int .i64 a0_3, .slice A4 l0_4.length c4, .slice A5 l0_5.length c5]] w (CanPost r w) := by
  unfold trim_Canon.f at h
  cases hm : machine_Check.f rcBig a0_0 a0_1 a0_2 a0_3 l0_4 l0_5 with
  | none => rw [hm] at h; cases h
  | some p =>
    obtain ⟨at1, e⟩ := p
    rw [hm] at h
    simp only [] at h
    by_cases he : e = 0
    · subst he
      rw [if_neg (by decide)] at h
      cases hrc : rcF a0_1 a0_3 l0_4 rcBig 0 [0] [[]] with
      | none => rw [hrc] at h; cases h
      | some q =>
        obtain ⟨st, ws⟩ := q
        rw [hrc] at h
        simp only [] at h
        by_cases hok : CanOk a0_1 a0_3 l0_4 l0_5 st
        · rw [if_pos hok] at h
          obtain rfl := Option.some.inj h
          obtain ⟨h1, h2, h3, h4, h5, h6, h7, h8⟩ := hok
          obtain ⟨K, rfl⟩ : ∃ K : Nat, a0_1 = (K : Int) := ⟨a0_1.toNat, by omega⟩
          obtain ⟨N, rfl⟩ : ∃ N : Nat, a0_3 = (N : Int) := ⟨a0_3.toNat, by omega⟩
          simp only [Int.toNat_natCast] at h3 h4 h5 h8 ⊢
          exact Canon_main a0_0 a0_2 K N (l0_5.length / N) A4 c4 l0_4 A5 c5 l0_5 w hr4 hc4 hr5 hc5 at1 hm st ws hrc (by omega) (by omega) h3 h4 h5 h6 h7 h8
        · rw [if_neg hok] at h; cases h
    · rw [if_pos he] at h
      obtain rfl := Option.some.inj h
      exact Canon_err a0_0 a0_1 a0_2 a0_3 A4 c4 l0_4 A5 c5 l0_5 w hr4 hc4 hr5 hc5 at1 e hm he
end Go.Proofs.Ytocejofjmmoeaaa.X
end

section
namespace Go.Proofs.Ytocejofjmmoeaaa.X
open Go.RowKit Go.Proofs.YtocejofjmmoeaaaW.PrintWords Go.Proofs.YtocejofjmmoeaaaW.PrintLast Go.Proofs.YtocejofjmmoeaaaW.PrintMore
open Go.Proofs.Ytocejofjmmoeaaa Go.Proofs.Ytocejofjmmoeaaa.Sp
def wh.T6 : Bool × List (List Nat × List Nat) := (true, [([], []), ([0], [0]), ([], []), ([2], [2]), ([3], [3]), ([1, 0, 1], [1]), ([0, 1, 2, 3, 4, 5], []), ([6, 4, 5, 0, 1, 2, 3, 4, 5], [4, 6])])
def wh.B6 : List Nat := [0, 1, 0, 4, 12, 3, 63, 127]
theorem wh.tab6 : rtab .any (opsOf Try.f50 6) = wh.T6 := by kernel_rfl
theorem wh.bits6 : waitsOk wh.T6.2 wh.B6 = true := by kernel_rfl
def wN (N : Int) (nx : List Int) : Int := if nx.any (fun t => decide (t < 0)) = true then N + 1 else N
def wX (N : Int) (nx : List Int) : List Int := nx.map fun t => if t < 0 then N else t
def wO (out : List Int) : List Int := out.map fun o => max o 0
theorem wN_snoc (N : Int) (l : List Int) (t : Int) : wN N (l ++ [t]) = if t < 0 then N + 1 else wN N l := by
  unfold wN
  rw [List.any_append]
  by_cases h : t < 0
  · rw [if_pos h, if_pos (by simp [h])]
  · rw [if_neg h]
    simp [h]
theorem wX_snoc (N : Int) (l : List Int) (t : Int) : wX N (l ++ [t]) = wX N l ++ [if t < 0 then N else t] := by unfold wX; rw [List.map_append]; rfl
theorem wO_snoc (l : List Int) (t : Int) : wO (l ++ [t]) = wO l ++ [max t 0] := by unfold wO; rw [List.map_append]; rfl
theorem wX_len (N : Int) (l : List Int) : (wX N l).length = l.length := List.length_map ..
theorem wO_len (l : List Int) : (wO l).length = l.length := List.length_map ..
attribute [local go_sem] max_two min_two
theorem take_rd {l : List Int} {i : Nat} (h : i < l.length) : l.take (i + 1) = l.take i ++ [rd l (i : Int)] := by rw [List.take_succ_eq_append_getElem h, rd_nat h]
theorem two_base {b b1 : Nat} {v2 v3 : Value} {x y : List Int} {w : World} (h : Sep b [ints b1 v2 x, ints b1 v3 y] w) (hb : b ≤ b1) : Sep b [ints b v2 x, ints b v3 y] w := by
  refine Sep.of_apart (fun i r hr => ?_) (fun i j r q hr hq hij k hk => ?_)
  · rcases i with _ | _ | i
    · injection hr with hr; subst hr; exact ⟨Kd.R_lower (h.get 0 rfl) hb, fun k hk => h.bound 0 rfl hk⟩
    · injection hr with hr; subst hr; exact ⟨Kd.R_lower (h.get 1 rfl) hb, fun k hk => h.bound 1 rfl hk⟩
    · simp at hr
  · rcases i with _ | _ | i
    · rcases j with _ | _ | j
      · exact absurd rfl hij
      · injection hr with hr; injection hq with hq; subst hr hq; exact h.apart (i := 0) (j := 1) rfl rfl (by decide) hk
      · simp at hq
    · rcases j with _ | _ | j
      · injection hr with hr; injection hq with hq; subst hr hq; exact h.apart (i := 1) (j := 0) rfl rfl (by decide) hk
      · exact absurd rfl hij
      · simp at hq
    · simp at hr
def WholeOk (K N : Int) (nx out : List Int) : Prop := (0 ≤ K ∧ K ≤ 64) ∧ (0 ≤ N ∧ N ≤ 65536) ∧ nx.length ≤ 4194304 ∧ out.length ≤ 65536
instance (K N : Int) (nx out : List Int) : Decidable (WholeOk K N nx out) := by unfold WholeOk; infer_instance
def wholeG (K N : Int) (nx out : List Int) : Option (Int × Int × Int × Int × List Int × List Int × Int) :=
  if wN N nx > 1024 then some (kzero 3) else if wN N nx > N then trim_Canon.f 1 K 2 (wN N nx) (wX N nx ++ List.replicate K.toNat N) (wO out ++ [0]) else trim_Canon.f 1 K 2 (wN N nx) (wX N nx) (wO out)
def sample_whole.f (a0_0 a0_1 : Int) (l0_2 l0_3 : List Int) : Option (Int × Int × Int × Int × List Int × List Int × Int) := if WholeOk a0_0 a0_1 l0_2 l0_3 then wholeG a0_0 a0_1 l0_2 l0_3 else none
set_option maxHeartbeats 16000000 in
set_option maxRecDepth 100000 in
theorem Whole_walk (K N : Int) (A2 : Option Addr) (c2 : Nat) (nx : List Int) (A3 : Option Addr) (c3 : Nat) (out : List Int) (r : Int × Int × Int × Int × List Int × List Int × Int) (w : World) (hr2 : Kd.C (Kd.int .i64) w A2 nx.length nx) (hr3 : Kd.C (Kd.int .i64) w A3 out.length out) (hw : WholeOk K N nx out) (h : wholeG K N nx out = some r) :
    Calls Try.prog 50 #[.agg #[.int .i64 K, .int .i64 N, .slice A2 nx.length c2, .slice A3 out.length c3]] w (CanPost r w) := by
  have hu34 := Try.underlying34
  have hu50 := Try.underlying50
  have hu32 := Try.underlying32
  have HR2 := Aside0.mk hr2
  have HR3 := Aside0.mk hr3
  have HW := Aside0.mk hw
  have H := Aside0.mk h
  have HS0 : Aside0 (Sep w.heap.size [ints w.heap.size (.slice none 0 0) [], ints w.heap.size (.slice none 0 0) [], blk (w.heap.size + 1 + 1) #[.int .i64 1, .int .i64 K, .int .i64 2, .int .i64 N, (.slice none 0 0), (.slice none 0 0)] 50, blk (w.heap.size + 1) #[.int .i64 0, .int .i64 0, .int .i64 0, .int .i64 0, .slice none 0 0, .slice none 0 0] 50, blk w.heap.size #[.int .i64 K, .int .i64 N, .slice A2 nx.length c2, .slice A3 out.length c3] 34] (((w.alloc (.cells #[.int .i64 K, .int .i64 N, .slice A2 nx.length c2, .slice A3 out.length c3] 34)).alloc (.cells #[.int .i64 0, .int .i64 0, .int .i64 0, .int .i64 0, .slice none 0 0, .slice none 0 0] 50)).alloc (.cells #[.int .i64 1, .int .i64 K, .int .i64 2, .int .i64 N, (.slice none 0 0), (.slice none 0 0)] 50))) := ⟨by
    have h1 := ((((Sep.nil w.heap.size w).alloc #[.int .i64 K, .int .i64 N, .slice A2 nx.length c2, .slice A3 out.length c3] 34 (Nat.le_refl _)).alloc #[.int .i64 0, .int .i64 0, .int .i64 0, .int .i64 0, .slice none 0 0, .slice none 0 0] 50 (below_alloc (Below.refl w.heap.size w) _).size).alloc #[.int .i64 1, .int .i64 K, .int .i64 2, .int .i64 N, (.slice none 0 0), (.slice none 0 0)] 50 (below_alloc (below_alloc (Below.refl w.heap.size w) _) _).size).nilRow (Kd.int .i64) 3 |>.nilRow (Kd.int .i64) 3
    rw [show ((w.alloc (.cells #[.int .i64 K, .int .i64 N, .slice A2 nx.length c2, .slice A3 out.length c3] 34)).alloc (.cells #[.int .i64 0, .int .i64 0, .int .i64 0, .int .i64 0, .slice none 0 0, .slice none 0 0] 50)).heap.size = (w.alloc (.cells #[.int .i64 K, .int .i64 N, .slice A2 nx.length c2, .slice A3 out.length c3] 34)).heap.size + 1 from Array.size_push _, show (w.alloc (.cells #[.int .i64 K, .int .i64 N, .slice A2 nx.length c2, .slice A3 out.length c3] 34)).heap.size = w.heap.size + 1 from Array.size_push _] at h1
    exact h1⟩
  have HB0 : Aside0 (Below w.heap.size w (((w.alloc (.cells #[.int .i64 K, .int .i64 N, .slice A2 nx.length c2, .slice A3 out.length c3] 34)).alloc (.cells #[.int .i64 0, .int .i64 0, .int .i64 0, .int .i64 0, .slice none 0 0, .slice none 0 0] 50)).alloc (.cells #[.int .i64 1, .int .i64 K, .int .i64 2, .int .i64 N, (.slice none 0 0), (.slice none 0 0)] 50))) := ⟨((((Below.refl w.heap.size w).alloc (Nat.le_refl _) _).alloc (below_alloc (Below.refl w.heap.size w) _).size _).alloc (below_alloc (below_alloc (Below.refl w.heap.size w) _) _).size _)⟩
  have hq : (((w.alloc (.cells #[.int .i64 K, .int .i64 N, .slice A2 nx.length c2, .slice A3 out.length c3] 34)).alloc (.cells #[.int .i64 0, .int .i64 0, .int .i64 0, .int .i64 0, .slice none 0 0, .slice none 0 0] 50)).alloc (.cells #[.int .i64 1, .int .i64 K, .int .i64 2, .int .i64 N, (.slice none 0 0), (.slice none 0 0)] 50)).cell? ⟨w.heap.size, 2, none⟩ = some (.slice A2 nx.length c2) := (blk_cell (HS0.out.get 4 rfl) 2).trans rfl
  clear hr2 hr3 hw h
  go_enter Try.func50, Try.ntmps50
  go_wp2
  clear hq
  generalize (((w.alloc (.cells #[.int .i64 K, .int .i64 N, .slice A2 nx.length c2, .slice A3 out.length c3] 34)).alloc (.cells #[.int .i64 0, .int .i64 0, .int .i64 0, .int .i64 0, .slice none 0 0, .slice none 0 0] 50)).alloc (.cells #[.int .i64 1, .int .i64 K, .int .i64 2, .int .i64 N, (.slice none 0 0), (.slice none 0 0)] 50)) = w1 at HS0 HB0 ⊢
  generalize hgm : w.heap.size + 1 + 1 = gm at HS0 ⊢
  clear hgm
  go_loopw [17] (fun v17 wr => ∃ (i : Nat) (vx : Value), v17 = .int .i64 (i : Int) ∧ Aside0 (i ≤ nx.length) ∧ Aside0 (Sep w.heap.size [ints w.heap.size vx (wX N (nx.take i)), ints w.heap.size (.slice none 0 0) [], blk gm #[.int .i64 1, .int .i64 K, .int .i64 2, .int .i64 (wN N (nx.take i)), vx, (.slice none 0 0)] 50, blk (w.heap.size + 1) #[.int .i64 0, .int .i64 0, .int .i64 0, .int .i64 0, .slice none 0 0, .slice none 0 0] 50, blk w.heap.size #[.int .i64 K, .int .i64 N, .slice A2 nx.length c2, .slice A3 out.length c3] 34] wr) ∧ Aside0 (Below w.heap.size w wr)) (fun v17 _ => nx.length - (intOf v17).toNat)
  case atStart => exact ⟨0, _, rfl, ⟨Nat.zero_le _⟩, HS0, HB0⟩
  case round =>
    clear HS0 HB0
    obtain ⟨i, vx, rfl, HI, HSr, HBr⟩ := hrel
    by_cases hi : i < nx.length
    · have HIN := Aside0.mk hi
      have hi' : (i : Int) < (nx.length : Int) := by omega
      obtain ⟨ad, ea, hx⟩ := Kd.at_int (Kd.C_below HR2.out HBr.out) (i : Int) (by omega) hi'
      cases ea
      rw [Int.toNat_natCast] at hx
      obtain ⟨tt, ht⟩ : ∃ z, rd nx (i : Int) = z := ⟨_, rfl⟩
      rw [ht] at hx
      have HT := Aside0.mk ht
      have hlb : ((wX N (nx.take i)).length + 1) * 8 ≤ 140737488355328 := by rw [wX_len, List.length_take]; have := HW.out.2.2.1; omega
      clear hi ht
      by_cases hn : tt < 0
      · obtain ⟨N1, hN1⟩ : ∃ z, N + 1 = z := ⟨_, rfl⟩
        have hwN : wrap64 (N + 1) = N1 := by rw [← hN1]; have := HW.out.2.1; unfold wrap64; omega
        have HN1 := Aside0.mk hN1
        have HNG := Aside0.mk hn
        clear hN1
        go_wp2
        refine start_ (n := 8) (S := fun w' => w'.cell? ⟨w.heap.size, 1, none⟩ = some (.int .i64 N)) (ds := [7]) #[false, false, false, false, false, false, false, false] (by kernel_rfl) rfl rfl ((blk_cell ((HSr.out.low (below_drew1 (Below.refl _ _))).get 4 rfl) 1).trans rfl) (fun hHeld => ?_)
        refine with_tabW wh.tab6 wh.bits6 (fun HT_ HW_ => ?_)
        have HSd := Aside0.mk (HSr.out.low (below_drew1 (Below.refl _ _)))
        have HBd := Aside0.mk (below_drew1 HBr.out)
        clear HSr HBr
        generalize wr.drew = wd at HSd HBd hHeld ⊢
        refine pure_ (i := 0) (N := (some 23)) (v := ?_) (a' := ?_) #[true, false, false, false, false, false, false, false] rfl rfl (any_of HT_.out (by kernel_rfl)) (fun _ _ _ h => h) (Or.inl ⟨by rfl, ?_⟩) ?_ ?_
        rotate_left
        · intro w'
          go_simp
          with_reducible rfl
        rotate_left
        · simp only [Act.put, List.setIfInBounds_toArray, List.set_cons_zero, List.set_cons_succ, i64_w, i32_w]
          rfl
        refine pure_ (i := 2) (N := (some 25)) (v := ?_) (a' := ?_) #[true, false, true, false, false, false, false, false] rfl rfl (any_of HT_.out (by kernel_rfl)) (fun _ _ _ h => h) (Or.inl ⟨by rfl, ?_⟩) ?_ ?_
        rotate_left
        · intro w'
          go_simp
          with_reducible rfl
        rotate_left
        · simp only [Act.put, List.setIfInBounds_toArray, List.set_cons_zero, List.set_cons_succ, i64_w, i32_w]
          rfl
        refine take_ (i := 1) (N := (some 24)) (v := ?_) (a' := ?_) #[true, true, true, false, false, false, false, false] rfl rfl (take_ofW HT_.out HW_.out (by kernel_rfl)) (fun _ _ _ h => h) (Or.inl ⟨by rfl, ?_⟩) hHeld ?_ ?_
        rotate_left
        · rintro w' s0
          go_simp
          with_reducible rfl
        rotate_left
        · simp only [Act.put, List.setIfInBounds_toArray, List.set_cons_zero, List.set_cons_succ, i64_w, i32_w]
          rfl
        refine pure_ (i := 5) (N := (some 6)) (v := ?_) (a' := ?_) #[true, true, true, false, false, true, false, false] rfl rfl (any_of HT_.out (by kernel_rfl)) (fun _ _ _ h => h) (Or.inl ⟨by rfl, ?_⟩) ?_ ?_
        rotate_left
        · intro w'
          go_simp
          with_reducible rfl
        rotate_left
        · simp only [Act.put, List.setIfInBounds_toArray, List.set_cons_zero, List.set_cons_succ, i64_w, i32_w]
          rfl
        refine take_ (i := 3) (N := (some 26)) (v := ?_) (a' := ?_) #[true, true, true, true, false, true, false, false] rfl rfl (take_ofW HT_.out HW_.out (by kernel_rfl)) (fun _ _ _ h => h) (Or.inl ⟨by rfl, ?_⟩) hHeld ?_ ?_
        rotate_left
        · rintro w' s0
          go_simp
          with_reducible rfl
        rotate_left
        · simp only [Act.put, List.setIfInBounds_toArray, List.set_cons_zero, List.set_cons_succ, i64_w, i32_w]
          rfl
        refine pure_ (i := 4) (N := (some 27)) (v := ?_) (a' := ?_) #[true, true, true, true, true, true, false, false] rfl rfl (any_of HT_.out (by kernel_rfl)) (fun _ _ _ h => h) (Or.inl ⟨by rfl, ?_⟩) ?_ ?_
        rotate_left
        · intro w'
          go_simp
          with_reducible rfl
        rotate_left
        · simp only [Act.put, List.setIfInBounds_toArray, List.set_cons_zero, List.set_cons_succ, i64_w, i32_w]
          rfl
        refine pure_ (i := 6) (N := (some 28)) (v := ?_) (a' := ?_) #[true, true, true, true, true, true, true, false] rfl rfl (any_of HT_.out (by kernel_rfl)) (fun _ _ _ h => h) (Or.inl ⟨by rfl, ?_⟩) ?_ ?_
        rotate_left
        · intro w'
          go_simp
          with_reducible rfl
        rotate_left
        · simp only [Act.put, List.setIfInBounds_toArray, List.set_cons_zero, List.set_cons_succ, i64_w, i32_w]
          rfl
        refine last_ (i := 7) (N := none) #[true, true, true, true, true, true, true, true] rfl rfl (one_of HT_.out (by kernel_rfl)) (by decide) (fun Kc hK => ?_)
        have hfz : wd.frozen? ⟨gm, 3, none⟩ = false := blk_frozen (HSd.out.get 2 rfl) 3
        have hcl : wd.cell? ⟨gm, 3, none⟩ = some (.int .i64 (wN N (nx.take i))) := (blk_cell (HSd.out.get 2 rfl) 3).trans rfl
        refine skip_ (w1 := ?_) (by rfl) rfl ?_ ?_
        rotate_left
        · go_simp
          rfl
        have HS6 := Aside0.mk (HSd.out.cell 2 rfl 3 (.int .i64 N1) rfl HBd.out.size)
        have HB6 := Aside0.mk (HSd.out.belowSet (j := 3) (u := .int .i64 N1) 2 rfl HBd.out)
        generalize World.setCell wd ⟨gm, 3, none⟩ (.int .i64 N1) = w6 at HS6 HB6 ⊢
        clear hfz hcl HSd HBd hHeld
        refine hK.out _ _ ?_; clear hK Kc
        refine done_ (done_of HT_.out (by kernel_rfl)) ?_
        have hx4 : w6.cell? ⟨gm, 4, none⟩ = some vx := (blk_cell (HS6.out.get 2 rfl) 4).trans rfl
        go_wp2_with (first
        | ((with_reducible refine gate_builtin (b := .append) (xs := #[.tmp 30, .tmp 32]) rfl ?_)
           at_builtin
           refine Kd.R_append (Kd.int .i64) (w0 := w) w.heap.size rfl (.tmp 30) (.tmp 32) 32 3 (.int .i64 0) 8 rfl Try.underlying32 infoI rfl (by decide) (by omega) vx (wX N (nx.take i)) N [.int .i64 N] (fun _ => True) (fun _ => False) rfl (by simp [Act.eval]) rfl (fun _ hk => hk.elim) (fun _ _ => trivial) (Kd.R_mono (HS6.out.get 0 rfl) (fun _ _ => trivial)) HB6.out HB6.out.size hlb ?_
           intro v9 w9 ho hb hg hat
           obtain ⟨A9, c9, hv⟩ := Kd.R_slice ho
           obtain ⟨m9, hm9⟩ : ∃ m, ((wX N (nx.take i)) ++ [N]).length = m := ⟨_, rfl⟩
           rw [hm9] at hv
           subst hv
           clear hm9
           have HT9 := Aside0.mk (HS6.out.app 0 rfl rfl ho hg hat HB6.out.size)
           have hyg : w9.cell? ⟨gm, 4, none⟩ = some vx := (blk_cell (HT9.out.get 2 rfl) 4).trans rfl
           have hyf := blk_frozen (HT9.out.get 2 rfl) 4
           have HS9 := Aside0.mk (HT9.out.cell 2 rfl 4 (.slice A9 m9 c9) rfl hb.size)
           have HB9 := Aside0.mk (HT9.out.belowSet (j := 4) (u := .slice A9 m9 c9) 2 rfl hb)
           clear ho hb hg hat HT9))
        go_roundw
        case rel =>
          refine ⟨i + 1, .slice A9 m9 c9, congrArg (Value.int .i64) (w64s (by have := HIN.out; have := HW.out.2.2.1; omega)), ⟨HIN.out⟩, ⟨?_⟩, HB9⟩
          rw [take_rd HIN.out, wN_snoc, wX_snoc, HT.out, if_pos HNG.out, if_pos HNG.out, HN1.out]
          exact HS9.out
        case measure => exact meas_at HIN.out (by have := HW.out.2.2.1; omega)
      · have HNG := Aside0.mk hn
        have hn' : ¬ (tt < 0) := hn
        have hx4 : wr.cell? ⟨gm, 4, none⟩ = some vx := (blk_cell (HSr.out.get 2 rfl) 4).trans rfl
        clear hn
        go_wp2_with (first
        | ((with_reducible refine gate_builtin (b := .append) (xs := #[.tmp 30, .tmp 32]) rfl ?_)
           at_builtin
           refine Kd.R_append (Kd.int .i64) (w0 := w) w.heap.size rfl (.tmp 30) (.tmp 32) 32 3 (.int .i64 0) 8 rfl Try.underlying32 infoI rfl (by decide) (by omega) vx (wX N (nx.take i)) tt [.int .i64 tt] (fun _ => True) (fun _ => False) rfl (by simp [Act.eval]) rfl (fun _ hk => hk.elim) (fun _ _ => trivial) (Kd.R_mono (HSr.out.get 0 rfl) (fun _ _ => trivial)) HBr.out HBr.out.size hlb ?_
           intro v9 w9 ho hb hg hat
           obtain ⟨A9, c9, hv⟩ := Kd.R_slice ho
           obtain ⟨m9, hm9⟩ : ∃ m, ((wX N (nx.take i)) ++ [tt]).length = m := ⟨_, rfl⟩
           rw [hm9] at hv
           subst hv
           clear hm9
           have HT9 := Aside0.mk (HSr.out.app 0 rfl rfl ho hg hat HBr.out.size)
           have hyg : w9.cell? ⟨gm, 4, none⟩ = some vx := (blk_cell (HT9.out.get 2 rfl) 4).trans rfl
           have hyf := blk_frozen (HT9.out.get 2 rfl) 4
           have HS9 := Aside0.mk (HT9.out.cell 2 rfl 4 (.slice A9 m9 c9) rfl hb.size)
           have HB9 := Aside0.mk (HT9.out.belowSet (j := 4) (u := .slice A9 m9 c9) 2 rfl hb)
           clear ho hb hg hat HT9))
        go_roundw
        case rel =>
          refine ⟨i + 1, .slice A9 m9 c9, congrArg (Value.int .i64) (w64s (by have := HIN.out; have := HW.out.2.2.1; omega)), ⟨HIN.out⟩, ⟨?_⟩, HB9⟩
          rw [take_rd HIN.out, wN_snoc, wX_snoc, HT.out, if_neg HNG.out, if_neg HNG.out]
          exact HS9.out
        case measure => exact meas_at HIN.out (by have := HW.out.2.2.1; omega)
    · have hi' : ¬ ((i : Int) < (nx.length : Int)) := by omega
      obtain rfl : nx.length = i := by have := HI.out; omega
      rw [List.take_length] at HSr
      have hq : wr.cell? ⟨w.heap.size, 3, none⟩ = some (.slice A3 out.length c3) := (blk_cell (HSr.out.get 4 rfl) 3).trans rfl
      clear hi HI
      go_wp2
      clear hq
      go_loopw [39] (fun v39 wr => ∃ (i : Nat) (vo : Value), v39 = .int .i64 (i : Int) ∧ Aside0 (i ≤ out.length) ∧ Aside0 (Sep w.heap.size [ints w.heap.size vx (wX N nx), ints w.heap.size vo (wO (out.take i)), blk gm #[.int .i64 1, .int .i64 K, .int .i64 2, .int .i64 (wN N nx), vx, vo] 50, blk (w.heap.size + 1) #[.int .i64 0, .int .i64 0, .int .i64 0, .int .i64 0, .slice none 0 0, .slice none 0 0] 50, blk w.heap.size #[.int .i64 K, .int .i64 N, .slice A2 nx.length c2, .slice A3 out.length c3] 34] wr) ∧ Aside0 (Below w.heap.size w wr)) (fun v39 _ => out.length - (intOf v39).toNat)
      case atStart => exact ⟨0, _, rfl, ⟨Nat.zero_le _⟩, HSr, HBr⟩
      case round =>
        clear HSr HBr
        obtain ⟨i, vo, rfl, HI, HSr, HBr⟩ := hrel
        by_cases hi : i < out.length
        · have HIN := Aside0.mk hi
          have hi' : (i : Int) < (out.length : Int) := by omega
          obtain ⟨ad, ea, hx⟩ := Kd.at_int (Kd.C_below HR3.out HBr.out) (i : Int) (by omega) hi'
          cases ea
          rw [Int.toNat_natCast] at hx
          obtain ⟨tt, ht⟩ : ∃ z, rd out (i : Int) = z := ⟨_, rfl⟩
          rw [ht] at hx
          have HT := Aside0.mk ht
          obtain ⟨om, homy⟩ : ∃ z, max tt 0 = z := ⟨_, rfl⟩
          have homx : Builtin.max2 (.int .i64 tt) (.int .i64 0) = pure (.int .i64 om) := by rw [max2_int, ← homy]; congr 2; split <;> omega
          have HOM := Aside0.mk homy
          have hlb : ((wO (out.take i)).length + 1) * 8 ≤ 140737488355328 := by rw [wO_len, List.length_take]; have := HW.out.2.2.2; omega
          have hx5 : wr.cell? ⟨gm, 5, none⟩ = some vo := (blk_cell (HSr.out.get 2 rfl) 5).trans rfl
          clear hi ht homy
          go_wp2_with (first
          | ((with_reducible refine gate_builtin (b := .append) (xs := #[.tmp 44, .tmp 47]) rfl ?_)
             at_builtin
             refine Kd.R_append (Kd.int .i64) (w0 := w) w.heap.size rfl (.tmp 44) (.tmp 47) 32 3 (.int .i64 0) 8 rfl Try.underlying32 infoI rfl (by decide) (by omega) vo (wO (out.take i)) om [.int .i64 om] (fun _ => True) (fun _ => False) rfl (by simp [Act.eval]) rfl (fun _ hk => hk.elim) (fun _ _ => trivial) (Kd.R_mono (HSr.out.get 1 rfl) (fun _ _ => trivial)) HBr.out HBr.out.size hlb ?_
             intro v9 w9 ho hb hg hat
             obtain ⟨A9, c9, hv⟩ := Kd.R_slice ho
             obtain ⟨m9, hm9⟩ : ∃ m, ((wO (out.take i)) ++ [om]).length = m := ⟨_, rfl⟩
             rw [hm9] at hv
             subst hv
             clear hm9
             have HT9 := Aside0.mk (HSr.out.app 1 rfl rfl ho hg hat HBr.out.size)
             have hyg : w9.cell? ⟨gm, 5, none⟩ = some vo := (blk_cell (HT9.out.get 2 rfl) 5).trans rfl
             have hyf := blk_frozen (HT9.out.get 2 rfl) 5
             have HS9 := Aside0.mk (HT9.out.cell 2 rfl 5 (.slice A9 m9 c9) rfl hb.size)
             have HB9 := Aside0.mk (HT9.out.belowSet (j := 5) (u := .slice A9 m9 c9) 2 rfl hb)
             clear ho hb hg hat HT9))
          go_roundw
          case rel =>
            refine ⟨i + 1, .slice A9 m9 c9, congrArg (Value.int .i64) (w64s (by have := HIN.out; have := HW.out.2.2.2; omega)), ⟨HIN.out⟩, ⟨?_⟩, HB9⟩
            rw [take_rd HIN.out, wO_snoc, HT.out, HOM.out]
            exact HS9.out
          case measure => exact meas_at HIN.out (by have := HW.out.2.2.2; omega)
        · have hi' : ¬ ((i : Int) < (out.length : Int)) := by omega
          obtain rfl : out.length = i := by have := HI.out; omega
          rw [List.take_length] at HSr
          obtain ⟨N1, hN1⟩ : ∃ z, wN N nx = z := ⟨_, rfl⟩
          rw [hN1] at HSr
          have HN1 := Aside0.mk hN1
          have HG : Aside0 ((if N1 > 1024 then some (kzero 3) else if N1 > N then trim_Canon.f 1 K 2 N1 (wX N nx ++ List.replicate K.toNat N) (wO out ++ [0]) else trim_Canon.f 1 K 2 N1 (wX N nx) (wO out)) = some r) := ⟨by have h1 := H.out; unfold wholeG at h1; rw [hN1] at h1; exact h1⟩
          have hq3 : wr.cell? ⟨gm, 3, none⟩ = some (.int .i64 N1) := (blk_cell (HSr.out.get 2 rfl) 3).trans rfl
          have hq1 : wr.cell? ⟨w.heap.size, 1, none⟩ = some (.int .i64 N) := (blk_cell (HSr.out.get 4 rfl) 1).trans rfl
          clear hi HI hN1
          by_cases h1 : N1 > 1024
          · obtain rfl : kzero 3 = r := Option.some.inj ((if_pos h1).symm.trans HG.out)
            go_wp2_with (first
            | ((with_reducible refine gate_store (t := 50) (p := 2) rfl ?_)
               refine wpList_store_rowTo rfl 50 (.tmp 2) (.tmp 54) rfl rfl (w.heap.size + 1) #[.int .i64 0, .int .i64 0, .int .i64 0, .int .i64 0, .slice none 0 0, .slice none 0 0] rfl rfl 50 _ (HSr.out.get 3 rfl) ?_ ?_ (by simp [Value.oneCell']) ?_
               (focus (rw [i50]; rfl))
               (focus rfl)
               have HSz := Aside0.mk (HSr.out.setStruct 3 rfl #[.int .i64 0, .int .i64 0, .int .i64 0, .int .i64 0, .slice none 0 0, .slice none 0 0] HBr.out.size)
               have HBz := Aside0.mk (below_setRow HBr.out (HSr.out.bound 3 rfl (show w.heap.size + 1 = w.heap.size + 1 from rfl)).1 #[.int .i64 0, .int .i64 0, .int .i64 0, .int .i64 0, .slice none 0 0, .slice none 0 0])
               generalize World.setRow _ (w.heap.size + 1) _ = wz at HSz HBz ⊢))
            refine bodyPost_ret (results_ct rfl _ _ (w.heap.size + 1) 50 #[.int .i64 0, .int .i64 0, .int .i64 0, .int .i64 0, .slice none 0 0, .slice none 0 0] (0, 0) _ rfl (HSz.out.get 3 rfl) Try.underlying50 rfl (by kernel_rfl)) rfl ?_
            exact CanPost.zero HBz.out
          · have HG2 := Aside0.mk ((if_neg h1).symm.trans HG.out)
            have h1' : ¬ (N1 > 1024) := h1
            by_cases h2 : N1 > N
            · have HG3 := Aside0.mk ((if_pos h2).symm.trans HG2.out)
              clear h1 HG HG2 H
              obtain ⟨kn, rfl⟩ : ∃ kn : Nat, K = (kn : Int) := ⟨K.toNat, by have := HW.out.1; omega⟩
              have h2' : N1 > N := h2
              have hx5 : wr.cell? ⟨gm, 5, none⟩ = some vo := (blk_cell (HSr.out.get 2 rfl) 5).trans rfl
              have hlb : ((wO out).length + 1) * 8 ≤ 140737488355328 := by rw [wO_len]; have := HW.out.2.2.2; omega
              have hkb : kn ≤ 64 := by have := HW.out.1; omega
              have HKB := Aside0.mk hkb
              clear hkb h2
              go_wp2_with (first
              | ((with_reducible refine gate_builtin (b := .append) (xs := #[.tmp 61, .tmp 62]) rfl ?_)
                 at_builtin
                 refine Kd.R_append (Kd.int .i64) (w0 := w) w.heap.size rfl (.tmp 61) (.tmp 62) 32 3 (.int .i64 0) 8 rfl Try.underlying32 infoI rfl (by decide) (by omega) vo (wO out) 0 [.int .i64 0] (fun _ => True) (fun _ => False) rfl (by simp [Act.eval]) rfl (fun _ hk => hk.elim) (fun _ _ => trivial) (Kd.R_mono (HSr.out.get 1 rfl) (fun _ _ => trivial)) HBr.out HBr.out.size hlb ?_
                 intro v9 w9 ho hb hg hat
                 obtain ⟨A9, c9, hv⟩ := Kd.R_slice ho
                 obtain ⟨m9, hm9⟩ : ∃ m, ((wO out) ++ [0]).length = m := ⟨_, rfl⟩
                 rw [hm9] at hv
                 subst hv
                 clear hm9
                 have HT9 := Aside0.mk (HSr.out.app 1 rfl rfl ho hg hat HBr.out.size)
                 have hyg : w9.cell? ⟨gm, 5, none⟩ = some vo := (blk_cell (HT9.out.get 2 rfl) 5).trans rfl
                 have hyf := blk_frozen (HT9.out.get 2 rfl) 5
                 have HS9 := Aside0.mk (HT9.out.cell 2 rfl 5 (.slice A9 m9 c9) rfl hb.size)
                 have HB9 := Aside0.mk (HT9.out.belowSet (j := 5) (u := .slice A9 m9 c9) 2 rfl hb)
                 have hqk : (World.setCell w9 ⟨gm, 5, none⟩ (.slice A9 m9 c9)).cell? ⟨gm, 1, none⟩ = some (.int .i64 (kn : Int)) := (blk_cell (HS9.out.get 2 rfl) 1).trans rfl
                 clear ho hb hg hat HT9))
              clear hq1 hq3 hx5 hqk
              generalize World.setCell w9 ⟨gm, 5, none⟩ (.slice A9 m9 c9) = w10 at HS9 HB9 ⊢
              generalize (Value.slice A9 m9 c9) = vq at HS9 ⊢
              go_loopw [67] (fun v67 wr => ∃ (x : Nat) (vx : Value), v67 = .int .i64 (x : Int) ∧ Aside0 (x ≤ kn) ∧ Aside0 (Sep w.heap.size [ints w.heap.size vx (wX N nx ++ List.replicate x N), ints w.heap.size vq (wO out ++ [0]), blk gm #[.int .i64 1, .int .i64 (kn : Int), .int .i64 2, .int .i64 N1, vx, vq] 50, blk (w.heap.size + 1) #[.int .i64 0, .int .i64 0, .int .i64 0, .int .i64 0, .slice none 0 0, .slice none 0 0] 50, blk w.heap.size #[.int .i64 (kn : Int), .int .i64 N, .slice A2 nx.length c2, .slice A3 out.length c3] 34] wr) ∧ Aside0 (Below w.heap.size w wr)) (fun v67 _ => kn - (intOf v67).toNat)
              case atStart => exact ⟨0, vx, rfl, ⟨Nat.zero_le _⟩, ⟨by rw [List.replicate_zero, List.append_nil]; exact HS9.out⟩, HB9⟩
              case round =>
                clear HS9 HB9 HSr HBr
                obtain ⟨x, vx, rfl, HX, HSr, HBr⟩ := hrel
                by_cases hx : x < kn
                · have HXN := Aside0.mk hx
                  have hx' : (x : Int) < (kn : Int) := by omega
                  have hq4 : wr.cell? ⟨gm, 4, none⟩ = some vx := (blk_cell (HSr.out.get 2 rfl) 4).trans rfl
                  have hq1 : wr.cell? ⟨w.heap.size, 1, none⟩ = some (.int .i64 N) := (blk_cell (HSr.out.get 4 rfl) 1).trans rfl
                  have hlb2 : ((wX N nx ++ List.replicate x N).length + 1) * 8 ≤ 140737488355328 := by rw [List.length_append, wX_len, List.length_replicate]; have := HW.out.2.2.1; have := HKB.out; omega
                  clear hx
                  go_wp2_with (first
                  | ((with_reducible refine gate_builtin (b := .append) (xs := #[.tmp 70, .tmp 73]) rfl ?_)
                     at_builtin
                     refine Kd.R_append (Kd.int .i64) (w0 := w) w.heap.size rfl (.tmp 70) (.tmp 73) 32 3 (.int .i64 0) 8 rfl Try.underlying32 infoI rfl (by decide) (by omega) vx (wX N nx ++ List.replicate x N) N [.int .i64 N] (fun _ => True) (fun _ => False) rfl (by simp [Act.eval]) rfl (fun _ hk => hk.elim) (fun _ _ => trivial) (Kd.R_mono (HSr.out.get 0 rfl) (fun _ _ => trivial)) HBr.out HBr.out.size hlb2 ?_
                     intro v8 w8 ho hb hg hat
                     obtain ⟨A8, c8, hv⟩ := Kd.R_slice ho
                     obtain ⟨m8, hm9⟩ : ∃ m, ((wX N nx ++ List.replicate x N) ++ [N]).length = m := ⟨_, rfl⟩
                     rw [hm9] at hv
                     subst hv
                     clear hm9
                     have HT8 := Aside0.mk (HSr.out.app 0 rfl rfl ho hg hat HBr.out.size)
                     have hyg : w8.cell? ⟨gm, 4, none⟩ = some vx := (blk_cell (HT8.out.get 2 rfl) 4).trans rfl
                     have hyf := blk_frozen (HT8.out.get 2 rfl) 4
                     have HS8 := Aside0.mk (HT8.out.cell 2 rfl 4 (.slice A8 m8 c8) rfl hb.size)
                     have HB8 := Aside0.mk (HT8.out.belowSet (j := 4) (u := .slice A8 m8 c8) 2 rfl hb)
                     clear ho hb hg hat HT8))
                  go_roundw
                  case rel =>
                    refine ⟨x + 1, .slice A8 m8 c8, congrArg (Value.int .i64) (w64s (by have := HXN.out; have := HKB.out; omega)), ⟨HXN.out⟩, ⟨?_⟩, HB8⟩
                    rw [List.replicate_succ', ← List.append_assoc]
                    exact HS8.out
                  case measure => exact meas_at HXN.out (by have := HKB.out; omega)
                · have hx' : ¬ ((x : Int) < (kn : Int)) := by omega
                  obtain rfl : kn = x := by have := HX.out; omega
                  clear hx HX
                  rw [Int.toNat_natCast] at HG3
                  obtain ⟨An, cN, hvn⟩ := Kd.R_slice (HSr.out.get 0 rfl)
                  obtain ⟨Ao, cO, hvo⟩ := Kd.R_slice (HSr.out.get 1 rfl)
                  have hCn := row_C (A := An) (c := cN) (by have h1 := HSr.out.get 0 rfl; rw [hvn] at h1; exact h1)
                  have hCo := row_C (A := Ao) (c := cO) (by have h1 := HSr.out.get 1 rfl; rw [hvo] at h1; exact h1)
                  have HCN := Aside0.mk hCn
                  have HCO := Aside0.mk hCo
                  clear hCn hCo
                  obtain ⟨mn, hmn⟩ : ∃ m, (wX N nx ++ List.replicate kn N).length = m := ⟨_, rfl⟩
                  obtain ⟨mo, hmo⟩ : ∃ m, (wO out ++ [0]).length = m := ⟨_, rfl⟩
                  rw [hmn] at hvn
                  rw [hmo] at hvo
                  have HMN := Aside0.mk hmn
                  have HMO := Aside0.mk hmo
                  clear hmn hmo
                  subst hvn hvo
                  go_wp2_with (first
                  | ((with_reducible refine gate_store (t := 50) (p := 2) rfl ?_)
                     refine wpList_store_rowTo rfl 50 (.tmp 2) (.tmp 79) rfl rfl (w.heap.size + 1) #[.int .i64 r.1, .int .i64 r.2.1, .int .i64 r.2.2.1, .int .i64 r.2.2.2.1, .slice A4 m4 c4, .slice A5 m5 c5] rfl rfl 50 _ (HS6.out.get 5 rfl) ?_ ?_ (by simp [Value.oneCell']) ?_
                     (focus (rw [i50]; rfl))
                     (focus rfl)
                     have HSz := Aside0.mk (HS6.out.setStruct 5 rfl #[.int .i64 r.1, .int .i64 r.2.1, .int .i64 r.2.2.1, .int .i64 r.2.2.2.1, .slice A4 m4 c4, .slice A5 m5 c5] HB6.out.size)
                     have HBz := Aside0.mk (below_setRow HB6.out (HS6.out.bound 5 rfl (show w.heap.size + 1 = w.heap.size + 1 from rfl)).1 #[.int .i64 r.1, .int .i64 r.2.1, .int .i64 r.2.2.1, .int .i64 r.2.2.2.1, .slice A4 m4 c4, .slice A5 m5 c5])
                     generalize World.setRow _ (w.heap.size + 1) _ = wz at HSz HBz ⊢)
                  | (go_at_call 67; have hcw := Canon_walk 1 (kn : Int) 2 N1 An cN (wX N nx ++ List.replicate kn N) Ao cO (wO out ++ [0]) r _ HCN.out.1 HCN.out.2 HCO.out.1 HCO.out.2 HG3.out; rw [HMN.out, HMO.out] at hcw; refine hcw.mono ?_; clear hcw; rintro e w5 ⟨v4, v5, rfl, hs, hb⟩; obtain ⟨A4, c4, hv4⟩ := Kd.R_slice (hs.get 0 rfl); obtain ⟨A5, c5, hv5⟩ := Kd.R_slice (hs.get 1 rfl); obtain ⟨m4, hm4⟩ : ∃ m, r.2.2.2.2.1.length = m := ⟨_, rfl⟩; obtain ⟨m5, hm5⟩ : ∃ m, r.2.2.2.2.2.1.length = m := ⟨_, rfl⟩; rw [hm4] at hv4; rw [hm5] at hv5; subst hv4 hv5; clear hm4 hm5; have HS6 := Aside0.mk (Sep.over HSr.out hb hs HBr.out.size); have HB6 := Aside0.mk (below_step HBr.out hb); have HBW := Aside0.mk HBr.out.size; clear hs hb)
                  | ((with_reducible refine gate_dst (N := 77) rfl ?_)
                     refine wpList_load_row rfl 50 (.tmp 4) rfl gm rfl 50 #[.int .i64 1, .int .i64 (kn : Int), .int .i64 2, .int .i64 N1, .slice An mn cN, .slice Ao mo cO] (0, 0) _ (HSr.out.get 2 rfl) Try.underlying50 rfl ?_ ?_
                     (focus (rw [i50]; rfl))))
                  refine bodyPost_ret (results_ct rfl _ _ (w.heap.size + 1) 50 #[.int .i64 r.1, .int .i64 r.2.1, .int .i64 r.2.2.1, .int .i64 r.2.2.2.1, .slice A4 m4 c4, .slice A5 m5 c5] (0, 0) _ rfl (HSz.out.get 5 rfl) Try.underlying50 rfl (by kernel_rfl)) rfl ?_
                  exact ⟨_, _, rfl, two_base (HSz.out.sub (.cons_cons _ (.cons_cons _ (List.nil_sublist _)))) HBW.out, HBz.out⟩
            · have HG3 := Aside0.mk ((if_neg h2).symm.trans HG2.out)
              clear h1 HG HG2 H
              obtain ⟨An, cN, hvn⟩ := Kd.R_slice (HSr.out.get 0 rfl)
              obtain ⟨Ao, cO, hvo⟩ := Kd.R_slice (HSr.out.get 1 rfl)
              have hCn := row_C (A := An) (c := cN) (by have h1 := HSr.out.get 0 rfl; rw [hvn] at h1; exact h1)
              have hCo := row_C (A := Ao) (c := cO) (by have h1 := HSr.out.get 1 rfl; rw [hvo] at h1; exact h1)
              have HCN := Aside0.mk hCn
              have HCO := Aside0.mk hCo
              clear hCn hCo
              obtain ⟨mn, hmn⟩ : ∃ m, (wX N nx).length = m := ⟨_, rfl⟩
              obtain ⟨mo, hmo⟩ : ∃ m, (wO out).length = m := ⟨_, rfl⟩
              rw [hmn] at hvn
              rw [hmo] at hvo
              have HMN := Aside0.mk hmn
              have HMO := Aside0.mk hmo
              clear hmn hmo
              subst hvn hvo
              go_wp2_with (first
              | ((with_reducible refine gate_store (t := 50) (p := 2) rfl ?_)
                 refine wpList_store_rowTo rfl 50 (.tmp 2) (.tmp 79) rfl rfl (w.heap.size + 1) #[.int .i64 r.1, .int .i64 r.2.1, .int .i64 r.2.2.1, .int .i64 r.2.2.2.1, .slice A4 m4 c4, .slice A5 m5 c5] rfl rfl 50 _ (HS6.out.get 5 rfl) ?_ ?_ (by simp [Value.oneCell']) ?_
                 (focus (rw [i50]; rfl))
                 (focus rfl)
                 have HSz := Aside0.mk (HS6.out.setStruct 5 rfl #[.int .i64 r.1, .int .i64 r.2.1, .int .i64 r.2.2.1, .int .i64 r.2.2.2.1, .slice A4 m4 c4, .slice A5 m5 c5] HB6.out.size)
                 have HBz := Aside0.mk (below_setRow HB6.out (HS6.out.bound 5 rfl (show w.heap.size + 1 = w.heap.size + 1 from rfl)).1 #[.int .i64 r.1, .int .i64 r.2.1, .int .i64 r.2.2.1, .int .i64 r.2.2.2.1, .slice A4 m4 c4, .slice A5 m5 c5])
                 generalize World.setRow _ (w.heap.size + 1) _ = wz at HSz HBz ⊢)
              | (go_at_call 67; have hcw := Canon_walk 1 K 2 N1 An cN (wX N nx) Ao cO (wO out) r _ HCN.out.1 HCN.out.2 HCO.out.1 HCO.out.2 HG3.out; rw [HMN.out, HMO.out] at hcw; refine hcw.mono ?_; clear hcw; rintro e w5 ⟨v4, v5, rfl, hs, hb⟩; obtain ⟨A4, c4, hv4⟩ := Kd.R_slice (hs.get 0 rfl); obtain ⟨A5, c5, hv5⟩ := Kd.R_slice (hs.get 1 rfl); obtain ⟨m4, hm4⟩ : ∃ m, r.2.2.2.2.1.length = m := ⟨_, rfl⟩; obtain ⟨m5, hm5⟩ : ∃ m, r.2.2.2.2.2.1.length = m := ⟨_, rfl⟩; rw [hm4] at hv4; rw [hm5] at hv5; subst hv4 hv5; clear hm4 hm5; have HS6 := Aside0.mk (Sep.over HSr.out hb hs HBr.out.size); have HB6 := Aside0.mk (below_step HBr.out hb); have HBW := Aside0.mk HBr.out.size; clear hs hb)
              | ((with_reducible refine gate_dst (N := 77) rfl ?_)
                 refine wpList_load_row rfl 50 (.tmp 4) rfl gm rfl 50 #[.int .i64 1, .int .i64 K, .int .i64 2, .int .i64 N1, .slice An mn cN, .slice Ao mo cO] (0, 0) _ (HSr.out.get 2 rfl) Try.underlying50 rfl ?_ ?_
                 (focus (rw [i50]; rfl))))
              refine bodyPost_ret (results_ct rfl _ _ (w.heap.size + 1) 50 #[.int .i64 r.1, .int .i64 r.2.1, .int .i64 r.2.2.1, .int .i64 r.2.2.2.1, .slice A4 m4 c4, .slice A5 m5 c5] (0, 0) _ rfl (HSz.out.get 5 rfl) Try.underlying50 rfl (by kernel_rfl)) rfl ?_
              exact ⟨_, _, rfl, two_base (HSz.out.sub (.cons_cons _ (.cons_cons _ (List.nil_sublist _)))) HBW.out, HBz.out⟩
end Go.Proofs.Ytocejofjmmoeaaa.X
end

section
namespace Go.Proofs.Ytocejofjmmoeaaa.X
open Go.RowKit Go.Proofs.YtocejofjmmoeaaaW.PrintWords Go.Proofs.YtocejofjmmoeaaaW.PrintLast Go.Proofs.YtocejofjmmoeaaaW.PrintMore
open Go.Proofs.Ytocejofjmmoeaaa Go.Proofs.Ytocejofjmmoeaaa.Sp
theorem sample_whole.calls (a0_0 : Int) (a0_1 : Int) (A0_2 : Option Addr) (c0_2 : Nat) (l0_2 : List Int) (A0_3 : Option Addr) (c0_3 : Nat) (l0_3 : List Int) (r1 : Int) (r2 : Int) (r3 : Int) (r4 : Int) (r5 : List Int) (r6 : List Int) (r7 : Int) (w : World) (hr0_2 : Kd.C (Kd.int .i64) w A0_2 l0_2.length l0_2) (hc0_2 : l0_2.length ≤ c0_2) (hr0_3 : Kd.C (Kd.int .i64) w A0_3 l0_3.length l0_3) (hc0_3 : l0_3.length ≤ c0_3) (h : sample_whole.f a0_0 a0_1 l0_2 l0_3 = some (r1, r2, r3, r4, r5, r6, r7)) :
    Calls Try.prog 50 #[.agg #[.int .i64 a0_0, .int .i64 a0_1, .slice A0_2 l0_2.length c0_2, .slice A0_3 l0_3.length c0_3]] w fun e w' => ∃ v4_ v5_ : Value, e = .returned (.tuple #[.agg #[.int .i64 r1, .int .i64 r2, .int .i64 r3, .int .i64 r4, v4_, v5_], .int .i64 r7]) ∧ Kd.R (Kd.int .i64) 3 w' w.heap.size (fun k_ => some k_ ≠ (v5_ : Value).ownBlock) v4_ r5 ∧ Kd.R (Kd.int .i64) 3 w' w.heap.size (fun k_ => some k_ ≠ (v4_ : Value).ownBlock) v5_ r6 ∧ Below w.heap.size w w' := by
  unfold sample_whole.f at h
  by_cases hw : WholeOk a0_0 a0_1 l0_2 l0_3
  · rw [if_pos hw] at h
    refine (Whole_walk a0_0 a0_1 A0_2 c0_2 l0_2 A0_3 c0_3 l0_3 _ w hr0_2 hr0_3 hw h).mono ?_
    rintro e w' ⟨v4, v5, rfl, hS, hb⟩
    exact ⟨v4, v5, rfl, Kd.R_mono (hS.get 0 rfl) (fun k hk he => hS.apart (i := 0) (j := 1) rfl rfl (by decide) hk he), Kd.R_mono (hS.get 1 rfl) (fun k hk he => hS.apart (i := 1) (j := 0) rfl rfl (by decide) hk he), hb⟩
  · rw [if_neg hw] at h; cases h
end Go.Proofs.Ytocejofjmmoeaaa.X
end
