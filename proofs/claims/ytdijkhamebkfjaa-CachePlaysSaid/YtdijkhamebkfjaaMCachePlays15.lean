/- Texts of the statement CachePlays, one behind the other: Go functions as Lean functions, the machine's calls, the plain law. -/
import Derived.Test.YtdijkhamebkfjaaMCachePlays4
import Derived.Test.YtdijkhamebkfjaaMCachePlays10
import Derived.Test.YtdijkhamebkfjaaMCachePlays14
set_option linter.unusedVariables false
set_option linter.unusedSimpArgs false
section
namespace Go.Proofs.Ytdijkhamebkfjaa.X
open Go.RowKit Go.Proofs.YtdijkhamebkfjaaW.PrintWords Go.Proofs.YtdijkhamebkfjaaW.PrintLast Go.Proofs.YtdijkhamebkfjaaW.PrintMore
open Go.Proofs.Ytdijkhamebkfjaa Go.Proofs.Ytdijkhamebkfjaa.Sp
def pl.T14 : Bool × List (List Nat × List Nat) := (true, [([], []), ([], []), ([0, 1], [0, 1]), ([2], [2]), ([3], [3]), ([4], [4]), ([], []), ([], []), ([6, 7], [6, 7]), ([8], [8]), ([9], [9]), ([10, 5], [10]), ([5, 11, 0, 1, 2, 3, 4, 5], [5]), ([11, 12, 0, 1, 2, 3, 4, 5, 6, 7, 8, 9, 10, 11, 12], [11])])
def pl.B14 : List Nat := [0, 0, 3, 7, 15, 31, 0, 0, 192, 448, 960, 2047, 4095, 8191]
theorem pl.tab14 : rtab .any (opsOf Try.f6 14) = pl.T14 := by kernel_rfl
theorem pl.bits14 : waitsOk pl.T14.2 pl.B14 = true := by kernel_rfl
def pl.T16 : Bool × List (List Nat × List Nat) := (true, [([], []), ([], []), ([], []), ([1, 2], [1, 2]), ([3], [3]), ([4], [4]), ([0, 5], [0, 5]), ([6], [6]), ([7], [7]), ([7], [7]), ([8, 6, 0, 1, 2, 3, 4, 5, 6, 7, 8], [8]), ([9, 10, 0, 1, 2, 3, 4, 5, 6, 7, 8, 9, 10], [9])])
def pl.B16 : List Nat := [0, 0, 0, 6, 14, 30, 63, 127, 255, 255, 511, 2047]
theorem pl.tab16 : rtab .any (opsOf Try.f6 16) = pl.T16 := by kernel_rfl
theorem pl.bits16 : waitsOk pl.T16.2 pl.B16 = true := by kernel_rfl
def pl.T21 : Bool × List (List Nat × List Nat) := (true, [([], []), ([], []), ([], []), ([1, 2], [1, 2]), ([3], [3]), ([4], [4]), ([], []), ([], []), ([6, 7], [6, 7]), ([8], [8]), ([9], [9]), ([0, 5, 10], [0, 5, 10]), ([11], [11]), ([12], [12]), ([12], [12]), ([], []), ([15, 13, 11, 0, 1, 2, 3, 4, 5, 6, 7, 8, 9, 10, 11, 12, 13, 15], [13, 15]), ([14, 16, 0, 1, 2, 3, 4, 5, 6, 7, 8, 9, 10, 11, 12, 13, 14, 15, 16], [14])])
def pl.B21 : List Nat := [0, 0, 0, 6, 14, 30, 0, 0, 192, 448, 960, 2047, 4095, 8191, 8191, 0, 49151, 131071]
theorem pl.tab21 : rtab .any (opsOf Try.f6 21) = pl.T21 := by kernel_rfl
theorem pl.bits21 : waitsOk pl.T21.2 pl.B21 = true := by kernel_rfl
def pl.T27 : Bool × List (List Nat × List Nat) := (true, [([], []), ([], []), ([], []), ([1, 2], [1, 2]), ([3], [3]), ([4], [4]), ([0, 5], [0, 5]), ([6], [6]), ([7], [7]), ([7], [7]), ([8, 6, 0, 1, 2, 3, 4, 5, 6, 7, 8], [8]), ([9, 10, 0, 1, 2, 3, 4, 5, 6, 7, 8, 9, 10], [9])])
def pl.B27 : List Nat := [0, 0, 0, 6, 14, 30, 63, 127, 255, 255, 511, 2047]
theorem pl.tab27 : rtab .any (opsOf Try.f6 27) = pl.T27 := by kernel_rfl
theorem pl.bits27 : waitsOk pl.T27.2 pl.B27 = true := by kernel_rfl
def pl.T33 : Bool × List (List Nat × List Nat) := (true, [([], []), ([0], [0]), ([], []), ([2], [2]), ([3], [3]), ([1, 4], [1, 4]), ([5, 1], [5]), ([6], [6]), ([7, 6, 6], [6, 7]), ([6], [6]), ([9, 6], [6, 9]), ([8, 10, 6], [6, 8, 10]), ([6, 11], [6, 11]), ([12, 8], [12]), ([13], [13]), ([14, 13, 13], [13, 14]), ([13], [13]), ([16, 13], [13, 16]), ([15, 17, 13], [13, 15, 17]), ([13, 18], [13, 18]), ([19, 15], [19]), ([20], [20]), ([20], [20]), ([20], [20]), ([22, 23, 20], [20, 22, 23]), ([24, 20], [20, 24]), ([25, 20], [20, 25]), ([21, 26, 20, 20], [20, 21, 26]), ([27, 20], [20, 27]), ([20, 28], [20, 28]), ([29, 27], [29]), ([30], [30]), ([30], [30]), ([30], [30]), ([32, 33, 30], [30, 32, 33]), ([34, 30], [30, 34]), ([35, 30], [30, 35]), ([31, 36, 30, 30], [30, 31, 36]), ([37, 30], [30, 37]), ([30, 38], [30, 38])])
def pl.B33 : List Nat := [0, 1, 0, 4, 12, 31, 63, 127, 255, 127, 639, 2047, 4095, 8191, 16383, 32767, 16383, 81919, 262143, 524287, 1048575, 2097151, 2097151, 2097151, 14680063, 31457279, 65011711, 134217727, 268435455, 536870911, 1073741823, 2147483647, 2147483647, 2147483647, 15032385535, 32212254719, 66571993087, 137438953471, 274877906943, 549755813887]
theorem pl.tab33 : rtab .any (opsOf Try.f6 33) = pl.T33 := by kernel_rfl
theorem pl.bits33 : waitsOk pl.T33.2 pl.B33 = true := by kernel_rfl
def pl.T35 : Bool × List (List Nat × List Nat) := (true, [([], []), ([0], [0]), ([], []), ([2, 1], [2]), ([1, 3, 3], [1, 3]), ([4, 4], [4]), ([5, 5], [5]), ([5, 6], [5, 6]), ([7, 6, 0, 1, 2, 3, 4, 5, 6, 7], [7])])
def pl.B35 : List Nat := [0, 1, 0, 7, 15, 31, 63, 127, 255]
theorem pl.tab35 : rtab .any (opsOf Try.f6 35) = pl.T35 := by kernel_rfl
theorem pl.bits35 : waitsOk pl.T35.2 pl.B35 = true := by kernel_rfl
theorem _root_.Go.Proofs.Ytdijkhamebkfjaa.Sp.Sep.turn01 {base : Nat} {a b c : Res} {w : World} (h : Sep base [a, b, c] w) : Sep base [b, a, c] w := by
  refine ⟨fun r hr => h.1 r (by simp only [List.mem_cons, List.not_mem_nil, or_false] at hr ⊢; rcases hr with h | h | h <;> simp [h]), ?_⟩
  have h2 := h.2
  simp only [List.pairwise_cons, List.mem_cons, List.not_mem_nil, or_false, forall_eq_or_imp, forall_eq] at h2 ⊢
  obtain ⟨⟨h3, h4⟩, h5, _⟩ := h2
  exact ⟨⟨fun k hk hk' => h3 k hk' hk, h5⟩, h4, fun _ h => h.elim, List.Pairwise.nil⟩
theorem ref_put {base : Nat} {rs : List Res} {w w' : World} {P : Nat → Prop} {vW vU vG vW2 vU2 vG2 : Value} {W U G W2 U2 G2 : List (List Int)} (h : Sep base rs w) (i : Nat) (hi : rs[i]? = some (refR P vW vU vG W U G)) (hW : Wl (Since P w.heap.size w') w' vW2 W2) (hU : Wl (Since P w.heap.size w') w' vU2 U2) (hG : Wl (Since P w.heap.size w') w' vG2 G2) (hb : Below w.heap.size w w') (hbase : base ≤ w.heap.size) : Sep base (rs.set i (refR (Since P w.heap.size w') vW2 vU2 vG2 W2 U2 G2)) w' := by
  have hP : ∀ k, P k → k < w.heap.size := (h.get i hi).2.2.2
  refine h.upd i hi ⟨hW, hU, hG, fun k hk => ?_⟩ (fun k _ hlt => hb.block k hlt) (fun k hk => ?_) hbase hb.size
  · rcases hk with hk | hk
    · exact Nat.lt_of_lt_of_le (hP k hk) hb.size
    · exact hk.2
  · rcases hk with hk | hk
    · exact ⟨.inl hk, Nat.lt_of_lt_of_le (hP k hk) hb.size⟩
    · exact ⟨.inr hk.1, hk.2⟩
theorem lent_rd {base : Nat} {own : Nat → Prop} {rs : List Res} {w : World} {p : Res} {A : Option Addr} {n c : Nat} {xs : List Int} (h : Sep base rs w) (i j : Nat) (hi : rs[i]? = some p) (hp : ∀ k, own k → p.own k) (hj : rs[j]? = some (ints base (.slice A n c) (xs ++ [-771, -772]))) (hij : i ≠ j) :
    ∀ w1, (∀ k, k < w.heap.size → ¬ own k → w1.heap[k]? = w.heap[k]?) → Kd.C (Kd.int .i64) w1 A xs.length xs := fun w1 hk => by
  have h1 := row_rd h i j hi hp hj hij w1 hk
  have e := Kd.C_len h1
  subst e
  have h2 := C_cut h1 (i := xs.length) (by simp)
  rwa [List.take_left' rfl] at h2
theorem lent_C {w : World} {base : Nat} {ok : Nat → Prop} {A : Option Addr} {n c : Nat} {xs : List Int} (h : Kd.R (Kd.int .i64) 3 w base ok (.slice A n c) (xs ++ [-771, -772])) : Kd.C (Kd.int .i64) w A xs.length xs ∧ xs.length ≤ c := by
  obtain ⟨e, hc, h1⟩ := Kd.R_reads' h
  have h2 := C_cut h1 (i := xs.length) (by simp)
  rw [List.take_left' rfl] at h2
  refine ⟨h2, ?_⟩
  rw [e] at hc
  simp at hc
  omega
theorem RPutPost.open_ {P : Nat → Prop} {kd : Int} {K : Nat} {O : Int} {most : Nat} {h m : Int} {W U G W2 U2 G2 : List (List Int)} {l out : List Int} {w w' : World} {e : Ending} {x : Int} (hp : RPutPost P kd K O most h m W U G l out w e w') (hx : refErr kd K O most W U G l out = x) (hW : (if x = 0 then W ++ [l] else W) = W2) (hU : (if x = 0 then U ++ [out] else U) = U2) (hG : (if x = 0 then freshR G l (l.length + 1) else G) = G2) :
    ∃ (AW : Option Addr) (cW : Nat) (AU : Option Addr) (cU : Nat) (AG : Option Addr) (cG : Nat), e = .returned (.tuple #[.agg #[.int .i64 kd, .int .i64 (K : Int), .int .i64 O, .int .i64 0, .slice none 0 0, .slice none 0 0, .int .i64 (most : Int), .slice AW W2.length cW, .slice AU U2.length cU, .slice AG G2.length cG, .int .i64 h, .int .i64 m], .int .i64 x]) ∧
      Wl (Since P w.heap.size w') w' (.slice AW W2.length cW) W2 ∧ Wl (Since P w.heap.size w') w' (.slice AU U2.length cU) U2 ∧ Wl (Since P w.heap.size w') w' (.slice AG G2.length cG) G2 ∧ Below w.heap.size w w' := by
  obtain ⟨vW, vU, vG, he, h1, h2, h3, hb⟩ := hp
  rw [hx] at he h1 h2 h3
  rw [hW] at h1
  rw [hU] at h2
  rw [hG] at h3
  obtain ⟨AW, cW, rfl⟩ := h1.val
  obtain ⟨AU, cU, rfl⟩ := h2.val
  obtain ⟨AG, cG, rfl⟩ := h3.val
  exact ⟨AW, cW, AU, cU, AG, cG, he, h1, h2, h3, hb⟩
theorem Lists_mix {base : Nat} {o1 : Nat → Prop} {A1 A2 : Option Addr} {m1 c1 c2 : Nat} {L1 : Nat → List Int} {L2 : List (List Int)} {w : World} (h1 : (wordsR base o1 (.slice A1 m1 c1) m1 L1).at_ w) (h2 : Kd.C (Kd.slice 3 (Kd.int .i64)) w A2 L2.length L2) (hc2 : L2.length ≤ c2) (n : Nat) (B : Nat → List Int) (p : Nat → Bool) (hn : n ≤ 1048576) (hB : ∀ i, i < n → (B i).length ≤ n)
    (p1 : ((List.range m1).map L1).Perm (((List.range n).filter p).map B)) (p2 : L2.Perm (((List.range n).filter p).map B)) (s1 : ∀ i j, i < j → j < m1 → cmpW (L1 i) (L1 j) ≤ 0) (s2 : L2.Pairwise (fun x y => cmpW x y ≤ 0)) :
    Calls Try.prog 21 #[.slice A1 m1 c1, .slice A2 L2.length c2] w fun e w' => e = .returned (.bool true) ∧ Drawn0 w w' := by
  have e := sorted_one _ _ (p1.trans p2.symm) (sorted_map s1) s2
  obtain ⟨k1, l1⟩ := wordsR_C h1
  have hm : m1 = L2.length := by have := congrArg List.length e; simpa using this
  subst hm
  rw [e] at k1
  have hml : L2.length ≤ n := by
    have := p2.length_eq
    have h3 := List.length_filter_le p (List.range n)
    simp only [List.length_map, List.length_range] at this h3
    omega
  have hel : ∀ x ∈ L2, x.length ≤ 1000000000 := fun x hx => by
    obtain ⟨i, hi, rfl⟩ := List.mem_map.1 (p2.mem_iff.1 hx)
    have := hB i (List.mem_range.1 (List.mem_filter.1 hi).1)
    omega
  exact tutorref01_Lists.calls (L2.length + 1000000000 + 2) A1 c1 L2 A2 c2 L2 true w k1 l1 h2 hc2 (lists_same _ 1000000000 (Nat.le_refl _) hel (by omega))
theorem lmeas_at {a j : Nat} (e : wrap64 ((j : Int) + 1) = ((j + 1 : Nat) : Int)) (h : j < a) : a - (intOf (.int .i64 (wrap64 ((j : Int) + 1)))).toNat < a - (intOf (.int .i64 (j : Int))).toNat := by
  rw [e]
  show a - (((j + 1 : Nat) : Int)).toNat < a - ((j : Int)).toNat
  omega
theorem lmeas_at2 {a j : Nat} (h : j < a) : a - (intOf (.int .i64 ((j : Int) + 1))).toNat < a - (intOf (.int .i64 (j : Int))).toNat := by
  show a - ((j : Int) + 1).toNat < a - ((j : Int)).toNat
  omega
attribute [local go_sem] max2_int min2_int max_two min_two max_three min_three max_four min_four
set_option maxHeartbeats 16000000 in
set_option maxRecDepth 100000 in
theorem Play_much (a0 a1 a2 a3 : Int) (A4 : Option Addr) (c4 : Nat) (l4 : List S55) (w : World) (hr4 : Kd.C k55 w A4 l4.length l4) (hc4 : l4.length ≤ c4) (hmu : tutorlaw11_much.f 62 l4 = some true) : Calls Try.prog 6 #[.int .i64 a0, .int .i64 a1, .int .i64 a2, .int .i64 a3, .slice A4 l4.length c4] w fun e w' => e = .returned (.bool true) ∧ Below w.heap.size w w' := by
  have HR4 := Aside0.mk hr4
  have HMU := Aside0.mk hmu
  clear hr4 hmu
  go_enter Try.func6, Try.ntmps6
  go_wp2_with (first
  | (go_at_call 11; refine (live_walk w1).mono ?_
     rintro e w2 ⟨rfl, hb⟩
     have HB2 := Aside0.mk (below_step HB1.out hb)
     clear hb)
  | (go_at_call 22; refine (tutorlaw11_much.calls 62 A4 c4 l4 true w HR4.out hc4 HMU.out).mono ?_
     rintro e w1 ⟨rfl, hd⟩
     have HB1 := Aside0.mk hd.below
     clear hd))
  go_ret
  exact ⟨rfl, HB2.out⟩
set_option maxHeartbeats 16000000 in
set_option maxRecDepth 100000 in
theorem Play_err (a0 a1 a2 a3 : Int) (A4 : Option Addr) (c4 : Nat) (l4 : List S55) (w : World) (hr4 : Kd.C k55 w A4 l4.length l4) (hc4 : l4.length ≤ c4) (hmu : tutorlaw11_much.f 62 l4 = some false) (x : Int) (hx : newErr a0 a1 a2 a3 = x) (hx0 : x ≠ 0) : Calls Try.prog 6 #[.int .i64 a0, .int .i64 a1, .int .i64 a2, .int .i64 a3, .slice A4 l4.length c4] w fun e w' => e = .returned (.bool true) ∧ Below w.heap.size w w' := by
  have hu50 := Try.underlying50
  obtain ⟨z50, i50⟩ := zero_of_info info50
  have HR4 := Aside0.mk hr4
  have HMU := Aside0.mk hmu
  have hn : ∀ W, Calls Try.prog 12 #[.int .i64 a0, .int .i64 a1, .int .i64 a2, .int .i64 a3] W (NewErrPost W x) := fun W => by rw [← hx]; exact New_bad a0 a1 a2 a3 W (by rw [hx]; exact hx0)
  have hm : ∀ W, Calls Try.prog 23 #[.int .i64 a0, .int .i64 a1, .int .i64 a2, .int .i64 a3] W (RNewErrPost W x) := fun W => by rw [← hx]; exact RNew_bad a0 a1 a2 a3 W (by rw [hx]; exact hx0)
  have hxb : (x != 0) = true := by simpa using hx0
  clear hr4 hmu hx
  go_enter Try.func6, Try.ntmps6
  go_wp2_with (first
  | (go_at_call 11; refine (live_walk w5).mono ?_
     rintro e w6 ⟨rfl, hb⟩
     have HB6 := Aside0.mk (below_step HB5.out hb)
     clear hb)
  | (go_at_call 13; with_reducible refine (tutorlaw11_num.calls x x w4 rfl).mono ?_
     rintro e w5 ⟨rfl, hd⟩
     have HB5 := Aside0.mk (below_step HB4.out hd.below)
     clear hd)
  | ((with_reducible refine gate_store (t := 50) (p := 13) rfl ?_)
     refine wpList_store_rowTo rfl 50 (.tmp 13) (.tmp 44) rfl rfl w3.heap.size #[.int .i64 0, .int .i64 0, .int .i64 0, .int .i64 0, .slice none 0 0, .slice none 0 0, .int .i64 0, .slice none 0 0, .slice none 0 0, .slice none 0 0, .int .i64 0, .int .i64 0] rfl rfl 50 _ (blk_new w3 _) ?_ ?_ (by simp [Value.oneCell']) ?_
     (focus (rw [i50]; rfl))
     (focus rfl)
     rw [World.setRow_alloc_new]
     have HB4 := Aside0.mk (below_alloc HB3.out (.cells #[.int .i64 0, .int .i64 0, .int .i64 0, .int .i64 0, .slice none 0 0, .slice none 0 0, .int .i64 0, .slice none 0 0, .slice none 0 0, .slice none 0 0, .int .i64 0, .int .i64 0] 50))
     generalize w3.alloc (.cells #[.int .i64 0, .int .i64 0, .int .i64 0, .int .i64 0, .slice none 0 0, .slice none 0 0, .int .i64 0, .slice none 0 0, .slice none 0 0, .slice none 0 0, .int .i64 0, .int .i64 0] 50) = w4 at HB4 ⊢)
  | (go_at_call 23; refine (hm w2).mono ?_
     rintro e w3 ⟨rfl, hb⟩
     unfold zeroR
     have HB3 := Aside0.mk (below_step HB2.out hb)
     clear hb)
  | (go_at_call 12; refine (hn w1).mono ?_
     rintro e w2 ⟨rfl, hb⟩
     have HB2 := Aside0.mk (below_step HB1.out hb)
     clear hb)
  | (go_at_call 22; refine (tutorlaw11_much.calls 62 A4 c4 l4 false w HR4.out hc4 HMU.out).mono ?_
     rintro e w1 ⟨rfl, hd⟩
     have HB1 := Aside0.mk hd.below
     clear hd))
  go_ret
  exact ⟨rfl, HB6.out⟩
set_option maxHeartbeats 16000000 in
set_option maxRecDepth 100000 in
theorem Play_main (kd : Int) (K most : Nat) (O : Int) (A4 : Option Addr) (c4 : Nat) (l4 : List S55) (w : World) (hr4 : Kd.C k55 w A4 l4.length l4) (hc4 : l4.length ≤ c4) (hmu : tutorlaw11_much.f 62 l4 = some false) (hlb : l4.length ≤ 60) (hlw : ∀ j, j < l4.length → (rd_T55 l4 (j : Int)).f1.length ≤ 5000 ∧ (rd_T55 l4 (j : Int)).f2.length ≤ 5000) (he : newErr kd (K : Int) O (most : Int) = 0) : Calls Try.prog 6 #[.int .i64 kd, .int .i64 (K : Int), .int .i64 O, .int .i64 (most : Int), .slice A4 l4.length c4] w fun e w' => e = .returned (.bool true) ∧ Below w.heap.size w w' := by
  have hu47 := Try.underlying47
  have hu55 := Try.underlying55
  have hu25 := Try.underlying25
  have hu22 := Try.underlying22
  have hu50 := Try.underlying50
  have hu24 := Try.underlying24
  obtain ⟨z50, i50⟩ := zero_of_info info50
  have HR4 := Aside0.mk hr4
  have HMU := Aside0.mk hmu
  have HLW := Aside0.mk hlw
  have HLB := Aside0.mk hlb
  obtain ⟨hk1, hk2, hk3, _, _, _, hk7, hk8⟩ := newErr_ok he
  have HKD := Aside0.mk hk1
  have HKK : Aside0 (1 ≤ K ∧ K ≤ 64) := ⟨by omega, by omega⟩
  have HMO : Aside0 (1 ≤ most ∧ most ≤ 1048576) := ⟨by omega, by omega⟩
  have hnw : ∀ W, Calls Try.prog 12 #[.int .i64 kd, .int .i64 (K : Int), .int .i64 O, .int .i64 (most : Int)] W (NewPost W kd K O most) := fun W => New_ok kd (K : Int) O (most : Int) W he
  have hrn : ∀ W, Calls Try.prog 23 #[.int .i64 kd, .int .i64 (K : Int), .int .i64 O, .int .i64 (most : Int)] W (RNewPost W kd K O most) := fun W => RNew_ok kd K O most W he
  clear hr4 hmu hlw he hk1 hk2 hk3 hk7 hk8 hlb
  go_enter Try.func6, Try.ntmps6
  go_wp2_with (first
  | (go_at_call 13; with_reducible refine (tutorlaw11_num.calls 0 0 _ rfl).mono ?_
     rintro e w5 ⟨rfl, ⟨ndn, rfl⟩⟩
     have HS5 := Aside0.mk (HS4.out.low (pw_below_drewN (Below.refl _ _) ndn))
     have HB5 := Aside0.mk (pw_below_drewN HB4.out ndn)
     generalize World.drewN _ ndn = w5 at HS5 HB5 ⊢)
  | ((with_reducible refine gate_store (t := 50) (p := 13) rfl ?_)
     refine wpList_store_rowTo rfl 50 (.tmp 13) (.tmp 44) rfl rfl w3.heap.size #[.int .i64 kd, .int .i64 (K : Int), .int .i64 O, .int .i64 0, .slice none 0 0, .slice none 0 0, .int .i64 (most : Int), .slice none 0 0, .slice none 0 0, .slice AG0 1 cG0, .int .i64 0, .int .i64 0] rfl rfl 50 _ (blk_new w3 _) ?_ ?_ (by simp [Value.oneCell']) ?_
     (focus (rw [i50]; rfl))
     (focus rfl)
     rw [World.setRow_alloc_new]
     have HS4 : Aside0 (Sep w.heap.size [refR P0 (.slice none 0 0) (.slice none 0 0) (.slice AG0 1 cG0) [] [] [[]], blk w3.heap.size #[.int .i64 kd, .int .i64 (K : Int), .int .i64 O, .int .i64 0, .slice none 0 0, .slice none 0 0, .int .i64 (most : Int), .slice none 0 0, .slice none 0 0, .slice AG0 1 cG0, .int .i64 0, .int .i64 0] 50, trie w.heap.size own0 g kd K O most 1 (fun _ => []) (fun _ => -1) 0 0] (w3.alloc (.cells #[.int .i64 kd, .int .i64 (K : Int), .int .i64 O, .int .i64 0, .slice none 0 0, .slice none 0 0, .int .i64 (most : Int), .slice none 0 0, .slice none 0 0, .slice AG0 1 cG0, .int .i64 0, .int .i64 0] 50))) := ⟨(HS3.out.alloc #[.int .i64 kd, .int .i64 (K : Int), .int .i64 O, .int .i64 0, .slice none 0 0, .slice none 0 0, .int .i64 (most : Int), .slice none 0 0, .slice none 0 0, .slice AG0 1 cG0, .int .i64 0, .int .i64 0] 50 HB3.out.size).turn01⟩
     have HB4 := Aside0.mk (below_alloc HB3.out (.cells #[.int .i64 kd, .int .i64 (K : Int), .int .i64 O, .int .i64 0, .slice none 0 0, .slice none 0 0, .int .i64 (most : Int), .slice none 0 0, .slice none 0 0, .slice AG0 1 cG0, .int .i64 0, .int .i64 0] 50))
     obtain ⟨gd, hgd⟩ : ∃ gd, w3.heap.size = gd := ⟨_, rfl⟩
     rw [hgd] at HS4
     simp only [hgd]
     generalize w3.alloc (.cells #[.int .i64 kd, .int .i64 (K : Int), .int .i64 O, .int .i64 0, .slice none 0 0, .slice none 0 0, .int .i64 (most : Int), .slice none 0 0, .slice none 0 0, .slice AG0 1 cG0, .int .i64 0, .int .i64 0] 50) = w4 at HS4 HB4 ⊢
     clear hgd)
  | (go_at_call 23; refine (hrn w2).mono ?_
     rintro e w3 ⟨P0, AG0, cG0, rfl, hW, hP, hb⟩
     unfold stR
     have HS3 : Aside0 (Sep w.heap.size [refR P0 (.slice none 0 0) (.slice none 0 0) (.slice AG0 1 cG0) [] [] [[]], trie w.heap.size own0 g kd K O most 1 (fun _ => []) (fun _ => -1) 0 0] w3) := ⟨HS2.out.cons (refR P0 (.slice none 0 0) (.slice none 0 0) (.slice AG0 1 cG0) [] [] [[]]) ⟨Wl.nil _ _, Wl.nil _ _, hW, fun k hk => (hP k hk).2⟩ hb hP HB2.out.size⟩
     have HB3 := Aside0.mk (below_step HB2.out hb)
     clear hW hP hb)
  | (go_at_call 12; refine (hnw w1).mono ?_
     rintro e w2 ⟨g, own0, rfl, hS, hb⟩
     have HS2 : Aside0 (Sep w.heap.size [trie w.heap.size own0 g kd K O most 1 (fun _ => []) (fun _ => -1) 0 0] w2) := ⟨New_add (Sep.nil w.heap.size w1) HB1.out.size hS hb⟩
     have HB2 := Aside0.mk (below_step HB1.out hb)
     clear hS hb)
  | (go_at_call 22; refine (tutorlaw11_much.calls 62 A4 c4 l4 false w HR4.out hc4 HMU.out).mono ?_
     rintro e w1 ⟨rfl, hd⟩
     have HB1 := Aside0.mk hd.below
     clear hd))
  clear HS2 HS3 HS4 HB1 HB2 HB3 HB4 hnw hrn
  go_loopw [15] (fun v15 wr => ∃ (i n : Nat) (Bf : Nat → List Int) (Vf : Nat → Int) (own : Nat → Prop) (hits misses : Int) (P : Nat → Prop) (W U G : List (List Int)) (AW : Option Addr) (cW : Nat) (AU : Option Addr) (cU : Nat) (AG : Option Addr) (cG : Nat), v15 = .int .i64 (i : Int) ∧ Aside0 (i ≤ l4.length ∧ 1 ≤ n ∧ n ≤ most ∧ W.length ≤ i ∧ 0 ≤ hits ∧ hits ≤ i ∧ 0 ≤ misses ∧ misses ≤ i) ∧ Aside0 (RI kd n Bf Vf W U G) ∧ Aside0 (Sep w.heap.size [refR P (.slice AW W.length cW) (.slice AU U.length cU) (.slice AG G.length cG) W U G, blk gd #[.int .i64 kd, .int .i64 (K : Int), .int .i64 O, .int .i64 0, .slice none 0 0, .slice none 0 0, .int .i64 (most : Int), .slice AW W.length cW, .slice AU U.length cU, .slice AG G.length cG, .int .i64 hits, .int .i64 misses] 50, trie w.heap.size own g kd K O most n Bf Vf hits misses] wr) ∧ Aside0 (Below w.heap.size w wr)) (fun v15 _ => l4.length - (intOf v15).toNat)
  case atStart => exact ⟨0, 1, _, _, own0, 0, 0, P0, [], [], [[]], none, 0, none, 0, AG0, cG0, rfl, ⟨Nat.zero_le _, Nat.le_refl _, HMO.out.1, Nat.le_refl _, by decide, by decide, by decide, by decide⟩, ⟨RI.start HKD.out⟩, HS5, HB5⟩
  case round =>
    clear HS5 HB5
    obtain ⟨i, n, Bf, Vf, own, hits, misses, P, W, U, G, AW, cW, AU, cU, AG, cG, rfl, HI, HRI, HSr, HBr⟩ := hrel
    have HNB : Aside0 (1 ≤ n ∧ n ≤ 1048576) := ⟨HI.out.2.1, Nat.le_trans HI.out.2.2.1 HMO.out.2⟩
    by_cases hi : i < l4.length
    · have HIL := Aside0.mk hi
      have hi' : (i : Int) < (l4.length : Int) := by omega
      obtain ⟨ad, A1, c1, A2, c2, ea, hx0, hx1, hx2, g1, g2, g3, g4⟩ := at_T55 HR4.out (i : Int) (by omega) hi'
      rw [Int.toNat_natCast] at hx0 hx1 hx2
      have hsl := HLW.out i hi
      generalize rd_T55 l4 (i : Int) = s at hx0 hx1 hx2 g1 g2 g3 g4 hsl
      subst ea
      have HX0 := Aside0.mk hx0
      have HX1 := Aside0.mk hx1
      have HX2 := Aside0.mk hx2
      have HG := Aside0.mk (And.intro g1 (And.intro g2 (And.intro g3 g4)))
      have HSL := Aside0.mk hsl
      obtain ⟨at0, ha, hs⟩ := trie_way (HSr.out.get 2 rfl) s.f1
      have HAT := Aside0.mk (And.intro ha hs)
      have HI60 : Aside0 (i < 60) := ⟨by have := HLB.out; omega⟩
      clear hx0 hx1 hx2 g1 g2 g3 g4 hsl ha hs hi
      go_wp2
      refine start_ (n := 14) (S := fun w' => w'.cell? ⟨(ad.add (i * 3)).block, (ad.add (i * 3)).off + 1, none⟩ = some (.slice A1 s.f1.length c1) ∧ w'.cell? ⟨(ad.add (i * 3)).block, (ad.add (i * 3)).off + 2, none⟩ = some (.slice A2 s.f2.length c2)) (ds := [11]) #[false, false, false, false, false, false, false, false, false, false, false, false, false, false] (by kernel_rfl) rfl rfl ⟨((below_drew1 HBr.out).cell (World.block_lt_of_cell? w _ HX1.out)).trans HX1.out, ((below_drew1 HBr.out).cell (World.block_lt_of_cell? w _ HX2.out)).trans HX2.out⟩ (fun hHeld => ?_)
      refine with_tabW pl.tab14 pl.bits14 (fun HT_ HW_ => ?_)
      have HS5 := Aside0.mk (HSr.out.low (below_drew1 (Below.refl _ _)))
      have HB5 := Aside0.mk (below_drew1 HBr.out)
      clear HSr HBr
      generalize wr.drew = wd at HS5 HB5 hHeld ⊢
      refine pure_ (i := 0) (N := (some 65)) (v := ?_) (a' := ?_) #[true, false, false, false, false, false, false, false, false, false, false, false, false, false] rfl rfl (any_of HT_.out (by kernel_rfl)) (fun _ _ _ h => h) (Or.inl ⟨by rfl, ?_⟩) ?_ ?_
      rotate_left
      · intro w'
        go_simp
        with_reducible rfl
      rotate_left
      · simp only [Act.put, List.setIfInBounds_toArray, List.set_cons_zero, List.set_cons_succ, i64_w, i32_w]
        rfl
      refine pure_ (i := 1) (N := (some 66)) (v := ?_) (a' := ?_) #[true, true, false, false, false, false, false, false, false, false, false, false, false, false] rfl rfl (any_of HT_.out (by kernel_rfl)) (fun _ _ _ h => h) (Or.inl ⟨by rfl, ?_⟩) ?_ ?_
      rotate_left
      · intro w'
        go_simp
        with_reducible rfl
      rotate_left
      · simp only [Act.put, List.setIfInBounds_toArray, List.set_cons_zero, List.set_cons_succ, i64_w, i32_w]
        rfl
      refine pure_ (i := 2) (N := (some 67)) (v := ?_) (a' := ?_) #[true, true, true, false, false, false, false, false, false, false, false, false, false, false] rfl rfl (any_of HT_.out (by kernel_rfl)) (fun _ _ _ h => h) (Or.inl ⟨by rfl, ?_⟩) ?_ ?_
      rotate_left
      · intro w'
        go_simp
        with_reducible rfl
      rotate_left
      · simp only [Act.put, List.setIfInBounds_toArray, List.set_cons_zero, List.set_cons_succ, i64_w, i32_w]
        rfl
      refine pure_ (i := 3) (N := (some 68)) (v := ?_) (a' := ?_) #[true, true, true, true, false, false, false, false, false, false, false, false, false, false] rfl rfl (any_of HT_.out (by kernel_rfl)) (fun _ _ _ h => h) (Or.inl ⟨by rfl, ?_⟩) ?_ ?_
      rotate_left
      · intro w'
        go_simp
        with_reducible rfl
      rotate_left
      · simp only [Act.put, List.setIfInBounds_toArray, List.set_cons_zero, List.set_cons_succ, i64_w, i32_w]
        rfl
      refine pure_ (i := 6) (N := (some 71)) (v := ?_) (a' := ?_) #[true, true, true, true, false, false, true, false, false, false, false, false, false, false] rfl rfl (any_of HT_.out (by kernel_rfl)) (fun _ _ _ h => h) (Or.inl ⟨by rfl, ?_⟩) ?_ ?_
      rotate_left
      · intro w'
        go_simp
        with_reducible rfl
      rotate_left
      · simp only [Act.put, List.setIfInBounds_toArray, List.set_cons_zero, List.set_cons_succ, i64_w, i32_w]
        rfl
      refine pure_ (i := 7) (N := (some 72)) (v := ?_) (a' := ?_) #[true, true, true, true, false, false, true, true, false, false, false, false, false, false] rfl rfl (any_of HT_.out (by kernel_rfl)) (fun _ _ _ h => h) (Or.inl ⟨by rfl, ?_⟩) ?_ ?_
      rotate_left
      · intro w'
        go_simp
        with_reducible rfl
      rotate_left
      · simp only [Act.put, List.setIfInBounds_toArray, List.set_cons_zero, List.set_cons_succ, i64_w, i32_w]
        rfl
      refine pure_ (i := 8) (N := (some 73)) (v := ?_) (a' := ?_) #[true, true, true, true, false, false, true, true, true, false, false, false, false, false] rfl rfl (any_of HT_.out (by kernel_rfl)) (fun _ _ _ h => h) (Or.inl ⟨by rfl, ?_⟩) ?_ ?_
      rotate_left
      · intro w'
        go_simp
        with_reducible rfl
      rotate_left
      · simp only [Act.put, List.setIfInBounds_toArray, List.set_cons_zero, List.set_cons_succ, i64_w, i32_w]
        rfl
      refine pure_ (i := 9) (N := (some 74)) (v := ?_) (a' := ?_) #[true, true, true, true, false, false, true, true, true, true, false, false, false, false] rfl rfl (any_of HT_.out (by kernel_rfl)) (fun _ _ _ h => h) (Or.inl ⟨by rfl, ?_⟩) ?_ ?_
      rotate_left
      · intro w'
        go_simp
        with_reducible rfl
      rotate_left
      · simp only [Act.put, List.setIfInBounds_toArray, List.set_cons_zero, List.set_cons_succ, i64_w, i32_w]
        rfl
      refine take_ (i := 4) (N := (some 69)) (v := ?_) (a' := ?_) #[true, true, true, true, true, false, true, true, true, true, false, false, false, false] rfl rfl (take_ofW HT_.out HW_.out (by kernel_rfl)) (fun _ _ _ h => h) (Or.inl ⟨by rfl, ?_⟩) hHeld ?_ ?_
      rotate_left
      · rintro w' ⟨s0, s1⟩
        go_simp
        with_reducible rfl
      rotate_left
      · simp only [Act.put, List.setIfInBounds_toArray, List.set_cons_zero, List.set_cons_succ, i64_w, i32_w]
        rfl
      refine take_ (i := 10) (N := (some 75)) (v := ?_) (a' := ?_) #[true, true, true, true, true, false, true, true, true, true, true, false, false, false] rfl rfl (take_ofW HT_.out HW_.out (by kernel_rfl)) (fun _ _ _ h => h) (Or.inl ⟨by rfl, ?_⟩) hHeld ?_ ?_
      rotate_left
      · rintro w' ⟨s0, s1⟩
        go_simp
        with_reducible rfl
      rotate_left
      · simp only [Act.put, List.setIfInBounds_toArray, List.set_cons_zero, List.set_cons_succ, i64_w, i32_w]
        rfl
      refine one_ (i := 5) (N := (some 70)) #[true, true, true, true, true, true, true, true, true, true, true, false, false, false] rfl rfl (one_of HT_.out (by kernel_rfl)) (by decide) (fun Kc hK => ?_)
      refine goes_ Try.func24 (by kernel_rfl) rfl #[.slice A1 s.f1.length c1] (by rfl) rfl rfl (by (try simp only [List.map_toArray, List.map_cons, List.map_nil]); first | done | rfl | simp [Act.eval]) ?_
      refine (Lent_calls A1 c1 s.f1 wd (Kd.C_below HG.out.2.1 HB5.out) (by have := HSL.out; omega)).mono ?_
      rintro e w6 ⟨gl1, cl1, rfl, hr, hb⟩
      refine ⟨_, rfl, ?_⟩
      have HS6 : Aside0 (Sep w.heap.size [ints w.heap.size (.slice (some ⟨gl1, 0, none⟩) (s.f1 ++ [-771, -772]).length cl1) (s.f1 ++ [-771, -772]), refR P (.slice AW W.length cW) (.slice AU U.length cU) (.slice AG G.length cG) W U G, blk gd #[.int .i64 kd, .int .i64 (K : Int), .int .i64 O, .int .i64 0, .slice none 0 0, .slice none 0 0, .int .i64 (most : Int), .slice AW W.length cW, .slice AU U.length cU, .slice AG G.length cG, .int .i64 hits, .int .i64 misses] 50, trie w.heap.size own g kd K O most n Bf Vf hits misses] w6) := ⟨HS5.out.addRow rfl hr hb HB5.out.size⟩
      have HB6 := Aside0.mk (below_step HB5.out hb)
      clear hr hb HS5 HB5 hHeld
      refine hK.out _ _ ⟨((HB6.out).cell (World.block_lt_of_cell? w _ HX1.out)).trans HX1.out, ((HB6.out).cell (World.block_lt_of_cell? w _ HX2.out)).trans HX2.out⟩ (fun hHeld => ?_)
      clear hK Kc
      refine norm_ (a' := ?_) ?_ ?_
      rotate_left
      · show Act.put _ (some 70) _ = _
        simp only [Act.put, List.setIfInBounds_toArray, List.set_cons_zero, List.set_cons_succ, i64_w, i32_w]
        rfl
      refine last_ (i := 11) (N := (some 76)) #[true, true, true, true, true, true, true, true, true, true, true, true, false, false] rfl rfl (one_of HT_.out (by kernel_rfl)) (by decide) (fun Kc hK => ?_)
      refine goes_ Try.func24 (by kernel_rfl) rfl #[.slice A2 s.f2.length c2] (by rfl) rfl rfl (by (try simp only [List.map_toArray, List.map_cons, List.map_nil]); first | done | rfl | simp [Act.eval]) ?_
      refine (Lent_calls A2 c2 s.f2 w6 (Kd.C_below HG.out.2.2.2 HB6.out) (by have := HSL.out; omega)).mono ?_
      rintro e w7 ⟨gl2, cl2, rfl, hr, hb⟩
      refine ⟨_, rfl, ?_⟩
      have HS7 : Aside0 (Sep w.heap.size [none_, ints w.heap.size (.slice (some ⟨gl2, 0, none⟩) (s.f2 ++ [-771, -772]).length cl2) (s.f2 ++ [-771, -772]), ints w.heap.size (.slice (some ⟨gl1, 0, none⟩) (s.f1 ++ [-771, -772]).length cl1) (s.f1 ++ [-771, -772]), refR P (.slice AW W.length cW) (.slice AU U.length cU) (.slice AG G.length cG) W U G, blk gd #[.int .i64 kd, .int .i64 (K : Int), .int .i64 O, .int .i64 0, .slice none 0 0, .slice none 0 0, .int .i64 (most : Int), .slice AW W.length cW, .slice AU U.length cU, .slice AG G.length cG, .int .i64 hits, .int .i64 misses] 50, trie w.heap.size own g kd K O most n Bf Vf hits misses] w7) := ⟨(HS6.out.addRow rfl hr hb HB6.out.size).free none_ trivial (fun _ hk => hk.elim)⟩
      have HB7 := Aside0.mk (below_step HB6.out hb)
      clear hr hb HS6 HB6 hHeld
      refine hK.out _ _ ?_
      clear hK Kc
      refine norm_ (a' := ?_) ?_ ?_
      rotate_left
      · show Act.put _ (some 76) _ = _
        simp only [Act.put, List.setIfInBounds_toArray, List.set_cons_zero, List.set_cons_succ, i64_w, i32_w]
        rfl
      refine pure_ (i := 12) (N := (some 16)) (v := ?_) (a' := ?_) #[true, true, true, true, true, true, true, true, true, true, true, true, true, false] rfl rfl (any_of HT_.out (by kernel_rfl)) (fun _ _ _ h => h) (Or.inl ⟨by rfl, ?_⟩) ?_ ?_
      rotate_left
      · intro w'
        go_simp
        with_reducible rfl
      rotate_left
      · simp only [Act.put, List.setIfInBounds_toArray, List.set_cons_zero, List.set_cons_succ, i64_w, i32_w]
        rfl
      refine pure_ (i := 13) (N := (some 17)) (v := ?_) (a' := ?_) #[true, true, true, true, true, true, true, true, true, true, true, true, true, true] rfl rfl (any_of HT_.out (by kernel_rfl)) (fun _ _ _ h => h) (Or.inl ⟨by rfl, ?_⟩) ?_ ?_
      rotate_left
      · intro w'
        go_simp
        with_reducible rfl
      rotate_left
      · simp only [Act.put, List.setIfInBounds_toArray, List.set_cons_zero, List.set_cons_succ, i64_w, i32_w]
        rfl
      refine done_ (done_of HT_.out (by kernel_rfl)) ?_
      have hy0 : w7.cell? (ad.add (i * 3)) = some (.int .i64 s.f0) := (HB7.out.cell (World.block_lt_of_cell? w _ HX0.out)).trans HX0.out
      go_upto_region 15 with (fail)
      go_cut [81] from 1000 (fun v81 wc => v81 = .int .i64 s.f0 ∧ w7 = wc)
      case first =>
        go_wp2
        go_meet
        case rel => exact ⟨rfl, rfl⟩
      case rest =>
        obtain ⟨rfl, rfl⟩ := hcut
        go_step
        go_cut [] from 1000 (fun wc => ∃ (nz : Nat) (Bz : Nat → List Int) (Vz : Nat → Int) (oz : Nat → Prop) (hz mz : Int) (Pz : Nat → Prop) (Wz Uz Gz : List (List Int)) (AWz : Option Addr) (cWz : Nat) (AUz : Option Addr) (cUz : Nat) (AGz : Option Addr) (cGz : Nat) (X : Res), Aside0 (i + 1 ≤ l4.length ∧ 1 ≤ nz ∧ nz ≤ most ∧ Wz.length ≤ i + 1 ∧ 0 ≤ hz ∧ hz ≤ (i : Int) + 1 ∧ 0 ≤ mz ∧ mz ≤ (i : Int) + 1) ∧ Aside0 (RI kd nz Bz Vz Wz Uz Gz) ∧ Aside0 (Sep w.heap.size [X, ints w.heap.size (.slice (some ⟨gl2, 0, none⟩) (s.f2 ++ [-771, -772]).length cl2) (s.f2 ++ [-771, -772]), ints w.heap.size (.slice (some ⟨gl1, 0, none⟩) (s.f1 ++ [-771, -772]).length cl1) (s.f1 ++ [-771, -772]), refR Pz (.slice AWz Wz.length cWz) (.slice AUz Uz.length cUz) (.slice AGz Gz.length cGz) Wz Uz Gz, blk gd #[.int .i64 kd, .int .i64 (K : Int), .int .i64 O, .int .i64 0, .slice none 0 0, .slice none 0 0, .int .i64 (most : Int), .slice AWz Wz.length cWz, .slice AUz Uz.length cUz, .slice AGz Gz.length cGz, .int .i64 hz, .int .i64 mz] 50, trie w.heap.size oz g kd K O most nz Bz Vz hz mz] wc) ∧ Aside0 (Below w.heap.size w wc))
        case first =>
          by_cases h0 : s.f0 = 0
          · have hb0 : (s.f0 == 0) = true := by rw [h0]; rfl
            clear h0
            by_cases he0 : putErr kd K O most n Vf s.f1 s.f2 at0 = 0
            · have HE := Aside0.mk he0
              clear he0
              obtain ⟨n2, hn2⟩ : ∃ n2, putN n s.f1 at0 = n2 := ⟨_, rfl⟩
              obtain ⟨B2, hB2⟩ : ∃ B2, putB n Bf s.f1 at0 = B2 := ⟨_, rfl⟩
              obtain ⟨V2, hV2⟩ : ∃ V2, putV kd n Vf s.f1 s.f2 at0 = V2 := ⟨_, rfl⟩
              have HN2 := Aside0.mk (And.intro hn2 (And.intro hB2 hV2))
              have HNR : Aside0 (n ≤ n2 ∧ n2 ≤ most) := ⟨by rw [← hn2]; exact putN_room HI.out.2.2.1 (putErr_fine HE.out).2.2.2⟩
              clear hn2 hB2 hV2
              obtain ⟨Up, Yp, Dp, htri⟩ := trie_tri (HS7.out.get 5 rfl)
              have HTR := Aside0.mk htri
              have HRE : Aside0 (refErr kd K O most W U G s.f1 s.f2 = 0) := ⟨(refErr_is htri HAT.out.1 HAT.out.2 HRI.out HKD.out HI.out.2.2.1).trans HE.out⟩
              clear htri
              obtain ⟨W2, hW2⟩ : ∃ W2, W ++ [s.f1] = W2 := ⟨_, rfl⟩
              obtain ⟨U2, hU2⟩ : ∃ U2, U ++ [s.f2] = U2 := ⟨_, rfl⟩
              obtain ⟨G2, hG2⟩ : ∃ G2, freshR G s.f1 (s.f1.length + 1) = G2 := ⟨_, rfl⟩
              have HWE := Aside0.mk (And.intro hW2 (And.intro hU2 hG2))
              clear hW2 hU2 hG2
              go_wp2_with (first
              | (go_at_call 15; refine (Put_ok HS7.out 5 rfl HB7.out.size HKD.out HI.out.2.2.1 HMO.out.2 HKK.out.1 HKK.out.2 s.f1 (by have := HSL.out; omega) (some ⟨gl1, 0, none⟩) s.f1.length cl1 rfl (lent_C (HS7.out.get 2 rfl)).2 s.f2 (some ⟨gl2, 0, none⟩) s.f2.length cl2 rfl (lent_rd HS7.out 5 2 rfl (fun _ hk => hk) rfl (by decide)) (lent_rd HS7.out 5 1 rfl (fun _ hk => hk) rfl (by decide)) at0 HAT.out.1 HAT.out.2 HE.out).mono ?_
                 rintro e w8 ⟨own2, rfl, hS, hb⟩
                 have HSp : Aside0 (Sep w.heap.size [none_, ints w.heap.size (.slice (some ⟨gl2, 0, none⟩) (s.f2 ++ [-771, -772]).length cl2) (s.f2 ++ [-771, -772]), ints w.heap.size (.slice (some ⟨gl1, 0, none⟩) (s.f1 ++ [-771, -772]).length cl1) (s.f1 ++ [-771, -772]), refR P (.slice AW W.length cW) (.slice AU U.length cU) (.slice AG G.length cG) W U G, blk gd #[.int .i64 kd, .int .i64 (K : Int), .int .i64 O, .int .i64 0, .slice none 0 0, .slice none 0 0, .int .i64 (most : Int), .slice AW W.length cW, .slice AU U.length cU, .slice AG G.length cG, .int .i64 hits, .int .i64 misses] 50, trie w.heap.size own2 g kd K O most (putN n s.f1 at0) (putB n Bf s.f1 at0) (putV kd n Vf s.f1 s.f2 at0) hits misses] w8) := ⟨hS⟩
                 have HBp := Aside0.mk (HB7.out.trans hb)
                 clear hS hb))
              obtain ⟨Uq, Yq, Dq, htri2⟩ := trie_tri (HSp.out.get 5 rfl)
              have HRI2 : Aside0 (RI kd n2 B2 V2 W2 U2 G2) := ⟨by
                have h1 := RI.put HTR.out htri2 HAT.out.1 HAT.out.2 HRI.out HKD.out HE.out HSL.out.1 HSL.out.2
                rw [HN2.out.1, HN2.out.2.1, HN2.out.2.2, HWE.out.1, HWE.out.2.1, HWE.out.2.2] at h1
                exact h1⟩
              rw [HN2.out.1, HN2.out.2.1, HN2.out.2.2] at HSp
              clear htri2
              refine start_ (n := 18) (S := fun w' => w'.heap[gd]? = some (.cells #[.int .i64 kd, .int .i64 (K : Int), .int .i64 O, .int .i64 0, .slice none 0 0, .slice none 0 0, .int .i64 (most : Int), .slice AW W.length cW, .slice AU U.length cU, .slice AG G.length cG, .int .i64 hits, .int .i64 misses] 50 (0, 0)) ∧ w'.cell? ⟨(ad.add (i * 3)).block, (ad.add (i * 3)).off + 1, none⟩ = some (.slice A1 s.f1.length c1) ∧ w'.cell? ⟨(ad.add (i * 3)).block, (ad.add (i * 3)).off + 2, none⟩ = some (.slice A2 s.f2.length c2)) (ds := [16]) #[false, false, false, false, false, false, false, false, false, false, false, false, false, false, false, false, false, false] (by kernel_rfl) rfl rfl (⟨(HSp.out.low (below_drew1 (Below.refl _ _))).get 4 rfl, ((below_drew1 HBp.out).cell (World.block_lt_of_cell? w _ HX1.out)).trans HX1.out, ((below_drew1 HBp.out).cell (World.block_lt_of_cell? w _ HX2.out)).trans HX2.out⟩) (fun hHeld => ?_)
              refine with_tabW pl.tab21 pl.bits21 (fun HT_ HW_ => ?_)
              have hsep := HSp.out.low (below_drew1 (Below.refl _ _))
              have hbel := below_drew1 HBp.out
              clear HSp HBp
              generalize w8.drew = wd at hsep hbel hHeld ⊢
              refine pure_ (i := 1) (N := (some 105)) (v := ?_) (a' := ?_) #[false, true, false, false, false, false, false, false, false, false, false, false, false, false, false, false, false, false] rfl rfl (any_of HT_.out (by kernel_rfl)) (fun _ _ _ h => h) (Or.inl ⟨by rfl, ?_⟩) ?_ ?_
              rotate_left
              · intro w'
                go_simp
                with_reducible rfl
              rotate_left
              · simp only [Act.put, List.setIfInBounds_toArray, List.set_cons_zero, List.set_cons_succ, i64_w, i32_w]
                rfl
              refine pure_ (i := 2) (N := (some 106)) (v := ?_) (a' := ?_) #[false, true, true, false, false, false, false, false, false, false, false, false, false, false, false, false, false, false] rfl rfl (any_of HT_.out (by kernel_rfl)) (fun _ _ _ h => h) (Or.inl ⟨by rfl, ?_⟩) ?_ ?_
              rotate_left
              · intro w'
                go_simp
                with_reducible rfl
              rotate_left
              · simp only [Act.put, List.setIfInBounds_toArray, List.set_cons_zero, List.set_cons_succ, i64_w, i32_w]
                rfl
              refine pure_ (i := 3) (N := (some 107)) (v := ?_) (a' := ?_) #[false, true, true, true, false, false, false, false, false, false, false, false, false, false, false, false, false, false] rfl rfl (any_of HT_.out (by kernel_rfl)) (fun _ _ _ h => h) (Or.inl ⟨by rfl, ?_⟩) ?_ ?_
              rotate_left
              · intro w'
                go_simp
                with_reducible rfl
              rotate_left
              · simp only [Act.put, List.setIfInBounds_toArray, List.set_cons_zero, List.set_cons_succ, i64_w, i32_w]
                rfl
              refine pure_ (i := 4) (N := (some 108)) (v := ?_) (a' := ?_) #[false, true, true, true, true, false, false, false, false, false, false, false, false, false, false, false, false, false] rfl rfl (any_of HT_.out (by kernel_rfl)) (fun _ _ _ h => h) (Or.inl ⟨by rfl, ?_⟩) ?_ ?_
              rotate_left
              · intro w'
                go_simp
                with_reducible rfl
              rotate_left
              · simp only [Act.put, List.setIfInBounds_toArray, List.set_cons_zero, List.set_cons_succ, i64_w, i32_w]
                rfl
              refine pure_ (i := 6) (N := (some 110)) (v := ?_) (a' := ?_) #[false, true, true, true, true, false, true, false, false, false, false, false, false, false, false, false, false, false] rfl rfl (any_of HT_.out (by kernel_rfl)) (fun _ _ _ h => h) (Or.inl ⟨by rfl, ?_⟩) ?_ ?_
              rotate_left
              · intro w'
                go_simp
                with_reducible rfl
              rotate_left
              · simp only [Act.put, List.setIfInBounds_toArray, List.set_cons_zero, List.set_cons_succ, i64_w, i32_w]
                rfl
              refine pure_ (i := 7) (N := (some 111)) (v := ?_) (a' := ?_) #[false, true, true, true, true, false, true, true, false, false, false, false, false, false, false, false, false, false] rfl rfl (any_of HT_.out (by kernel_rfl)) (fun _ _ _ h => h) (Or.inl ⟨by rfl, ?_⟩) ?_ ?_
              rotate_left
              · intro w'
                go_simp
                with_reducible rfl
              rotate_left
              · simp only [Act.put, List.setIfInBounds_toArray, List.set_cons_zero, List.set_cons_succ, i64_w, i32_w]
                rfl
              refine pure_ (i := 8) (N := (some 112)) (v := ?_) (a' := ?_) #[false, true, true, true, true, false, true, true, true, false, false, false, false, false, false, false, false, false] rfl rfl (any_of HT_.out (by kernel_rfl)) (fun _ _ _ h => h) (Or.inl ⟨by rfl, ?_⟩) ?_ ?_
              rotate_left
              · intro w'
                go_simp
                with_reducible rfl
              rotate_left
              · simp only [Act.put, List.setIfInBounds_toArray, List.set_cons_zero, List.set_cons_succ, i64_w, i32_w]
                rfl
              refine pure_ (i := 9) (N := (some 113)) (v := ?_) (a' := ?_) #[false, true, true, true, true, false, true, true, true, true, false, false, false, false, false, false, false, false] rfl rfl (any_of HT_.out (by kernel_rfl)) (fun _ _ _ h => h) (Or.inl ⟨by rfl, ?_⟩) ?_ ?_
              rotate_left
              · intro w'
                go_simp
                with_reducible rfl
              rotate_left
              · simp only [Act.put, List.setIfInBounds_toArray, List.set_cons_zero, List.set_cons_succ, i64_w, i32_w]
                rfl
              refine take_ (i := 0) (N := (some 104)) (v := .agg #[.int .i64 kd, .int .i64 (K : Int), .int .i64 O, .int .i64 0, .slice none 0 0, .slice none 0 0, .int .i64 (most : Int), .slice AW W.length cW, .slice AU U.length cU, .slice AG G.length cG, .int .i64 hits, .int .i64 misses]) (a' := ?_) #[true, true, true, true, true, false, true, true, true, true, false, false, false, false, false, false, false, false] rfl rfl (take_ofW HT_.out HW_.out (by kernel_rfl)) (fun _ _ _ h => h) (yieldsIf_load_mid (by rfl) 50 _ rfl gd 0 rfl [.int .i64 kd, .int .i64 (K : Int), .int .i64 O, .int .i64 0, .slice none 0 0, .slice none 0 0, .int .i64 (most : Int), .slice AW W.length cW, .slice AU U.length cU, .slice AG G.length cG, .int .i64 hits, .int .i64 misses] _ (fun w' h => box_all h.1) Try.underlying50 rfl (by rw [i50]; rfl)) hHeld ?_ ?_
              rotate_left
              · simp only [Act.put, List.setIfInBounds_toArray, List.set_cons_zero, List.set_cons_succ, i64_w, i32_w]
                rfl
              refine take_ (i := 5) (N := (some 109)) (v := ?_) (a' := ?_) #[true, true, true, true, true, true, true, true, true, true, false, false, false, false, false, false, false, false] rfl rfl (take_ofW HT_.out HW_.out (by kernel_rfl)) (fun _ _ _ h => h) (Or.inl ⟨by rfl, ?_⟩) hHeld ?_ ?_
              rotate_left
              · intro w' s0
                obtain ⟨_, s1, s2⟩ := s0
                go_simp
                with_reducible rfl
              rotate_left
              · simp only [Act.put, List.setIfInBounds_toArray, List.set_cons_zero, List.set_cons_succ, i64_w, i32_w]
                rfl
              refine take_ (i := 10) (N := (some 114)) (v := ?_) (a' := ?_) #[true, true, true, true, true, true, true, true, true, true, true, false, false, false, false, false, false, false] rfl rfl (take_ofW HT_.out HW_.out (by kernel_rfl)) (fun _ _ _ h => h) (Or.inl ⟨by rfl, ?_⟩) hHeld ?_ ?_
              rotate_left
              · intro w' s0
                obtain ⟨_, s1, s2⟩ := s0
                go_simp
                with_reducible rfl
              rotate_left
              · simp only [Act.put, List.setIfInBounds_toArray, List.set_cons_zero, List.set_cons_succ, i64_w, i32_w]
                rfl
              refine join_ (σ := (Nat → Prop) × Option Addr × Nat × Option Addr × Nat × Option Addr × Nat × Nat) 2 #[true, true, true, true, true, true, true, true, true, true, true, true, true, true, true, true, false, false] (fun s_ => [(115, .tuple #[.agg #[.int .i64 kd, .int .i64 (K : Int), .int .i64 O, .int .i64 0, .slice none 0 0, .slice none 0 0, .int .i64 (most : Int), .slice s_.2.1 W2.length s_.2.2.1, .slice s_.2.2.2.1 U2.length s_.2.2.2.2.1, .slice s_.2.2.2.2.2.1 G2.length s_.2.2.2.2.2.2.1, .int .i64 hits, .int .i64 misses], .int .i64 0]), (19, .pointer (some ⟨s_.2.2.2.2.2.2.2, 0, none⟩)), (103, .tuple #[.agg #[.int .i64 kd, .int .i64 (K : Int), .int .i64 O, .int .i64 0, .slice none 0 0, .slice none 0 0, .int .i64 (most : Int), .slice s_.2.1 W2.length s_.2.2.1, .slice s_.2.2.2.1 U2.length s_.2.2.2.2.1, .slice s_.2.2.2.2.2.1 G2.length s_.2.2.2.2.2.2.1, .int .i64 hits, .int .i64 misses], .int .i64 0]), (116, .agg #[.int .i64 kd, .int .i64 (K : Int), .int .i64 O, .int .i64 0, .slice none 0 0, .slice none 0 0, .int .i64 (most : Int), .slice s_.2.1 W2.length s_.2.2.1, .slice s_.2.2.2.1 U2.length s_.2.2.2.2.1, .slice s_.2.2.2.2.2.1 G2.length s_.2.2.2.2.2.2.1, .int .i64 hits, .int .i64 misses]), (117, .int .i64 0)]) (fun s_ w' => Sp.Sep w.heap.size [Sp.blk s_.2.2.2.2.2.2.2 #[.int .i64 0, .int .i64 0, .int .i64 0, .int .i64 0, .slice none 0 0, .slice none 0 0, .int .i64 0, .slice none 0 0, .slice none 0 0, .slice none 0 0, .int .i64 0, .int .i64 0] 50, ints w.heap.size (.slice (some ⟨gl2, 0, none⟩) (s.f2 ++ [-771, -772]).length cl2) (s.f2 ++ [-771, -772]), ints w.heap.size (.slice (some ⟨gl1, 0, none⟩) (s.f1 ++ [-771, -772]).length cl1) (s.f1 ++ [-771, -772]), refR s_.1 (.slice s_.2.1 W2.length s_.2.2.1) (.slice s_.2.2.2.1 U2.length s_.2.2.2.2.1) (.slice s_.2.2.2.2.2.1 G2.length s_.2.2.2.2.2.2.1) W2 U2 G2, blk gd #[.int .i64 kd, .int .i64 (K : Int), .int .i64 O, .int .i64 0, .slice none 0 0, .slice none 0 0, .int .i64 (most : Int), .slice AW W.length cW, .slice AU U.length cU, .slice AG G.length cG, .int .i64 hits, .int .i64 misses] 50, trie w.heap.size own2 g kd K O most n2 B2 V2 hits misses] w' ∧ Below w.heap.size w w') ?_ ?_
              rotate_left
              · intro hJ11_15
                refine two_ (i := 11) (j := 15) (Ni := some 115) (Nj := some 19) #[true, true, true, true, true, true, true, true, true, true, true, true, false, false, false, false, false, false] #[true, true, true, true, true, true, true, true, true, true, true, false, false, false, false, true, false, false] rfl rfl rfl rfl (two_of HT_.out (by kernel_rfl)) (by decide) (by decide) (fun Kc hK => ?_) (fun Kc hK => ?_)
                · skip
                  refine goes_ Try.func25 (by kernel_rfl) rfl #[.agg #[.int .i64 kd, .int .i64 (K : Int), .int .i64 O, .int .i64 0, .slice none 0 0, .slice none 0 0, .int .i64 (most : Int), .slice AW W.length cW, .slice AU U.length cU, .slice AG G.length cG, .int .i64 hits, .int .i64 misses], .slice A1 s.f1.length c1, .slice A2 s.f2.length c2] (by rfl) rfl rfl (by (try simp only [List.map_toArray, List.map_cons, List.map_nil]); first | done | rfl | simp [Act.eval]) ?_
                  rename World => wq21
                  refine (RPut_walk kd P K O most hits misses AW cW AU cU AG cG W U G wq21 s.f1 A1 c1 s.f2 A2 c2 (hsep.get 3 rfl).2.2.2 (hsep.get 3 rfl).1 (hsep.get 3 rfl).2.1 (hsep.get 3 rfl).2.2.1 (Kd.C_below HG.out.2.1 hbel) HG.out.1 (Kd.C_below HG.out.2.2.2 hbel) HG.out.2.2.1 HKK.out HRI.out.len (fun y hy => by have := HRI.out.wl y hy; omega) (by have h1 := HI.out; have h2 := HI60.out; omega) (fun y hy => by have := HRI.out.ul y hy; omega) (fun y hy => by have := HRI.out.gl y hy; omega) (by have h0 := HRI.out.len; have h1 := HI.out; have h2 := HI60.out; omega) (by rw [HRI.out.g, List.length_map, List.length_range]; have := HNB.out; omega) (by have := HSL.out; omega) (by have := HSL.out; omega) HKD.out HRI.out.outs).mono ?_
                  rintro e wx hp
                  obtain ⟨AWz, cWz, AUz, cUz, AGz, cGz, rfl, k1, k2, k3, hb⟩ := hp.open_ HRE.out (W2 := W2) (U2 := U2) (G2 := G2) ((if_pos rfl).trans HWE.out.1) ((if_pos rfl).trans HWE.out.2.1) ((if_pos rfl).trans HWE.out.2.2)
                  refine ⟨_, rfl, ?_⟩
                  obtain ⟨Pz, hPz⟩ : ∃ Pz, Since P wq21.heap.size wx = Pz := ⟨_, rfl⟩
                  have hsep1 : Sp.Sep w.heap.size [Sp.none_, ints w.heap.size (.slice (some ⟨gl2, 0, none⟩) (s.f2 ++ [-771, -772]).length cl2) (s.f2 ++ [-771, -772]), ints w.heap.size (.slice (some ⟨gl1, 0, none⟩) (s.f1 ++ [-771, -772]).length cl1) (s.f1 ++ [-771, -772]), refR Pz (.slice AWz W2.length cWz) (.slice AUz U2.length cUz) (.slice AGz G2.length cGz) W2 U2 G2, blk gd #[.int .i64 kd, .int .i64 (K : Int), .int .i64 O, .int .i64 0, .slice none 0 0, .slice none 0 0, .int .i64 (most : Int), .slice AW W.length cW, .slice AU U.length cU, .slice AG G.length cG, .int .i64 hits, .int .i64 misses] 50, trie w.heap.size own2 g kd K O most n2 B2 V2 hits misses] wx := by
                    have h1 := ref_put hsep 3 rfl k1 k2 k3 hb hbel.size
                    rw [hPz] at h1
                    exact h1
                  have hbel1 := below_step hbel hb
                  clear hPz k1 k2 k3 hb hp
                  refine hK.out _ _ ⟨hsep1.get 4 rfl, ((hbel1).cell (World.block_lt_of_cell? w _ HX1.out)).trans HX1.out, ((hbel1).cell (World.block_lt_of_cell? w _ HX2.out)).trans HX2.out⟩ (fun hHeld => ?_)
                  clear hK Kc hsep hbel
                  have hsep := hsep1
                  have hbel := hbel1
                  clear hsep1 hbel1
                  refine norm_ (a' := ?_) ?_ ?_
                  rotate_left
                  · show Act.put _ (some 115) _ = _
                    simp only [Act.put, List.setIfInBounds_toArray, List.set_cons_zero, List.set_cons_succ, i64_w, i32_w]
                    rfl
                  refine pure_ (i := 12) (N := (some 103)) (v := ?_) (a' := ?_) #[true, true, true, true, true, true, true, true, true, true, true, true, true, false, false, false, false, false] rfl rfl (any_of HT_.out (by kernel_rfl)) (fun _ _ _ h => h) (Or.inl ⟨by rfl, ?_⟩) ?_ ?_
                  rotate_left
                  · intro w'
                    go_simp
                    with_reducible rfl
                  rotate_left
                  · simp only [Act.put, List.setIfInBounds_toArray, List.set_cons_zero, List.set_cons_succ, i64_w, i32_w]
                    rfl
                  refine pure_ (i := 13) (N := (some 116)) (v := ?_) (a' := ?_) #[true, true, true, true, true, true, true, true, true, true, true, true, true, true, false, false, false, false] rfl rfl (any_of HT_.out (by kernel_rfl)) (fun _ _ _ h => h) (Or.inl ⟨by rfl, ?_⟩) ?_ ?_
                  rotate_left
                  · intro w'
                    go_simp
                    with_reducible rfl
                  rotate_left
                  · simp only [Act.put, List.setIfInBounds_toArray, List.set_cons_zero, List.set_cons_succ, i64_w, i32_w]
                    rfl
                  refine pure_ (i := 14) (N := (some 117)) (v := ?_) (a' := ?_) #[true, true, true, true, true, true, true, true, true, true, true, true, true, true, true, false, false, false] rfl rfl (any_of HT_.out (by kernel_rfl)) (fun _ _ _ h => h) (Or.inl ⟨by rfl, ?_⟩) ?_ ?_
                  rotate_left
                  · intro w'
                    go_simp
                    with_reducible rfl
                  rotate_left
                  · simp only [Act.put, List.setIfInBounds_toArray, List.set_cons_zero, List.set_cons_succ, i64_w, i32_w]
                    rfl
                  refine one_ (i := 15) (N := some 19) #[true, true, true, true, true, true, true, true, true, true, true, true, true, true, true, true, false, false] rfl rfl (one_of HT_.out (by kernel_rfl)) (by decide) (fun Kc hK => ?_)
                  refine box_step ?hg (N := 19) ?hd (cs := #[.int .i64 0, .int .i64 0, .int .i64 0, .int .i64 0, .slice none 0 0, .slice none 0 0, .int .i64 0, .slice none 0 0, .slice none 0 0, .slice none 0 0, .int .i64 0, .int .i64 0]) (t := 50) ?hr ?_; (case hd => rfl); (case hg => rfl); (case hr => first | (go_simp; done) | (go_simp; rfl))
                  intro g19 hg w1 hbox hb
                  have hsep1 : Sp.Sep w.heap.size [Sp.blk g19 #[.int .i64 0, .int .i64 0, .int .i64 0, .int .i64 0, .slice none 0 0, .slice none 0 0, .int .i64 0, .slice none 0 0, .slice none 0 0, .slice none 0 0, .int .i64 0, .int .i64 0] 50, ints w.heap.size (.slice (some ⟨gl2, 0, none⟩) (s.f2 ++ [-771, -772]).length cl2) (s.f2 ++ [-771, -772]), ints w.heap.size (.slice (some ⟨gl1, 0, none⟩) (s.f1 ++ [-771, -772]).length cl1) (s.f1 ++ [-771, -772]), refR Pz (.slice AWz W2.length cWz) (.slice AUz U2.length cUz) (.slice AGz G2.length cGz) W2 U2 G2, blk gd #[.int .i64 kd, .int .i64 (K : Int), .int .i64 O, .int .i64 0, .slice none 0 0, .slice none 0 0, .int .i64 (most : Int), .slice AW W.length cW, .slice AU U.length cU, .slice AG G.length cG, .int .i64 hits, .int .i64 misses] 50, trie w.heap.size own2 g kd K O most n2 B2 V2 hits misses] w1 := hsep.fillBlk 0 rfl hg hbox hb hbel.size
                  have hbel1 := below_then hbel hbel.size hb
                  clear hg hbox hb
                  refine hK.out _ _ ⟨hsep1.get 4 rfl, ((hbel1).cell (World.block_lt_of_cell? w _ HX1.out)).trans HX1.out, ((hbel1).cell (World.block_lt_of_cell? w _ HX2.out)).trans HX2.out⟩ (fun hHeld => ?_)
                  clear hK Kc hsep hbel
                  have hsep := hsep1
                  have hbel := hbel1
                  clear hsep1 hbel1
                  refine norm_ (a' := ?_) ?_ ?_
                  rotate_left
                  · show Act.put _ (some 19) _ = _
                    simp only [Act.put, List.setIfInBounds_toArray, List.set_cons_zero, List.set_cons_succ, i64_w, i32_w]
                    rfl
                  exact norm_ (by first | (simp only [putAll, Act.put, List.setIfInBounds_toArray, List.set_cons_zero, List.set_cons_succ]; done) | (simp only [putAll, Act.put, List.setIfInBounds_toArray, List.set_cons_zero, List.set_cons_succ]; rfl)) (hJ11_15 (Pz, AWz, cWz, AUz, cUz, AGz, cGz, g19) _ ⟨hsep, hbel⟩)
                · skip
                  refine box_step ?hg (N := 19) ?hd (cs := #[.int .i64 0, .int .i64 0, .int .i64 0, .int .i64 0, .slice none 0 0, .slice none 0 0, .int .i64 0, .slice none 0 0, .slice none 0 0, .slice none 0 0, .int .i64 0, .int .i64 0]) (t := 50) ?hr ?_; (case hd => rfl); (case hg => rfl); (case hr => first | (go_simp; done) | (go_simp; rfl))
                  intro g19 hg w1 hbox hb
                  have hsep1 : Sp.Sep w.heap.size [Sp.blk g19 #[.int .i64 0, .int .i64 0, .int .i64 0, .int .i64 0, .slice none 0 0, .slice none 0 0, .int .i64 0, .slice none 0 0, .slice none 0 0, .slice none 0 0, .int .i64 0, .int .i64 0] 50, ints w.heap.size (.slice (some ⟨gl2, 0, none⟩) (s.f2 ++ [-771, -772]).length cl2) (s.f2 ++ [-771, -772]), ints w.heap.size (.slice (some ⟨gl1, 0, none⟩) (s.f1 ++ [-771, -772]).length cl1) (s.f1 ++ [-771, -772]), refR P (.slice AW W.length cW) (.slice AU U.length cU) (.slice AG G.length cG) W U G, blk gd #[.int .i64 kd, .int .i64 (K : Int), .int .i64 O, .int .i64 0, .slice none 0 0, .slice none 0 0, .int .i64 (most : Int), .slice AW W.length cW, .slice AU U.length cU, .slice AG G.length cG, .int .i64 hits, .int .i64 misses] 50, trie w.heap.size own2 g kd K O most n2 B2 V2 hits misses] w1 := hsep.fillBlk 0 rfl hg hbox hb hbel.size
                  have hbel1 := below_then hbel hbel.size hb
                  clear hg hbox hb
                  refine hK.out _ _ ⟨hsep1.get 4 rfl, ((hbel1).cell (World.block_lt_of_cell? w _ HX1.out)).trans HX1.out, ((hbel1).cell (World.block_lt_of_cell? w _ HX2.out)).trans HX2.out⟩ (fun hHeld => ?_)
                  clear hK Kc hsep hbel
                  have hsep := hsep1
                  have hbel := hbel1
                  clear hsep1 hbel1
                  refine norm_ (a' := ?_) ?_ ?_
                  rotate_left
                  · show Act.put _ (some 19) _ = _
                    simp only [Act.put, List.setIfInBounds_toArray, List.set_cons_zero, List.set_cons_succ, i64_w, i32_w]
                    rfl
                  refine one_ (i := 11) (N := some 115) #[true, true, true, true, true, true, true, true, true, true, true, true, false, false, false, true, false, false] rfl rfl (one_of HT_.out (by kernel_rfl)) (by decide) (fun Kc hK => ?_)
                  refine goes_ Try.func25 (by kernel_rfl) rfl #[.agg #[.int .i64 kd, .int .i64 (K : Int), .int .i64 O, .int .i64 0, .slice none 0 0, .slice none 0 0, .int .i64 (most : Int), .slice AW W.length cW, .slice AU U.length cU, .slice AG G.length cG, .int .i64 hits, .int .i64 misses], .slice A1 s.f1.length c1, .slice A2 s.f2.length c2] (by rfl) rfl rfl (by (try simp only [List.map_toArray, List.map_cons, List.map_nil]); first | done | rfl | simp [Act.eval]) ?_
                  rename World => wq21
                  refine (RPut_walk kd P K O most hits misses AW cW AU cU AG cG W U G wq21 s.f1 A1 c1 s.f2 A2 c2 (hsep.get 3 rfl).2.2.2 (hsep.get 3 rfl).1 (hsep.get 3 rfl).2.1 (hsep.get 3 rfl).2.2.1 (Kd.C_below HG.out.2.1 hbel) HG.out.1 (Kd.C_below HG.out.2.2.2 hbel) HG.out.2.2.1 HKK.out HRI.out.len (fun y hy => by have := HRI.out.wl y hy; omega) (by have h1 := HI.out; have h2 := HI60.out; omega) (fun y hy => by have := HRI.out.ul y hy; omega) (fun y hy => by have := HRI.out.gl y hy; omega) (by have h0 := HRI.out.len; have h1 := HI.out; have h2 := HI60.out; omega) (by rw [HRI.out.g, List.length_map, List.length_range]; have := HNB.out; omega) (by have := HSL.out; omega) (by have := HSL.out; omega) HKD.out HRI.out.outs).mono ?_
                  rintro e wx hp
                  obtain ⟨AWz, cWz, AUz, cUz, AGz, cGz, rfl, k1, k2, k3, hb⟩ := hp.open_ HRE.out (W2 := W2) (U2 := U2) (G2 := G2) ((if_pos rfl).trans HWE.out.1) ((if_pos rfl).trans HWE.out.2.1) ((if_pos rfl).trans HWE.out.2.2)
                  refine ⟨_, rfl, ?_⟩
                  obtain ⟨Pz, hPz⟩ : ∃ Pz, Since P wq21.heap.size wx = Pz := ⟨_, rfl⟩
                  have hsep1 : Sp.Sep w.heap.size [Sp.blk g19 #[.int .i64 0, .int .i64 0, .int .i64 0, .int .i64 0, .slice none 0 0, .slice none 0 0, .int .i64 0, .slice none 0 0, .slice none 0 0, .slice none 0 0, .int .i64 0, .int .i64 0] 50, ints w.heap.size (.slice (some ⟨gl2, 0, none⟩) (s.f2 ++ [-771, -772]).length cl2) (s.f2 ++ [-771, -772]), ints w.heap.size (.slice (some ⟨gl1, 0, none⟩) (s.f1 ++ [-771, -772]).length cl1) (s.f1 ++ [-771, -772]), refR Pz (.slice AWz W2.length cWz) (.slice AUz U2.length cUz) (.slice AGz G2.length cGz) W2 U2 G2, blk gd #[.int .i64 kd, .int .i64 (K : Int), .int .i64 O, .int .i64 0, .slice none 0 0, .slice none 0 0, .int .i64 (most : Int), .slice AW W.length cW, .slice AU U.length cU, .slice AG G.length cG, .int .i64 hits, .int .i64 misses] 50, trie w.heap.size own2 g kd K O most n2 B2 V2 hits misses] wx := by
                    have h1 := ref_put hsep 3 rfl k1 k2 k3 hb hbel.size
                    rw [hPz] at h1
                    exact h1
                  have hbel1 := below_step hbel hb
                  clear hPz k1 k2 k3 hb hp
                  refine hK.out _ _ ⟨hsep1.get 4 rfl, ((hbel1).cell (World.block_lt_of_cell? w _ HX1.out)).trans HX1.out, ((hbel1).cell (World.block_lt_of_cell? w _ HX2.out)).trans HX2.out⟩ (fun hHeld => ?_)
                  clear hK Kc hsep hbel
                  have hsep := hsep1
                  have hbel := hbel1
                  clear hsep1 hbel1
                  refine norm_ (a' := ?_) ?_ ?_
                  rotate_left
                  · show Act.put _ (some 115) _ = _
                    simp only [Act.put, List.setIfInBounds_toArray, List.set_cons_zero, List.set_cons_succ, i64_w, i32_w]
                    rfl
                  refine pure_ (i := 12) (N := (some 103)) (v := ?_) (a' := ?_) #[true, true, true, true, true, true, true, true, true, true, true, true, true, false, false, true, false, false] rfl rfl (any_of HT_.out (by kernel_rfl)) (fun _ _ _ h => h) (Or.inl ⟨by rfl, ?_⟩) ?_ ?_
                  rotate_left
                  · intro w'
                    go_simp
                    with_reducible rfl
                  rotate_left
                  · simp only [Act.put, List.setIfInBounds_toArray, List.set_cons_zero, List.set_cons_succ, i64_w, i32_w]
                    rfl
                  refine pure_ (i := 13) (N := (some 116)) (v := ?_) (a' := ?_) #[true, true, true, true, true, true, true, true, true, true, true, true, true, true, false, true, false, false] rfl rfl (any_of HT_.out (by kernel_rfl)) (fun _ _ _ h => h) (Or.inl ⟨by rfl, ?_⟩) ?_ ?_
                  rotate_left
                  · intro w'
                    go_simp
                    with_reducible rfl
                  rotate_left
                  · simp only [Act.put, List.setIfInBounds_toArray, List.set_cons_zero, List.set_cons_succ, i64_w, i32_w]
                    rfl
                  refine pure_ (i := 14) (N := (some 117)) (v := ?_) (a' := ?_) #[true, true, true, true, true, true, true, true, true, true, true, true, true, true, true, true, false, false] rfl rfl (any_of HT_.out (by kernel_rfl)) (fun _ _ _ h => h) (Or.inl ⟨by rfl, ?_⟩) ?_ ?_
                  rotate_left
                  · intro w'
                    go_simp
                    with_reducible rfl
                  rotate_left
                  · simp only [Act.put, List.setIfInBounds_toArray, List.set_cons_zero, List.set_cons_succ, i64_w, i32_w]
                    rfl
                  exact norm_ (by first | (simp only [putAll, Act.put, List.setIfInBounds_toArray, List.set_cons_zero, List.set_cons_succ]; done) | (simp only [putAll, Act.put, List.setIfInBounds_toArray, List.set_cons_zero, List.set_cons_succ]; rfl)) (hJ11_15 (Pz, AWz, cWz, AUz, cUz, AGz, cGz, g19) _ ⟨hsep, hbel⟩)
              rintro ⟨Pz, AWz, cWz, AUz, cUz, AGz, cGz, g19⟩ wj ⟨hsep, hbel⟩
              try dsimp only at hsep
              have hHeld : wj.heap[gd]? = some (.cells #[.int .i64 kd, .int .i64 (K : Int), .int .i64 O, .int .i64 0, .slice none 0 0, .slice none 0 0, .int .i64 (most : Int), .slice AW W.length cW, .slice AU U.length cU, .slice AG G.length cG, .int .i64 hits, .int .i64 misses] 50 (0, 0)) ∧ wj.cell? ⟨(ad.add (i * 3)).block, (ad.add (i * 3)).off + 1, none⟩ = some (.slice A1 s.f1.length c1) ∧ wj.cell? ⟨(ad.add (i * 3)).block, (ad.add (i * 3)).off + 2, none⟩ = some (.slice A2 s.f2.length c2) := ⟨hsep.get 4 rfl, ((hbel).cell (World.block_lt_of_cell? w _ HX1.out)).trans HX1.out, ((hbel).cell (World.block_lt_of_cell? w _ HX2.out)).trans HX2.out⟩
              refine norm_ (a' := ?_) ?_ ?_
              rotate_left
              · simp only [putAll, Act.put, List.setIfInBounds_toArray, List.set_cons_zero, List.set_cons_succ]
                rfl
              refine last_ (i := 16) (N := none) #[true, true, true, true, true, true, true, true, true, true, true, true, true, true, true, true, true, false] rfl rfl (one_of HT_.out (by kernel_rfl)) (by decide) (fun Kc hK => ?_)
              refine Sp.store_row_step (by rfl) rfl 50 (.tmp 19) (.tmp 116) rfl g19 #[.int .i64 kd, .int .i64 (K : Int), .int .i64 O, .int .i64 0, .slice none 0 0, .slice none 0 0, .int .i64 (most : Int), .slice AWz W2.length cWz, .slice AUz U2.length cUz, .slice AGz G2.length cGz, .int .i64 hits, .int .i64 misses] rfl rfl 50 _ (hsep.get 0 rfl) (by rw [i50]; rfl) rfl (by simp [Value.oneCell']) ?_
              have hsep1 : Sp.Sep w.heap.size [Sp.blk g19 #[.int .i64 kd, .int .i64 (K : Int), .int .i64 O, .int .i64 0, .slice none 0 0, .slice none 0 0, .int .i64 (most : Int), .slice AWz W2.length cWz, .slice AUz U2.length cUz, .slice AGz G2.length cGz, .int .i64 hits, .int .i64 misses] 50, ints w.heap.size (.slice (some ⟨gl2, 0, none⟩) (s.f2 ++ [-771, -772]).length cl2) (s.f2 ++ [-771, -772]), ints w.heap.size (.slice (some ⟨gl1, 0, none⟩) (s.f1 ++ [-771, -772]).length cl1) (s.f1 ++ [-771, -772]), refR Pz (.slice AWz W2.length cWz) (.slice AUz U2.length cUz) (.slice AGz G2.length cGz) W2 U2 G2, blk gd #[.int .i64 kd, .int .i64 (K : Int), .int .i64 O, .int .i64 0, .slice none 0 0, .slice none 0 0, .int .i64 (most : Int), .slice AW W.length cW, .slice AU U.length cU, .slice AG G.length cG, .int .i64 hits, .int .i64 misses] 50, trie w.heap.size own2 g kd K O most n2 B2 V2 hits misses] _ := hsep.setStruct 0 rfl #[.int .i64 kd, .int .i64 (K : Int), .int .i64 O, .int .i64 0, .slice none 0 0, .slice none 0 0, .int .i64 (most : Int), .slice AWz W2.length cWz, .slice AUz U2.length cUz, .slice AGz G2.length cGz, .int .i64 hits, .int .i64 misses] hbel.size
              have hbel1 := below_setRow hbel (hsep.bound 0 rfl (show g19 = g19 from rfl)).1 #[.int .i64 kd, .int .i64 (K : Int), .int .i64 O, .int .i64 0, .slice none 0 0, .slice none 0 0, .int .i64 (most : Int), .slice AWz W2.length cWz, .slice AUz U2.length cUz, .slice AGz G2.length cGz, .int .i64 hits, .int .i64 misses]
              refine hK.out _ _ ?_
              clear hK Kc hsep hbel
              refine pure_ (i := 17) (N := (some 20)) (v := ?_) (a' := ?_) #[true, true, true, true, true, true, true, true, true, true, true, true, true, true, true, true, true, true] rfl rfl (any_of HT_.out (by kernel_rfl)) (fun _ _ _ h => h) (Or.inl ⟨by rfl, ?_⟩) ?_ ?_
              rotate_left
              · intro w'
                go_simp
                with_reducible rfl
              rotate_left
              · simp only [Act.put, List.setIfInBounds_toArray, List.set_cons_zero, List.set_cons_succ, i64_w, i32_w]
                rfl
              refine done_ (done_of HT_.out (by kernel_rfl)) ?_
              generalize World.setRow _ g19 _ = w9 at hsep1 hbel1 ⊢
              have HS9 := Aside0.mk hsep1
              have HB9 := Aside0.mk hbel1
              clear hsep1 hbel1 hHeld
              go_wp2_with (first
              | (go_at_call 13; with_reducible refine (tutorlaw11_num.calls 0 0 _ rfl).mono ?_
                 rintro e w11 ⟨rfl, ⟨ndn, rfl⟩⟩
                 have HS11 := Aside0.mk (HS10.out.low (pw_below_drewN (Below.refl _ _) ndn))
                 have HB11 := Aside0.mk (pw_below_drewN HB10.out ndn)
                 generalize World.drewN _ ndn = w11 at HS11 HB11 ⊢)
              | ((with_reducible refine gate_store (t := 50) (p := 13) rfl ?_)
                 refine wpList_store_rowTo rfl 50 (.tmp 13) (.tmp 118) rfl rfl gd #[.int .i64 kd, .int .i64 (K : Int), .int .i64 O, .int .i64 0, .slice none 0 0, .slice none 0 0, .int .i64 (most : Int), .slice AWz W2.length cWz, .slice AUz U2.length cUz, .slice AGz G2.length cGz, .int .i64 hits, .int .i64 misses] rfl rfl 50 _ (HS9.out.get 4 rfl) ?_ ?_ (by simp [Value.oneCell']) ?_
                 (focus (rw [i50]; rfl))
                 (focus rfl)
                 have HS10 : Aside0 (Sep w.heap.size [blk g19 #[.int .i64 kd, .int .i64 (K : Int), .int .i64 O, .int .i64 0, .slice none 0 0, .slice none 0 0, .int .i64 (most : Int), .slice AWz W2.length cWz, .slice AUz U2.length cUz, .slice AGz G2.length cGz, .int .i64 hits, .int .i64 misses] 50, ints w.heap.size (.slice (some ⟨gl2, 0, none⟩) (s.f2 ++ [-771, -772]).length cl2) (s.f2 ++ [-771, -772]), ints w.heap.size (.slice (some ⟨gl1, 0, none⟩) (s.f1 ++ [-771, -772]).length cl1) (s.f1 ++ [-771, -772]), refR Pz (.slice AWz W2.length cWz) (.slice AUz U2.length cUz) (.slice AGz G2.length cGz) W2 U2 G2, blk gd #[.int .i64 kd, .int .i64 (K : Int), .int .i64 O, .int .i64 0, .slice none 0 0, .slice none 0 0, .int .i64 (most : Int), .slice AWz W2.length cWz, .slice AUz U2.length cUz, .slice AGz G2.length cGz, .int .i64 hits, .int .i64 misses] 50, trie w.heap.size own2 g kd K O most n2 B2 V2 hits misses] (World.setRow w9 gd #[.int .i64 kd, .int .i64 (K : Int), .int .i64 O, .int .i64 0, .slice none 0 0, .slice none 0 0, .int .i64 (most : Int), .slice AWz W2.length cWz, .slice AUz U2.length cUz, .slice AGz G2.length cGz, .int .i64 hits, .int .i64 misses])) := ⟨HS9.out.setStruct 4 rfl #[.int .i64 kd, .int .i64 (K : Int), .int .i64 O, .int .i64 0, .slice none 0 0, .slice none 0 0, .int .i64 (most : Int), .slice AWz W2.length cWz, .slice AUz U2.length cUz, .slice AGz G2.length cGz, .int .i64 hits, .int .i64 misses] HB9.out.size⟩
                 have HB10 := Aside0.mk (below_setRow HB9.out (HS9.out.bound 4 rfl (show gd = gd from rfl)).1 #[.int .i64 kd, .int .i64 (K : Int), .int .i64 O, .int .i64 0, .slice none 0 0, .slice none 0 0, .int .i64 (most : Int), .slice AWz W2.length cWz, .slice AUz U2.length cUz, .slice AGz G2.length cGz, .int .i64 hits, .int .i64 misses])
                 generalize World.setRow _ gd _ = w10 at HS10 HB10 ⊢)
              | ((with_reducible refine gate_dst (N := 118) rfl ?_)
                 refine wpList_load_row rfl 50 (.tmp 19) rfl g19 rfl 50 #[.int .i64 kd, .int .i64 (K : Int), .int .i64 O, .int .i64 0, .slice none 0 0, .slice none 0 0, .int .i64 (most : Int), .slice AWz W2.length cWz, .slice AUz U2.length cUz, .slice AGz G2.length cGz, .int .i64 hits, .int .i64 misses] (0, 0) _ (HS9.out.get 0 rfl) Try.underlying50 rfl ?_ ?_
                 (focus (rw [i50]; rfl))))
              go_meet
              case rel => exact ⟨n2, B2, V2, own2, hits, misses, Pz, W2, U2, G2, AWz, cWz, AUz, cUz, AGz, cGz, blk g19 #[.int .i64 kd, .int .i64 (K : Int), .int .i64 O, .int .i64 0, .slice none 0 0, .slice none 0 0, .int .i64 (most : Int), .slice AWz W2.length cWz, .slice AUz U2.length cUz, .slice AGz G2.length cGz, .int .i64 hits, .int .i64 misses] 50, ⟨by have h1 := HI.out; have h2 := HIL.out; have h3 := HNR.out; have h4 : W2.length = W.length + 1 := (by rw [← HWE.out.1]; simp); omega⟩, HRI2, HS11, HB11⟩
            · obtain ⟨x, hx⟩ : ∃ x, putErr kd K O most n Vf s.f1 s.f2 at0 = x := ⟨_, rfl⟩
              rw [hx] at he0
              have HE := Aside0.mk hx
              have hx0 : x ≠ 0 := he0
              clear he0 hx
              obtain ⟨Up, Yp, Dp, htri⟩ := trie_tri (HS7.out.get 5 rfl)
              have HTR := Aside0.mk htri
              have HRE : Aside0 (refErr kd K O most W U G s.f1 s.f2 = x) := ⟨(refErr_is htri HAT.out.1 HAT.out.2 HRI.out HKD.out HI.out.2.2.1).trans HE.out⟩
              clear htri
              go_wp2_with (first
              | (go_at_call 15; refine (Put_no HS7.out 5 rfl HB7.out.size HKD.out HI.out.2.2.1 HMO.out.2 HKK.out.1 HKK.out.2 s.f1 (by have := HSL.out; omega) (some ⟨gl1, 0, none⟩) s.f1.length cl1 rfl (lent_C (HS7.out.get 2 rfl)).2 s.f2 (some ⟨gl2, 0, none⟩) s.f2.length cl2 rfl (lent_rd HS7.out 5 2 rfl (fun _ hk => hk) rfl (by decide)) (lent_rd HS7.out 5 1 rfl (fun _ hk => hk) rfl (by decide)) at0 HAT.out.1 HAT.out.2 x HE.out hx0).mono ?_
                 rintro e w8 ⟨own2, rfl, hS, hb⟩
                 have HSp : Aside0 (Sep w.heap.size [none_, ints w.heap.size (.slice (some ⟨gl2, 0, none⟩) (s.f2 ++ [-771, -772]).length cl2) (s.f2 ++ [-771, -772]), ints w.heap.size (.slice (some ⟨gl1, 0, none⟩) (s.f1 ++ [-771, -772]).length cl1) (s.f1 ++ [-771, -772]), refR P (.slice AW W.length cW) (.slice AU U.length cU) (.slice AG G.length cG) W U G, blk gd #[.int .i64 kd, .int .i64 (K : Int), .int .i64 O, .int .i64 0, .slice none 0 0, .slice none 0 0, .int .i64 (most : Int), .slice AW W.length cW, .slice AU U.length cU, .slice AG G.length cG, .int .i64 hits, .int .i64 misses] 50, trie w.heap.size own2 g kd K O most n Bf Vf hits misses] w8) := ⟨hS⟩
                 have HBp := Aside0.mk (HB7.out.trans hb)
                 clear hS hb))
              have HRI2 := HRI
              refine start_ (n := 18) (S := fun w' => w'.heap[gd]? = some (.cells #[.int .i64 kd, .int .i64 (K : Int), .int .i64 O, .int .i64 0, .slice none 0 0, .slice none 0 0, .int .i64 (most : Int), .slice AW W.length cW, .slice AU U.length cU, .slice AG G.length cG, .int .i64 hits, .int .i64 misses] 50 (0, 0)) ∧ w'.cell? ⟨(ad.add (i * 3)).block, (ad.add (i * 3)).off + 1, none⟩ = some (.slice A1 s.f1.length c1) ∧ w'.cell? ⟨(ad.add (i * 3)).block, (ad.add (i * 3)).off + 2, none⟩ = some (.slice A2 s.f2.length c2)) (ds := [16]) #[false, false, false, false, false, false, false, false, false, false, false, false, false, false, false, false, false, false] (by kernel_rfl) rfl rfl (⟨(HSp.out.low (below_drew1 (Below.refl _ _))).get 4 rfl, ((below_drew1 HBp.out).cell (World.block_lt_of_cell? w _ HX1.out)).trans HX1.out, ((below_drew1 HBp.out).cell (World.block_lt_of_cell? w _ HX2.out)).trans HX2.out⟩) (fun hHeld => ?_)
              refine with_tabW pl.tab21 pl.bits21 (fun HT_ HW_ => ?_)
              have hsep := HSp.out.low (below_drew1 (Below.refl _ _))
              have hbel := below_drew1 HBp.out
              clear HSp HBp
              generalize w8.drew = wd at hsep hbel hHeld ⊢
              refine pure_ (i := 1) (N := (some 105)) (v := ?_) (a' := ?_) #[false, true, false, false, false, false, false, false, false, false, false, false, false, false, false, false, false, false] rfl rfl (any_of HT_.out (by kernel_rfl)) (fun _ _ _ h => h) (Or.inl ⟨by rfl, ?_⟩) ?_ ?_
              rotate_left
              · intro w'
                go_simp
                with_reducible rfl
              rotate_left
              · simp only [Act.put, List.setIfInBounds_toArray, List.set_cons_zero, List.set_cons_succ, i64_w, i32_w]
                rfl
              refine pure_ (i := 2) (N := (some 106)) (v := ?_) (a' := ?_) #[false, true, true, false, false, false, false, false, false, false, false, false, false, false, false, false, false, false] rfl rfl (any_of HT_.out (by kernel_rfl)) (fun _ _ _ h => h) (Or.inl ⟨by rfl, ?_⟩) ?_ ?_
              rotate_left
              · intro w'
                go_simp
                with_reducible rfl
              rotate_left
              · simp only [Act.put, List.setIfInBounds_toArray, List.set_cons_zero, List.set_cons_succ, i64_w, i32_w]
                rfl
              refine pure_ (i := 3) (N := (some 107)) (v := ?_) (a' := ?_) #[false, true, true, true, false, false, false, false, false, false, false, false, false, false, false, false, false, false] rfl rfl (any_of HT_.out (by kernel_rfl)) (fun _ _ _ h => h) (Or.inl ⟨by rfl, ?_⟩) ?_ ?_
              rotate_left
              · intro w'
                go_simp
                with_reducible rfl
              rotate_left
              · simp only [Act.put, List.setIfInBounds_toArray, List.set_cons_zero, List.set_cons_succ, i64_w, i32_w]
                rfl
              refine pure_ (i := 4) (N := (some 108)) (v := ?_) (a' := ?_) #[false, true, true, true, true, false, false, false, false, false, false, false, false, false, false, false, false, false] rfl rfl (any_of HT_.out (by kernel_rfl)) (fun _ _ _ h => h) (Or.inl ⟨by rfl, ?_⟩) ?_ ?_
              rotate_left
              · intro w'
                go_simp
                with_reducible rfl
              rotate_left
              · simp only [Act.put, List.setIfInBounds_toArray, List.set_cons_zero, List.set_cons_succ, i64_w, i32_w]
                rfl
              refine pure_ (i := 6) (N := (some 110)) (v := ?_) (a' := ?_) #[false, true, true, true, true, false, true, false, false, false, false, false, false, false, false, false, false, false] rfl rfl (any_of HT_.out (by kernel_rfl)) (fun _ _ _ h => h) (Or.inl ⟨by rfl, ?_⟩) ?_ ?_
              rotate_left
              · intro w'
                go_simp
                with_reducible rfl
              rotate_left
              · simp only [Act.put, List.setIfInBounds_toArray, List.set_cons_zero, List.set_cons_succ, i64_w, i32_w]
                rfl
              refine pure_ (i := 7) (N := (some 111)) (v := ?_) (a' := ?_) #[false, true, true, true, true, false, true, true, false, false, false, false, false, false, false, false, false, false] rfl rfl (any_of HT_.out (by kernel_rfl)) (fun _ _ _ h => h) (Or.inl ⟨by rfl, ?_⟩) ?_ ?_
              rotate_left
              · intro w'
                go_simp
                with_reducible rfl
              rotate_left
              · simp only [Act.put, List.setIfInBounds_toArray, List.set_cons_zero, List.set_cons_succ, i64_w, i32_w]
                rfl
              refine pure_ (i := 8) (N := (some 112)) (v := ?_) (a' := ?_) #[false, true, true, true, true, false, true, true, true, false, false, false, false, false, false, false, false, false] rfl rfl (any_of HT_.out (by kernel_rfl)) (fun _ _ _ h => h) (Or.inl ⟨by rfl, ?_⟩) ?_ ?_
              rotate_left
              · intro w'
                go_simp
                with_reducible rfl
              rotate_left
              · simp only [Act.put, List.setIfInBounds_toArray, List.set_cons_zero, List.set_cons_succ, i64_w, i32_w]
                rfl
              refine pure_ (i := 9) (N := (some 113)) (v := ?_) (a' := ?_) #[false, true, true, true, true, false, true, true, true, true, false, false, false, false, false, false, false, false] rfl rfl (any_of HT_.out (by kernel_rfl)) (fun _ _ _ h => h) (Or.inl ⟨by rfl, ?_⟩) ?_ ?_
              rotate_left
              · intro w'
                go_simp
                with_reducible rfl
              rotate_left
              · simp only [Act.put, List.setIfInBounds_toArray, List.set_cons_zero, List.set_cons_succ, i64_w, i32_w]
                rfl
              refine take_ (i := 0) (N := (some 104)) (v := .agg #[.int .i64 kd, .int .i64 (K : Int), .int .i64 O, .int .i64 0, .slice none 0 0, .slice none 0 0, .int .i64 (most : Int), .slice AW W.length cW, .slice AU U.length cU, .slice AG G.length cG, .int .i64 hits, .int .i64 misses]) (a' := ?_) #[true, true, true, true, true, false, true, true, true, true, false, false, false, false, false, false, false, false] rfl rfl (take_ofW HT_.out HW_.out (by kernel_rfl)) (fun _ _ _ h => h) (yieldsIf_load_mid (by rfl) 50 _ rfl gd 0 rfl [.int .i64 kd, .int .i64 (K : Int), .int .i64 O, .int .i64 0, .slice none 0 0, .slice none 0 0, .int .i64 (most : Int), .slice AW W.length cW, .slice AU U.length cU, .slice AG G.length cG, .int .i64 hits, .int .i64 misses] _ (fun w' h => box_all h.1) Try.underlying50 rfl (by rw [i50]; rfl)) hHeld ?_ ?_
              rotate_left
              · simp only [Act.put, List.setIfInBounds_toArray, List.set_cons_zero, List.set_cons_succ, i64_w, i32_w]
                rfl
              refine take_ (i := 5) (N := (some 109)) (v := ?_) (a' := ?_) #[true, true, true, true, true, true, true, true, true, true, false, false, false, false, false, false, false, false] rfl rfl (take_ofW HT_.out HW_.out (by kernel_rfl)) (fun _ _ _ h => h) (Or.inl ⟨by rfl, ?_⟩) hHeld ?_ ?_
              rotate_left
              · intro w' s0
                obtain ⟨_, s1, s2⟩ := s0
                go_simp
                with_reducible rfl
              rotate_left
              · simp only [Act.put, List.setIfInBounds_toArray, List.set_cons_zero, List.set_cons_succ, i64_w, i32_w]
                rfl
              refine take_ (i := 10) (N := (some 114)) (v := ?_) (a' := ?_) #[true, true, true, true, true, true, true, true, true, true, true, false, false, false, false, false, false, false] rfl rfl (take_ofW HT_.out HW_.out (by kernel_rfl)) (fun _ _ _ h => h) (Or.inl ⟨by rfl, ?_⟩) hHeld ?_ ?_
              rotate_left
              · intro w' s0
                obtain ⟨_, s1, s2⟩ := s0
                go_simp
                with_reducible rfl
              rotate_left
              · simp only [Act.put, List.setIfInBounds_toArray, List.set_cons_zero, List.set_cons_succ, i64_w, i32_w]
                rfl
              refine join_ (σ := (Nat → Prop) × Option Addr × Nat × Option Addr × Nat × Option Addr × Nat × Nat) 2 #[true, true, true, true, true, true, true, true, true, true, true, true, true, true, true, true, false, false] (fun s_ => [(115, .tuple #[.agg #[.int .i64 kd, .int .i64 (K : Int), .int .i64 O, .int .i64 0, .slice none 0 0, .slice none 0 0, .int .i64 (most : Int), .slice s_.2.1 W.length s_.2.2.1, .slice s_.2.2.2.1 U.length s_.2.2.2.2.1, .slice s_.2.2.2.2.2.1 G.length s_.2.2.2.2.2.2.1, .int .i64 hits, .int .i64 misses], .int .i64 x]), (19, .pointer (some ⟨s_.2.2.2.2.2.2.2, 0, none⟩)), (103, .tuple #[.agg #[.int .i64 kd, .int .i64 (K : Int), .int .i64 O, .int .i64 0, .slice none 0 0, .slice none 0 0, .int .i64 (most : Int), .slice s_.2.1 W.length s_.2.2.1, .slice s_.2.2.2.1 U.length s_.2.2.2.2.1, .slice s_.2.2.2.2.2.1 G.length s_.2.2.2.2.2.2.1, .int .i64 hits, .int .i64 misses], .int .i64 x]), (116, .agg #[.int .i64 kd, .int .i64 (K : Int), .int .i64 O, .int .i64 0, .slice none 0 0, .slice none 0 0, .int .i64 (most : Int), .slice s_.2.1 W.length s_.2.2.1, .slice s_.2.2.2.1 U.length s_.2.2.2.2.1, .slice s_.2.2.2.2.2.1 G.length s_.2.2.2.2.2.2.1, .int .i64 hits, .int .i64 misses]), (117, .int .i64 x)]) (fun s_ w' => Sp.Sep w.heap.size [Sp.blk s_.2.2.2.2.2.2.2 #[.int .i64 0, .int .i64 0, .int .i64 0, .int .i64 0, .slice none 0 0, .slice none 0 0, .int .i64 0, .slice none 0 0, .slice none 0 0, .slice none 0 0, .int .i64 0, .int .i64 0] 50, ints w.heap.size (.slice (some ⟨gl2, 0, none⟩) (s.f2 ++ [-771, -772]).length cl2) (s.f2 ++ [-771, -772]), ints w.heap.size (.slice (some ⟨gl1, 0, none⟩) (s.f1 ++ [-771, -772]).length cl1) (s.f1 ++ [-771, -772]), refR s_.1 (.slice s_.2.1 W.length s_.2.2.1) (.slice s_.2.2.2.1 U.length s_.2.2.2.2.1) (.slice s_.2.2.2.2.2.1 G.length s_.2.2.2.2.2.2.1) W U G, blk gd #[.int .i64 kd, .int .i64 (K : Int), .int .i64 O, .int .i64 0, .slice none 0 0, .slice none 0 0, .int .i64 (most : Int), .slice AW W.length cW, .slice AU U.length cU, .slice AG G.length cG, .int .i64 hits, .int .i64 misses] 50, trie w.heap.size own2 g kd K O most n Bf Vf hits misses] w' ∧ Below w.heap.size w w') ?_ ?_
              rotate_left
              · intro hJ11_15
                refine two_ (i := 11) (j := 15) (Ni := some 115) (Nj := some 19) #[true, true, true, true, true, true, true, true, true, true, true, true, false, false, false, false, false, false] #[true, true, true, true, true, true, true, true, true, true, true, false, false, false, false, true, false, false] rfl rfl rfl rfl (two_of HT_.out (by kernel_rfl)) (by decide) (by decide) (fun Kc hK => ?_) (fun Kc hK => ?_)
                · skip
                  refine goes_ Try.func25 (by kernel_rfl) rfl #[.agg #[.int .i64 kd, .int .i64 (K : Int), .int .i64 O, .int .i64 0, .slice none 0 0, .slice none 0 0, .int .i64 (most : Int), .slice AW W.length cW, .slice AU U.length cU, .slice AG G.length cG, .int .i64 hits, .int .i64 misses], .slice A1 s.f1.length c1, .slice A2 s.f2.length c2] (by rfl) rfl rfl (by (try simp only [List.map_toArray, List.map_cons, List.map_nil]); first | done | rfl | simp [Act.eval]) ?_
                  rename World => wq21
                  refine (RPut_walk kd P K O most hits misses AW cW AU cU AG cG W U G wq21 s.f1 A1 c1 s.f2 A2 c2 (hsep.get 3 rfl).2.2.2 (hsep.get 3 rfl).1 (hsep.get 3 rfl).2.1 (hsep.get 3 rfl).2.2.1 (Kd.C_below HG.out.2.1 hbel) HG.out.1 (Kd.C_below HG.out.2.2.2 hbel) HG.out.2.2.1 HKK.out HRI.out.len (fun y hy => by have := HRI.out.wl y hy; omega) (by have h1 := HI.out; have h2 := HI60.out; omega) (fun y hy => by have := HRI.out.ul y hy; omega) (fun y hy => by have := HRI.out.gl y hy; omega) (by have h0 := HRI.out.len; have h1 := HI.out; have h2 := HI60.out; omega) (by rw [HRI.out.g, List.length_map, List.length_range]; have := HNB.out; omega) (by have := HSL.out; omega) (by have := HSL.out; omega) HKD.out HRI.out.outs).mono ?_
                  rintro e wx hp
                  obtain ⟨AWz, cWz, AUz, cUz, AGz, cGz, rfl, k1, k2, k3, hb⟩ := hp.open_ HRE.out (W2 := W) (U2 := U) (G2 := G) (if_neg hx0) (if_neg hx0) (if_neg hx0)
                  refine ⟨_, rfl, ?_⟩
                  obtain ⟨Pz, hPz⟩ : ∃ Pz, Since P wq21.heap.size wx = Pz := ⟨_, rfl⟩
                  have hsep1 : Sp.Sep w.heap.size [Sp.none_, ints w.heap.size (.slice (some ⟨gl2, 0, none⟩) (s.f2 ++ [-771, -772]).length cl2) (s.f2 ++ [-771, -772]), ints w.heap.size (.slice (some ⟨gl1, 0, none⟩) (s.f1 ++ [-771, -772]).length cl1) (s.f1 ++ [-771, -772]), refR Pz (.slice AWz W.length cWz) (.slice AUz U.length cUz) (.slice AGz G.length cGz) W U G, blk gd #[.int .i64 kd, .int .i64 (K : Int), .int .i64 O, .int .i64 0, .slice none 0 0, .slice none 0 0, .int .i64 (most : Int), .slice AW W.length cW, .slice AU U.length cU, .slice AG G.length cG, .int .i64 hits, .int .i64 misses] 50, trie w.heap.size own2 g kd K O most n Bf Vf hits misses] wx := by
                    have h1 := ref_put hsep 3 rfl k1 k2 k3 hb hbel.size
                    rw [hPz] at h1
                    exact h1
                  have hbel1 := below_step hbel hb
                  clear hPz k1 k2 k3 hb hp
                  refine hK.out _ _ ⟨hsep1.get 4 rfl, ((hbel1).cell (World.block_lt_of_cell? w _ HX1.out)).trans HX1.out, ((hbel1).cell (World.block_lt_of_cell? w _ HX2.out)).trans HX2.out⟩ (fun hHeld => ?_)
                  clear hK Kc hsep hbel
                  have hsep := hsep1
                  have hbel := hbel1
                  clear hsep1 hbel1
                  refine norm_ (a' := ?_) ?_ ?_
                  rotate_left
                  · show Act.put _ (some 115) _ = _
                    simp only [Act.put, List.setIfInBounds_toArray, List.set_cons_zero, List.set_cons_succ, i64_w, i32_w]
                    rfl
                  refine pure_ (i := 12) (N := (some 103)) (v := ?_) (a' := ?_) #[true, true, true, true, true, true, true, true, true, true, true, true, true, false, false, false, false, false] rfl rfl (any_of HT_.out (by kernel_rfl)) (fun _ _ _ h => h) (Or.inl ⟨by rfl, ?_⟩) ?_ ?_
                  rotate_left
                  · intro w'
                    go_simp
                    with_reducible rfl
                  rotate_left
                  · simp only [Act.put, List.setIfInBounds_toArray, List.set_cons_zero, List.set_cons_succ, i64_w, i32_w]
                    rfl
                  refine pure_ (i := 13) (N := (some 116)) (v := ?_) (a' := ?_) #[true, true, true, true, true, true, true, true, true, true, true, true, true, true, false, false, false, false] rfl rfl (any_of HT_.out (by kernel_rfl)) (fun _ _ _ h => h) (Or.inl ⟨by rfl, ?_⟩) ?_ ?_
                  rotate_left
                  · intro w'
                    go_simp
                    with_reducible rfl
                  rotate_left
                  · simp only [Act.put, List.setIfInBounds_toArray, List.set_cons_zero, List.set_cons_succ, i64_w, i32_w]
                    rfl
                  refine pure_ (i := 14) (N := (some 117)) (v := ?_) (a' := ?_) #[true, true, true, true, true, true, true, true, true, true, true, true, true, true, true, false, false, false] rfl rfl (any_of HT_.out (by kernel_rfl)) (fun _ _ _ h => h) (Or.inl ⟨by rfl, ?_⟩) ?_ ?_
                  rotate_left
                  · intro w'
                    go_simp
                    with_reducible rfl
                  rotate_left
                  · simp only [Act.put, List.setIfInBounds_toArray, List.set_cons_zero, List.set_cons_succ, i64_w, i32_w]
                    rfl
                  refine one_ (i := 15) (N := some 19) #[true, true, true, true, true, true, true, true, true, true, true, true, true, true, true, true, false, false] rfl rfl (one_of HT_.out (by kernel_rfl)) (by decide) (fun Kc hK => ?_)
                  refine box_step ?hg (N := 19) ?hd (cs := #[.int .i64 0, .int .i64 0, .int .i64 0, .int .i64 0, .slice none 0 0, .slice none 0 0, .int .i64 0, .slice none 0 0, .slice none 0 0, .slice none 0 0, .int .i64 0, .int .i64 0]) (t := 50) ?hr ?_; (case hd => rfl); (case hg => rfl); (case hr => first | (go_simp; done) | (go_simp; rfl))
                  intro g19 hg w1 hbox hb
                  have hsep1 : Sp.Sep w.heap.size [Sp.blk g19 #[.int .i64 0, .int .i64 0, .int .i64 0, .int .i64 0, .slice none 0 0, .slice none 0 0, .int .i64 0, .slice none 0 0, .slice none 0 0, .slice none 0 0, .int .i64 0, .int .i64 0] 50, ints w.heap.size (.slice (some ⟨gl2, 0, none⟩) (s.f2 ++ [-771, -772]).length cl2) (s.f2 ++ [-771, -772]), ints w.heap.size (.slice (some ⟨gl1, 0, none⟩) (s.f1 ++ [-771, -772]).length cl1) (s.f1 ++ [-771, -772]), refR Pz (.slice AWz W.length cWz) (.slice AUz U.length cUz) (.slice AGz G.length cGz) W U G, blk gd #[.int .i64 kd, .int .i64 (K : Int), .int .i64 O, .int .i64 0, .slice none 0 0, .slice none 0 0, .int .i64 (most : Int), .slice AW W.length cW, .slice AU U.length cU, .slice AG G.length cG, .int .i64 hits, .int .i64 misses] 50, trie w.heap.size own2 g kd K O most n Bf Vf hits misses] w1 := hsep.fillBlk 0 rfl hg hbox hb hbel.size
                  have hbel1 := below_then hbel hbel.size hb
                  clear hg hbox hb
                  refine hK.out _ _ ⟨hsep1.get 4 rfl, ((hbel1).cell (World.block_lt_of_cell? w _ HX1.out)).trans HX1.out, ((hbel1).cell (World.block_lt_of_cell? w _ HX2.out)).trans HX2.out⟩ (fun hHeld => ?_)
                  clear hK Kc hsep hbel
                  have hsep := hsep1
                  have hbel := hbel1
                  clear hsep1 hbel1
                  refine norm_ (a' := ?_) ?_ ?_
                  rotate_left
                  · show Act.put _ (some 19) _ = _
                    simp only [Act.put, List.setIfInBounds_toArray, List.set_cons_zero, List.set_cons_succ, i64_w, i32_w]
                    rfl
                  exact norm_ (by first | (simp only [putAll, Act.put, List.setIfInBounds_toArray, List.set_cons_zero, List.set_cons_succ]; done) | (simp only [putAll, Act.put, List.setIfInBounds_toArray, List.set_cons_zero, List.set_cons_succ]; rfl)) (hJ11_15 (Pz, AWz, cWz, AUz, cUz, AGz, cGz, g19) _ ⟨hsep, hbel⟩)
                · skip
                  refine box_step ?hg (N := 19) ?hd (cs := #[.int .i64 0, .int .i64 0, .int .i64 0, .int .i64 0, .slice none 0 0, .slice none 0 0, .int .i64 0, .slice none 0 0, .slice none 0 0, .slice none 0 0, .int .i64 0, .int .i64 0]) (t := 50) ?hr ?_; (case hd => rfl); (case hg => rfl); (case hr => first | (go_simp; done) | (go_simp; rfl))
                  intro g19 hg w1 hbox hb
                  have hsep1 : Sp.Sep w.heap.size [Sp.blk g19 #[.int .i64 0, .int .i64 0, .int .i64 0, .int .i64 0, .slice none 0 0, .slice none 0 0, .int .i64 0, .slice none 0 0, .slice none 0 0, .slice none 0 0, .int .i64 0, .int .i64 0] 50, ints w.heap.size (.slice (some ⟨gl2, 0, none⟩) (s.f2 ++ [-771, -772]).length cl2) (s.f2 ++ [-771, -772]), ints w.heap.size (.slice (some ⟨gl1, 0, none⟩) (s.f1 ++ [-771, -772]).length cl1) (s.f1 ++ [-771, -772]), refR P (.slice AW W.length cW) (.slice AU U.length cU) (.slice AG G.length cG) W U G, blk gd #[.int .i64 kd, .int .i64 (K : Int), .int .i64 O, .int .i64 0, .slice none 0 0, .slice none 0 0, .int .i64 (most : Int), .slice AW W.length cW, .slice AU U.length cU, .slice AG G.length cG, .int .i64 hits, .int .i64 misses] 50, trie w.heap.size own2 g kd K O most n Bf Vf hits misses] w1 := hsep.fillBlk 0 rfl hg hbox hb hbel.size
                  have hbel1 := below_then hbel hbel.size hb
                  clear hg hbox hb
                  refine hK.out _ _ ⟨hsep1.get 4 rfl, ((hbel1).cell (World.block_lt_of_cell? w _ HX1.out)).trans HX1.out, ((hbel1).cell (World.block_lt_of_cell? w _ HX2.out)).trans HX2.out⟩ (fun hHeld => ?_)
                  clear hK Kc hsep hbel
                  have hsep := hsep1
                  have hbel := hbel1
                  clear hsep1 hbel1
                  refine norm_ (a' := ?_) ?_ ?_
                  rotate_left
                  · show Act.put _ (some 19) _ = _
                    simp only [Act.put, List.setIfInBounds_toArray, List.set_cons_zero, List.set_cons_succ, i64_w, i32_w]
                    rfl
                  refine one_ (i := 11) (N := some 115) #[true, true, true, true, true, true, true, true, true, true, true, true, false, false, false, true, false, false] rfl rfl (one_of HT_.out (by kernel_rfl)) (by decide) (fun Kc hK => ?_)
                  refine goes_ Try.func25 (by kernel_rfl) rfl #[.agg #[.int .i64 kd, .int .i64 (K : Int), .int .i64 O, .int .i64 0, .slice none 0 0, .slice none 0 0, .int .i64 (most : Int), .slice AW W.length cW, .slice AU U.length cU, .slice AG G.length cG, .int .i64 hits, .int .i64 misses], .slice A1 s.f1.length c1, .slice A2 s.f2.length c2] (by rfl) rfl rfl (by (try simp only [List.map_toArray, List.map_cons, List.map_nil]); first | done | rfl | simp [Act.eval]) ?_
                  rename World => wq21
                  refine (RPut_walk kd P K O most hits misses AW cW AU cU AG cG W U G wq21 s.f1 A1 c1 s.f2 A2 c2 (hsep.get 3 rfl).2.2.2 (hsep.get 3 rfl).1 (hsep.get 3 rfl).2.1 (hsep.get 3 rfl).2.2.1 (Kd.C_below HG.out.2.1 hbel) HG.out.1 (Kd.C_below HG.out.2.2.2 hbel) HG.out.2.2.1 HKK.out HRI.out.len (fun y hy => by have := HRI.out.wl y hy; omega) (by have h1 := HI.out; have h2 := HI60.out; omega) (fun y hy => by have := HRI.out.ul y hy; omega) (fun y hy => by have := HRI.out.gl y hy; omega) (by have h0 := HRI.out.len; have h1 := HI.out; have h2 := HI60.out; omega) (by rw [HRI.out.g, List.length_map, List.length_range]; have := HNB.out; omega) (by have := HSL.out; omega) (by have := HSL.out; omega) HKD.out HRI.out.outs).mono ?_
                  rintro e wx hp
                  obtain ⟨AWz, cWz, AUz, cUz, AGz, cGz, rfl, k1, k2, k3, hb⟩ := hp.open_ HRE.out (W2 := W) (U2 := U) (G2 := G) (if_neg hx0) (if_neg hx0) (if_neg hx0)
                  refine ⟨_, rfl, ?_⟩
                  obtain ⟨Pz, hPz⟩ : ∃ Pz, Since P wq21.heap.size wx = Pz := ⟨_, rfl⟩
                  have hsep1 : Sp.Sep w.heap.size [Sp.blk g19 #[.int .i64 0, .int .i64 0, .int .i64 0, .int .i64 0, .slice none 0 0, .slice none 0 0, .int .i64 0, .slice none 0 0, .slice none 0 0, .slice none 0 0, .int .i64 0, .int .i64 0] 50, ints w.heap.size (.slice (some ⟨gl2, 0, none⟩) (s.f2 ++ [-771, -772]).length cl2) (s.f2 ++ [-771, -772]), ints w.heap.size (.slice (some ⟨gl1, 0, none⟩) (s.f1 ++ [-771, -772]).length cl1) (s.f1 ++ [-771, -772]), refR Pz (.slice AWz W.length cWz) (.slice AUz U.length cUz) (.slice AGz G.length cGz) W U G, blk gd #[.int .i64 kd, .int .i64 (K : Int), .int .i64 O, .int .i64 0, .slice none 0 0, .slice none 0 0, .int .i64 (most : Int), .slice AW W.length cW, .slice AU U.length cU, .slice AG G.length cG, .int .i64 hits, .int .i64 misses] 50, trie w.heap.size own2 g kd K O most n Bf Vf hits misses] wx := by
                    have h1 := ref_put hsep 3 rfl k1 k2 k3 hb hbel.size
                    rw [hPz] at h1
                    exact h1
                  have hbel1 := below_step hbel hb
                  clear hPz k1 k2 k3 hb hp
                  refine hK.out _ _ ⟨hsep1.get 4 rfl, ((hbel1).cell (World.block_lt_of_cell? w _ HX1.out)).trans HX1.out, ((hbel1).cell (World.block_lt_of_cell? w _ HX2.out)).trans HX2.out⟩ (fun hHeld => ?_)
                  clear hK Kc hsep hbel
                  have hsep := hsep1
                  have hbel := hbel1
                  clear hsep1 hbel1
                  refine norm_ (a' := ?_) ?_ ?_
                  rotate_left
                  · show Act.put _ (some 115) _ = _
                    simp only [Act.put, List.setIfInBounds_toArray, List.set_cons_zero, List.set_cons_succ, i64_w, i32_w]
                    rfl
                  refine pure_ (i := 12) (N := (some 103)) (v := ?_) (a' := ?_) #[true, true, true, true, true, true, true, true, true, true, true, true, true, false, false, true, false, false] rfl rfl (any_of HT_.out (by kernel_rfl)) (fun _ _ _ h => h) (Or.inl ⟨by rfl, ?_⟩) ?_ ?_
                  rotate_left
                  · intro w'
                    go_simp
                    with_reducible rfl
                  rotate_left
                  · simp only [Act.put, List.setIfInBounds_toArray, List.set_cons_zero, List.set_cons_succ, i64_w, i32_w]
                    rfl
                  refine pure_ (i := 13) (N := (some 116)) (v := ?_) (a' := ?_) #[true, true, true, true, true, true, true, true, true, true, true, true, true, true, false, true, false, false] rfl rfl (any_of HT_.out (by kernel_rfl)) (fun _ _ _ h => h) (Or.inl ⟨by rfl, ?_⟩) ?_ ?_
                  rotate_left
                  · intro w'
                    go_simp
                    with_reducible rfl
                  rotate_left
                  · simp only [Act.put, List.setIfInBounds_toArray, List.set_cons_zero, List.set_cons_succ, i64_w, i32_w]
                    rfl
                  refine pure_ (i := 14) (N := (some 117)) (v := ?_) (a' := ?_) #[true, true, true, true, true, true, true, true, true, true, true, true, true, true, true, true, false, false] rfl rfl (any_of HT_.out (by kernel_rfl)) (fun _ _ _ h => h) (Or.inl ⟨by rfl, ?_⟩) ?_ ?_
                  rotate_left
                  · intro w'
                    go_simp
                    with_reducible rfl
                  rotate_left
                  · simp only [Act.put, List.setIfInBounds_toArray, List.set_cons_zero, List.set_cons_succ, i64_w, i32_w]
                    rfl
                  exact norm_ (by first | (simp only [putAll, Act.put, List.setIfInBounds_toArray, List.set_cons_zero, List.set_cons_succ]; done) | (simp only [putAll, Act.put, List.setIfInBounds_toArray, List.set_cons_zero, List.set_cons_succ]; rfl)) (hJ11_15 (Pz, AWz, cWz, AUz, cUz, AGz, cGz, g19) _ ⟨hsep, hbel⟩)
              rintro ⟨Pz, AWz, cWz, AUz, cUz, AGz, cGz, g19⟩ wj ⟨hsep, hbel⟩
              try dsimp only at hsep
              have hHeld : wj.heap[gd]? = some (.cells #[.int .i64 kd, .int .i64 (K : Int), .int .i64 O, .int .i64 0, .slice none 0 0, .slice none 0 0, .int .i64 (most : Int), .slice AW W.length cW, .slice AU U.length cU, .slice AG G.length cG, .int .i64 hits, .int .i64 misses] 50 (0, 0)) ∧ wj.cell? ⟨(ad.add (i * 3)).block, (ad.add (i * 3)).off + 1, none⟩ = some (.slice A1 s.f1.length c1) ∧ wj.cell? ⟨(ad.add (i * 3)).block, (ad.add (i * 3)).off + 2, none⟩ = some (.slice A2 s.f2.length c2) := ⟨hsep.get 4 rfl, ((hbel).cell (World.block_lt_of_cell? w _ HX1.out)).trans HX1.out, ((hbel).cell (World.block_lt_of_cell? w _ HX2.out)).trans HX2.out⟩
              refine norm_ (a' := ?_) ?_ ?_
              rotate_left
              · simp only [putAll, Act.put, List.setIfInBounds_toArray, List.set_cons_zero, List.set_cons_succ]
                rfl
              refine last_ (i := 16) (N := none) #[true, true, true, true, true, true, true, true, true, true, true, true, true, true, true, true, true, false] rfl rfl (one_of HT_.out (by kernel_rfl)) (by decide) (fun Kc hK => ?_)
              refine Sp.store_row_step (by rfl) rfl 50 (.tmp 19) (.tmp 116) rfl g19 #[.int .i64 kd, .int .i64 (K : Int), .int .i64 O, .int .i64 0, .slice none 0 0, .slice none 0 0, .int .i64 (most : Int), .slice AWz W.length cWz, .slice AUz U.length cUz, .slice AGz G.length cGz, .int .i64 hits, .int .i64 misses] rfl rfl 50 _ (hsep.get 0 rfl) (by rw [i50]; rfl) rfl (by simp [Value.oneCell']) ?_
              have hsep1 : Sp.Sep w.heap.size [Sp.blk g19 #[.int .i64 kd, .int .i64 (K : Int), .int .i64 O, .int .i64 0, .slice none 0 0, .slice none 0 0, .int .i64 (most : Int), .slice AWz W.length cWz, .slice AUz U.length cUz, .slice AGz G.length cGz, .int .i64 hits, .int .i64 misses] 50, ints w.heap.size (.slice (some ⟨gl2, 0, none⟩) (s.f2 ++ [-771, -772]).length cl2) (s.f2 ++ [-771, -772]), ints w.heap.size (.slice (some ⟨gl1, 0, none⟩) (s.f1 ++ [-771, -772]).length cl1) (s.f1 ++ [-771, -772]), refR Pz (.slice AWz W.length cWz) (.slice AUz U.length cUz) (.slice AGz G.length cGz) W U G, blk gd #[.int .i64 kd, .int .i64 (K : Int), .int .i64 O, .int .i64 0, .slice none 0 0, .slice none 0 0, .int .i64 (most : Int), .slice AW W.length cW, .slice AU U.length cU, .slice AG G.length cG, .int .i64 hits, .int .i64 misses] 50, trie w.heap.size own2 g kd K O most n Bf Vf hits misses] _ := hsep.setStruct 0 rfl #[.int .i64 kd, .int .i64 (K : Int), .int .i64 O, .int .i64 0, .slice none 0 0, .slice none 0 0, .int .i64 (most : Int), .slice AWz W.length cWz, .slice AUz U.length cUz, .slice AGz G.length cGz, .int .i64 hits, .int .i64 misses] hbel.size
              have hbel1 := below_setRow hbel (hsep.bound 0 rfl (show g19 = g19 from rfl)).1 #[.int .i64 kd, .int .i64 (K : Int), .int .i64 O, .int .i64 0, .slice none 0 0, .slice none 0 0, .int .i64 (most : Int), .slice AWz W.length cWz, .slice AUz U.length cUz, .slice AGz G.length cGz, .int .i64 hits, .int .i64 misses]
              refine hK.out _ _ ?_
              clear hK Kc hsep hbel
              refine pure_ (i := 17) (N := (some 20)) (v := ?_) (a' := ?_) #[true, true, true, true, true, true, true, true, true, true, true, true, true, true, true, true, true, true] rfl rfl (any_of HT_.out (by kernel_rfl)) (fun _ _ _ h => h) (Or.inl ⟨by rfl, ?_⟩) ?_ ?_
              rotate_left
              · intro w'
                go_simp
                with_reducible rfl
              rotate_left
              · simp only [Act.put, List.setIfInBounds_toArray, List.set_cons_zero, List.set_cons_succ, i64_w, i32_w]
                rfl
              refine done_ (done_of HT_.out (by kernel_rfl)) ?_
              generalize World.setRow _ g19 _ = w9 at hsep1 hbel1 ⊢
              have HS9 := Aside0.mk hsep1
              have HB9 := Aside0.mk hbel1
              clear hsep1 hbel1 hHeld
              have hxx : (x != x) = false := by simp
              go_wp2_with (first
              | (go_at_call 13; with_reducible refine (tutorlaw11_num.calls x x _ rfl).mono ?_
                 rintro e w11 ⟨rfl, ⟨ndn, rfl⟩⟩
                 have HS11 := Aside0.mk (HS10.out.low (pw_below_drewN (Below.refl _ _) ndn))
                 have HB11 := Aside0.mk (pw_below_drewN HB10.out ndn)
                 generalize World.drewN _ ndn = w11 at HS11 HB11 ⊢)
              | ((with_reducible refine gate_store (t := 50) (p := 13) rfl ?_)
                 refine wpList_store_rowTo rfl 50 (.tmp 13) (.tmp 118) rfl rfl gd #[.int .i64 kd, .int .i64 (K : Int), .int .i64 O, .int .i64 0, .slice none 0 0, .slice none 0 0, .int .i64 (most : Int), .slice AWz W.length cWz, .slice AUz U.length cUz, .slice AGz G.length cGz, .int .i64 hits, .int .i64 misses] rfl rfl 50 _ (HS9.out.get 4 rfl) ?_ ?_ (by simp [Value.oneCell']) ?_
                 (focus (rw [i50]; rfl))
                 (focus rfl)
                 have HS10 : Aside0 (Sep w.heap.size [blk g19 #[.int .i64 kd, .int .i64 (K : Int), .int .i64 O, .int .i64 0, .slice none 0 0, .slice none 0 0, .int .i64 (most : Int), .slice AWz W.length cWz, .slice AUz U.length cUz, .slice AGz G.length cGz, .int .i64 hits, .int .i64 misses] 50, ints w.heap.size (.slice (some ⟨gl2, 0, none⟩) (s.f2 ++ [-771, -772]).length cl2) (s.f2 ++ [-771, -772]), ints w.heap.size (.slice (some ⟨gl1, 0, none⟩) (s.f1 ++ [-771, -772]).length cl1) (s.f1 ++ [-771, -772]), refR Pz (.slice AWz W.length cWz) (.slice AUz U.length cUz) (.slice AGz G.length cGz) W U G, blk gd #[.int .i64 kd, .int .i64 (K : Int), .int .i64 O, .int .i64 0, .slice none 0 0, .slice none 0 0, .int .i64 (most : Int), .slice AWz W.length cWz, .slice AUz U.length cUz, .slice AGz G.length cGz, .int .i64 hits, .int .i64 misses] 50, trie w.heap.size own2 g kd K O most n Bf Vf hits misses] (World.setRow w9 gd #[.int .i64 kd, .int .i64 (K : Int), .int .i64 O, .int .i64 0, .slice none 0 0, .slice none 0 0, .int .i64 (most : Int), .slice AWz W.length cWz, .slice AUz U.length cUz, .slice AGz G.length cGz, .int .i64 hits, .int .i64 misses])) := ⟨HS9.out.setStruct 4 rfl #[.int .i64 kd, .int .i64 (K : Int), .int .i64 O, .int .i64 0, .slice none 0 0, .slice none 0 0, .int .i64 (most : Int), .slice AWz W.length cWz, .slice AUz U.length cUz, .slice AGz G.length cGz, .int .i64 hits, .int .i64 misses] HB9.out.size⟩
                 have HB10 := Aside0.mk (below_setRow HB9.out (HS9.out.bound 4 rfl (show gd = gd from rfl)).1 #[.int .i64 kd, .int .i64 (K : Int), .int .i64 O, .int .i64 0, .slice none 0 0, .slice none 0 0, .int .i64 (most : Int), .slice AWz W.length cWz, .slice AUz U.length cUz, .slice AGz G.length cGz, .int .i64 hits, .int .i64 misses])
                 generalize World.setRow _ gd _ = w10 at HS10 HB10 ⊢)
              | ((with_reducible refine gate_dst (N := 118) rfl ?_)
                 refine wpList_load_row rfl 50 (.tmp 19) rfl g19 rfl 50 #[.int .i64 kd, .int .i64 (K : Int), .int .i64 O, .int .i64 0, .slice none 0 0, .slice none 0 0, .int .i64 (most : Int), .slice AWz W.length cWz, .slice AUz U.length cUz, .slice AGz G.length cGz, .int .i64 hits, .int .i64 misses] (0, 0) _ (HS9.out.get 0 rfl) Try.underlying50 rfl ?_ ?_
                 (focus (rw [i50]; rfl))))
              clear hxx
              go_meet
              case rel => exact ⟨n, Bf, Vf, own2, hits, misses, Pz, W, U, G, AWz, cWz, AUz, cUz, AGz, cGz, blk g19 #[.int .i64 kd, .int .i64 (K : Int), .int .i64 O, .int .i64 0, .slice none 0 0, .slice none 0 0, .int .i64 (most : Int), .slice AWz W.length cWz, .slice AUz U.length cUz, .slice AGz G.length cGz, .int .i64 hits, .int .i64 misses] 50, ⟨by have h1 := HI.out; have h2 := HIL.out; omega⟩, HRI2, HS11, HB11⟩
          · have hb0 : (s.f0 == 0) = false := beq_eq_false_iff_ne.2 h0
            clear h0
            obtain ⟨r1, rb, hr⟩ : ∃ r1 rb, tellF kd Vf s.f1 at0 = (r1, rb) := ⟨_, _, rfl⟩
            have HRT := Aside0.mk hr
            have HRR : Aside0 (findF kd W U s.f1 = (r1, rb)) := ⟨by rw [HRI.out.find _ _ HAT.out.1 HAT.out.2]; exact hr⟩
            have HRL : Aside0 (r1.length ≤ 1000000000) := ⟨by have h1 := findF_len kd W U s.f1 5000 HRI.out.ul; rw [HRR.out] at h1; exact Nat.le_trans h1 (by decide)⟩
            clear hr
            by_cases h1 : s.f0 = 1
            · have hb1 : (s.f0 == 1) = true := by rw [h1]; rfl
              clear h1
              cases rb with
              | true =>
                go_wp2_with (first
                | (go_at_call 16; refine (Get_is HS7.out 5 0 rfl rfl (by decide) HB7.out.size HKD.out HNB.out.2 HKK.out.2 s.f1 (by have := HSL.out; omega) (some ⟨gl1, 0, none⟩) s.f1.length cl1 rfl (lent_C (HS7.out.get 2 rfl)).1 (by have h1 := HI.out; have h2 := HI60.out; omega) (by have h1 := HI.out; have h2 := HI60.out; omega) at0 HAT.out.1 HAT.out.2 r1 true HRT.out).mono ?_
                   rintro e w8 ⟨vg, own5, rfl, hS, hb⟩
                   obtain ⟨Ag, cg, hv⟩ := Kd.R_slice (hS.get 0 rfl)
                   subst hv
                   have HSg : Aside0 (Sep w.heap.size [ints w.heap.size (.slice Ag r1.length cg) r1, ints w.heap.size (.slice (some ⟨gl2, 0, none⟩) (s.f2 ++ [-771, -772]).length cl2) (s.f2 ++ [-771, -772]), ints w.heap.size (.slice (some ⟨gl1, 0, none⟩) (s.f1 ++ [-771, -772]).length cl1) (s.f1 ++ [-771, -772]), refR P (.slice AW W.length cW) (.slice AU U.length cU) (.slice AG G.length cG) W U G, blk gd #[.int .i64 kd, .int .i64 (K : Int), .int .i64 O, .int .i64 0, .slice none 0 0, .slice none 0 0, .int .i64 (most : Int), .slice AW W.length cW, .slice AU U.length cU, .slice AG G.length cG, .int .i64 hits, .int .i64 misses] 50, trie w.heap.size own5 g kd K O most n Bf Vf (hits + 1) misses] w8) := ⟨hS⟩
                   have HBg := Aside0.mk (HB7.out.trans hb)
                   clear hS hb))
                refine start_ (n := 12) (S := fun w' => w'.heap[gd]? = some (.cells #[.int .i64 kd, .int .i64 (K : Int), .int .i64 O, .int .i64 0, .slice none 0 0, .slice none 0 0, .int .i64 (most : Int), .slice AW W.length cW, .slice AU U.length cU, .slice AG G.length cG, .int .i64 hits, .int .i64 misses] 50 (0, 0)) ∧ w'.cell? ⟨(ad.add (i * 3)).block, (ad.add (i * 3)).off + 1, none⟩ = some (.slice A1 s.f1.length c1)) (ds := [6]) #[false, false, false, false, false, false, false, false, false, false, false, false] (by kernel_rfl) rfl rfl ⟨(HSg.out.low (below_drew1 (Below.refl _ _))).get 4 rfl, ((below_drew1 HBg.out).cell (World.block_lt_of_cell? w _ HX1.out)).trans HX1.out⟩ (fun hHeld => ?_)
                refine with_tabW pl.tab27 pl.bits27 (fun HT_ HW_ => ?_)
                have HS8 := Aside0.mk (HSg.out.low (below_drew1 (Below.refl _ _)))
                have HB8 := Aside0.mk (below_drew1 HBg.out)
                clear HSg HBg
                generalize w8.drew = wd8 at HS8 HB8 hHeld ⊢
                refine pure_ (i := 1) (N := (some 133)) (v := ?_) (a' := ?_) #[false, true, false, false, false, false, false, false, false, false, false, false] rfl rfl (any_of HT_.out (by kernel_rfl)) (fun _ _ _ h => h) (Or.inl ⟨by rfl, ?_⟩) ?_ ?_
                rotate_left
                · intro w'
                  go_simp
                  with_reducible rfl
                rotate_left
                · simp only [Act.put, List.setIfInBounds_toArray, List.set_cons_zero, List.set_cons_succ, i64_w, i32_w]
                  rfl
                refine pure_ (i := 2) (N := (some 134)) (v := ?_) (a' := ?_) #[false, true, true, false, false, false, false, false, false, false, false, false] rfl rfl (any_of HT_.out (by kernel_rfl)) (fun _ _ _ h => h) (Or.inl ⟨by rfl, ?_⟩) ?_ ?_
                rotate_left
                · intro w'
                  go_simp
                  with_reducible rfl
                rotate_left
                · simp only [Act.put, List.setIfInBounds_toArray, List.set_cons_zero, List.set_cons_succ, i64_w, i32_w]
                  rfl
                refine pure_ (i := 3) (N := (some 135)) (v := ?_) (a' := ?_) #[false, true, true, true, false, false, false, false, false, false, false, false] rfl rfl (any_of HT_.out (by kernel_rfl)) (fun _ _ _ h => h) (Or.inl ⟨by rfl, ?_⟩) ?_ ?_
                rotate_left
                · intro w'
                  go_simp
                  with_reducible rfl
                rotate_left
                · simp only [Act.put, List.setIfInBounds_toArray, List.set_cons_zero, List.set_cons_succ, i64_w, i32_w]
                  rfl
                refine pure_ (i := 4) (N := (some 136)) (v := ?_) (a' := ?_) #[false, true, true, true, true, false, false, false, false, false, false, false] rfl rfl (any_of HT_.out (by kernel_rfl)) (fun _ _ _ h => h) (Or.inl ⟨by rfl, ?_⟩) ?_ ?_
                rotate_left
                · intro w'
                  go_simp
                  with_reducible rfl
                rotate_left
                · simp only [Act.put, List.setIfInBounds_toArray, List.set_cons_zero, List.set_cons_succ, i64_w, i32_w]
                  rfl
                refine take_ (i := 0) (N := (some 132)) (v := .agg #[.int .i64 kd, .int .i64 (K : Int), .int .i64 O, .int .i64 0, .slice none 0 0, .slice none 0 0, .int .i64 (most : Int), .slice AW W.length cW, .slice AU U.length cU, .slice AG G.length cG, .int .i64 hits, .int .i64 misses]) (a' := ?_) #[true, true, true, true, true, false, false, false, false, false, false, false] rfl rfl (take_ofW HT_.out HW_.out (by kernel_rfl)) (fun _ _ _ h => h) (yieldsIf_load_mid (by rfl) 50 _ rfl gd 0 rfl [.int .i64 kd, .int .i64 (K : Int), .int .i64 O, .int .i64 0, .slice none 0 0, .slice none 0 0, .int .i64 (most : Int), .slice AW W.length cW, .slice AU U.length cU, .slice AG G.length cG, .int .i64 hits, .int .i64 misses] _ (fun w' h => box_all h.1) Try.underlying50 rfl (by rw [i50]; rfl)) hHeld ?_ ?_
                rotate_left
                · simp only [Act.put, List.setIfInBounds_toArray, List.set_cons_zero, List.set_cons_succ, i64_w, i32_w]
                  rfl
                refine take_ (i := 5) (N := (some 137)) (v := ?_) (a' := ?_) #[true, true, true, true, true, true, false, false, false, false, false, false] rfl rfl (take_ofW HT_.out HW_.out (by kernel_rfl)) (fun _ _ _ h => h) (Or.inl ⟨by rfl, ?_⟩) hHeld ?_ ?_
                rotate_left
                · rintro w' ⟨s0, s1⟩
                  go_simp
                  with_reducible rfl
                rotate_left
                · simp only [Act.put, List.setIfInBounds_toArray, List.set_cons_zero, List.set_cons_succ, i64_w, i32_w]
                  rfl
                refine last_ (i := 6) (N := (some 138)) #[true, true, true, true, true, true, true, false, false, false, false, false] rfl rfl (one_of HT_.out (by kernel_rfl)) (by decide) (fun Kc hK => ?_)
                refine goes_ Try.func26 (by kernel_rfl) rfl #[.agg #[.int .i64 kd, .int .i64 (K : Int), .int .i64 O, .int .i64 0, .slice none 0 0, .slice none 0 0, .int .i64 (most : Int), .slice AW W.length cW, .slice AU U.length cU, .slice AG G.length cG, .int .i64 hits, .int .i64 misses], .slice A1 s.f1.length c1] (by rfl) rfl rfl (by (try simp only [List.map_toArray, List.map_cons, List.map_nil]); first | done | rfl | simp [Act.eval]) ?_
                refine (Find_walk kd P (K : Int) O (most : Int) hits misses AW cW AU cU AG G.length cG W U wd8 s.f1 A1 c1 (fun k hk => (HS8.out.get 3 rfl).2.2.2 k hk) (HS8.out.get 3 rfl).1 (HS8.out.get 3 rfl).2.1 (Kd.C_below HG.out.2.1 HB8.out) HG.out.1 HRI.out.len (fun x hx => by have := HRI.out.wl x hx; omega) (by have h1 := HI.out; have h2 := HI60.out; omega) (by have := HSL.out; omega) HKD.out HRI.out.outs).mono ?_
                rintro e w9 hF
                unfold FindRPost at hF
                rw [HRR.out] at hF
                dsimp only at hF
                obtain ⟨Af, nf, cf, rfl, hn, hc, hd, hb⟩ := hF
                subst hn
                refine ⟨_, rfl, ?_⟩
                have HS9 := Aside0.mk (HS8.out.low hb)
                have HB9 := Aside0.mk (below_step HB8.out hb)
                have HF := Aside0.mk (And.intro hc hd)
                clear hc hd hb HS8 HB8 hHeld
                refine hK.out _ _ ?_
                clear hK Kc
                refine norm_ (a' := ?_) ?_ ?_
                rotate_left
                · show Act.put _ (some 138) _ = _
                  simp only [Act.put, List.setIfInBounds_toArray, List.set_cons_zero, List.set_cons_succ, i64_w, i32_w]
                  rfl
                refine pure_ (i := 7) (N := (some 131)) (v := ?_) (a' := ?_) #[true, true, true, true, true, true, true, true, false, false, false, false] rfl rfl (any_of HT_.out (by kernel_rfl)) (fun _ _ _ h => h) (Or.inl ⟨by rfl, ?_⟩) ?_ ?_
                rotate_left
                · intro w'
                  go_simp
                  with_reducible rfl
                rotate_left
                · simp only [Act.put, List.setIfInBounds_toArray, List.set_cons_zero, List.set_cons_succ, i64_w, i32_w]
                  rfl
                refine pure_ (i := 8) (N := (some 139)) (v := ?_) (a' := ?_) #[true, true, true, true, true, true, true, true, true, false, false, false] rfl rfl (any_of HT_.out (by kernel_rfl)) (fun _ _ _ h => h) (Or.inl ⟨by rfl, ?_⟩) ?_ ?_
                rotate_left
                · intro w'
                  go_simp
                  with_reducible rfl
                rotate_left
                · simp only [Act.put, List.setIfInBounds_toArray, List.set_cons_zero, List.set_cons_succ, i64_w, i32_w]
                  rfl
                refine pure_ (i := 9) (N := (some 140)) (v := ?_) (a' := ?_) #[true, true, true, true, true, true, true, true, true, true, false, false] rfl rfl (any_of HT_.out (by kernel_rfl)) (fun _ _ _ h => h) (Or.inl ⟨by rfl, ?_⟩) ?_ ?_
                rotate_left
                · intro w'
                  go_simp
                  with_reducible rfl
                rotate_left
                · simp only [Act.put, List.setIfInBounds_toArray, List.set_cons_zero, List.set_cons_succ, i64_w, i32_w]
                  rfl
                refine pure_ (i := 10) (N := (some 23)) (v := ?_) (a' := ?_) #[true, true, true, true, true, true, true, true, true, true, true, false] rfl rfl (any_of HT_.out (by kernel_rfl)) (fun _ _ _ h => h) (Or.inl ⟨by rfl, ?_⟩) ?_ ?_
                rotate_left
                · intro w'
                  go_simp
                  with_reducible rfl
                rotate_left
                · simp only [Act.put, List.setIfInBounds_toArray, List.set_cons_zero, List.set_cons_succ, i64_w, i32_w]
                  rfl
                refine pure_ (i := 11) (N := (some 24)) (v := ?_) (a' := ?_) #[true, true, true, true, true, true, true, true, true, true, true, true] rfl rfl (any_of HT_.out (by kernel_rfl)) (fun _ _ _ h => h) (Or.inl ⟨by rfl, ?_⟩) ?_ ?_
                rotate_left
                · intro w'
                  go_simp
                  with_reducible rfl
                rotate_left
                · simp only [Act.put, List.setIfInBounds_toArray, List.set_cons_zero, List.set_cons_succ, i64_w, i32_w]
                  rfl
                refine done_ (done_of HT_.out (by kernel_rfl)) ?_
                have hz : w9.cell? ⟨gd, 10, none⟩ = some (.int .i64 hits) := (blk_cell (HS9.out.get 4 rfl) 10).trans rfl
                have hzf := blk_frozen (HS9.out.get 4 rfl) 10
                have hzw : wrap64 (hits + 1) = hits + 1 := by have h1 := HI.out; have h2 := HI60.out; unfold wrap64; omega
                go_wp2_with (first
                | (go_at_call 17
                   have HSs := Aside0.mk (HS9.out.cell 4 rfl 10 (.int .i64 (hits + 1)) (cs' := #[.int .i64 kd, .int .i64 (K : Int), .int .i64 O, .int .i64 0, .slice none 0 0, .slice none 0 0, .int .i64 (most : Int), .slice AW W.length cW, .slice AU U.length cU, .slice AG G.length cG, .int .i64 (hits + 1), .int .i64 misses]) rfl HB9.out.size)
                   have HBs := Aside0.mk (HS9.out.belowSet (j := 10) (u := .int .i64 (hits + 1)) 4 rfl HB9.out)
                   have HFs := Aside0.mk (HF.out.2.move (w1 := World.setCell w9 ⟨gd, 10, none⟩ (.int .i64 (hits + 1))) (fun _ h => h) (fun k hk => Below.heap_setCell w9 ⟨gd, 10, none⟩ _ k (fun e => HS9.out.apart (i := 3) (j := 4) rfl rfl (by decide) hk e)))
                   generalize World.setCell w9 ⟨gd, 10, none⟩ _ = w10 at HSs HBs HFs ⊢
                   refine (same_calls Ag r1.length cg r1 Af r1.length cf r1 w10 (row_C (HSs.out.get 0 rfl)).1 (row_C (HSs.out.get 0 rfl)).2 HFs.out.C HF.out.1 HRL.out).mono ?_
                   rw [decide_eq_true rfl]
                   rintro e w11 ⟨rfl, ⟨nd, rfl⟩⟩
                   have HS11 := Aside0.mk (HSs.out.low (pw_below_drewN (Below.refl _ _) nd))
                   have HB11 := Aside0.mk (pw_below_drewN HBs.out nd)
                   clear HSs HBs HFs
                   generalize World.drewN _ nd = w11 at HS11 HB11 ⊢))
                clear hz hzf hzw
                go_meet
                case rel => exact ⟨n, Bf, Vf, own5, (hits + 1), misses, P, W, U, G, AW, cW, AU, cU, AG, cG, ints w.heap.size (.slice Ag r1.length cg) r1, ⟨by have h1 := HI.out; have h2 := HIL.out; omega⟩, HRI, HS11, HB11⟩
              | false =>
                go_wp2_with (first
                | (go_at_call 16; refine (Get_is HS7.out 5 0 rfl rfl (by decide) HB7.out.size HKD.out HNB.out.2 HKK.out.2 s.f1 (by have := HSL.out; omega) (some ⟨gl1, 0, none⟩) s.f1.length cl1 rfl (lent_C (HS7.out.get 2 rfl)).1 (by have h1 := HI.out; have h2 := HI60.out; omega) (by have h1 := HI.out; have h2 := HI60.out; omega) at0 HAT.out.1 HAT.out.2 r1 false HRT.out).mono ?_
                   rintro e w8 ⟨vg, own5, rfl, hS, hb⟩
                   obtain ⟨Ag, cg, hv⟩ := Kd.R_slice (hS.get 0 rfl)
                   subst hv
                   have HSg : Aside0 (Sep w.heap.size [ints w.heap.size (.slice Ag r1.length cg) r1, ints w.heap.size (.slice (some ⟨gl2, 0, none⟩) (s.f2 ++ [-771, -772]).length cl2) (s.f2 ++ [-771, -772]), ints w.heap.size (.slice (some ⟨gl1, 0, none⟩) (s.f1 ++ [-771, -772]).length cl1) (s.f1 ++ [-771, -772]), refR P (.slice AW W.length cW) (.slice AU U.length cU) (.slice AG G.length cG) W U G, blk gd #[.int .i64 kd, .int .i64 (K : Int), .int .i64 O, .int .i64 0, .slice none 0 0, .slice none 0 0, .int .i64 (most : Int), .slice AW W.length cW, .slice AU U.length cU, .slice AG G.length cG, .int .i64 hits, .int .i64 misses] 50, trie w.heap.size own5 g kd K O most n Bf Vf hits (misses + 1)] w8) := ⟨hS⟩
                   have HBg := Aside0.mk (HB7.out.trans hb)
                   clear hS hb))
                refine start_ (n := 12) (S := fun w' => w'.heap[gd]? = some (.cells #[.int .i64 kd, .int .i64 (K : Int), .int .i64 O, .int .i64 0, .slice none 0 0, .slice none 0 0, .int .i64 (most : Int), .slice AW W.length cW, .slice AU U.length cU, .slice AG G.length cG, .int .i64 hits, .int .i64 misses] 50 (0, 0)) ∧ w'.cell? ⟨(ad.add (i * 3)).block, (ad.add (i * 3)).off + 1, none⟩ = some (.slice A1 s.f1.length c1)) (ds := [6]) #[false, false, false, false, false, false, false, false, false, false, false, false] (by kernel_rfl) rfl rfl ⟨(HSg.out.low (below_drew1 (Below.refl _ _))).get 4 rfl, ((below_drew1 HBg.out).cell (World.block_lt_of_cell? w _ HX1.out)).trans HX1.out⟩ (fun hHeld => ?_)
                refine with_tabW pl.tab27 pl.bits27 (fun HT_ HW_ => ?_)
                have HS8 := Aside0.mk (HSg.out.low (below_drew1 (Below.refl _ _)))
                have HB8 := Aside0.mk (below_drew1 HBg.out)
                clear HSg HBg
                generalize w8.drew = wd8 at HS8 HB8 hHeld ⊢
                refine pure_ (i := 1) (N := (some 133)) (v := ?_) (a' := ?_) #[false, true, false, false, false, false, false, false, false, false, false, false] rfl rfl (any_of HT_.out (by kernel_rfl)) (fun _ _ _ h => h) (Or.inl ⟨by rfl, ?_⟩) ?_ ?_
                rotate_left
                · intro w'
                  go_simp
                  with_reducible rfl
                rotate_left
                · simp only [Act.put, List.setIfInBounds_toArray, List.set_cons_zero, List.set_cons_succ, i64_w, i32_w]
                  rfl
                refine pure_ (i := 2) (N := (some 134)) (v := ?_) (a' := ?_) #[false, true, true, false, false, false, false, false, false, false, false, false] rfl rfl (any_of HT_.out (by kernel_rfl)) (fun _ _ _ h => h) (Or.inl ⟨by rfl, ?_⟩) ?_ ?_
                rotate_left
                · intro w'
                  go_simp
                  with_reducible rfl
                rotate_left
                · simp only [Act.put, List.setIfInBounds_toArray, List.set_cons_zero, List.set_cons_succ, i64_w, i32_w]
                  rfl
                refine pure_ (i := 3) (N := (some 135)) (v := ?_) (a' := ?_) #[false, true, true, true, false, false, false, false, false, false, false, false] rfl rfl (any_of HT_.out (by kernel_rfl)) (fun _ _ _ h => h) (Or.inl ⟨by rfl, ?_⟩) ?_ ?_
                rotate_left
                · intro w'
                  go_simp
                  with_reducible rfl
                rotate_left
                · simp only [Act.put, List.setIfInBounds_toArray, List.set_cons_zero, List.set_cons_succ, i64_w, i32_w]
                  rfl
                refine pure_ (i := 4) (N := (some 136)) (v := ?_) (a' := ?_) #[false, true, true, true, true, false, false, false, false, false, false, false] rfl rfl (any_of HT_.out (by kernel_rfl)) (fun _ _ _ h => h) (Or.inl ⟨by rfl, ?_⟩) ?_ ?_
                rotate_left
                · intro w'
                  go_simp
                  with_reducible rfl
                rotate_left
                · simp only [Act.put, List.setIfInBounds_toArray, List.set_cons_zero, List.set_cons_succ, i64_w, i32_w]
                  rfl
                refine take_ (i := 0) (N := (some 132)) (v := .agg #[.int .i64 kd, .int .i64 (K : Int), .int .i64 O, .int .i64 0, .slice none 0 0, .slice none 0 0, .int .i64 (most : Int), .slice AW W.length cW, .slice AU U.length cU, .slice AG G.length cG, .int .i64 hits, .int .i64 misses]) (a' := ?_) #[true, true, true, true, true, false, false, false, false, false, false, false] rfl rfl (take_ofW HT_.out HW_.out (by kernel_rfl)) (fun _ _ _ h => h) (yieldsIf_load_mid (by rfl) 50 _ rfl gd 0 rfl [.int .i64 kd, .int .i64 (K : Int), .int .i64 O, .int .i64 0, .slice none 0 0, .slice none 0 0, .int .i64 (most : Int), .slice AW W.length cW, .slice AU U.length cU, .slice AG G.length cG, .int .i64 hits, .int .i64 misses] _ (fun w' h => box_all h.1) Try.underlying50 rfl (by rw [i50]; rfl)) hHeld ?_ ?_
                rotate_left
                · simp only [Act.put, List.setIfInBounds_toArray, List.set_cons_zero, List.set_cons_succ, i64_w, i32_w]
                  rfl
                refine take_ (i := 5) (N := (some 137)) (v := ?_) (a' := ?_) #[true, true, true, true, true, true, false, false, false, false, false, false] rfl rfl (take_ofW HT_.out HW_.out (by kernel_rfl)) (fun _ _ _ h => h) (Or.inl ⟨by rfl, ?_⟩) hHeld ?_ ?_
                rotate_left
                · rintro w' ⟨s0, s1⟩
                  go_simp
                  with_reducible rfl
                rotate_left
                · simp only [Act.put, List.setIfInBounds_toArray, List.set_cons_zero, List.set_cons_succ, i64_w, i32_w]
                  rfl
                refine last_ (i := 6) (N := (some 138)) #[true, true, true, true, true, true, true, false, false, false, false, false] rfl rfl (one_of HT_.out (by kernel_rfl)) (by decide) (fun Kc hK => ?_)
                refine goes_ Try.func26 (by kernel_rfl) rfl #[.agg #[.int .i64 kd, .int .i64 (K : Int), .int .i64 O, .int .i64 0, .slice none 0 0, .slice none 0 0, .int .i64 (most : Int), .slice AW W.length cW, .slice AU U.length cU, .slice AG G.length cG, .int .i64 hits, .int .i64 misses], .slice A1 s.f1.length c1] (by rfl) rfl rfl (by (try simp only [List.map_toArray, List.map_cons, List.map_nil]); first | done | rfl | simp [Act.eval]) ?_
                refine (Find_walk kd P (K : Int) O (most : Int) hits misses AW cW AU cU AG G.length cG W U wd8 s.f1 A1 c1 (fun k hk => (HS8.out.get 3 rfl).2.2.2 k hk) (HS8.out.get 3 rfl).1 (HS8.out.get 3 rfl).2.1 (Kd.C_below HG.out.2.1 HB8.out) HG.out.1 HRI.out.len (fun x hx => by have := HRI.out.wl x hx; omega) (by have h1 := HI.out; have h2 := HI60.out; omega) (by have := HSL.out; omega) HKD.out HRI.out.outs).mono ?_
                rintro e w9 hF
                unfold FindRPost at hF
                rw [HRR.out] at hF
                dsimp only at hF
                obtain ⟨Af, nf, cf, rfl, hn, hc, hd, hb⟩ := hF
                subst hn
                refine ⟨_, rfl, ?_⟩
                have HS9 := Aside0.mk (HS8.out.low hb)
                have HB9 := Aside0.mk (below_step HB8.out hb)
                have HF := Aside0.mk (And.intro hc hd)
                clear hc hd hb HS8 HB8 hHeld
                refine hK.out _ _ ?_
                clear hK Kc
                refine norm_ (a' := ?_) ?_ ?_
                rotate_left
                · show Act.put _ (some 138) _ = _
                  simp only [Act.put, List.setIfInBounds_toArray, List.set_cons_zero, List.set_cons_succ, i64_w, i32_w]
                  rfl
                refine pure_ (i := 7) (N := (some 131)) (v := ?_) (a' := ?_) #[true, true, true, true, true, true, true, true, false, false, false, false] rfl rfl (any_of HT_.out (by kernel_rfl)) (fun _ _ _ h => h) (Or.inl ⟨by rfl, ?_⟩) ?_ ?_
                rotate_left
                · intro w'
                  go_simp
                  with_reducible rfl
                rotate_left
                · simp only [Act.put, List.setIfInBounds_toArray, List.set_cons_zero, List.set_cons_succ, i64_w, i32_w]
                  rfl
                refine pure_ (i := 8) (N := (some 139)) (v := ?_) (a' := ?_) #[true, true, true, true, true, true, true, true, true, false, false, false] rfl rfl (any_of HT_.out (by kernel_rfl)) (fun _ _ _ h => h) (Or.inl ⟨by rfl, ?_⟩) ?_ ?_
                rotate_left
                · intro w'
                  go_simp
                  with_reducible rfl
                rotate_left
                · simp only [Act.put, List.setIfInBounds_toArray, List.set_cons_zero, List.set_cons_succ, i64_w, i32_w]
                  rfl
                refine pure_ (i := 9) (N := (some 140)) (v := ?_) (a' := ?_) #[true, true, true, true, true, true, true, true, true, true, false, false] rfl rfl (any_of HT_.out (by kernel_rfl)) (fun _ _ _ h => h) (Or.inl ⟨by rfl, ?_⟩) ?_ ?_
                rotate_left
                · intro w'
                  go_simp
                  with_reducible rfl
                rotate_left
                · simp only [Act.put, List.setIfInBounds_toArray, List.set_cons_zero, List.set_cons_succ, i64_w, i32_w]
                  rfl
                refine pure_ (i := 10) (N := (some 23)) (v := ?_) (a' := ?_) #[true, true, true, true, true, true, true, true, true, true, true, false] rfl rfl (any_of HT_.out (by kernel_rfl)) (fun _ _ _ h => h) (Or.inl ⟨by rfl, ?_⟩) ?_ ?_
                rotate_left
                · intro w'
                  go_simp
                  with_reducible rfl
                rotate_left
                · simp only [Act.put, List.setIfInBounds_toArray, List.set_cons_zero, List.set_cons_succ, i64_w, i32_w]
                  rfl
                refine pure_ (i := 11) (N := (some 24)) (v := ?_) (a' := ?_) #[true, true, true, true, true, true, true, true, true, true, true, true] rfl rfl (any_of HT_.out (by kernel_rfl)) (fun _ _ _ h => h) (Or.inl ⟨by rfl, ?_⟩) ?_ ?_
                rotate_left
                · intro w'
                  go_simp
                  with_reducible rfl
                rotate_left
                · simp only [Act.put, List.setIfInBounds_toArray, List.set_cons_zero, List.set_cons_succ, i64_w, i32_w]
                  rfl
                refine done_ (done_of HT_.out (by kernel_rfl)) ?_
                have hz : w9.cell? ⟨gd, 11, none⟩ = some (.int .i64 misses) := (blk_cell (HS9.out.get 4 rfl) 11).trans rfl
                have hzf := blk_frozen (HS9.out.get 4 rfl) 11
                have hzw : wrap64 (misses + 1) = misses + 1 := by have h1 := HI.out; have h2 := HI60.out; unfold wrap64; omega
                go_wp2_with (first
                | (go_at_call 17
                   have HSs := Aside0.mk (HS9.out.cell 4 rfl 11 (.int .i64 (misses + 1)) (cs' := #[.int .i64 kd, .int .i64 (K : Int), .int .i64 O, .int .i64 0, .slice none 0 0, .slice none 0 0, .int .i64 (most : Int), .slice AW W.length cW, .slice AU U.length cU, .slice AG G.length cG, .int .i64 hits, .int .i64 (misses + 1)]) rfl HB9.out.size)
                   have HBs := Aside0.mk (HS9.out.belowSet (j := 11) (u := .int .i64 (misses + 1)) 4 rfl HB9.out)
                   have HFs := Aside0.mk (HF.out.2.move (w1 := World.setCell w9 ⟨gd, 11, none⟩ (.int .i64 (misses + 1))) (fun _ h => h) (fun k hk => Below.heap_setCell w9 ⟨gd, 11, none⟩ _ k (fun e => HS9.out.apart (i := 3) (j := 4) rfl rfl (by decide) hk e)))
                   generalize World.setCell w9 ⟨gd, 11, none⟩ _ = w10 at HSs HBs HFs ⊢
                   refine (same_calls Ag r1.length cg r1 Af r1.length cf r1 w10 (row_C (HSs.out.get 0 rfl)).1 (row_C (HSs.out.get 0 rfl)).2 HFs.out.C HF.out.1 HRL.out).mono ?_
                   rw [decide_eq_true rfl]
                   rintro e w11 ⟨rfl, ⟨nd, rfl⟩⟩
                   have HS11 := Aside0.mk (HSs.out.low (pw_below_drewN (Below.refl _ _) nd))
                   have HB11 := Aside0.mk (pw_below_drewN HBs.out nd)
                   clear HSs HBs HFs
                   generalize World.drewN _ nd = w11 at HS11 HB11 ⊢))
                clear hz hzf hzw
                go_meet
                case rel => exact ⟨n, Bf, Vf, own5, hits, (misses + 1), P, W, U, G, AW, cW, AU, cU, AG, cG, ints w.heap.size (.slice Ag r1.length cg) r1, ⟨by have h1 := HI.out; have h2 := HIL.out; omega⟩, HRI, HS11, HB11⟩
            · have hb1 : (s.f0 == 1) = false := beq_eq_false_iff_ne.2 h1
              clear h1
              go_wp2
              refine start_ (n := 12) (S := fun w' => w'.heap[gd]? = some (.cells #[.int .i64 kd, .int .i64 (K : Int), .int .i64 O, .int .i64 0, .slice none 0 0, .slice none 0 0, .int .i64 (most : Int), .slice AW W.length cW, .slice AU U.length cU, .slice AG G.length cG, .int .i64 hits, .int .i64 misses] 50 (0, 0)) ∧ w'.cell? ⟨(ad.add (i * 3)).block, (ad.add (i * 3)).off + 1, none⟩ = some (.slice A1 s.f1.length c1)) (ds := [6]) #[false, false, false, false, false, false, false, false, false, false, false, false] (by kernel_rfl) rfl rfl ⟨(HS7.out.low (below_drew1 (Below.refl _ _))).get 4 rfl, ((below_drew1 HB7.out).cell (World.block_lt_of_cell? w _ HX1.out)).trans HX1.out⟩ (fun hHeld => ?_)
              refine with_tabW pl.tab16 pl.bits16 (fun HT_ HW_ => ?_)
              have HS8 := Aside0.mk (HS7.out.low (below_drew1 (Below.refl _ _)))
              have HB8 := Aside0.mk (below_drew1 HB7.out)
              clear HS7 HB7
              generalize w7.drew = wd8 at HS8 HB8 hHeld ⊢
              refine pure_ (i := 1) (N := (some 84)) (v := ?_) (a' := ?_) #[false, true, false, false, false, false, false, false, false, false, false, false] rfl rfl (any_of HT_.out (by kernel_rfl)) (fun _ _ _ h => h) (Or.inl ⟨by rfl, ?_⟩) ?_ ?_
              rotate_left
              · intro w'
                go_simp
                with_reducible rfl
              rotate_left
              · simp only [Act.put, List.setIfInBounds_toArray, List.set_cons_zero, List.set_cons_succ, i64_w, i32_w]
                rfl
              refine pure_ (i := 2) (N := (some 85)) (v := ?_) (a' := ?_) #[false, true, true, false, false, false, false, false, false, false, false, false] rfl rfl (any_of HT_.out (by kernel_rfl)) (fun _ _ _ h => h) (Or.inl ⟨by rfl, ?_⟩) ?_ ?_
              rotate_left
              · intro w'
                go_simp
                with_reducible rfl
              rotate_left
              · simp only [Act.put, List.setIfInBounds_toArray, List.set_cons_zero, List.set_cons_succ, i64_w, i32_w]
                rfl
              refine pure_ (i := 3) (N := (some 86)) (v := ?_) (a' := ?_) #[false, true, true, true, false, false, false, false, false, false, false, false] rfl rfl (any_of HT_.out (by kernel_rfl)) (fun _ _ _ h => h) (Or.inl ⟨by rfl, ?_⟩) ?_ ?_
              rotate_left
              · intro w'
                go_simp
                with_reducible rfl
              rotate_left
              · simp only [Act.put, List.setIfInBounds_toArray, List.set_cons_zero, List.set_cons_succ, i64_w, i32_w]
                rfl
              refine pure_ (i := 4) (N := (some 87)) (v := ?_) (a' := ?_) #[false, true, true, true, true, false, false, false, false, false, false, false] rfl rfl (any_of HT_.out (by kernel_rfl)) (fun _ _ _ h => h) (Or.inl ⟨by rfl, ?_⟩) ?_ ?_
              rotate_left
              · intro w'
                go_simp
                with_reducible rfl
              rotate_left
              · simp only [Act.put, List.setIfInBounds_toArray, List.set_cons_zero, List.set_cons_succ, i64_w, i32_w]
                rfl
              refine take_ (i := 0) (N := (some 83)) (v := .agg #[.int .i64 kd, .int .i64 (K : Int), .int .i64 O, .int .i64 0, .slice none 0 0, .slice none 0 0, .int .i64 (most : Int), .slice AW W.length cW, .slice AU U.length cU, .slice AG G.length cG, .int .i64 hits, .int .i64 misses]) (a' := ?_) #[true, true, true, true, true, false, false, false, false, false, false, false] rfl rfl (take_ofW HT_.out HW_.out (by kernel_rfl)) (fun _ _ _ h => h) (yieldsIf_load_mid (by rfl) 50 _ rfl gd 0 rfl [.int .i64 kd, .int .i64 (K : Int), .int .i64 O, .int .i64 0, .slice none 0 0, .slice none 0 0, .int .i64 (most : Int), .slice AW W.length cW, .slice AU U.length cU, .slice AG G.length cG, .int .i64 hits, .int .i64 misses] _ (fun w' h => box_all h.1) Try.underlying50 rfl (by rw [i50]; rfl)) hHeld ?_ ?_
              rotate_left
              · simp only [Act.put, List.setIfInBounds_toArray, List.set_cons_zero, List.set_cons_succ, i64_w, i32_w]
                rfl
              refine take_ (i := 5) (N := (some 88)) (v := ?_) (a' := ?_) #[true, true, true, true, true, true, false, false, false, false, false, false] rfl rfl (take_ofW HT_.out HW_.out (by kernel_rfl)) (fun _ _ _ h => h) (Or.inl ⟨by rfl, ?_⟩) hHeld ?_ ?_
              rotate_left
              · rintro w' ⟨s0, s1⟩
                go_simp
                with_reducible rfl
              rotate_left
              · simp only [Act.put, List.setIfInBounds_toArray, List.set_cons_zero, List.set_cons_succ, i64_w, i32_w]
                rfl
              refine last_ (i := 6) (N := (some 89)) #[true, true, true, true, true, true, true, false, false, false, false, false] rfl rfl (one_of HT_.out (by kernel_rfl)) (by decide) (fun Kc hK => ?_)
              refine goes_ Try.func26 (by kernel_rfl) rfl #[.agg #[.int .i64 kd, .int .i64 (K : Int), .int .i64 O, .int .i64 0, .slice none 0 0, .slice none 0 0, .int .i64 (most : Int), .slice AW W.length cW, .slice AU U.length cU, .slice AG G.length cG, .int .i64 hits, .int .i64 misses], .slice A1 s.f1.length c1] (by rfl) rfl rfl (by (try simp only [List.map_toArray, List.map_cons, List.map_nil]); first | done | rfl | simp [Act.eval]) ?_
              refine (Find_walk kd P (K : Int) O (most : Int) hits misses AW cW AU cU AG G.length cG W U wd8 s.f1 A1 c1 (fun k hk => (HS8.out.get 3 rfl).2.2.2 k hk) (HS8.out.get 3 rfl).1 (HS8.out.get 3 rfl).2.1 (Kd.C_below HG.out.2.1 HB8.out) HG.out.1 HRI.out.len (fun x hx => by have := HRI.out.wl x hx; omega) (by have h1 := HI.out; have h2 := HI60.out; omega) (by have := HSL.out; omega) HKD.out HRI.out.outs).mono ?_
              rintro e w9 hF
              unfold FindRPost at hF
              rw [HRR.out] at hF
              dsimp only at hF
              obtain ⟨Af, nf, cf, rfl, hn, hc, hd, hb⟩ := hF
              subst hn
              refine ⟨_, rfl, ?_⟩
              have HS9 := Aside0.mk (HS8.out.low hb)
              have HB9 := Aside0.mk (below_step HB8.out hb)
              have HF := Aside0.mk (And.intro hc hd)
              clear hc hd hb HS8 HB8 hHeld
              refine hK.out _ _ ?_
              clear hK Kc
              refine norm_ (a' := ?_) ?_ ?_
              rotate_left
              · show Act.put _ (some 89) _ = _
                simp only [Act.put, List.setIfInBounds_toArray, List.set_cons_zero, List.set_cons_succ, i64_w, i32_w]
                rfl
              refine pure_ (i := 7) (N := (some 82)) (v := ?_) (a' := ?_) #[true, true, true, true, true, true, true, true, false, false, false, false] rfl rfl (any_of HT_.out (by kernel_rfl)) (fun _ _ _ h => h) (Or.inl ⟨by rfl, ?_⟩) ?_ ?_
              rotate_left
              · intro w'
                go_simp
                with_reducible rfl
              rotate_left
              · simp only [Act.put, List.setIfInBounds_toArray, List.set_cons_zero, List.set_cons_succ, i64_w, i32_w]
                rfl
              refine pure_ (i := 8) (N := (some 90)) (v := ?_) (a' := ?_) #[true, true, true, true, true, true, true, true, true, false, false, false] rfl rfl (any_of HT_.out (by kernel_rfl)) (fun _ _ _ h => h) (Or.inl ⟨by rfl, ?_⟩) ?_ ?_
              rotate_left
              · intro w'
                go_simp
                with_reducible rfl
              rotate_left
              · simp only [Act.put, List.setIfInBounds_toArray, List.set_cons_zero, List.set_cons_succ, i64_w, i32_w]
                rfl
              refine pure_ (i := 9) (N := (some 91)) (v := ?_) (a' := ?_) #[true, true, true, true, true, true, true, true, true, true, false, false] rfl rfl (any_of HT_.out (by kernel_rfl)) (fun _ _ _ h => h) (Or.inl ⟨by rfl, ?_⟩) ?_ ?_
              rotate_left
              · intro w'
                go_simp
                with_reducible rfl
              rotate_left
              · simp only [Act.put, List.setIfInBounds_toArray, List.set_cons_zero, List.set_cons_succ, i64_w, i32_w]
                rfl
              refine pure_ (i := 10) (N := (some 25)) (v := ?_) (a' := ?_) #[true, true, true, true, true, true, true, true, true, true, true, false] rfl rfl (any_of HT_.out (by kernel_rfl)) (fun _ _ _ h => h) (Or.inl ⟨by rfl, ?_⟩) ?_ ?_
              rotate_left
              · intro w'
                go_simp
                with_reducible rfl
              rotate_left
              · simp only [Act.put, List.setIfInBounds_toArray, List.set_cons_zero, List.set_cons_succ, i64_w, i32_w]
                rfl
              refine pure_ (i := 11) (N := (some 26)) (v := ?_) (a' := ?_) #[true, true, true, true, true, true, true, true, true, true, true, true] rfl rfl (any_of HT_.out (by kernel_rfl)) (fun _ _ _ h => h) (Or.inl ⟨by rfl, ?_⟩) ?_ ?_
              rotate_left
              · intro w'
                go_simp
                with_reducible rfl
              rotate_left
              · simp only [Act.put, List.setIfInBounds_toArray, List.set_cons_zero, List.set_cons_succ, i64_w, i32_w]
                rfl
              refine done_ (done_of HT_.out (by kernel_rfl)) ?_
              have hrb : (rb != rb) = false := by cases rb <;> rfl
              go_wp2_with (first
              | (go_at_call 27; refine (Has_walk w.heap.size own g kd K O most n Bf Vf hits misses HKD.out w9 (HS9.out.get 5 rfl) HNB.out.2 HKK.out.2 s.f1 (some ⟨gl1, 0, none⟩) cl1 (lent_C (HS9.out.get 2 rfl)).1 (by have := HSL.out; omega)).mono ?_
                 rintro e w10 ⟨at5, he5, h5, h6, hb⟩
                 obtain rfl := trie_one (HS9.out.get 5 rfl) h5 h6 HAT.out.1 HAT.out.2
                 rw [HRT.out] at he5
                 subst he5
                 have HS10 := Aside0.mk (HS9.out.low hb)
                 have HB10 := Aside0.mk (below_step HB9.out hb)
                 clear hb h5 h6))
              clear hrb
              go_meet
              case rel => exact ⟨n, Bf, Vf, own, hits, misses, P, W, U, G, AW, cW, AU, cU, AG, cG, none_, ⟨by have h1 := HI.out; have h2 := HIL.out; omega⟩, HRI, HS10, HB10⟩
        case rest =>
          clear HS7 HB7 HI HRI HNB HAT hy0
          obtain ⟨nz, Bz, Vz, oz, hz, mz, Pz, Wz, Uz, Gz, AWz, cWz, AUz, cUz, AGz, cGz, X, HI, HRIz, HSc, HBc⟩ := hcut
          go_wp2
          have hgn : ((nz : Int) != (Gz.length : Int)) = false := by rw [show Gz.length = nz by rw [HRIz.out.g]; simp]; simp
          have hhh : (hz != hz) = false := by simp
          have hmm : (mz != mz) = false := by simp
          refine start_ (n := 40) (S := fun w' => w'.cell? ⟨gd, 9, none⟩ = some (.slice AGz Gz.length cGz) ∧ w'.cell? ⟨gd, 10, none⟩ = some (.int .i64 hz) ∧ w'.cell? ⟨gd, 11, none⟩ = some (.int .i64 mz) ∧ w'.cell? ⟨(ad.add (i * 3)).block, (ad.add (i * 3)).off + 1, none⟩ = some (.slice A1 s.f1.length c1) ∧ w'.cell? ⟨(ad.add (i * 3)).block, (ad.add (i * 3)).off + 2, none⟩ = some (.slice A2 s.f2.length c2)) (ds := [37]) #[false, false, false, false, false, false, false, false, false, false, false, false, false, false, false, false, false, false, false, false, false, false, false, false, false, false, false, false, false, false, false, false, false, false, false, false, false, false, false, false] (by kernel_rfl) rfl rfl ⟨(blk_cell ((HSc.out.low (below_drew1 (Below.refl _ _))).get 4 rfl) 9).trans rfl, (blk_cell ((HSc.out.low (below_drew1 (Below.refl _ _))).get 4 rfl) 10).trans rfl, (blk_cell ((HSc.out.low (below_drew1 (Below.refl _ _))).get 4 rfl) 11).trans rfl, ((below_drew1 HBc.out).cell (World.block_lt_of_cell? w _ HX1.out)).trans HX1.out, ((below_drew1 HBc.out).cell (World.block_lt_of_cell? w _ HX2.out)).trans HX2.out⟩ (fun hHeld => ?_)
          refine with_tabW pl.tab33 pl.bits33 (fun HT_ HW_ => ?_)
          have HSq0 := Aside0.mk (HSc.out.low (below_drew1 (Below.refl _ _)))
          have HBq0 := Aside0.mk (below_drew1 HBc.out)
          clear HSc HBc
          generalize wc.drew = wq0 at HSq0 HBq0 hHeld ⊢
          refine pure_ (i := 0) (N := (some 159)) (v := ?_) (a' := ?_) #[true, false, false, false, false, false, false, false, false, false, false, false, false, false, false, false, false, false, false, false, false, false, false, false, false, false, false, false, false, false, false, false, false, false, false, false, false, false, false, false] rfl rfl (any_of HT_.out (by kernel_rfl)) (fun _ _ _ h => h) (Or.inl ⟨by rfl, ?_⟩) ?_ ?_
          rotate_left
          · intro w'
            go_simp
            with_reducible rfl
          rotate_left
          · simp only [Act.put, List.setIfInBounds_toArray, List.set_cons_zero, List.set_cons_succ, i64_w, i32_w]
            rfl
          refine pure_ (i := 2) (N := (some 161)) (v := ?_) (a' := ?_) #[true, false, true, false, false, false, false, false, false, false, false, false, false, false, false, false, false, false, false, false, false, false, false, false, false, false, false, false, false, false, false, false, false, false, false, false, false, false, false, false] rfl rfl (any_of HT_.out (by kernel_rfl)) (fun _ _ _ h => h) (Or.inl ⟨by rfl, ?_⟩) ?_ ?_
          rotate_left
          · intro w'
            go_simp
            with_reducible rfl
          rotate_left
          · simp only [Act.put, List.setIfInBounds_toArray, List.set_cons_zero, List.set_cons_succ, i64_w, i32_w]
            rfl
          refine take_ (i := 3) (N := (some 162)) (v := ?_) (a' := ?_) #[true, false, true, true, false, false, false, false, false, false, false, false, false, false, false, false, false, false, false, false, false, false, false, false, false, false, false, false, false, false, false, false, false, false, false, false, false, false, false, false] rfl rfl (take_ofW HT_.out HW_.out (by kernel_rfl)) (fun _ _ _ h => h) (Or.inl ⟨by rfl, ?_⟩) hHeld ?_ ?_
          rotate_left
          · rintro w' ⟨s0, s1, s2, s3, s4⟩
            go_simp
            with_reducible rfl
          rotate_left
          · simp only [Act.put, List.setIfInBounds_toArray, List.set_cons_zero, List.set_cons_succ, i64_w, i32_w]
            rfl
          refine pure_ (i := 4) (N := (some 163)) (v := ?_) (a' := ?_) #[true, false, true, true, true, false, false, false, false, false, false, false, false, false, false, false, false, false, false, false, false, false, false, false, false, false, false, false, false, false, false, false, false, false, false, false, false, false, false, false] rfl rfl (any_of HT_.out (by kernel_rfl)) (fun _ _ _ h => h) (Or.inl ⟨by rfl, ?_⟩) ?_ ?_
          rotate_left
          · intro w'
            go_simp
            with_reducible rfl
          rotate_left
          · simp only [Act.put, List.setIfInBounds_toArray, List.set_cons_zero, List.set_cons_succ, i64_w, i32_w]
            rfl
          refine one_ (i := 1) (N := (some 160)) #[true, true, true, true, true, false, false, false, false, false, false, false, false, false, false, false, false, false, false, false, false, false, false, false, false, false, false, false, false, false, false, false, false, false, false, false, false, false, false, false] rfl rfl (one_of HT_.out (by kernel_rfl)) (by decide) (fun Kc hK => ?_)
          refine goes_ Try.func18 (by kernel_rfl) rfl #[.pointer (some ⟨g, 0, none⟩)] (by rfl) rfl rfl (by (try simp only [List.map_toArray, List.map_cons, List.map_nil]); first | done | rfl | simp [Act.eval]) ?_
          refine (Nodes_walk w.heap.size oz g kd K O most nz Bz Vz hz mz wq0 (HSq0.out.get 5 rfl)).mono ?_
          rintro e wq1 ⟨rfl, hb⟩
          refine ⟨_, rfl, ?_⟩
          have HSq1 := Aside0.mk (HSq0.out.low hb)
          have HBq1 := Aside0.mk (below_step HBq0.out hb)
          clear HSq0 HBq0 hb hHeld
          refine hK.out _ _ ⟨(blk_cell (HSq1.out.get 4 rfl) 9).trans rfl, (blk_cell (HSq1.out.get 4 rfl) 10).trans rfl, (blk_cell (HSq1.out.get 4 rfl) 11).trans rfl, ((HBq1.out).cell (World.block_lt_of_cell? w _ HX1.out)).trans HX1.out, ((HBq1.out).cell (World.block_lt_of_cell? w _ HX2.out)).trans HX2.out⟩ (fun hHeld => ?_)
          clear hK Kc
          refine norm_ (a' := ?_) ?_ ?_
          rotate_left
          · show Act.put _ (some 160) _ = _
            simp only [Act.put, List.setIfInBounds_toArray, List.set_cons_zero, List.set_cons_succ, i64_w, i32_w]
            rfl
          refine pure_ (i := 5) (N := (some 164)) (v := ?_) (a' := ?_) #[true, true, true, true, true, true, false, false, false, false, false, false, false, false, false, false, false, false, false, false, false, false, false, false, false, false, false, false, false, false, false, false, false, false, false, false, false, false, false, false] rfl rfl (any_of HT_.out (by kernel_rfl)) (fun _ _ _ h => h) (Or.inl ⟨by rfl, ?_⟩) ?_ ?_
          rotate_left
          · intro w'
            go_simp
            with_reducible rfl
          rotate_left
          · simp only [Act.put, List.setIfInBounds_toArray, List.set_cons_zero, List.set_cons_succ, i64_w, i32_w]
            rfl
          refine pure_ (i := 6) (N := (some 165)) (v := ?_) (a' := ?_) #[true, true, true, true, true, true, true, false, false, false, false, false, false, false, false, false, false, false, false, false, false, false, false, false, false, false, false, false, false, false, false, false, false, false, false, false, false, false, false, false] rfl rfl (any_of HT_.out (by kernel_rfl)) (fun _ _ _ h => h) (Or.inl ⟨by rfl, ?_⟩) ?_ ?_
          rotate_left
          · intro w'
            go_simp
            with_reducible rfl
          rotate_left
          · simp only [Act.put, List.setIfInBounds_toArray, List.set_cons_zero, List.set_cons_succ, i64_w, i32_w]
            rfl
          refine pure_ (i := 7) (N := (some 166)) (v := ?_) (a' := ?_) #[true, true, true, true, true, true, true, true, false, false, false, false, false, false, false, false, false, false, false, false, false, false, false, false, false, false, false, false, false, false, false, false, false, false, false, false, false, false, false, false] rfl rfl (any_of HT_.out (by kernel_rfl)) (fun _ _ _ h => h) (Or.inl ⟨by rfl, ?_⟩) ?_ ?_
          rotate_left
          · intro w'
            go_simp
            with_reducible rfl
          rotate_left
          · simp only [Act.put, List.setIfInBounds_toArray, List.set_cons_zero, List.set_cons_succ, i64_w, i32_w]
            rfl
          refine pure_ (i := 9) (N := (some 168)) (v := ?_) (a' := ?_) #[true, true, true, true, true, true, true, true, false, true, false, false, false, false, false, false, false, false, false, false, false, false, false, false, false, false, false, false, false, false, false, false, false, false, false, false, false, false, false, false] rfl rfl (any_of HT_.out (by kernel_rfl)) (fun _ _ _ h => h) (Or.inl ⟨by rfl, ?_⟩) ?_ ?_
          rotate_left
          · intro w'
            go_simp
            with_reducible rfl
          rotate_left
          · simp only [Act.put, List.setIfInBounds_toArray, List.set_cons_zero, List.set_cons_succ, i64_w, i32_w]
            rfl
          refine take_ (i := 10) (N := (some 169)) (v := ?_) (a' := ?_) #[true, true, true, true, true, true, true, true, false, true, true, false, false, false, false, false, false, false, false, false, false, false, false, false, false, false, false, false, false, false, false, false, false, false, false, false, false, false, false, false] rfl rfl (take_ofW HT_.out HW_.out (by kernel_rfl)) (fun _ _ _ h => h) (Or.inl ⟨by rfl, ?_⟩) hHeld ?_ ?_
          rotate_left
          · rintro w' ⟨s0, s1, s2, s3, s4⟩
            go_simp
            with_reducible rfl
          rotate_left
          · simp only [Act.put, List.setIfInBounds_toArray, List.set_cons_zero, List.set_cons_succ, i64_w, i32_w]
            rfl
          refine one_ (i := 8) (N := (some 167)) #[true, true, true, true, true, true, true, true, true, true, true, false, false, false, false, false, false, false, false, false, false, false, false, false, false, false, false, false, false, false, false, false, false, false, false, false, false, false, false, false] rfl rfl (one_of HT_.out (by kernel_rfl)) (by decide) (fun Kc hK => ?_)
          refine goes_ Try.func28 (by kernel_rfl) rfl #[.pointer (some ⟨g, 0, none⟩)] (by rfl) rfl rfl (by (try simp only [List.map_toArray, List.map_cons, List.map_nil]); first | done | rfl | simp [Act.eval]) ?_
          refine (Hits_walk w.heap.size oz g kd K O most nz Bz Vz hz mz wq1 (HSq1.out.get 5 rfl)).mono ?_
          rintro e wq2 ⟨rfl, hb⟩
          refine ⟨_, rfl, ?_⟩
          have HSq2 := Aside0.mk (HSq1.out.low hb)
          have HBq2 := Aside0.mk (below_step HBq1.out hb)
          clear HSq1 HBq1 hb hHeld
          refine hK.out _ _ ⟨(blk_cell (HSq2.out.get 4 rfl) 9).trans rfl, (blk_cell (HSq2.out.get 4 rfl) 10).trans rfl, (blk_cell (HSq2.out.get 4 rfl) 11).trans rfl, ((HBq2.out).cell (World.block_lt_of_cell? w _ HX1.out)).trans HX1.out, ((HBq2.out).cell (World.block_lt_of_cell? w _ HX2.out)).trans HX2.out⟩ (fun hHeld => ?_)
          clear hK Kc
          refine norm_ (a' := ?_) ?_ ?_
          rotate_left
          · show Act.put _ (some 167) _ = _
            simp only [Act.put, List.setIfInBounds_toArray, List.set_cons_zero, List.set_cons_succ, i64_w, i32_w]
            rfl
          refine pure_ (i := 11) (N := (some 170)) (v := ?_) (a' := ?_) #[true, true, true, true, true, true, true, true, true, true, true, true, false, false, false, false, false, false, false, false, false, false, false, false, false, false, false, false, false, false, false, false, false, false, false, false, false, false, false, false] rfl rfl (any_of HT_.out (by kernel_rfl)) (fun _ _ _ h => h) (Or.inl ⟨by rfl, ?_⟩) ?_ ?_
          rotate_left
          · intro w'
            go_simp
            with_reducible rfl
          rotate_left
          · simp only [Act.put, List.setIfInBounds_toArray, List.set_cons_zero, List.set_cons_succ, i64_w, i32_w]
            rfl
          refine pure_ (i := 12) (N := (some 171)) (v := ?_) (a' := ?_) #[true, true, true, true, true, true, true, true, true, true, true, true, true, false, false, false, false, false, false, false, false, false, false, false, false, false, false, false, false, false, false, false, false, false, false, false, false, false, false, false] rfl rfl (any_of HT_.out (by kernel_rfl)) (fun _ _ _ h => h) (Or.inl ⟨by rfl, ?_⟩) ?_ ?_
          rotate_left
          · intro w'
            go_simp
            with_reducible rfl
          rotate_left
          · simp only [Act.put, List.setIfInBounds_toArray, List.set_cons_zero, List.set_cons_succ, i64_w, i32_w]
            rfl
          refine pure_ (i := 13) (N := (some 172)) (v := ?_) (a' := ?_) #[true, true, true, true, true, true, true, true, true, true, true, true, true, true, false, false, false, false, false, false, false, false, false, false, false, false, false, false, false, false, false, false, false, false, false, false, false, false, false, false] rfl rfl (any_of HT_.out (by kernel_rfl)) (fun _ _ _ h => h) (Or.inl ⟨by rfl, ?_⟩) ?_ ?_
          rotate_left
          · intro w'
            go_simp
            with_reducible rfl
          rotate_left
          · simp only [Act.put, List.setIfInBounds_toArray, List.set_cons_zero, List.set_cons_succ, i64_w, i32_w]
            rfl
          refine pure_ (i := 14) (N := (some 173)) (v := ?_) (a' := ?_) #[true, true, true, true, true, true, true, true, true, true, true, true, true, true, true, false, false, false, false, false, false, false, false, false, false, false, false, false, false, false, false, false, false, false, false, false, false, false, false, false] rfl rfl (any_of HT_.out (by kernel_rfl)) (fun _ _ _ h => h) (Or.inl ⟨by rfl, ?_⟩) ?_ ?_
          rotate_left
          · intro w'
            go_simp
            with_reducible rfl
          rotate_left
          · simp only [Act.put, List.setIfInBounds_toArray, List.set_cons_zero, List.set_cons_succ, i64_w, i32_w]
            rfl
          refine pure_ (i := 16) (N := (some 175)) (v := ?_) (a' := ?_) #[true, true, true, true, true, true, true, true, true, true, true, true, true, true, true, false, true, false, false, false, false, false, false, false, false, false, false, false, false, false, false, false, false, false, false, false, false, false, false, false] rfl rfl (any_of HT_.out (by kernel_rfl)) (fun _ _ _ h => h) (Or.inl ⟨by rfl, ?_⟩) ?_ ?_
          rotate_left
          · intro w'
            go_simp
            with_reducible rfl
          rotate_left
          · simp only [Act.put, List.setIfInBounds_toArray, List.set_cons_zero, List.set_cons_succ, i64_w, i32_w]
            rfl
          refine take_ (i := 17) (N := (some 176)) (v := ?_) (a' := ?_) #[true, true, true, true, true, true, true, true, true, true, true, true, true, true, true, false, true, true, false, false, false, false, false, false, false, false, false, false, false, false, false, false, false, false, false, false, false, false, false, false] rfl rfl (take_ofW HT_.out HW_.out (by kernel_rfl)) (fun _ _ _ h => h) (Or.inl ⟨by rfl, ?_⟩) hHeld ?_ ?_
          rotate_left
          · rintro w' ⟨s0, s1, s2, s3, s4⟩
            go_simp
            with_reducible rfl
          rotate_left
          · simp only [Act.put, List.setIfInBounds_toArray, List.set_cons_zero, List.set_cons_succ, i64_w, i32_w]
            rfl
          refine one_ (i := 15) (N := (some 174)) #[true, true, true, true, true, true, true, true, true, true, true, true, true, true, true, true, true, true, false, false, false, false, false, false, false, false, false, false, false, false, false, false, false, false, false, false, false, false, false, false] rfl rfl (one_of HT_.out (by kernel_rfl)) (by decide) (fun Kc hK => ?_)
          refine goes_ Try.func29 (by kernel_rfl) rfl #[.pointer (some ⟨g, 0, none⟩)] (by rfl) rfl rfl (by (try simp only [List.map_toArray, List.map_cons, List.map_nil]); first | done | rfl | simp [Act.eval]) ?_
          refine (Misses_walk w.heap.size oz g kd K O most nz Bz Vz hz mz wq2 (HSq2.out.get 5 rfl)).mono ?_
          rintro e wq3 ⟨rfl, hb⟩
          refine ⟨_, rfl, ?_⟩
          have HSq3 := Aside0.mk (HSq2.out.low hb)
          have HBq3 := Aside0.mk (below_step HBq2.out hb)
          clear HSq2 HBq2 hb hHeld
          refine hK.out _ _ ⟨(blk_cell (HSq3.out.get 4 rfl) 9).trans rfl, (blk_cell (HSq3.out.get 4 rfl) 10).trans rfl, (blk_cell (HSq3.out.get 4 rfl) 11).trans rfl, ((HBq3.out).cell (World.block_lt_of_cell? w _ HX1.out)).trans HX1.out, ((HBq3.out).cell (World.block_lt_of_cell? w _ HX2.out)).trans HX2.out⟩ (fun hHeld => ?_)
          clear hK Kc
          refine norm_ (a' := ?_) ?_ ?_
          rotate_left
          · show Act.put _ (some 174) _ = _
            simp only [Act.put, List.setIfInBounds_toArray, List.set_cons_zero, List.set_cons_succ, i64_w, i32_w]
            rfl
          refine pure_ (i := 18) (N := (some 177)) (v := ?_) (a' := ?_) #[true, true, true, true, true, true, true, true, true, true, true, true, true, true, true, true, true, true, true, false, false, false, false, false, false, false, false, false, false, false, false, false, false, false, false, false, false, false, false, false] rfl rfl (any_of HT_.out (by kernel_rfl)) (fun _ _ _ h => h) (Or.inl ⟨by rfl, ?_⟩) ?_ ?_
          rotate_left
          · intro w'
            go_simp
            with_reducible rfl
          rotate_left
          · simp only [Act.put, List.setIfInBounds_toArray, List.set_cons_zero, List.set_cons_succ, i64_w, i32_w]
            rfl
          refine pure_ (i := 19) (N := (some 178)) (v := ?_) (a' := ?_) #[true, true, true, true, true, true, true, true, true, true, true, true, true, true, true, true, true, true, true, true, false, false, false, false, false, false, false, false, false, false, false, false, false, false, false, false, false, false, false, false] rfl rfl (any_of HT_.out (by kernel_rfl)) (fun _ _ _ h => h) (Or.inl ⟨by rfl, ?_⟩) ?_ ?_
          rotate_left
          · intro w'
            go_simp
            with_reducible rfl
          rotate_left
          · simp only [Act.put, List.setIfInBounds_toArray, List.set_cons_zero, List.set_cons_succ, i64_w, i32_w]
            rfl
          refine pure_ (i := 20) (N := (some 179)) (v := ?_) (a' := ?_) #[true, true, true, true, true, true, true, true, true, true, true, true, true, true, true, true, true, true, true, true, true, false, false, false, false, false, false, false, false, false, false, false, false, false, false, false, false, false, false, false] rfl rfl (any_of HT_.out (by kernel_rfl)) (fun _ _ _ h => h) (Or.inl ⟨by rfl, ?_⟩) ?_ ?_
          rotate_left
          · intro w'
            go_simp
            with_reducible rfl
          rotate_left
          · simp only [Act.put, List.setIfInBounds_toArray, List.set_cons_zero, List.set_cons_succ, i64_w, i32_w]
            rfl
          refine pure_ (i := 21) (N := (some 180)) (v := ?_) (a' := ?_) #[true, true, true, true, true, true, true, true, true, true, true, true, true, true, true, true, true, true, true, true, true, true, false, false, false, false, false, false, false, false, false, false, false, false, false, false, false, false, false, false] rfl rfl (any_of HT_.out (by kernel_rfl)) (fun _ _ _ h => h) (Or.inl ⟨by rfl, ?_⟩) ?_ ?_
          rotate_left
          · intro w'
            go_simp
            with_reducible rfl
          rotate_left
          · simp only [Act.put, List.setIfInBounds_toArray, List.set_cons_zero, List.set_cons_succ, i64_w, i32_w]
            rfl
          refine pure_ (i := 22) (N := (some 181)) (v := ?_) (a' := ?_) #[true, true, true, true, true, true, true, true, true, true, true, true, true, true, true, true, true, true, true, true, true, true, true, false, false, false, false, false, false, false, false, false, false, false, false, false, false, false, false, false] rfl rfl (any_of HT_.out (by kernel_rfl)) (fun _ _ _ h => h) (Or.inl ⟨by rfl, ?_⟩) ?_ ?_
          rotate_left
          · intro w'
            go_simp
            with_reducible rfl
          rotate_left
          · simp only [Act.put, List.setIfInBounds_toArray, List.set_cons_zero, List.set_cons_succ, i64_w, i32_w]
            rfl
          refine pure_ (i := 23) (N := (some 182)) (v := ?_) (a' := ?_) #[true, true, true, true, true, true, true, true, true, true, true, true, true, true, true, true, true, true, true, true, true, true, true, true, false, false, false, false, false, false, false, false, false, false, false, false, false, false, false, false] rfl rfl (any_of HT_.out (by kernel_rfl)) (fun _ _ _ h => h) (Or.inl ⟨by rfl, ?_⟩) ?_ ?_
          rotate_left
          · intro w'
            go_simp
            with_reducible rfl
          rotate_left
          · simp only [Act.put, List.setIfInBounds_toArray, List.set_cons_zero, List.set_cons_succ, i64_w, i32_w]
            rfl
          refine pure_ (i := 24) (N := (some 183)) (v := ?_) (a' := ?_) #[true, true, true, true, true, true, true, true, true, true, true, true, true, true, true, true, true, true, true, true, true, true, true, true, true, false, false, false, false, false, false, false, false, false, false, false, false, false, false, false] rfl rfl (any_of HT_.out (by kernel_rfl)) (fun _ _ _ h => h) (Or.inl ⟨by rfl, ?_⟩) ?_ ?_
          rotate_left
          · intro w'
            go_simp
            with_reducible rfl
          rotate_left
          · simp only [Act.put, List.setIfInBounds_toArray, List.set_cons_zero, List.set_cons_succ, i64_w, i32_w]
            rfl
          refine pure_ (i := 25) (N := (some 184)) (v := ?_) (a' := ?_) #[true, true, true, true, true, true, true, true, true, true, true, true, true, true, true, true, true, true, true, true, true, true, true, true, true, true, false, false, false, false, false, false, false, false, false, false, false, false, false, false] rfl rfl (any_of HT_.out (by kernel_rfl)) (fun _ _ _ h => h) (Or.inl ⟨by rfl, ?_⟩) ?_ ?_
          rotate_left
          · intro w'
            go_simp
            with_reducible rfl
          rotate_left
          · simp only [Act.put, List.setIfInBounds_toArray, List.set_cons_zero, List.set_cons_succ, i64_w, i32_w]
            rfl
          refine take_ (i := 26) (N := (some 185)) (v := ?_) (a' := ?_) #[true, true, true, true, true, true, true, true, true, true, true, true, true, true, true, true, true, true, true, true, true, true, true, true, true, true, true, false, false, false, false, false, false, false, false, false, false, false, false, false] rfl rfl (take_ofW HT_.out HW_.out (by kernel_rfl)) (fun _ _ _ h => h) (Or.inl ⟨by rfl, ?_⟩) hHeld ?_ ?_
          rotate_left
          · rintro w' ⟨s0, s1, s2, s3, s4⟩
            go_simp
            with_reducible rfl
          rotate_left
          · simp only [Act.put, List.setIfInBounds_toArray, List.set_cons_zero, List.set_cons_succ, i64_w, i32_w]
            rfl
          refine one_ (i := 27) (N := (some 186)) #[true, true, true, true, true, true, true, true, true, true, true, true, true, true, true, true, true, true, true, true, true, true, true, true, true, true, true, true, false, false, false, false, false, false, false, false, false, false, false, false] rfl rfl (one_of HT_.out (by kernel_rfl)) (by decide) (fun Kc hK => ?_)
          refine goes_ Try.func30 (by kernel_rfl) rfl #[.slice (some ⟨gl1, 0, none⟩) s.f1.length cl1, .slice A1 s.f1.length c1] (by rfl) rfl rfl (by (try simp only [List.map_toArray, List.map_cons, List.map_nil]); first | done | rfl | simp [Act.eval]) ?_
          refine (Kept_calls (s.f1.length + 1) ⟨gl1, 0, none⟩ cl1 s.f1 A1 c1 s.f1 true wq3 (Kd.R_reads' (HSq3.out.get 2 rfl)).2.2 (by have := (Kd.R_reads' (HSq3.out.get 2 rfl)).2.1; omega) (by have := HSL.out; omega) (Kd.C_below HG.out.2.1 HBq3.out) HG.out.1 ((same_f (by have := HSL.out; omega) (Nat.lt_succ_self _)).trans (by rw [decide_eq_true rfl]))).mono ?_
          rintro e wq4 ⟨rfl, ⟨ndk, rfl⟩⟩
          refine ⟨_, rfl, ?_⟩
          have HSq4 := Aside0.mk (HSq3.out.low (pw_below_drewN (Below.refl _ _) ndk))
          have HBq4 := Aside0.mk (pw_below_drewN HBq3.out ndk)
          clear HSq3 HBq3 hHeld
          generalize World.drewN _ ndk = wq4 at HSq4 HBq4 ⊢
          refine hK.out _ _ ⟨(blk_cell (HSq4.out.get 4 rfl) 9).trans rfl, (blk_cell (HSq4.out.get 4 rfl) 10).trans rfl, (blk_cell (HSq4.out.get 4 rfl) 11).trans rfl, ((HBq4.out).cell (World.block_lt_of_cell? w _ HX1.out)).trans HX1.out, ((HBq4.out).cell (World.block_lt_of_cell? w _ HX2.out)).trans HX2.out⟩ (fun hHeld => ?_)
          clear hK Kc
          refine norm_ (a' := ?_) ?_ ?_
          rotate_left
          · show Act.put _ (some 186) _ = _
            simp only [Act.put, List.setIfInBounds_toArray, List.set_cons_zero, List.set_cons_succ, i64_w, i32_w]
            rfl
          refine pure_ (i := 28) (N := (some 187)) (v := ?_) (a' := ?_) #[true, true, true, true, true, true, true, true, true, true, true, true, true, true, true, true, true, true, true, true, true, true, true, true, true, true, true, true, true, false, false, false, false, false, false, false, false, false, false, false] rfl rfl (any_of HT_.out (by kernel_rfl)) (fun _ _ _ h => h) (Or.inl ⟨by rfl, ?_⟩) ?_ ?_
          rotate_left
          · intro w'
            go_simp
            with_reducible rfl
          rotate_left
          · simp only [Act.put, List.setIfInBounds_toArray, List.set_cons_zero, List.set_cons_succ, i64_w, i32_w]
            rfl
          refine pure_ (i := 29) (N := (some 188)) (v := ?_) (a' := ?_) #[true, true, true, true, true, true, true, true, true, true, true, true, true, true, true, true, true, true, true, true, true, true, true, true, true, true, true, true, true, true, false, false, false, false, false, false, false, false, false, false] rfl rfl (any_of HT_.out (by kernel_rfl)) (fun _ _ _ h => h) (Or.inl ⟨by rfl, ?_⟩) ?_ ?_
          rotate_left
          · intro w'
            go_simp
            with_reducible rfl
          rotate_left
          · simp only [Act.put, List.setIfInBounds_toArray, List.set_cons_zero, List.set_cons_succ, i64_w, i32_w]
            rfl
          refine pure_ (i := 30) (N := (some 189)) (v := ?_) (a' := ?_) #[true, true, true, true, true, true, true, true, true, true, true, true, true, true, true, true, true, true, true, true, true, true, true, true, true, true, true, true, true, true, true, false, false, false, false, false, false, false, false, false] rfl rfl (any_of HT_.out (by kernel_rfl)) (fun _ _ _ h => h) (Or.inl ⟨by rfl, ?_⟩) ?_ ?_
          rotate_left
          · intro w'
            go_simp
            with_reducible rfl
          rotate_left
          · simp only [Act.put, List.setIfInBounds_toArray, List.set_cons_zero, List.set_cons_succ, i64_w, i32_w]
            rfl
          refine pure_ (i := 31) (N := (some 190)) (v := ?_) (a' := ?_) #[true, true, true, true, true, true, true, true, true, true, true, true, true, true, true, true, true, true, true, true, true, true, true, true, true, true, true, true, true, true, true, true, false, false, false, false, false, false, false, false] rfl rfl (any_of HT_.out (by kernel_rfl)) (fun _ _ _ h => h) (Or.inl ⟨by rfl, ?_⟩) ?_ ?_
          rotate_left
          · intro w'
            go_simp
            with_reducible rfl
          rotate_left
          · simp only [Act.put, List.setIfInBounds_toArray, List.set_cons_zero, List.set_cons_succ, i64_w, i32_w]
            rfl
          refine pure_ (i := 32) (N := (some 191)) (v := ?_) (a' := ?_) #[true, true, true, true, true, true, true, true, true, true, true, true, true, true, true, true, true, true, true, true, true, true, true, true, true, true, true, true, true, true, true, true, true, false, false, false, false, false, false, false] rfl rfl (any_of HT_.out (by kernel_rfl)) (fun _ _ _ h => h) (Or.inl ⟨by rfl, ?_⟩) ?_ ?_
          rotate_left
          · intro w'
            go_simp
            with_reducible rfl
          rotate_left
          · simp only [Act.put, List.setIfInBounds_toArray, List.set_cons_zero, List.set_cons_succ, i64_w, i32_w]
            rfl
          refine pure_ (i := 33) (N := (some 192)) (v := ?_) (a' := ?_) #[true, true, true, true, true, true, true, true, true, true, true, true, true, true, true, true, true, true, true, true, true, true, true, true, true, true, true, true, true, true, true, true, true, true, false, false, false, false, false, false] rfl rfl (any_of HT_.out (by kernel_rfl)) (fun _ _ _ h => h) (Or.inl ⟨by rfl, ?_⟩) ?_ ?_
          rotate_left
          · intro w'
            go_simp
            with_reducible rfl
          rotate_left
          · simp only [Act.put, List.setIfInBounds_toArray, List.set_cons_zero, List.set_cons_succ, i64_w, i32_w]
            rfl
          refine pure_ (i := 34) (N := (some 193)) (v := ?_) (a' := ?_) #[true, true, true, true, true, true, true, true, true, true, true, true, true, true, true, true, true, true, true, true, true, true, true, true, true, true, true, true, true, true, true, true, true, true, true, false, false, false, false, false] rfl rfl (any_of HT_.out (by kernel_rfl)) (fun _ _ _ h => h) (Or.inl ⟨by rfl, ?_⟩) ?_ ?_
          rotate_left
          · intro w'
            go_simp
            with_reducible rfl
          rotate_left
          · simp only [Act.put, List.setIfInBounds_toArray, List.set_cons_zero, List.set_cons_succ, i64_w, i32_w]
            rfl
          refine pure_ (i := 35) (N := (some 194)) (v := ?_) (a' := ?_) #[true, true, true, true, true, true, true, true, true, true, true, true, true, true, true, true, true, true, true, true, true, true, true, true, true, true, true, true, true, true, true, true, true, true, true, true, false, false, false, false] rfl rfl (any_of HT_.out (by kernel_rfl)) (fun _ _ _ h => h) (Or.inl ⟨by rfl, ?_⟩) ?_ ?_
          rotate_left
          · intro w'
            go_simp
            with_reducible rfl
          rotate_left
          · simp only [Act.put, List.setIfInBounds_toArray, List.set_cons_zero, List.set_cons_succ, i64_w, i32_w]
            rfl
          refine take_ (i := 36) (N := (some 195)) (v := ?_) (a' := ?_) #[true, true, true, true, true, true, true, true, true, true, true, true, true, true, true, true, true, true, true, true, true, true, true, true, true, true, true, true, true, true, true, true, true, true, true, true, true, false, false, false] rfl rfl (take_ofW HT_.out HW_.out (by kernel_rfl)) (fun _ _ _ h => h) (Or.inl ⟨by rfl, ?_⟩) hHeld ?_ ?_
          rotate_left
          · rintro w' ⟨s0, s1, s2, s3, s4⟩
            go_simp
            with_reducible rfl
          rotate_left
          · simp only [Act.put, List.setIfInBounds_toArray, List.set_cons_zero, List.set_cons_succ, i64_w, i32_w]
            rfl
          refine last_ (i := 37) (N := (some 196)) #[true, true, true, true, true, true, true, true, true, true, true, true, true, true, true, true, true, true, true, true, true, true, true, true, true, true, true, true, true, true, true, true, true, true, true, true, true, true, false, false] rfl rfl (one_of HT_.out (by kernel_rfl)) (by decide) (fun Kc hK => ?_)
          refine goes_ Try.func30 (by kernel_rfl) rfl #[.slice (some ⟨gl2, 0, none⟩) s.f2.length cl2, .slice A2 s.f2.length c2] (by rfl) rfl rfl (by (try simp only [List.map_toArray, List.map_cons, List.map_nil]); first | done | rfl | simp [Act.eval]) ?_
          refine (Kept_calls (s.f2.length + 1) ⟨gl2, 0, none⟩ cl2 s.f2 A2 c2 s.f2 true wq4 (Kd.R_reads' (HSq4.out.get 1 rfl)).2.2 (by have := (Kd.R_reads' (HSq4.out.get 1 rfl)).2.1; omega) (by have := HSL.out; omega) (Kd.C_below HG.out.2.2.2 HBq4.out) HG.out.2.2.1 ((same_f (by have := HSL.out; omega) (Nat.lt_succ_self _)).trans (by rw [decide_eq_true rfl]))).mono ?_
          rintro e wq5 ⟨rfl, ⟨ndk, rfl⟩⟩
          refine ⟨_, rfl, ?_⟩
          have HSq5 := Aside0.mk (HSq4.out.low (pw_below_drewN (Below.refl _ _) ndk))
          have HBq5 := Aside0.mk (pw_below_drewN HBq4.out ndk)
          clear HSq4 HBq4 hHeld
          generalize World.drewN _ ndk = wq5 at HSq5 HBq5 ⊢
          refine hK.out _ _ ?_
          clear hK Kc
          refine norm_ (a' := ?_) ?_ ?_
          rotate_left
          · show Act.put _ (some 196) _ = _
            simp only [Act.put, List.setIfInBounds_toArray, List.set_cons_zero, List.set_cons_succ, i64_w, i32_w]
            rfl
          refine pure_ (i := 38) (N := (some 197)) (v := ?_) (a' := ?_) #[true, true, true, true, true, true, true, true, true, true, true, true, true, true, true, true, true, true, true, true, true, true, true, true, true, true, true, true, true, true, true, true, true, true, true, true, true, true, true, false] rfl rfl (any_of HT_.out (by kernel_rfl)) (fun _ _ _ h => h) (Or.inl ⟨by rfl, ?_⟩) ?_ ?_
          rotate_left
          · intro w'
            go_simp
            with_reducible rfl
          rotate_left
          · simp only [Act.put, List.setIfInBounds_toArray, List.set_cons_zero, List.set_cons_succ, i64_w, i32_w]
            rfl
          refine pure_ (i := 39) (N := (some 198)) (v := ?_) (a' := ?_) #[true, true, true, true, true, true, true, true, true, true, true, true, true, true, true, true, true, true, true, true, true, true, true, true, true, true, true, true, true, true, true, true, true, true, true, true, true, true, true, true] rfl rfl (any_of HT_.out (by kernel_rfl)) (fun _ _ _ h => h) (Or.inl ⟨by rfl, ?_⟩) ?_ ?_
          rotate_left
          · intro w'
            go_simp
            with_reducible rfl
          rotate_left
          · simp only [Act.put, List.setIfInBounds_toArray, List.set_cons_zero, List.set_cons_succ, i64_w, i32_w]
            rfl
          refine done_ (done_of HT_.out (by kernel_rfl)) ?_
          clear hgn hhh hmm
          go_wp2
          have e2 := w64s (a := i) (by have := HI60.out; omega)
          go_roundw
          case rel => exact ⟨i + 1, nz, Bz, Vz, oz, hz, mz, Pz, Wz, Uz, Gz, AWz, cWz, AUz, cUz, AGz, cGz, by first | rw [e2] | go_num, ⟨by have h1 := HI.out; have h2 := HIL.out; push_cast; omega⟩, HRIz, ⟨HSq5.out.tail.tail.tail⟩, HBq5⟩
          case measure => first | exact lmeas_at e2 HIL.out | exact lmeas_at2 HIL.out
    · have hi' : ¬ ((i : Int) < (l4.length : Int)) := by omega
      clear hi
      go_wp2
      refine start_ (n := 9) (S := fun w' => w'.heap[gd]? = some (.cells #[.int .i64 kd, .int .i64 (K : Int), .int .i64 O, .int .i64 0, .slice none 0 0, .slice none 0 0, .int .i64 (most : Int), .slice AW W.length cW, .slice AU U.length cU, .slice AG G.length cG, .int .i64 hits, .int .i64 misses] 50 (0, 0))) (ds := [3, 4, 6]) #[false, false, false, false, false, false, false, false, false] (by kernel_rfl) rfl rfl ((HSr.out.low (below_drew1 (Below.refl _ _))).get 1 rfl) (fun hHeld => ?_)
      refine with_tabW pl.tab35 pl.bits35 (fun HT_ HW_ => ?_)
      have HS5 := Aside0.mk (HSr.out.low (below_drew1 (Below.refl _ _)))
      have HB5 := Aside0.mk (below_drew1 HBr.out)
      clear HSr HBr
      generalize wr.drew = wd at HS5 HB5 hHeld ⊢
      refine pure_ (i := 0) (N := (some 199)) (v := ?_) (a' := ?_) #[true, false, false, false, false, false, false, false, false] rfl rfl (any_of HT_.out (by kernel_rfl)) (fun _ _ _ h => h) (Or.inl ⟨by rfl, ?_⟩) ?_ ?_
      rotate_left
      · intro w'
        go_simp
        with_reducible rfl
      rotate_left
      · simp only [Act.put, List.setIfInBounds_toArray, List.set_cons_zero, List.set_cons_succ, i64_w, i32_w]
        rfl
      refine take_ (i := 2) (N := (some 201)) (v := .agg #[.int .i64 kd, .int .i64 (K : Int), .int .i64 O, .int .i64 0, .slice none 0 0, .slice none 0 0, .int .i64 (most : Int), .slice AW W.length cW, .slice AU U.length cU, .slice AG G.length cG, .int .i64 hits, .int .i64 misses]) (a' := ?_) #[true, false, true, false, false, false, false, false, false] rfl rfl (take_ofW HT_.out HW_.out (by kernel_rfl)) (fun _ _ _ h => h) (yieldsIf_load_mid (by rfl) 50 _ rfl gd 0 rfl [.int .i64 kd, .int .i64 (K : Int), .int .i64 O, .int .i64 0, .slice none 0 0, .slice none 0 0, .int .i64 (most : Int), .slice AW W.length cW, .slice AU U.length cU, .slice AG G.length cG, .int .i64 hits, .int .i64 misses] _ (fun w' h => box_all h) Try.underlying50 rfl (by rw [i50]; rfl)) hHeld ?_ ?_
      rotate_left
      · simp only [Act.put, List.setIfInBounds_toArray, List.set_cons_zero, List.set_cons_succ, i64_w, i32_w]
        rfl
      refine one_ (i := 1) (N := (some 200)) #[true, true, true, false, false, false, false, false, false] rfl rfl (one_of HT_.out (by kernel_rfl)) (by decide) (fun Kc hK => ?_)
      refine goes_ Try.func20 (by kernel_rfl) rfl #[.pointer (some ⟨g, 0, none⟩)] (by rfl) rfl rfl (by (try simp only [List.map_toArray, List.map_cons, List.map_nil]); first | done | rfl | simp [Act.eval]) ?_
      refine (Words_any w.heap.size own g kd K O most n Bf Vf hits misses HKD.out wd (HS5.out.get 2 rfl) HNB.out.2 HKK.out.2).mono ?_
      rintro e w6 hW
      obtain ⟨Aw, mw, cw, Lw, ow1, rfl, hS, hp, hs, hb⟩ := WordsPost.join HS5.out hW HB5.out.size
      refine ⟨_, rfl, ?_⟩
      have HS6 := Aside0.mk hS
      have HP6 := Aside0.mk (And.intro hp hs)
      have HB6 := Aside0.mk (HB5.out.trans hb)
      clear hS hp hs hb hW HS5 HB5 hHeld
      refine hK.out _ _ (HS6.out.get 2 rfl) (fun hHeld => ?_)
      clear hK Kc
      refine norm_ (a' := ?_) ?_ ?_
      rotate_left
      · show Act.put _ (some 200) _ = _
        simp only [Act.put, List.setIfInBounds_toArray, List.set_cons_zero, List.set_cons_succ, i64_w, i32_w]
        rfl
      refine last_ (i := 3) (N := (some 202)) #[true, true, true, true, false, false, false, false, false] rfl rfl (one_of HT_.out (by kernel_rfl)) (by decide) (fun Kc hK => ?_)
      refine goes_ Try.func31 (by kernel_rfl) rfl #[.agg #[.int .i64 kd, .int .i64 (K : Int), .int .i64 O, .int .i64 0, .slice none 0 0, .slice none 0 0, .int .i64 (most : Int), .slice AW W.length cW, .slice AU U.length cU, .slice AG G.length cG, .int .i64 hits, .int .i64 misses]] (by rfl) rfl rfl (by (try simp only [List.map_toArray, List.map_cons, List.map_nil]); first | done | rfl | simp [Act.eval]) ?_
      refine (RList_walk kd P (K : Int) O (most : Int) hits misses AW cW AU cU AG cG W U G w6 (HS6.out.get 1 rfl).2.2.2 (HS6.out.get 1 rfl).1 (HS6.out.get 1 rfl).2.1 (HS6.out.get 1 rfl).2.2.1 HRI.out.len (fun y hy => by have := HRI.out.wl y hy; omega) (by have h1 := HI.out; have h2 := HLB.out; omega) (fun y hy => by have := HRI.out.gl y hy; omega) (by rw [HRI.out.g, List.length_map, List.length_range]; have := HNB.out; omega) HKD.out HRI.out.outs).mono ?_
      rintro e w7 ⟨Al, cl, Ll, rfl, hcl, hCl, hpl, hsl, hb⟩
      refine ⟨_, rfl, ?_⟩
      have HS7 := Aside0.mk (HS6.out.low hb)
      have HB7 := Aside0.mk (below_step HB6.out hb)
      obtain ⟨Up, Yp, Dp, htri⟩ := trie_tri (HS7.out.get 3 rfl)
      rw [list_is htri HRI.out HKD.out] at hpl
      have HL7 := Aside0.mk (And.intro hcl (And.intro hCl (And.intro hpl hsl)))
      clear hcl hCl hpl hsl hb htri HS6 HB6 hHeld
      refine hK.out _ _ ?_
      clear hK Kc
      refine norm_ (a' := ?_) ?_ ?_
      rotate_left
      · show Act.put _ (some 202) _ = _
        simp only [Act.put, List.setIfInBounds_toArray, List.set_cons_zero, List.set_cons_succ, i64_w, i32_w]
        rfl
      refine last_ (i := 4) (N := (some 203)) #[true, true, true, true, true, false, false, false, false] rfl rfl (one_of HT_.out (by kernel_rfl)) (by decide) (fun Kc hK => ?_)
      refine goes_ Try.func21 (by kernel_rfl) rfl #[.slice Aw mw cw, .slice Al Ll.length cl] (by rfl) rfl rfl (by (try simp only [List.map_toArray, List.map_cons, List.map_nil]); first | done | rfl | simp [Act.eval]) ?_
      refine (Lists_mix (HS7.out.get 0 rfl) HL7.out.2.1 HL7.out.1 n Bf _ HNB.out.2 (trie_short (HS7.out.get 3 rfl)) HP6.out.1 HL7.out.2.2.1 HP6.out.2 HL7.out.2.2.2).mono ?_
      rintro e w8 ⟨rfl, ⟨nd, rfl⟩⟩
      refine ⟨_, rfl, ?_⟩
      have HB8 := Aside0.mk (pw_below_drewN HB7.out nd)
      clear HS7 HB7
      generalize World.drewN _ nd = w8 at HB8 ⊢
      refine hK.out _ _ ?_
      clear hK Kc
      refine norm_ (a' := ?_) ?_ ?_
      rotate_left
      · show Act.put _ (some 203) _ = _
        simp only [Act.put, List.setIfInBounds_toArray, List.set_cons_zero, List.set_cons_succ, i64_w, i32_w]
        rfl
      refine pure_ (i := 5) (N := (some 204)) (v := ?_) (a' := ?_) #[true, true, true, true, true, true, false, false, false] rfl rfl (any_of HT_.out (by kernel_rfl)) (fun _ _ _ h => h) (Or.inl ⟨by rfl, ?_⟩) ?_ ?_
      rotate_left
      · intro w'
        go_simp
        with_reducible rfl
      rotate_left
      · simp only [Act.put, List.setIfInBounds_toArray, List.set_cons_zero, List.set_cons_succ, i64_w, i32_w]
        rfl
      refine last_ (i := 6) (N := (some 205)) #[true, true, true, true, true, true, true, false, false] rfl rfl (one_of HT_.out (by kernel_rfl)) (by decide) (fun Kc hK => ?_)
      refine goes_ Try.func11 (by kernel_rfl) rfl #[] (by rfl) rfl rfl (by (try simp only [List.map_toArray, List.map_cons, List.map_nil]); first | done | rfl | simp [Act.eval]) ?_
      refine (live_walk w8).mono ?_
      rintro e w9 ⟨rfl, hb⟩
      refine ⟨_, rfl, ?_⟩
      have HB9 := Aside0.mk (below_step HB8.out hb)
      clear hb HB8
      refine hK.out _ _ ?_
      clear hK Kc
      refine norm_ (a' := ?_) ?_ ?_
      rotate_left
      · show Act.put _ (some 205) _ = _
        simp only [Act.put, List.setIfInBounds_toArray, List.set_cons_zero, List.set_cons_succ, i64_w, i32_w]
        rfl
      refine pure_ (i := 7) (N := (some 206)) (v := ?_) (a' := ?_) #[true, true, true, true, true, true, true, true, false] rfl rfl (any_of HT_.out (by kernel_rfl)) (fun _ _ _ h => h) (Or.inl ⟨by rfl, ?_⟩) ?_ ?_
      rotate_left
      · intro w'
        go_simp
        with_reducible rfl
      rotate_left
      · simp only [Act.put, List.setIfInBounds_toArray, List.set_cons_zero, List.set_cons_succ, i64_w, i32_w]
        rfl
      refine pure_ (i := 8) (N := (some 10)) (v := ?_) (a' := ?_) #[true, true, true, true, true, true, true, true, true] rfl rfl (any_of HT_.out (by kernel_rfl)) (fun _ _ _ h => h) (Or.inl ⟨by rfl, ?_⟩) ?_ ?_
      rotate_left
      · intro w'
        go_simp
        with_reducible rfl
      rotate_left
      · simp only [Act.put, List.setIfInBounds_toArray, List.set_cons_zero, List.set_cons_succ, i64_w, i32_w]
        rfl
      refine done_ (done_of HT_.out (by kernel_rfl)) ?_
      go_wp2
      go_ret
      exact ⟨rfl, HB9.out⟩
theorem tutorlaw11_CachePlays.calls (a0 a1 a2 a3 : Int) (A4 : Option Addr) (c4 : Nat) (l4 : List S55) (r : Bool) (w : World) (hr4 : Kd.C k55 w A4 l4.length l4) (hc4 : l4.length ≤ c4) (h : true = r) : Calls Try.prog 6 #[.int .i64 a0, .int .i64 a1, .int .i64 a2, .int .i64 a3, .slice A4 l4.length c4] w fun e w' => e = .returned (.bool r) ∧ Below w.heap.size w w' := by
  subst h
  obtain ⟨b, h1, h2⟩ := much_is l4
  cases b with
  | true => exact Play_much a0 a1 a2 a3 A4 c4 l4 w hr4 hc4 h1
  | false =>
    obtain ⟨g1, g2⟩ := h2 rfl
    by_cases he : newErr a0 a1 a2 a3 = 0
    · obtain ⟨_, k1, _, _, _, _, k2, _⟩ := newErr_ok he
      obtain ⟨k, rfl⟩ : ∃ k : Nat, a1 = (k : Int) := ⟨a1.toNat, by omega⟩
      obtain ⟨m, rfl⟩ : ∃ m : Nat, a3 = (m : Int) := ⟨a3.toNat, by omega⟩
      exact Play_main a0 k m a2 A4 c4 l4 w hr4 hc4 h1 g1 g2 he
    · exact Play_err a0 a1 a2 a3 A4 c4 l4 w hr4 hc4 h1 _ rfl he
end Go.Proofs.Ytdijkhamebkfjaa.X
end
