/- Texts of the statement CachePlays, one behind the other: Go functions as Lean functions, the machine's calls, the plain law. -/
import Derived.Test.YtdijkhamebkfjaaMCachePlays5
import Derived.Test.YtdijkhamebkfjaaMCachePlays10
import Derived.Test.YtdijkhamebkfjaaMCachePlays13
set_option linter.unusedVariables false
set_option linter.unusedSimpArgs false
section
namespace Go.Proofs.Ytdijkhamebkfjaa.X
open Go.RowKit Go.Proofs.YtdijkhamebkfjaaW.PrintWords Go.Proofs.YtdijkhamebkfjaaW.PrintLast Go.Proofs.YtdijkhamebkfjaaW.PrintMore
open Go.Proofs.Ytdijkhamebkfjaa Go.Proofs.Ytdijkhamebkfjaa.Sp
def rl.T15 : Bool × List (List Nat × List Nat) := (true, [([], []), ([0], [0]), ([1], [1]), ([2], [2]), ([2], [2]), ([3, 4, 2], [2, 3, 4]), ([5, 2], [2, 5]), ([2], [2]), ([2], [2]), ([8, 2], [2, 8]), ([7, 9, 2], [2, 7, 9]), ([10, 2], [2, 10]), ([6, 11, 2, 2], [2, 6, 11]), ([2, 12], [2, 12])])
def rl.B15 : List Nat := [0, 1, 3, 7, 7, 31, 63, 7, 7, 263, 903, 1927, 4095, 8191]
theorem rl.tab15 : rtab .any (opsOf Try.f31 15) = rl.T15 := by kernel_rfl
theorem rl.bits15 : waitsOk rl.T15.2 rl.B15 = true := by kernel_rfl
def rl.T17 : Bool × List (List Nat × List Nat) := (true, [([], []), ([], []), ([], []), ([], []), ([3], [3]), ([], []), ([], []), ([6], [6]), ([5, 7], [5, 7]), ([8], [8]), ([], []), ([], []), ([10, 11], [10, 11]), ([12], [12]), ([0, 1, 0, 1, 5, 6, 7, 8, 9, 13], [0, 1]), ([14, 9, 0, 1, 5, 6, 7, 8, 9, 13], [9, 14]), ([2, 4, 0, 1, 2, 3, 4, 5, 6, 7, 8, 9, 10, 11, 12, 13, 14, 15], [2, 4]), ([16, 13, 15, 0, 1, 2, 3, 4, 5, 6, 7, 8, 9, 10, 11, 12, 13, 14, 15], [13, 16])])
def rl.B17 : List Nat := [0, 0, 0, 0, 8, 0, 0, 64, 224, 480, 0, 0, 3072, 7168, 16355, 32739, 65535, 131071]
theorem rl.tab17 : rtab .any (opsOf Try.f31 17) = rl.T17 := by kernel_rfl
theorem rl.bits17 : waitsOk rl.T17.2 rl.B17 = true := by kernel_rfl
/-- Is the i-th beginning told? -/
def keepR (kd : Int) (W U G : List (List Int)) (i : Nat) : Bool := (findF kd W U (G.getD i [])).2 && !(decide (kd = 2) && (List.range G.length).any fun k => decide (k ≠ i) && decide (G.getD i [] <+: G.getD k []))
def okTo (kd : Int) (W U G : List (List Int)) (i n : Nat) : Bool := (findF kd W U (G.getD i [])).2 && !(decide (kd = 2) && (List.range n).any fun k => decide (k ≠ i) && decide (G.getD i [] <+: G.getD k []))
theorem okTo_zero (kd : Int) (W U G : List (List Int)) (i : Nat) : okTo kd W U G i 0 = (findF kd W U (G.getD i [])).2 := by simp [okTo]
theorem okTo_succ (kd : Int) (W U G : List (List Int)) (i n : Nat) : okTo kd W U G i (n + 1) = (okTo kd W U G i n && !(decide (kd = 2) && (decide (n ≠ i) && decide (G.getD i [] <+: G.getD n [])))) := by
  unfold okTo
  rw [List.range_succ, List.any_append]
  cases (findF kd W U (G.getD i [])).2 <;> cases decide (kd = 2) <;> simp
def RListPost (kd : Int) (W U G : List (List Int)) (w : World) : Ending → World → Prop := fun e w' => ∃ (A : Option Addr) (c : Nat) (L : List (List Int)), e = .returned (.slice A L.length c) ∧ L.length ≤ c ∧ Kd.C (Kd.slice 3 (Kd.int .i64)) w' A L.length L ∧ L.Perm (((List.range G.length).filter (keepR kd W U G)).map (G.getD · [])) ∧ L.Pairwise (fun x y => cmpW x y ≤ 0) ∧ Below w.heap.size w w'
abbrev HW_ := Hdr × List Int
/-- A head whose word is read in a world. -/
def Heads_ (w : World) (Q : List HW_) : Prop := ∀ q ∈ Q, q.1.2.1 = q.2.length ∧ q.2.length ≤ q.1.2.2 ∧ q.2.length ≤ 1000000000 ∧ Kd.C (Kd.int .i64) w q.1.1 q.2.length q.2
theorem heads_C {w' : World} {base c : Nat} {ok : Nat → Prop} {A : Option Addr} {n : Nat} {Q : List HW_} (hr : Kd.R kH 22 w' base ok (.slice A n c) (Q.map Prod.fst)) (hq : Heads_ w' Q) : Kd.C (Kd.slice 3 (Kd.int .i64)) w' A (Q.map Prod.snd).length (Q.map Prod.snd) ∧ n = (Q.map Prod.snd).length ∧ n ≤ c := by
  obtain ⟨e1, e2, h1, h2, h3⟩ := Kd.R_reads' hr
  have hl : (Q.map Prod.snd).length = (Q.map Prod.fst).length := by simp
  refine ⟨⟨rfl, by rw [hl]; exact h2, fun hn => ?_⟩, by rw [hl]; exact e1, e2⟩
  obtain ⟨ad, e, hc⟩ := h3 (by rwa [hl] at hn)
  refine ⟨ad, e, fun j p hj => ?_⟩
  rw [List.getElem?_map] at hj
  obtain ⟨q, hq1, hq2⟩ := Option.map_eq_some_iff.1 hj
  subst hq2
  obtain ⟨cs, g1, g2, g3⟩ := hc j q.1 (by rw [List.getElem?_map, hq1]; rfl)
  have g4 : cs = [encH q.1] := g2
  subst g4
  obtain ⟨f1, f2, _, f3⟩ := hq q (List.mem_of_getElem? hq1)
  exact ⟨_, g1, ⟨q.1.1, q.1.2.2, by rw [← f1]; rfl, f2, f3⟩, g3⟩
theorem rmeas2_at {a j : Nat} (e : wrap64 ((j : Int) + 1) = ((j + 1 : Nat) : Int)) (h : j < a) : a - (intOf (.int .i64 (wrap64 ((j : Int) + 1)))).toNat < a - (intOf (.int .i64 (j : Int))).toNat := by
  rw [e]
  show a - (((j + 1 : Nat) : Int)).toNat < a - ((j : Int)).toNat
  omega
theorem rmeas2_at2 {a j : Nat} (h : j < a) : a - (intOf (.int .i64 ((j : Int) + 1))).toNat < a - (intOf (.int .i64 (j : Int))).toNat := by
  show a - ((j : Int) + 1).toNat < a - ((j : Int)).toNat
  omega
theorem ahead_l0 (a b : List Int) (hl : a.length = b.length) (ha : a.length ≤ 1000000000) : ∀ (d k i : Nat), i + d = a.length → d < k → tutorref01_Ahead.l0 k a b (i : Int) = some (decide (lexC (a.drop i) (b.drop i) < 0)) := by
  intro d
  induction d with
  | zero =>
    intro k i h hk
    obtain ⟨k, rfl⟩ : ∃ m, k = m + 1 := ⟨k - 1, by omega⟩
    simp only [tutorref01_Ahead.l0]
    rw [if_neg (by omega), List.drop_of_length_le (by omega), List.drop_of_length_le (by omega)]
    rfl
  | succ d ih =>
    intro k i h hk
    obtain ⟨k, rfl⟩ : ∃ m, k = m + 1 := ⟨k - 1, by omega⟩
    simp only [tutorref01_Ahead.l0]
    rw [if_pos (by omega), if_pos (by omega), if_pos (by omega), rd_nat (by omega), rd_nat (by omega), List.drop_eq_getElem_cons (show i < a.length by omega), List.drop_eq_getElem_cons (show i < b.length by omega)]
    unfold lexC
    by_cases h1 : a[i]'(by omega) = b[i]'(by omega)
    · rw [if_pos h1, if_neg (by omega), if_neg (by omega), w64s (by omega)]
      exact ih k (i + 1) (by omega) (by omega)
    · rw [if_neg h1]
      by_cases h2 : a[i]'(by omega) < b[i]'(by omega)
      · rw [if_pos h2, decide_eq_true h2]; rfl
      · rw [if_neg h2, if_pos (by omega), decide_eq_false h2]; rfl
theorem ahead_f {a b : List Int} {k : Nat} (ha : a.length ≤ 1000000000) (hb : b.length ≤ 1000000000) (hk : a.length + 1 < k) : tutorref01_Ahead.f k a b = some (decide (cmpW a b < 0)) := by
  unfold tutorref01_Ahead.f cmpW
  by_cases h1 : a.length = b.length
  · rw [if_pos (by omega), if_neg (by omega), if_neg (by omega)]
    exact ahead_l0 a b h1 ha a.length k 0 (by omega) (by omega)
  · rw [if_neg (by omega)]
    by_cases h2 : a.length < b.length
    · rw [if_pos h2, decide_eq_true (by omega)]
      rfl
    · rw [if_neg h2, if_pos (by omega), decide_eq_false (by omega)]
      rfl
theorem Ahead_calls (A0 : Option Addr) (n0 c0 : Nat) (a : List Int) (A1 : Option Addr) (n1 c1 : Nat) (b : List Int) (w : World) (h0 : Kd.C (Kd.int .i64) w A0 n0 a) (hc0 : n0 ≤ c0) (h1 : Kd.C (Kd.int .i64) w A1 n1 b) (hc1 : n1 ≤ c1) (ha : a.length ≤ 1000000000) (hb : b.length ≤ 1000000000) :
    Calls Try.prog 48 #[.slice A0 n0 c0, .slice A1 n1 c1] w fun e w' => e = .returned (.bool (decide (cmpW a b < 0))) ∧ Drawn0 w w' := by
  have e0 := Kd.C_len h0
  have e1 := Kd.C_len h1
  subst e0 e1
  exact tutorref01_Ahead.calls (a.length + 2) A0 c0 a A1 c1 b _ w h0 hc0 h1 hc1 (ahead_f ha hb (by omega))
theorem kh_get {w : World} {base g n c : Nat} {ok : Nat → Prop} {xs : List Hdr} (h : Kd.R kH 22 w base ok (.slice (some ⟨g, 0, none⟩) n c) xs) {j : Nat} {x : Hdr} (hj : xs[j]? = some x) : w.cell? ⟨g, j, none⟩ = some (encH x) := by
  obtain ⟨_, _, _, h2, h3⟩ := Kd.R_reads' h
  have hjl := (List.getElem?_eq_some_iff.1 hj).1
  obtain ⟨ad, e, hc⟩ := h3 (by omega)
  injection e with e
  subst e
  obtain ⟨cs, g1, g2, g3⟩ := hc j x hj
  have g4 : cs = [encH x] := g2
  subst g4
  have := g3 0 _ rfl
  rwa [show j * kH.sz + 0 = j by show j * 1 + 0 = j; omega, Addr.add_mid, Nat.zero_add] at this
theorem kh_frozen {w : World} {base g n c : Nat} {ok : Nat → Prop} {xs : List Hdr} (h : Kd.R kH 22 w base ok (.slice (some ⟨g, 0, none⟩) n c) xs) (j : Nat) : w.frozen? ⟨g, j, none⟩ = false := by
  rcases (Kd.own_of_R h).2 with ⟨h1, _⟩ | ⟨g', cap', cur, h1, hb, hc, _⟩
  · cases h1
  · injection h1 with h2 h3 h4
    injection h2 with h2
    injection h2 with h2 _ _
    subst h2
    exact blk_frozen hc j
theorem kh_place {w : World} {base : Nat} {ok : Nat → Prop} {v : Value} {xs : List Hdr} (h : Kd.R kH 22 w base ok v xs) (hn : xs ≠ []) : ∃ g c, v = .slice (some ⟨g, 0, none⟩) xs.length c := by
  obtain ⟨_, inner, ho, hr⟩ := h
  rcases ho.2 with ⟨rfl, h0⟩ | ⟨g, cap, cur, rfl, _⟩
  · exact absurd (List.eq_nil_of_length_eq_zero h0) hn
  · exact ⟨g, cap, rfl⟩
theorem cmpW_le_trans {a b c : List Int} (h1 : cmpW a b ≤ 0) (h2 : cmpW b c ≤ 0) : cmpW a c ≤ 0 := by
  by_cases e1 : cmpW a b = 0
  · rw [cmpW_zero _ _ e1]; exact h2
  · by_cases e2 : cmpW b c = 0
    · rw [← cmpW_zero _ _ e2]; exact h1
    · exact Int.le_of_lt (cmpW_trans a b c (by omega) (by omega))
abbrev Srt (Q : List HW_) : Prop := (Q.map Prod.snd).Pairwise (fun x y => cmpW x y ≤ 0)
theorem ins_sorted {A D : List HW_} {p : HW_} (hs : Srt (A ++ D)) (hD : ∀ d ∈ D, cmpW p.2 d.2 < 0) (hA : ∀ A' a, A = A' ++ [a] → ¬ cmpW p.2 a.2 < 0) : Srt (A ++ p :: D) := by
  unfold Srt at hs ⊢
  rw [List.map_append, List.pairwise_append] at hs
  rw [List.map_append, List.map_cons, List.pairwise_append, List.pairwise_cons]
  obtain ⟨h1, h2, h3⟩ := hs
  have hp : ∀ a ∈ A, cmpW a.2 p.2 ≤ 0 := fun a ha => by
    rcases List.eq_nil_or_concat A with rfl | ⟨A', z, rfl⟩
    · cases ha
    · rw [List.concat_eq_append] at ha h1 hA
      have hz : cmpW z.2 p.2 ≤ 0 := by have := hA A' z rfl; have h5 := cmpW_anti z.2 p.2; omega
      rcases List.mem_append.1 ha with ha | ha
      · rw [List.map_append, List.pairwise_append] at h1
        exact cmpW_le_trans (h1.2.2 a.2 (List.mem_map_of_mem ha) z.2 (by simp)) hz
      · obtain rfl := List.mem_singleton.1 ha
        exact hz
  refine ⟨h1, ⟨fun y hy => ?_, h2⟩, fun x hx y hy => ?_⟩
  · obtain ⟨d, hd, rfl⟩ := List.mem_map.1 hy
    exact Int.le_of_lt (hD d hd)
  · obtain ⟨a, ha, rfl⟩ := List.mem_map.1 hx
    rcases List.mem_cons.1 hy with rfl | hy
    · exact hp a ha
    · exact h3 _ hx y hy
theorem meas_dn {k k1 : Nat} (h : k = k1 + 1) : (intOf (.int .i64 (k1 : Int))).toNat < (intOf (.int .i64 (k : Int))).toNat := by
  subst h
  show ((k1 : Int)).toNat < (((k1 + 1 : Nat) : Int)).toNat
  omega
theorem keepR_is (kd : Int) (W U G : List (List Int)) (i : Nat) : keepR kd W U G i = okTo kd W U G i G.length := rfl
theorem keep_succ (kd : Int) (W U G : List (List Int)) (i : Nat) : ((List.range (i + 1)).filter (keepR kd W U G)).map (G.getD · []) = ((List.range i).filter (keepR kd W U G)).map (G.getD · []) ++ (if keepR kd W U G i = true then [G.getD i []] else []) := by
  rw [List.range_succ, List.filter_append, List.map_append]
  congr 1
  by_cases h : keepR kd W U G i = true
  · rw [if_pos h, List.filter_cons_of_pos h]; rfl
  · rw [if_neg h, List.filter_cons_of_neg h]; rfl
theorem keep_put {kd : Int} {W U G : List (List Int)} {i : Nat} {Q A D : List HW_} {p : HW_} (h : (Q.map Prod.snd).Perm (((List.range i).filter (keepR kd W U G)).map (G.getD · []))) (he : A ++ D = Q) (hk : keepR kd W U G i = true) (hp : G.getD i [] = p.2) : ((A ++ p :: D).map Prod.snd).Perm (((List.range (i + 1)).filter (keepR kd W U G)).map (G.getD · [])) := by
  rw [keep_succ, if_pos hk, hp]
  refine List.Perm.trans ?_ (h.append_right [p.2])
  rw [← he, List.map_append, List.map_cons, List.map_append, List.append_assoc]
  exact List.Perm.append_left _ (List.perm_append_comm (l₁ := [p.2]) (l₂ := D.map Prod.snd))
theorem heads_put {w : World} {Q A D : List HW_} {p : HW_} (h : Heads_ w Q) (he : A ++ D = Q) (hp : p.1.2.1 = p.2.length ∧ p.2.length ≤ p.1.2.2 ∧ p.2.length ≤ 1000000000 ∧ Kd.C (Kd.int .i64) w p.1.1 p.2.length p.2) : Heads_ w (A ++ p :: D) := fun q hq => by
  rcases List.mem_append.1 hq with hq | hq
  · exact h q (by rw [← he]; exact List.mem_append_left _ hq)
  · rcases List.mem_cons.1 hq with rfl | hq
    · exact hp
    · exact h q (by rw [← he]; exact List.mem_append_right _ hq)
theorem swap_list {A D : List HW_} {s p : HW_} {k k1 : Nat} {hs hp : Hdr} (h1 : A.length = k1) (h2 : k = k1 + 1) (e1 : p.1 = hp) (e2 : s.1 = hs := by rfl) : ((((A ++ [s]) ++ p :: D).map Prod.fst).set k hs).set k1 hp = (A ++ p :: (s :: D)).map Prod.fst := by
  subst h1 h2 e1 e2
  simp [List.set_append, List.append_assoc]
theorem RListPost.intro {kd : Int} {W U G : List (List Int)} {w w' : World} {A : Option Addr} {n c : Nat} {L : List (List Int)} (hn : n = L.length) (hc : n ≤ c) (hC : Kd.C (Kd.slice 3 (Kd.int .i64)) w' A L.length L) (hp : L.Perm (((List.range G.length).filter (keepR kd W U G)).map (G.getD · []))) (hs : L.Pairwise (fun x y => cmpW x y ≤ 0)) (hb : Below w.heap.size w w') : RListPost kd W U G w (.returned (.slice A n c)) w' := by
  subst hn
  exact ⟨A, c, L, rfl, hc, hC, hp, hs, hb⟩
theorem _root_.Go.Proofs.Ytdijkhamebkfjaa.Sp.Sep.swap2 {base : Nat} {a b : Res} {w : World} (h : Sep base [a, b] w) : Sep base [b, a] w :=
  ⟨fun r hr => h.1 r (by simp only [List.mem_cons, List.not_mem_nil, or_false] at hr ⊢; exact hr.symm), List.pairwise_cons.2 ⟨fun q hq k hk hq' => by rw [List.mem_singleton] at hq; subst hq; exact (List.pairwise_cons.1 h.2).1 b (by simp) k hq' hk, List.pairwise_singleton _ _⟩⟩
attribute [local go_sem] max2_int min2_int max_two min_two max_three min_three max_four min_four
set_option maxHeartbeats 16000000 in
set_option maxRecDepth 100000 in
theorem RList_c1 (P : Nat → Prop) (K O most h m : Int) (AW : Option Addr) (cW : Nat) (AU : Option Addr) (cU : Nat) (AG : Option Addr) (cG : Nat) (W U G : List (List Int)) (w : World) (hP : ∀ k, P k → k < w.heap.size) (hW : Wl P w (.slice AW W.length cW) W) (hU : Wl P w (.slice AU U.length cU) U) (hG : Wl P w (.slice AG G.length cG) G) (hWU : W.length = U.length) (hWl : ∀ x ∈ W, x.length ≤ 1000000) (hWn : W.length ≤ 1000000) (hGl : ∀ x ∈ G, x.length ≤ 1000000) (hGn : G.length ≤ 2000000) : Calls Try.prog 31 #[.agg #[.int .i64 1, .int .i64 K, .int .i64 O, .int .i64 0, .slice none 0 0, .slice none 0 0, .int .i64 most, .slice AW W.length cW, .slice AU U.length cU, .slice AG G.length cG, .int .i64 h, .int .i64 m]] w (RListPost 1 W U G w) := by
  have hu50 := Try.underlying50
  have hu24 := Try.underlying24
  have hu25 := Try.underlying25
  have hu22 := Try.underlying22
  obtain ⟨z50, i50⟩ := zero_of_info info50
  have HP := Aside0.mk hP
  have HW := Aside0.mk hW
  have HU := Aside0.mk hU
  have HG := Aside0.mk hG
  have HWU := Aside0.mk hWU
  have HWL := Aside0.mk hWl
  have HWN := Aside0.mk hWn
  have HGL := Aside0.mk hGl
  have HGN := Aside0.mk hGn
  have HS0 : Aside0 (Sep w.heap.size [blk w.heap.size #[.int .i64 1, .int .i64 K, .int .i64 O, .int .i64 0, .slice none 0 0, .slice none 0 0, .int .i64 most, .slice AW W.length cW, .slice AU U.length cU, .slice AG G.length cG, .int .i64 h, .int .i64 m] 50, row kH 22 w.heap.size (.slice none 0 0) (([] : List HW_).map Prod.fst)] (w.alloc (.cells #[.int .i64 1, .int .i64 K, .int .i64 O, .int .i64 0, .slice none 0 0, .slice none 0 0, .int .i64 most, .slice AW W.length cW, .slice AU U.length cU, .slice AG G.length cG, .int .i64 h, .int .i64 m] 50))) := ⟨Sep.nilRow (Sep.alloc (Sep.nil w.heap.size w) #[.int .i64 1, .int .i64 K, .int .i64 O, .int .i64 0, .slice none 0 0, .slice none 0 0, .int .i64 most, .slice AW W.length cW, .slice AU U.length cU, .slice AG G.length cG, .int .i64 h, .int .i64 m] 50 (Nat.le_refl _)) kH 22 |>.swap2⟩
  have HB0 : Aside0 (Below w.heap.size w (w.alloc (.cells #[.int .i64 1, .int .i64 K, .int .i64 O, .int .i64 0, .slice none 0 0, .slice none 0 0, .int .i64 most, .slice AW W.length cW, .slice AU U.length cU, .slice AG G.length cG, .int .i64 h, .int .i64 m] 50))) := ⟨below_alloc (Below.refl _ _) _⟩
  clear hP hW hU hG hWU hWl hWn hGl hGn
  go_enter Try.func31, Try.ntmps31
  go_wp2
  go_loopw [4, 3] (fun v4 v3 wr => ∃ (i : Nat) (Q : List HW_) (tv : Value), v4 = .int .i64 (i : Int) ∧ tv = v3 ∧ Aside0 (i ≤ G.length ∧ Q.length ≤ i) ∧ Aside0 (Heads_ w Q) ∧ Aside0 ((Q.map Prod.snd).Perm (((List.range i).filter (keepR 1 W U G)).map (G.getD · []))) ∧ Aside0 (Srt Q) ∧ Aside0 (Sep w.heap.size [blk w.heap.size #[.int .i64 1, .int .i64 K, .int .i64 O, .int .i64 0, .slice none 0 0, .slice none 0 0, .int .i64 most, .slice AW W.length cW, .slice AU U.length cU, .slice AG G.length cG, .int .i64 h, .int .i64 m] 50, row kH 22 w.heap.size tv (Q.map Prod.fst)] wr) ∧ Aside0 (Below w.heap.size w wr)) (fun v4 _ _ => G.length - (intOf v4).toNat)
  case atStart => exact ⟨0, [], _, rfl, rfl, ⟨Nat.zero_le _, Nat.le_refl _⟩, ⟨fun q hq => by cases hq⟩, ⟨List.Perm.refl _⟩, ⟨List.Pairwise.nil⟩, HS0, HB0⟩
  case round =>
    clear HS0 HB0
    obtain ⟨i, Q, tv, rfl, htv, HI, HH, HPM, HST, HSr, HBr⟩ := hrel
    subst htv
    have hk9 : wr.cell? ⟨w.heap.size, 9, none⟩ = some (.slice AG G.length cG) := (blk_cell (HSr.out.get 0 rfl) 9).trans rfl
    have hf9 := blk_frozen (HSr.out.get 0 rfl) 9
    by_cases hi : i < G.length
    · have HIL := Aside0.mk hi
      have hi' : (i : Int) < (G.length : Int) := by omega
      obtain ⟨g, hg⟩ : ∃ g, G[i]? = some g := ⟨_, List.getElem?_eq_getElem hi⟩
      have hgd : G.getD i [] = g := by rw [List.getD_eq_getElem?_getD, hg]; rfl
      have HGD := Aside0.mk hgd
      have HGE := Aside0.mk hg
      obtain ⟨aG, A5, c5, eG, _, hcG, hlG, hdG⟩ := HG.out.get i g hg
      subst eG
      have hyG : wr.cell? (aG.add i) = some (.slice A5 g.length c5) := (HBr.out.cell (World.block_lt_of_cell? w _ hcG)).trans hcG
      have HGR := Aside0.mk (And.intro hlG hdG.C)
      have HGX : Aside0 (g.length ≤ 1000000) := ⟨HGL.out g (List.mem_of_getElem? hg)⟩
      obtain ⟨r1, rb, hr⟩ : ∃ r1 rb, findF 1 W U g = (r1, rb) := ⟨_, _, rfl⟩
      have HRR := Aside0.mk hr
      have HOK0 : Aside0 (okTo 1 W U G i 0 = rb) := ⟨by rw [okTo_zero, hgd, hr]⟩
      clear hg hgd hcG hlG hdG hr hi
      go_wp2_with (first
      | (go_at_call 26; refine (Find_walk 1 P K O most h m AW cW AU cU (some aG) G.length cG W U wr g A5 c5 (fun k hk => Nat.lt_of_lt_of_le (HP.out k hk) HBr.out.size) (HW.out.move (fun _ h => h) (fun k hk => HBr.out.block k (HP.out k hk))) (HU.out.move (fun _ h => h) (fun k hk => HBr.out.block k (HP.out k hk))) (Kd.C_below HGR.out.2 HBr.out) HGR.out.1 HWU.out (fun x hx => by have := HWL.out x hx; omega) (by have := HWN.out; omega) (by have := HGX.out; omega) (.inl rfl) (fun e => by cases e)).mono ?_
         rintro e w6 hF
         unfold FindRPost at hF
         rw [HRR.out] at hF
         dsimp only at hF
         obtain ⟨Af, nf, cf, rfl, hn, hc, hd, hb⟩ := hF
         have HS6 := Aside0.mk (HSr.out.low hb)
         have HB6 := Aside0.mk (below_step HBr.out hb)
         clear hn hc hd hb)
      | ((with_reducible refine gate_dst (N := 23) rfl ?_)
         refine wpList_load_row rfl 50 (.tmp 1) rfl w.heap.size rfl 50 #[.int .i64 1, .int .i64 K, .int .i64 O, .int .i64 0, .slice none 0 0, .slice none 0 0, .int .i64 most, .slice AW W.length cW, .slice AU U.length cU, .slice (some aG) G.length cG, .int .i64 h, .int .i64 m] (0, 0) _ (HSr.out.get 0 rfl) Try.underlying50 rfl ?_ ?_
         (focus (rw [i50]; rfl))))
      clear hk9 hf9 hyG
      go_loopw [8, 7] (fun v8 v7 wi => ∃ (n : Nat) (b : Bool), v8 = .int .i64 (n : Int) ∧ v7 = .bool b ∧ Aside0 (n ≤ G.length) ∧ Aside0 (okTo 1 W U G i n = b) ∧ Aside0 (Sep w.heap.size [blk w.heap.size #[.int .i64 1, .int .i64 K, .int .i64 O, .int .i64 0, .slice none 0 0, .slice none 0 0, .int .i64 most, .slice AW W.length cW, .slice AU U.length cU, .slice (some aG) G.length cG, .int .i64 h, .int .i64 m] 50, row kH 22 w.heap.size tv (Q.map Prod.fst)] wi) ∧ Aside0 (Below w.heap.size w wi)) (fun v8 _ _ => G.length - (intOf v8).toNat)
      case atStart => exact ⟨0, rb, rfl, rfl, ⟨Nat.zero_le _⟩, HOK0, HS6, HB6⟩
      case round =>
        clear HS6 HB6 HSr HBr
        rename_i w6_
        obtain ⟨n, b, rfl, rfl, HN, HOK, HSi, HBi⟩ := hrel
        have hk9 : wr.cell? ⟨w.heap.size, 9, none⟩ = some (.slice (some aG) G.length cG) := (blk_cell (HSi.out.get 0 rfl) 9).trans rfl
        have hf9 := blk_frozen (HSi.out.get 0 rfl) 9
        have hk0 : wr.cell? ⟨w.heap.size, 0, none⟩ = some (.int .i64 1) := (blk_cell (HSi.out.get 0 rfl) 0).trans rfl
        have hf0 := blk_frozen (HSi.out.get 0 rfl) 0
        by_cases hn : n < G.length
        · have HNL := Aside0.mk hn
          have hn' : (n : Int) < (G.length : Int) := by omega
          have e1 := w64s (a := n) (by have := HGN.out; omega)
          go_wp2
          go_roundw
          case rel => exact ⟨n + 1, b, by first | rw [e1] | go_num, rfl, ⟨HNL.out⟩, ⟨by rw [okTo_succ, HOK.out]; simp⟩, HSi, HBi⟩
          case measure => first | exact rmeas2_at e1 HNL.out | exact rmeas2_at2 HNL.out
        · have hn' : ¬ ((n : Int) < (G.length : Int)) := by omega
          obtain rfl : n = G.length := by have := HN.out; omega
          clear hn
          cases b with
          | false =>
            go_wp2
            have e2 := w64s (a := i) (by have h1 := HIL.out; have h2 := HGN.out; omega)
            go_roundw
            case rel => exact ⟨i + 1, Q, _, by first | rw [e2] | go_num, rfl, ⟨HIL.out, by have := HI.out.2; omega⟩, HH, ⟨by rw [keep_succ, if_neg (by rw [keepR_is, HOK.out]; decide), List.append_nil]; exact HPM.out⟩, HST, HSi, HBi⟩
            case measure => first | exact rmeas2_at e2 HIL.out | exact rmeas2_at2 HIL.out
          | true =>
            obtain ⟨p, hp⟩ : ∃ p : HW_, ((A5, g.length, c5), g) = p := ⟨_, rfl⟩
            have HPE := Aside0.mk hp
            clear hp hk0 hf0
            go_wp2_with (first
            | ((with_reducible refine gate_builtin (b := .append) (xs := #[.tmp 55, .tmp 57]) rfl ?_)
               at_builtin
               refine Kd.R_append kH (w0 := w) w.heap.size rfl (.tmp 55) (.tmp 57) 25 22 (.slice none 0 0) 24 rfl Try.underlying25 info22 rfl (show 0 < 1 by decide) (by omega) tv (Q.map Prod.fst) (A5, g.length, c5) [.slice A5 g.length c5] (fun _ => True) (fun _ => False) rfl (by simp [Act.eval]) rfl (fun _ hk => hk.elim) (fun _ _ => trivial) (Kd.R_mono (HSi.out.get 1 rfl) (fun _ _ => trivial)) HBi.out HBi.out.size (by rw [List.length_map]; have h2 := HI.out; have h3 := HGN.out; omega) ?_
               intro v8 w8 ho hb hg hat
               rw [show Q.map Prod.fst ++ [(A5, g.length, c5)] = (Q ++ p :: []).map Prod.fst by rw [List.map_append, ← HPE.out]; rfl] at ho
               obtain ⟨gv, cv, hv⟩ := kh_place ho (by simp)
               obtain ⟨N, hN⟩ : ∃ N, ((Q ++ p :: []).map Prod.fst).length = N := ⟨_, rfl⟩
               rw [hN] at hv
               have HNN : Aside0 (N = Q.length + 1) := ⟨by rw [← hN]; simp⟩
               subst hv
               have HS8 : Aside0 (Sep w.heap.size [blk w.heap.size #[.int .i64 1, .int .i64 K, .int .i64 O, .int .i64 0, .slice none 0 0, .slice none 0 0, .int .i64 most, .slice AW W.length cW, .slice AU U.length cU, .slice (some aG) G.length cG, .int .i64 h, .int .i64 m] 50, row kH 22 w.heap.size (.slice (some ⟨gv, 0, none⟩) N cv) ((Q ++ p :: []).map Prod.fst)] w8) := ⟨HSi.out.app 1 rfl rfl ho hg hat HBi.out.size⟩
               have HB8 := Aside0.mk hb
               clear ho hb hg hat hN))
            have e9 : wrap64 ((N : Int) - 1) = ((Q.length : Nat) : Int) := by have := HNN.out; have h2 := HI.out; have h3 := HGN.out; unfold wrap64; omega
            have hQN : Q.length ≤ 2000000 := by have h2 := HI.out; have h3 := HGN.out; omega
            have HQN := Aside0.mk hQN
            clear hQN
            go_loopw [9] (fun v9 wi => ∃ (A D : List HW_), v9 = .int .i64 (A.length : Int) ∧ Aside0 (A ++ D = Q ∧ ∀ d ∈ D, cmpW g d.2 < 0) ∧ Aside0 (Sep w.heap.size [blk w.heap.size #[.int .i64 1, .int .i64 K, .int .i64 O, .int .i64 0, .slice none 0 0, .slice none 0 0, .int .i64 most, .slice AW W.length cW, .slice AU U.length cU, .slice (some aG) G.length cG, .int .i64 h, .int .i64 m] 50, row kH 22 w.heap.size (.slice (some ⟨gv, 0, none⟩) N cv) ((A ++ p :: D).map Prod.fst)] wi) ∧ Aside0 (Below w.heap.size w wi)) (fun v9 _ => (intOf v9).toNat)
            case atStart => exact ⟨Q, [], by rw [e9], ⟨List.append_nil _, fun d hd => by cases hd⟩, HS8, HB8⟩
            case round =>
              clear HS8 HB8 e9
              obtain ⟨A, D, rfl, HAD, HSj, HBj⟩ := hrel
              rcases List.eq_nil_or_concat A with rfl | ⟨A', s, rfl⟩
              · rw [List.length_nil]
                go_wp2
                go_quiet (fail)
                go_wp2
                have e2 := w64s (a := i) (by have h1 := HIL.out; have h2 := HGN.out; omega)
                go_roundw
                case rel => exact ⟨i + 1, [] ++ p :: D, _, by first | rw [e2] | go_num, rfl, ⟨HIL.out, by have h1 := congrArg List.length HAD.out.1; have h2 := HI.out.2; simp only [List.length_append, List.length_cons, List.length_nil] at h1 ⊢; omega⟩, ⟨heads_put HH.out HAD.out.1 (by rw [← HPE.out]; exact ⟨rfl, HGR.out.1, Nat.le_trans HGX.out (by decide), HGR.out.2⟩)⟩, ⟨keep_put HPM.out HAD.out.1 (by rw [keepR_is]; exact HOK.out) (by rw [HGD.out, ← HPE.out])⟩, ⟨ins_sorted (by rw [HAD.out.1]; exact HST.out) (fun d hd => by rw [← HPE.out]; exact HAD.out.2 d hd) (fun A'' a e => by cases A'' <;> cases e)⟩, ⟨HSj.out.low (pw_below_drewN (Below.refl _ _) _)⟩, ⟨pw_below_drewN HBj.out _⟩⟩
                case measure => first | exact rmeas2_at e2 HIL.out | exact rmeas2_at2 HIL.out
              · rw [List.concat_eq_append] at HAD HSj ⊢
                obtain ⟨k1, hk1⟩ : ∃ k1, A'.length = k1 := ⟨_, rfl⟩
                obtain ⟨k, hk⟩ : ∃ k, (A' ++ [s]).length = k := ⟨_, rfl⟩
                have hkk : k = k1 + 1 := by rw [← hk, ← hk1]; simp
                have HKK := Aside0.mk (And.intro hk1 (And.intro hk hkk))
                obtain ⟨⟨As, ns, cs⟩, ls⟩ := s
                have hs1 := (HH.out ((As, ns, cs), ls) (by rw [← HAD.out.1]; simp))
                have HS1 := Aside0.mk hs1
                rw [hk]
                have hkN : (k : Int) < (N : Int) := by
                  have h1 := congrArg List.length HAD.out.1
                  have h2 := HNN.out
                  rw [List.length_append, hk] at h1
                  omega
                have hk1N : (k1 : Int) < (N : Int) := by omega
                have hk0 : (k : Int) > 0 := by omega
                have hk0' : 0 < k := by omega
                have hwk : wrap64 ((k : Int) - 1) = (k1 : Int) := by have h2 := HNN.out; have h3 := HQN.out; unfold wrap64; omega
                have hck : wr.cell? ⟨gv, k, none⟩ = some (.slice A5 g.length c5) := by
                  rw [kh_get (x := p.1) (HSj.out.get 1 rfl) (by rw [List.map_append, List.getElem?_append_right (by rw [List.length_map, hk]; exact Nat.le_refl _), List.length_map, hk, Nat.sub_self]; rfl), ← HPE.out]; rfl
                have hck1 : wr.cell? ⟨gv, k1, none⟩ = some (.slice As ns cs) := by
                  rw [kh_get (x := (As, ns, cs)) (HSj.out.get 1 rfl) (by rw [List.map_append, List.getElem?_append_left (by rw [List.length_map, hk]; omega), List.map_append, List.getElem?_append_right (by rw [List.length_map, hk1]; exact Nat.le_refl _), List.length_map, hk1, Nat.sub_self]; rfl)]; rfl
                clear hs1 hk hk1 hkk
                by_cases hah : cmpW g ls < 0
                · have HAH := Aside0.mk hah
                  clear hah
                  go_wp2
                  refine start_ (n := 14) (S := fun w' => w'.cell? ⟨gv, k, none⟩ = some (.slice A5 g.length c5) ∧ w'.cell? ⟨gv, k1, none⟩ = some (.slice As ns cs)) (ds := [12]) #[false, false, false, false, false, false, false, false, false, false, false, false, false, false] (by kernel_rfl) rfl rfl ⟨(show (World.drew wr).cell? _ = _ from ((below_drew1 (Below.refl wr.heap.size wr)).cell (World.block_lt_of_cell? wr _ hck)).trans hck), (show (World.drew wr).cell? _ = _ from ((below_drew1 (Below.refl wr.heap.size wr)).cell (World.block_lt_of_cell? wr _ hck1)).trans hck1)⟩ (fun hHeld => ?_)
                  refine with_tabW rl.tab15 rl.bits15 (fun HT_ HW_ => ?_)
                  have HS9 := Aside0.mk (HSj.out.low (below_drew1 (Below.refl _ _)))
                  have HB9 := Aside0.mk (below_drew1 HBj.out)
                  clear HSj HBj
                  generalize wr.drew = wd at HS9 HB9 hHeld ⊢
                  refine pure_ (i := 0) (N := (some 62)) (v := ?_) (a' := ?_) #[true, false, false, false, false, false, false, false, false, false, false, false, false, false] rfl rfl (any_of HT_.out (by kernel_rfl)) (fun _ _ _ h => h) (Or.inl ⟨by rfl, ?_⟩) ?_ ?_
                  rotate_left
                  · intro w'
                    go_simp
                    with_reducible rfl
                  rotate_left
                  · simp only [Act.put, List.setIfInBounds_toArray, List.set_cons_zero, List.set_cons_succ, i64_w, i32_w]
                    rfl
                  refine pure_ (i := 1) (N := (some 63)) (v := ?_) (a' := ?_) #[true, true, false, false, false, false, false, false, false, false, false, false, false, false] rfl rfl (any_of HT_.out (by kernel_rfl)) (fun _ _ _ h => h) (Or.inl ⟨by rfl, ?_⟩) ?_ ?_
                  rotate_left
                  · intro w'
                    go_simp
                    with_reducible rfl
                  rotate_left
                  · simp only [Act.put, List.setIfInBounds_toArray, List.set_cons_zero, List.set_cons_succ, i64_w, i32_w]
                    rfl
                  refine pure_ (i := 2) (N := (some 64)) (v := ?_) (a' := ?_) #[true, true, true, false, false, false, false, false, false, false, false, false, false, false] rfl rfl (any_of HT_.out (by kernel_rfl)) (fun _ _ _ h => h) (Or.inl ⟨by rfl, ?_⟩) ?_ ?_
                  rotate_left
                  · intro w'
                    go_simp
                    with_reducible rfl
                  rotate_left
                  · simp only [Act.put, List.setIfInBounds_toArray, List.set_cons_zero, List.set_cons_succ, i64_w, i32_w]
                    rfl
                  refine pure_ (i := 3) (N := (some 65)) (v := ?_) (a' := ?_) #[true, true, true, true, false, false, false, false, false, false, false, false, false, false] rfl rfl (any_of HT_.out (by kernel_rfl)) (fun _ _ _ h => h) (Or.inl ⟨by rfl, ?_⟩) ?_ ?_
                  rotate_left
                  · intro w'
                    go_simp
                    with_reducible rfl
                  rotate_left
                  · simp only [Act.put, List.setIfInBounds_toArray, List.set_cons_zero, List.set_cons_succ, i64_w, i32_w]
                    rfl
                  refine pure_ (i := 4) (N := (some 66)) (v := ?_) (a' := ?_) #[true, true, true, true, true, false, false, false, false, false, false, false, false, false] rfl rfl (any_of HT_.out (by kernel_rfl)) (fun _ _ _ h => h) (Or.inl ⟨by rfl, ?_⟩) ?_ ?_
                  rotate_left
                  · intro w'
                    go_simp
                    with_reducible rfl
                  rotate_left
                  · simp only [Act.put, List.setIfInBounds_toArray, List.set_cons_zero, List.set_cons_succ, i64_w, i32_w]
                    rfl
                  refine pure_ (i := 5) (N := (some 67)) (v := ?_) (a' := ?_) #[true, true, true, true, true, true, false, false, false, false, false, false, false, false] rfl rfl (any_of HT_.out (by kernel_rfl)) (fun _ _ _ h => h) (Or.inl ⟨by rfl, ?_⟩) ?_ ?_
                  rotate_left
                  · intro w'
                    go_simp
                    with_reducible rfl
                  rotate_left
                  · simp only [Act.put, List.setIfInBounds_toArray, List.set_cons_zero, List.set_cons_succ, i64_w, i32_w]
                    rfl
                  refine pure_ (i := 7) (N := (some 69)) (v := ?_) (a' := ?_) #[true, true, true, true, true, true, false, true, false, false, false, false, false, false] rfl rfl (any_of HT_.out (by kernel_rfl)) (fun _ _ _ h => h) (Or.inl ⟨by rfl, ?_⟩) ?_ ?_
                  rotate_left
                  · intro w'
                    go_simp
                    with_reducible rfl
                  rotate_left
                  · simp only [Act.put, List.setIfInBounds_toArray, List.set_cons_zero, List.set_cons_succ, i64_w, i32_w]
                    rfl
                  refine pure_ (i := 8) (N := (some 70)) (v := ?_) (a' := ?_) #[true, true, true, true, true, true, false, true, true, false, false, false, false, false] rfl rfl (any_of HT_.out (by kernel_rfl)) (fun _ _ _ h => h) (Or.inl ⟨by rfl, ?_⟩) ?_ ?_
                  rotate_left
                  · intro w'
                    go_simp
                    with_reducible rfl
                  rotate_left
                  · simp only [Act.put, List.setIfInBounds_toArray, List.set_cons_zero, List.set_cons_succ, i64_w, i32_w]
                    rfl
                  refine pure_ (i := 9) (N := (some 71)) (v := ?_) (a' := ?_) #[true, true, true, true, true, true, false, true, true, true, false, false, false, false] rfl rfl (any_of HT_.out (by kernel_rfl)) (fun _ _ _ h => h) (Or.inl ⟨by rfl, ?_⟩) ?_ ?_
                  rotate_left
                  · intro w'
                    go_simp
                    with_reducible rfl
                  rotate_left
                  · simp only [Act.put, List.setIfInBounds_toArray, List.set_cons_zero, List.set_cons_succ, i64_w, i32_w]
                    rfl
                  refine pure_ (i := 10) (N := (some 72)) (v := ?_) (a' := ?_) #[true, true, true, true, true, true, false, true, true, true, true, false, false, false] rfl rfl (any_of HT_.out (by kernel_rfl)) (fun _ _ _ h => h) (Or.inl ⟨by rfl, ?_⟩) ?_ ?_
                  rotate_left
                  · intro w'
                    go_simp
                    with_reducible rfl
                  rotate_left
                  · simp only [Act.put, List.setIfInBounds_toArray, List.set_cons_zero, List.set_cons_succ, i64_w, i32_w]
                    rfl
                  refine take_ (i := 6) (N := (some 68)) (v := ?_) (a' := ?_) #[true, true, true, true, true, true, true, true, true, true, true, false, false, false] rfl rfl (take_ofW HT_.out HW_.out (by kernel_rfl)) (fun _ _ _ h => h) (Or.inl ⟨by rfl, ?_⟩) hHeld ?_ ?_
                  rotate_left
                  · rintro w' ⟨s0, s1⟩
                    go_simp
                    with_reducible rfl
                  rotate_left
                  · simp only [Act.put, List.setIfInBounds_toArray, List.set_cons_zero, List.set_cons_succ, i64_w, i32_w]
                    rfl
                  refine take_ (i := 11) (N := (some 73)) (v := ?_) (a' := ?_) #[true, true, true, true, true, true, true, true, true, true, true, true, false, false] rfl rfl (take_ofW HT_.out HW_.out (by kernel_rfl)) (fun _ _ _ h => h) (Or.inl ⟨by rfl, ?_⟩) hHeld ?_ ?_
                  rotate_left
                  · rintro w' ⟨s0, s1⟩
                    go_simp
                    with_reducible rfl
                  rotate_left
                  · simp only [Act.put, List.setIfInBounds_toArray, List.set_cons_zero, List.set_cons_succ, i64_w, i32_w]
                    rfl
                  refine last_ (i := 12) (N := (some 74)) #[true, true, true, true, true, true, true, true, true, true, true, true, true, false] rfl rfl (one_of HT_.out (by kernel_rfl)) (by decide) (fun Kc hK => ?_)
                  refine goes_ Try.func48 (by kernel_rfl) rfl #[.slice A5 g.length c5, .slice As ns cs] (by rfl) rfl rfl (by (try simp only [List.map_toArray, List.map_cons, List.map_nil]); first | done | rfl | simp [Act.eval]) ?_
                  refine (Ahead_calls A5 g.length c5 g As ns cs ls wd (Kd.C_below HGR.out.2 HB9.out) HGR.out.1 (by rw [HS1.out.1]; exact Kd.C_below HS1.out.2.2.2 HB9.out) (by have := HS1.out; omega) (by have := HGX.out; omega) HS1.out.2.2.1).mono ?_
                  rw [decide_eq_true HAH.out]
                  rintro e w10 ⟨rfl, ⟨nd, rfl⟩⟩
                  refine ⟨_, rfl, ?_⟩
                  have HS10 := Aside0.mk (HS9.out.low (pw_below_drewN (Below.refl _ _) nd))
                  have HB10 := Aside0.mk (pw_below_drewN HB9.out nd)
                  clear HS9 HB9
                  generalize World.drewN wd nd = w10 at HS10 HB10 ⊢
                  refine hK.out _ _ ?_; clear hK Kc
                  refine norm_ (a' := ?_) ?_ ?_
                  rotate_left
                  · show Act.put _ (some 74) _ = _
                    simp only [Act.put, List.setIfInBounds_toArray, List.set_cons_zero, List.set_cons_succ, i64_w, i32_w]
                    rfl
                  refine pure_ (i := 13) (N := (some 75)) (v := ?_) (a' := ?_) #[true, true, true, true, true, true, true, true, true, true, true, true, true, true] rfl rfl (any_of HT_.out (by kernel_rfl)) (fun _ _ _ h => h) (Or.inl ⟨by rfl, ?_⟩) ?_ ?_
                  rotate_left
                  · intro w'
                    go_simp
                    with_reducible rfl
                  rotate_left
                  · simp only [Act.put, List.setIfInBounds_toArray, List.set_cons_zero, List.set_cons_succ, i64_w, i32_w]
                    rfl
                  refine done_ (done_of HT_.out (by kernel_rfl)) ?_
                  go_wp2
                  have hq1 : w10.drew.cell? ⟨gv, k, none⟩ = some (.slice A5 g.length c5) := by
                    rw [kh_get (x := p.1) ((HS10.out.low (below_drew1 (Below.refl _ _))).get 1 rfl) (by rw [List.map_append, List.getElem?_append_right (by rw [List.length_map, HKK.out.2.1]; exact Nat.le_refl _), List.length_map, HKK.out.2.1, Nat.sub_self]; rfl), ← HPE.out]; rfl
                  have hq2 : w10.drew.cell? ⟨gv, k1, none⟩ = some (.slice As ns cs) := by
                    rw [kh_get (x := (As, ns, cs)) ((HS10.out.low (below_drew1 (Below.refl _ _))).get 1 rfl) (by rw [List.map_append, List.getElem?_append_left (by rw [List.length_map, HKK.out.2.1]; have := HKK.out; omega), List.map_append, List.getElem?_append_right (by rw [List.length_map, HKK.out.1]; exact Nat.le_refl _), List.length_map, HKK.out.1, Nat.sub_self]; rfl)]; rfl
                  refine start_ (n := 18) (S := fun w' => w'.cell? ⟨gv, k, none⟩ = some (.slice A5 g.length c5) ∧ w'.cell? ⟨gv, k1, none⟩ = some (.slice As ns cs)) (ds := [15, 17]) #[false, false, false, false, false, false, false, false, false, false, false, false, false, false, false, false, false, false] (by kernel_rfl) rfl rfl ⟨hq1, hq2⟩ (fun hHeld => ?_)
                  refine with_tabW rl.tab17 rl.bits17 (fun HT_ HW_ => ?_)
                  have HS9 := Aside0.mk (HS10.out.low (below_drew1 (Below.refl _ _)))
                  have HB9 := Aside0.mk (below_drew1 HB10.out)
                  clear HS10 HB10 hq1 hq2
                  generalize w10.drew = wd2 at HS9 HB9 hHeld ⊢
                  refine pure_ (i := 0) (N := (some 78)) (v := ?_) (a' := ?_) #[true, false, false, false, false, false, false, false, false, false, false, false, false, false, false, false, false, false] rfl rfl (any_of HT_.out (by kernel_rfl)) (fun _ _ _ h => h) (Or.inl ⟨by rfl, ?_⟩) ?_ ?_
                  rotate_left
                  · intro w'
                    go_simp
                    with_reducible rfl
                  rotate_left
                  · simp only [Act.put, List.setIfInBounds_toArray, List.set_cons_zero, List.set_cons_succ, i64_w, i32_w]
                    rfl
                  refine pure_ (i := 1) (N := (some 79)) (v := ?_) (a' := ?_) #[true, true, false, false, false, false, false, false, false, false, false, false, false, false, false, false, false, false] rfl rfl (any_of HT_.out (by kernel_rfl)) (fun _ _ _ h => h) (Or.inl ⟨by rfl, ?_⟩) ?_ ?_
                  rotate_left
                  · intro w'
                    go_simp
                    with_reducible rfl
                  rotate_left
                  · simp only [Act.put, List.setIfInBounds_toArray, List.set_cons_zero, List.set_cons_succ, i64_w, i32_w]
                    rfl
                  refine pure_ (i := 2) (N := (some 80)) (v := ?_) (a' := ?_) #[true, true, true, false, false, false, false, false, false, false, false, false, false, false, false, false, false, false] rfl rfl (any_of HT_.out (by kernel_rfl)) (fun _ _ _ h => h) (Or.inl ⟨by rfl, ?_⟩) ?_ ?_
                  rotate_left
                  · intro w'
                    go_simp
                    with_reducible rfl
                  rotate_left
                  · simp only [Act.put, List.setIfInBounds_toArray, List.set_cons_zero, List.set_cons_succ, i64_w, i32_w]
                    rfl
                  refine pure_ (i := 3) (N := (some 81)) (v := ?_) (a' := ?_) #[true, true, true, true, false, false, false, false, false, false, false, false, false, false, false, false, false, false] rfl rfl (any_of HT_.out (by kernel_rfl)) (fun _ _ _ h => h) (Or.inl ⟨by rfl, ?_⟩) ?_ ?_
                  rotate_left
                  · intro w'
                    go_simp
                    with_reducible rfl
                  rotate_left
                  · simp only [Act.put, List.setIfInBounds_toArray, List.set_cons_zero, List.set_cons_succ, i64_w, i32_w]
                    rfl
                  refine pure_ (i := 4) (N := (some 82)) (v := ?_) (a' := ?_) #[true, true, true, true, true, false, false, false, false, false, false, false, false, false, false, false, false, false] rfl rfl (any_of HT_.out (by kernel_rfl)) (fun _ _ _ h => h) (Or.inl ⟨by rfl, ?_⟩) ?_ ?_
                  rotate_left
                  · intro w'
                    go_simp
                    with_reducible rfl
                  rotate_left
                  · simp only [Act.put, List.setIfInBounds_toArray, List.set_cons_zero, List.set_cons_succ, i64_w, i32_w]
                    rfl
                  refine pure_ (i := 5) (N := (some 83)) (v := ?_) (a' := ?_) #[true, true, true, true, true, true, false, false, false, false, false, false, false, false, false, false, false, false] rfl rfl (any_of HT_.out (by kernel_rfl)) (fun _ _ _ h => h) (Or.inl ⟨by rfl, ?_⟩) ?_ ?_
                  rotate_left
                  · intro w'
                    go_simp
                    with_reducible rfl
                  rotate_left
                  · simp only [Act.put, List.setIfInBounds_toArray, List.set_cons_zero, List.set_cons_succ, i64_w, i32_w]
                    rfl
                  refine pure_ (i := 6) (N := (some 84)) (v := ?_) (a' := ?_) #[true, true, true, true, true, true, true, false, false, false, false, false, false, false, false, false, false, false] rfl rfl (any_of HT_.out (by kernel_rfl)) (fun _ _ _ h => h) (Or.inl ⟨by rfl, ?_⟩) ?_ ?_
                  rotate_left
                  · intro w'
                    go_simp
                    with_reducible rfl
                  rotate_left
                  · simp only [Act.put, List.setIfInBounds_toArray, List.set_cons_zero, List.set_cons_succ, i64_w, i32_w]
                    rfl
                  refine pure_ (i := 7) (N := (some 85)) (v := ?_) (a' := ?_) #[true, true, true, true, true, true, true, true, false, false, false, false, false, false, false, false, false, false] rfl rfl (any_of HT_.out (by kernel_rfl)) (fun _ _ _ h => h) (Or.inl ⟨by rfl, ?_⟩) ?_ ?_
                  rotate_left
                  · intro w'
                    go_simp
                    with_reducible rfl
                  rotate_left
                  · simp only [Act.put, List.setIfInBounds_toArray, List.set_cons_zero, List.set_cons_succ, i64_w, i32_w]
                    rfl
                  refine pure_ (i := 8) (N := (some 86)) (v := ?_) (a' := ?_) #[true, true, true, true, true, true, true, true, true, false, false, false, false, false, false, false, false, false] rfl rfl (any_of HT_.out (by kernel_rfl)) (fun _ _ _ h => h) (Or.inl ⟨by rfl, ?_⟩) ?_ ?_
                  rotate_left
                  · intro w'
                    go_simp
                    with_reducible rfl
                  rotate_left
                  · simp only [Act.put, List.setIfInBounds_toArray, List.set_cons_zero, List.set_cons_succ, i64_w, i32_w]
                    rfl
                  refine pure_ (i := 10) (N := (some 88)) (v := ?_) (a' := ?_) #[true, true, true, true, true, true, true, true, true, false, true, false, false, false, false, false, false, false] rfl rfl (any_of HT_.out (by kernel_rfl)) (fun _ _ _ h => h) (Or.inl ⟨by rfl, ?_⟩) ?_ ?_
                  rotate_left
                  · intro w'
                    go_simp
                    with_reducible rfl
                  rotate_left
                  · simp only [Act.put, List.setIfInBounds_toArray, List.set_cons_zero, List.set_cons_succ, i64_w, i32_w]
                    rfl
                  refine pure_ (i := 11) (N := (some 89)) (v := ?_) (a' := ?_) #[true, true, true, true, true, true, true, true, true, false, true, true, false, false, false, false, false, false] rfl rfl (any_of HT_.out (by kernel_rfl)) (fun _ _ _ h => h) (Or.inl ⟨by rfl, ?_⟩) ?_ ?_
                  rotate_left
                  · intro w'
                    go_simp
                    with_reducible rfl
                  rotate_left
                  · simp only [Act.put, List.setIfInBounds_toArray, List.set_cons_zero, List.set_cons_succ, i64_w, i32_w]
                    rfl
                  refine pure_ (i := 12) (N := (some 90)) (v := ?_) (a' := ?_) #[true, true, true, true, true, true, true, true, true, false, true, true, true, false, false, false, false, false] rfl rfl (any_of HT_.out (by kernel_rfl)) (fun _ _ _ h => h) (Or.inl ⟨by rfl, ?_⟩) ?_ ?_
                  rotate_left
                  · intro w'
                    go_simp
                    with_reducible rfl
                  rotate_left
                  · simp only [Act.put, List.setIfInBounds_toArray, List.set_cons_zero, List.set_cons_succ, i64_w, i32_w]
                    rfl
                  refine take_ (i := 9) (N := (some 87)) (v := ?_) (a' := ?_) #[true, true, true, true, true, true, true, true, true, true, true, true, true, false, false, false, false, false] rfl rfl (take_ofW HT_.out HW_.out (by kernel_rfl)) (fun _ _ _ h => h) (Or.inl ⟨by rfl, ?_⟩) hHeld ?_ ?_
                  rotate_left
                  · rintro w' ⟨s0, s1⟩
                    go_simp
                    with_reducible rfl
                  rotate_left
                  · simp only [Act.put, List.setIfInBounds_toArray, List.set_cons_zero, List.set_cons_succ, i64_w, i32_w]
                    rfl
                  refine take_ (i := 13) (N := (some 91)) (v := ?_) (a' := ?_) #[true, true, true, true, true, true, true, true, true, true, true, true, true, true, false, false, false, false] rfl rfl (take_ofW HT_.out HW_.out (by kernel_rfl)) (fun _ _ _ h => h) (Or.inl ⟨by rfl, ?_⟩) hHeld ?_ ?_
                  rotate_left
                  · rintro w' ⟨s0, s1⟩
                    go_simp
                    with_reducible rfl
                  rotate_left
                  · simp only [Act.put, List.setIfInBounds_toArray, List.set_cons_zero, List.set_cons_succ, i64_w, i32_w]
                    rfl
                  refine pure_ (i := 14) (N := (some 92)) (v := ?_) (a' := ?_) #[true, true, true, true, true, true, true, true, true, true, true, true, true, true, true, false, false, false] rfl rfl (any_of HT_.out (by kernel_rfl)) (fun _ _ _ h => h) (Or.inl ⟨by rfl, ?_⟩) ?_ ?_
                  rotate_left
                  · intro w'
                    go_simp
                    with_reducible rfl
                  rotate_left
                  · simp only [Act.put, List.setIfInBounds_toArray, List.set_cons_zero, List.set_cons_succ, i64_w, i32_w]
                    rfl
                  refine last_ (i := 15) (N := none) #[true, true, true, true, true, true, true, true, true, true, true, true, true, true, true, true, false, false] rfl rfl (one_of HT_.out (by kernel_rfl)) (by decide) (fun Kc hK => ?_)
                  have hfz : wd2.frozen? ⟨gv, k, none⟩ = false := kh_frozen (HS9.out.get 1 rfl) k
                  have hcl : wd2.cell? ⟨gv, k, none⟩ = some (.slice A5 g.length c5) := hHeld.1
                  have hcl1 : wd2.cell? ⟨gv, k1, none⟩ = some (.slice As ns cs) := hHeld.2
                  refine skip_ (w1 := ?_) (by rfl) rfl ?_ ?_
                  rotate_left
                  · go_simp
                    rfl
                  have HS9a : Aside0 (Sep w.heap.size [blk w.heap.size #[.int .i64 1, .int .i64 K, .int .i64 O, .int .i64 0, .slice none 0 0, .slice none 0 0, .int .i64 most, .slice AW W.length cW, .slice AU U.length cU, .slice (some aG) G.length cG, .int .i64 h, .int .i64 m] 50, row kH 22 w.heap.size (.slice (some ⟨gv, 0, none⟩) N cv) ((((A' ++ [((As, ns, cs), ls)]) ++ p :: D).map Prod.fst).set k (As, ns, cs))] (World.setCell wd2 ⟨gv, k, none⟩ (.slice As ns cs))) := ⟨by
                    have h1 := HS9.out.put 1 rfl (k : Int) ((As, ns, cs) : Hdr) HB9.out.size
                    rw [Int.toNat_natCast] at h1
                    exact h1⟩
                  have HB9a := Aside0.mk (HB9.out.setCell (HS9.out.bound 1 rfl (show some gv = some gv from rfl)).1 (p := ⟨gv, k, none⟩) (.slice As ns cs))
                  have hcl2 : (World.setCell wd2 ⟨gv, k, none⟩ (.slice As ns cs)).cell? ⟨gv, k1, none⟩ = some (.slice As ns cs) := kh_get (x := (As, ns, cs)) (HS9a.out.get 1 rfl) (by rw [List.getElem?_set_ne (by have := HKK.out; omega), List.map_append, List.getElem?_append_left (by rw [List.length_map, HKK.out.2.1]; have := HKK.out; omega), List.map_append, List.getElem?_append_right (by rw [List.length_map, HKK.out.1]; exact Nat.le_refl _), List.length_map, HKK.out.1, Nat.sub_self]; rfl)
                  generalize World.setCell wd2 ⟨gv, k, none⟩ (.slice As ns cs) = wd3 at HS9a HB9a hcl2 ⊢
                  clear hfz hcl hcl1 HS9 HB9 hHeld
                  refine hK.out _ _ ?_; clear hK Kc
                  refine pure_ (i := 16) (N := (some 93)) (v := ?_) (a' := ?_) #[true, true, true, true, true, true, true, true, true, true, true, true, true, true, true, true, true, false] rfl rfl (any_of HT_.out (by kernel_rfl)) (fun _ _ _ h => h) (Or.inl ⟨by rfl, ?_⟩) ?_ ?_
                  rotate_left
                  · intro w'
                    go_simp
                    with_reducible rfl
                  rotate_left
                  · simp only [Act.put, List.setIfInBounds_toArray, List.set_cons_zero, List.set_cons_succ, i64_w, i32_w]
                    rfl
                  refine last_ (i := 17) (N := none) #[true, true, true, true, true, true, true, true, true, true, true, true, true, true, true, true, true, true] rfl rfl (one_of HT_.out (by kernel_rfl)) (by decide) (fun Kc hK => ?_)
                  have hfz : wd3.frozen? ⟨gv, k1, none⟩ = false := kh_frozen (HS9a.out.get 1 rfl) k1
                  refine skip_ (w1 := ?_) (by rfl) rfl ?_ ?_
                  rotate_left
                  · go_simp
                    rfl
                  have HS11' : Aside0 (Sep w.heap.size [blk w.heap.size #[.int .i64 1, .int .i64 K, .int .i64 O, .int .i64 0, .slice none 0 0, .slice none 0 0, .int .i64 most, .slice AW W.length cW, .slice AU U.length cU, .slice (some aG) G.length cG, .int .i64 h, .int .i64 m] 50, row kH 22 w.heap.size (.slice (some ⟨gv, 0, none⟩) N cv) (((((A' ++ [((As, ns, cs), ls)]) ++ p :: D).map Prod.fst).set k (As, ns, cs)).set k1 (A5, g.length, c5))] (World.setCell wd3 ⟨gv, k1, none⟩ (.slice A5 g.length c5))) := ⟨by
                    have h1 := HS9a.out.put 1 rfl (k1 : Int) ((A5, g.length, c5) : Hdr) HB9a.out.size
                    rw [Int.toNat_natCast] at h1
                    exact h1⟩
                  have HB11 := Aside0.mk (HB9a.out.setCell (HS9a.out.bound 1 rfl (show some gv = some gv from rfl)).1 (p := ⟨gv, k1, none⟩) (.slice A5 g.length c5))
                  have HS11 : Aside0 (Sep w.heap.size [blk w.heap.size #[.int .i64 1, .int .i64 K, .int .i64 O, .int .i64 0, .slice none 0 0, .slice none 0 0, .int .i64 most, .slice AW W.length cW, .slice AU U.length cU, .slice (some aG) G.length cG, .int .i64 h, .int .i64 m] 50, row kH 22 w.heap.size (.slice (some ⟨gv, 0, none⟩) N cv) ((A' ++ p :: (((As, ns, cs), ls) :: D)).map Prod.fst)] (World.setCell wd3 ⟨gv, k1, none⟩ (.slice A5 g.length c5))) := ⟨by
                    have h1 := HS11'.out
                    rw [show (((((A' ++ [((As, ns, cs), ls)]) ++ p :: D).map Prod.fst).set k (As, ns, cs)).set k1 (A5, g.length, c5)) = ((A' ++ p :: (((As, ns, cs), ls) :: D)).map Prod.fst) from swap_list HKK.out.1 HKK.out.2.2 (by rw [← HPE.out])] at h1
                    exact h1⟩
                  generalize World.setCell wd3 ⟨gv, k1, none⟩ (.slice A5 g.length c5) = wd4 at HS11 HB11 ⊢
                  clear hfz hcl2 HS11' HS9a HB9a
                  refine hK.out _ _ ?_; clear hK Kc
                  refine done_ (done_of HT_.out (by kernel_rfl)) ?_
                  go_wp2
                  go_roundw
                  case rel => exact ⟨A', ((As, ns, cs), ls) :: D, by first | rw [hwk, HKK.out.1] | rw [HKK.out.1], ⟨by have := HAD.out.1; rwa [List.append_assoc] at this, fun d hd => by
                    rcases List.mem_cons.1 hd with rfl | hd
                    · exact HAH.out
                    · exact HAD.out.2 d hd⟩, HS11, HB11⟩
                  case measure => 
                    have h1 := HKK.out
                    first | (rw [hwk]; exact meas_dn h1.2.2) | exact meas_dn h1.2.2
                · have HAH := Aside0.mk hah
                  clear hah
                  go_wp2
                  refine start_ (n := 14) (S := fun w' => w'.cell? ⟨gv, k, none⟩ = some (.slice A5 g.length c5) ∧ w'.cell? ⟨gv, k1, none⟩ = some (.slice As ns cs)) (ds := [12]) #[false, false, false, false, false, false, false, false, false, false, false, false, false, false] (by kernel_rfl) rfl rfl ⟨(show (World.drew wr).cell? _ = _ from ((below_drew1 (Below.refl wr.heap.size wr)).cell (World.block_lt_of_cell? wr _ hck)).trans hck), (show (World.drew wr).cell? _ = _ from ((below_drew1 (Below.refl wr.heap.size wr)).cell (World.block_lt_of_cell? wr _ hck1)).trans hck1)⟩ (fun hHeld => ?_)
                  refine with_tabW rl.tab15 rl.bits15 (fun HT_ HW_ => ?_)
                  have HS9 := Aside0.mk (HSj.out.low (below_drew1 (Below.refl _ _)))
                  have HB9 := Aside0.mk (below_drew1 HBj.out)
                  clear HSj HBj
                  generalize wr.drew = wd at HS9 HB9 hHeld ⊢
                  refine pure_ (i := 0) (N := (some 62)) (v := ?_) (a' := ?_) #[true, false, false, false, false, false, false, false, false, false, false, false, false, false] rfl rfl (any_of HT_.out (by kernel_rfl)) (fun _ _ _ h => h) (Or.inl ⟨by rfl, ?_⟩) ?_ ?_
                  rotate_left
                  · intro w'
                    go_simp
                    with_reducible rfl
                  rotate_left
                  · simp only [Act.put, List.setIfInBounds_toArray, List.set_cons_zero, List.set_cons_succ, i64_w, i32_w]
                    rfl
                  refine pure_ (i := 1) (N := (some 63)) (v := ?_) (a' := ?_) #[true, true, false, false, false, false, false, false, false, false, false, false, false, false] rfl rfl (any_of HT_.out (by kernel_rfl)) (fun _ _ _ h => h) (Or.inl ⟨by rfl, ?_⟩) ?_ ?_
                  rotate_left
                  · intro w'
                    go_simp
                    with_reducible rfl
                  rotate_left
                  · simp only [Act.put, List.setIfInBounds_toArray, List.set_cons_zero, List.set_cons_succ, i64_w, i32_w]
                    rfl
                  refine pure_ (i := 2) (N := (some 64)) (v := ?_) (a' := ?_) #[true, true, true, false, false, false, false, false, false, false, false, false, false, false] rfl rfl (any_of HT_.out (by kernel_rfl)) (fun _ _ _ h => h) (Or.inl ⟨by rfl, ?_⟩) ?_ ?_
                  rotate_left
                  · intro w'
                    go_simp
                    with_reducible rfl
                  rotate_left
                  · simp only [Act.put, List.setIfInBounds_toArray, List.set_cons_zero, List.set_cons_succ, i64_w, i32_w]
                    rfl
                  refine pure_ (i := 3) (N := (some 65)) (v := ?_) (a' := ?_) #[true, true, true, true, false, false, false, false, false, false, false, false, false, false] rfl rfl (any_of HT_.out (by kernel_rfl)) (fun _ _ _ h => h) (Or.inl ⟨by rfl, ?_⟩) ?_ ?_
                  rotate_left
                  · intro w'
                    go_simp
                    with_reducible rfl
                  rotate_left
                  · simp only [Act.put, List.setIfInBounds_toArray, List.set_cons_zero, List.set_cons_succ, i64_w, i32_w]
                    rfl
                  refine pure_ (i := 4) (N := (some 66)) (v := ?_) (a' := ?_) #[true, true, true, true, true, false, false, false, false, false, false, false, false, false] rfl rfl (any_of HT_.out (by kernel_rfl)) (fun _ _ _ h => h) (Or.inl ⟨by rfl, ?_⟩) ?_ ?_
                  rotate_left
                  · intro w'
                    go_simp
                    with_reducible rfl
                  rotate_left
                  · simp only [Act.put, List.setIfInBounds_toArray, List.set_cons_zero, List.set_cons_succ, i64_w, i32_w]
                    rfl
                  refine pure_ (i := 5) (N := (some 67)) (v := ?_) (a' := ?_) #[true, true, true, true, true, true, false, false, false, false, false, false, false, false] rfl rfl (any_of HT_.out (by kernel_rfl)) (fun _ _ _ h => h) (Or.inl ⟨by rfl, ?_⟩) ?_ ?_
                  rotate_left
                  · intro w'
                    go_simp
                    with_reducible rfl
                  rotate_left
                  · simp only [Act.put, List.setIfInBounds_toArray, List.set_cons_zero, List.set_cons_succ, i64_w, i32_w]
                    rfl
                  refine pure_ (i := 7) (N := (some 69)) (v := ?_) (a' := ?_) #[true, true, true, true, true, true, false, true, false, false, false, false, false, false] rfl rfl (any_of HT_.out (by kernel_rfl)) (fun _ _ _ h => h) (Or.inl ⟨by rfl, ?_⟩) ?_ ?_
                  rotate_left
                  · intro w'
                    go_simp
                    with_reducible rfl
                  rotate_left
                  · simp only [Act.put, List.setIfInBounds_toArray, List.set_cons_zero, List.set_cons_succ, i64_w, i32_w]
                    rfl
                  refine pure_ (i := 8) (N := (some 70)) (v := ?_) (a' := ?_) #[true, true, true, true, true, true, false, true, true, false, false, false, false, false] rfl rfl (any_of HT_.out (by kernel_rfl)) (fun _ _ _ h => h) (Or.inl ⟨by rfl, ?_⟩) ?_ ?_
                  rotate_left
                  · intro w'
                    go_simp
                    with_reducible rfl
                  rotate_left
                  · simp only [Act.put, List.setIfInBounds_toArray, List.set_cons_zero, List.set_cons_succ, i64_w, i32_w]
                    rfl
                  refine pure_ (i := 9) (N := (some 71)) (v := ?_) (a' := ?_) #[true, true, true, true, true, true, false, true, true, true, false, false, false, false] rfl rfl (any_of HT_.out (by kernel_rfl)) (fun _ _ _ h => h) (Or.inl ⟨by rfl, ?_⟩) ?_ ?_
                  rotate_left
                  · intro w'
                    go_simp
                    with_reducible rfl
                  rotate_left
                  · simp only [Act.put, List.setIfInBounds_toArray, List.set_cons_zero, List.set_cons_succ, i64_w, i32_w]
                    rfl
                  refine pure_ (i := 10) (N := (some 72)) (v := ?_) (a' := ?_) #[true, true, true, true, true, true, false, true, true, true, true, false, false, false] rfl rfl (any_of HT_.out (by kernel_rfl)) (fun _ _ _ h => h) (Or.inl ⟨by rfl, ?_⟩) ?_ ?_
                  rotate_left
                  · intro w'
                    go_simp
                    with_reducible rfl
                  rotate_left
                  · simp only [Act.put, List.setIfInBounds_toArray, List.set_cons_zero, List.set_cons_succ, i64_w, i32_w]
                    rfl
                  refine take_ (i := 6) (N := (some 68)) (v := ?_) (a' := ?_) #[true, true, true, true, true, true, true, true, true, true, true, false, false, false] rfl rfl (take_ofW HT_.out HW_.out (by kernel_rfl)) (fun _ _ _ h => h) (Or.inl ⟨by rfl, ?_⟩) hHeld ?_ ?_
                  rotate_left
                  · rintro w' ⟨s0, s1⟩
                    go_simp
                    with_reducible rfl
                  rotate_left
                  · simp only [Act.put, List.setIfInBounds_toArray, List.set_cons_zero, List.set_cons_succ, i64_w, i32_w]
                    rfl
                  refine take_ (i := 11) (N := (some 73)) (v := ?_) (a' := ?_) #[true, true, true, true, true, true, true, true, true, true, true, true, false, false] rfl rfl (take_ofW HT_.out HW_.out (by kernel_rfl)) (fun _ _ _ h => h) (Or.inl ⟨by rfl, ?_⟩) hHeld ?_ ?_
                  rotate_left
                  · rintro w' ⟨s0, s1⟩
                    go_simp
                    with_reducible rfl
                  rotate_left
                  · simp only [Act.put, List.setIfInBounds_toArray, List.set_cons_zero, List.set_cons_succ, i64_w, i32_w]
                    rfl
                  refine last_ (i := 12) (N := (some 74)) #[true, true, true, true, true, true, true, true, true, true, true, true, true, false] rfl rfl (one_of HT_.out (by kernel_rfl)) (by decide) (fun Kc hK => ?_)
                  refine goes_ Try.func48 (by kernel_rfl) rfl #[.slice A5 g.length c5, .slice As ns cs] (by rfl) rfl rfl (by (try simp only [List.map_toArray, List.map_cons, List.map_nil]); first | done | rfl | simp [Act.eval]) ?_
                  refine (Ahead_calls A5 g.length c5 g As ns cs ls wd (Kd.C_below HGR.out.2 HB9.out) HGR.out.1 (by rw [HS1.out.1]; exact Kd.C_below HS1.out.2.2.2 HB9.out) (by have := HS1.out; omega) (by have := HGX.out; omega) HS1.out.2.2.1).mono ?_
                  rw [decide_eq_false (show ¬ cmpW g ls < 0 from by have := HAH.out; omega)]
                  rintro e w10 ⟨rfl, ⟨nd, rfl⟩⟩
                  refine ⟨_, rfl, ?_⟩
                  have HS10 := Aside0.mk (HS9.out.low (pw_below_drewN (Below.refl _ _) nd))
                  have HB10 := Aside0.mk (pw_below_drewN HB9.out nd)
                  clear HS9 HB9
                  generalize World.drewN wd nd = w10 at HS10 HB10 ⊢
                  refine hK.out _ _ ?_; clear hK Kc
                  refine norm_ (a' := ?_) ?_ ?_
                  rotate_left
                  · show Act.put _ (some 74) _ = _
                    simp only [Act.put, List.setIfInBounds_toArray, List.set_cons_zero, List.set_cons_succ, i64_w, i32_w]
                    rfl
                  refine pure_ (i := 13) (N := (some 75)) (v := ?_) (a' := ?_) #[true, true, true, true, true, true, true, true, true, true, true, true, true, true] rfl rfl (any_of HT_.out (by kernel_rfl)) (fun _ _ _ h => h) (Or.inl ⟨by rfl, ?_⟩) ?_ ?_
                  rotate_left
                  · intro w'
                    go_simp
                    with_reducible rfl
                  rotate_left
                  · simp only [Act.put, List.setIfInBounds_toArray, List.set_cons_zero, List.set_cons_succ, i64_w, i32_w]
                    rfl
                  refine done_ (done_of HT_.out (by kernel_rfl)) ?_
                  go_wp2
                  have e2 := w64s (a := i) (by have h1 := HIL.out; have h2 := HGN.out; omega)
                  go_roundw
                  case rel => exact ⟨i + 1, (A' ++ [((As, ns, cs), ls)]) ++ p :: D, _, by first | rw [e2] | go_num, rfl, ⟨HIL.out, by have h1 := congrArg List.length HAD.out.1; have h2 := HI.out.2; simp only [List.length_append, List.length_cons, List.length_nil] at h1 ⊢; omega⟩, ⟨heads_put HH.out HAD.out.1 (by rw [← HPE.out]; exact ⟨rfl, HGR.out.1, Nat.le_trans HGX.out (by decide), HGR.out.2⟩)⟩, ⟨keep_put HPM.out HAD.out.1 (by rw [keepR_is]; exact HOK.out) (by rw [HGD.out, ← HPE.out])⟩, ⟨ins_sorted (by rw [HAD.out.1]; exact HST.out) (fun d hd => by rw [← HPE.out]; exact HAD.out.2 d hd) (fun A'' a e => by obtain ⟨_, e3⟩ := List.append_inj' e rfl; injection e3 with e3; subst e3; rw [← HPE.out]; show ¬ cmpW g ls < 0; have := HAH.out; omega)⟩, HS10, HB10⟩
                  case measure => first | exact rmeas2_at e2 HIL.out | exact rmeas2_at2 HIL.out
    · have hi' : ¬ ((i : Int) < (G.length : Int)) := by omega
      obtain rfl : i = G.length := by have := HI.out.1; omega
      obtain ⟨Av, cv, hv⟩ := Kd.R_slice (HSr.out.get 1 rfl)
      subst hv
      have HHW : Aside0 (Heads_ wr Q) := ⟨fun q hq => by
        obtain ⟨f1, f2, f3, f4⟩ := HH.out q hq
        exact ⟨f1, f2, f3, Kd.C_below f4 HBr.out⟩⟩
      clear hi
      go_wp2
      go_ret
      obtain ⟨g1, g2, g3⟩ := heads_C (HSr.out.get 1 rfl) HHW.out
      exact RListPost.intro (by simp) (by simpa using g3) g1 HPM.out HST.out HBr.out
set_option maxHeartbeats 16000000 in
set_option maxRecDepth 100000 in
theorem RList_c2 (P : Nat → Prop) (K O most h m : Int) (AW : Option Addr) (cW : Nat) (AU : Option Addr) (cU : Nat) (AG : Option Addr) (cG : Nat) (W U G : List (List Int)) (w : World) (hP : ∀ k, P k → k < w.heap.size) (hW : Wl P w (.slice AW W.length cW) W) (hU : Wl P w (.slice AU U.length cU) U) (hG : Wl P w (.slice AG G.length cG) G) (hWU : W.length = U.length) (hWl : ∀ x ∈ W, x.length ≤ 1000000) (hWn : W.length ≤ 1000000) (hGl : ∀ x ∈ G, x.length ≤ 1000000) (hGn : G.length ≤ 2000000) (hlen : ∀ (i : Nat) (a o : List Int), W[i]? = some a → U[i]? = some o → a.length ≤ o.length) : Calls Try.prog 31 #[.agg #[.int .i64 2, .int .i64 K, .int .i64 O, .int .i64 0, .slice none 0 0, .slice none 0 0, .int .i64 most, .slice AW W.length cW, .slice AU U.length cU, .slice AG G.length cG, .int .i64 h, .int .i64 m]] w (RListPost 2 W U G w) := by
  have hu50 := Try.underlying50
  have hu24 := Try.underlying24
  have hu25 := Try.underlying25
  have hu22 := Try.underlying22
  obtain ⟨z50, i50⟩ := zero_of_info info50
  have HP := Aside0.mk hP
  have HW := Aside0.mk hW
  have HU := Aside0.mk hU
  have HG := Aside0.mk hG
  have HWU := Aside0.mk hWU
  have HWL := Aside0.mk hWl
  have HWN := Aside0.mk hWn
  have HGL := Aside0.mk hGl
  have HGN := Aside0.mk hGn
  have HLEN := Aside0.mk hlen
  have HS0 : Aside0 (Sep w.heap.size [blk w.heap.size #[.int .i64 2, .int .i64 K, .int .i64 O, .int .i64 0, .slice none 0 0, .slice none 0 0, .int .i64 most, .slice AW W.length cW, .slice AU U.length cU, .slice AG G.length cG, .int .i64 h, .int .i64 m] 50, row kH 22 w.heap.size (.slice none 0 0) (([] : List HW_).map Prod.fst)] (w.alloc (.cells #[.int .i64 2, .int .i64 K, .int .i64 O, .int .i64 0, .slice none 0 0, .slice none 0 0, .int .i64 most, .slice AW W.length cW, .slice AU U.length cU, .slice AG G.length cG, .int .i64 h, .int .i64 m] 50))) := ⟨Sep.nilRow (Sep.alloc (Sep.nil w.heap.size w) #[.int .i64 2, .int .i64 K, .int .i64 O, .int .i64 0, .slice none 0 0, .slice none 0 0, .int .i64 most, .slice AW W.length cW, .slice AU U.length cU, .slice AG G.length cG, .int .i64 h, .int .i64 m] 50 (Nat.le_refl _)) kH 22 |>.swap2⟩
  have HB0 : Aside0 (Below w.heap.size w (w.alloc (.cells #[.int .i64 2, .int .i64 K, .int .i64 O, .int .i64 0, .slice none 0 0, .slice none 0 0, .int .i64 most, .slice AW W.length cW, .slice AU U.length cU, .slice AG G.length cG, .int .i64 h, .int .i64 m] 50))) := ⟨below_alloc (Below.refl _ _) _⟩
  clear hP hW hU hG hWU hWl hWn hGl hGn hlen
  go_enter Try.func31, Try.ntmps31
  go_wp2
  go_loopw [4, 3] (fun v4 v3 wr => ∃ (i : Nat) (Q : List HW_) (tv : Value), v4 = .int .i64 (i : Int) ∧ tv = v3 ∧ Aside0 (i ≤ G.length ∧ Q.length ≤ i) ∧ Aside0 (Heads_ w Q) ∧ Aside0 ((Q.map Prod.snd).Perm (((List.range i).filter (keepR 2 W U G)).map (G.getD · []))) ∧ Aside0 (Srt Q) ∧ Aside0 (Sep w.heap.size [blk w.heap.size #[.int .i64 2, .int .i64 K, .int .i64 O, .int .i64 0, .slice none 0 0, .slice none 0 0, .int .i64 most, .slice AW W.length cW, .slice AU U.length cU, .slice AG G.length cG, .int .i64 h, .int .i64 m] 50, row kH 22 w.heap.size tv (Q.map Prod.fst)] wr) ∧ Aside0 (Below w.heap.size w wr)) (fun v4 _ _ => G.length - (intOf v4).toNat)
  case atStart => exact ⟨0, [], _, rfl, rfl, ⟨Nat.zero_le _, Nat.le_refl _⟩, ⟨fun q hq => by cases hq⟩, ⟨List.Perm.refl _⟩, ⟨List.Pairwise.nil⟩, HS0, HB0⟩
  case round =>
    clear HS0 HB0
    obtain ⟨i, Q, tv, rfl, htv, HI, HH, HPM, HST, HSr, HBr⟩ := hrel
    subst htv
    have hk9 : wr.cell? ⟨w.heap.size, 9, none⟩ = some (.slice AG G.length cG) := (blk_cell (HSr.out.get 0 rfl) 9).trans rfl
    have hf9 := blk_frozen (HSr.out.get 0 rfl) 9
    by_cases hi : i < G.length
    · have HIL := Aside0.mk hi
      have hi' : (i : Int) < (G.length : Int) := by omega
      obtain ⟨g, hg⟩ : ∃ g, G[i]? = some g := ⟨_, List.getElem?_eq_getElem hi⟩
      have hgd : G.getD i [] = g := by rw [List.getD_eq_getElem?_getD, hg]; rfl
      have HGD := Aside0.mk hgd
      have HGE := Aside0.mk hg
      obtain ⟨aG, A5, c5, eG, _, hcG, hlG, hdG⟩ := HG.out.get i g hg
      subst eG
      have hyG : wr.cell? (aG.add i) = some (.slice A5 g.length c5) := (HBr.out.cell (World.block_lt_of_cell? w _ hcG)).trans hcG
      have HGR := Aside0.mk (And.intro hlG hdG.C)
      have HGX : Aside0 (g.length ≤ 1000000) := ⟨HGL.out g (List.mem_of_getElem? hg)⟩
      obtain ⟨r1, rb, hr⟩ : ∃ r1 rb, findF 2 W U g = (r1, rb) := ⟨_, _, rfl⟩
      have HRR := Aside0.mk hr
      have HOK0 : Aside0 (okTo 2 W U G i 0 = rb) := ⟨by rw [okTo_zero, hgd, hr]⟩
      clear hg hgd hcG hlG hdG hr hi
      go_wp2_with (first
      | (go_at_call 26; refine (Find_walk 2 P K O most h m AW cW AU cU (some aG) G.length cG W U wr g A5 c5 (fun k hk => Nat.lt_of_lt_of_le (HP.out k hk) HBr.out.size) (HW.out.move (fun _ h => h) (fun k hk => HBr.out.block k (HP.out k hk))) (HU.out.move (fun _ h => h) (fun k hk => HBr.out.block k (HP.out k hk))) (Kd.C_below HGR.out.2 HBr.out) HGR.out.1 HWU.out (fun x hx => by have := HWL.out x hx; omega) (by have := HWN.out; omega) (by have := HGX.out; omega) (.inr rfl) (fun _ => HLEN.out)).mono ?_
         rintro e w6 hF
         unfold FindRPost at hF
         rw [HRR.out] at hF
         dsimp only at hF
         obtain ⟨Af, nf, cf, rfl, hn, hc, hd, hb⟩ := hF
         have HS6 := Aside0.mk (HSr.out.low hb)
         have HB6 := Aside0.mk (below_step HBr.out hb)
         clear hn hc hd hb)
      | ((with_reducible refine gate_dst (N := 23) rfl ?_)
         refine wpList_load_row rfl 50 (.tmp 1) rfl w.heap.size rfl 50 #[.int .i64 2, .int .i64 K, .int .i64 O, .int .i64 0, .slice none 0 0, .slice none 0 0, .int .i64 most, .slice AW W.length cW, .slice AU U.length cU, .slice (some aG) G.length cG, .int .i64 h, .int .i64 m] (0, 0) _ (HSr.out.get 0 rfl) Try.underlying50 rfl ?_ ?_
         (focus (rw [i50]; rfl))))
      clear hk9 hf9 hyG
      go_loopw [8, 7] (fun v8 v7 wi => ∃ (n : Nat) (b : Bool), v8 = .int .i64 (n : Int) ∧ v7 = .bool b ∧ Aside0 (n ≤ G.length) ∧ Aside0 (okTo 2 W U G i n = b) ∧ Aside0 (Sep w.heap.size [blk w.heap.size #[.int .i64 2, .int .i64 K, .int .i64 O, .int .i64 0, .slice none 0 0, .slice none 0 0, .int .i64 most, .slice AW W.length cW, .slice AU U.length cU, .slice (some aG) G.length cG, .int .i64 h, .int .i64 m] 50, row kH 22 w.heap.size tv (Q.map Prod.fst)] wi) ∧ Aside0 (Below w.heap.size w wi)) (fun v8 _ _ => G.length - (intOf v8).toNat)
      case atStart => exact ⟨0, rb, rfl, rfl, ⟨Nat.zero_le _⟩, HOK0, HS6, HB6⟩
      case round =>
        clear HS6 HB6 HSr HBr
        rename_i w6_
        obtain ⟨n, b, rfl, rfl, HN, HOK, HSi, HBi⟩ := hrel
        have hk9 : wr.cell? ⟨w.heap.size, 9, none⟩ = some (.slice (some aG) G.length cG) := (blk_cell (HSi.out.get 0 rfl) 9).trans rfl
        have hf9 := blk_frozen (HSi.out.get 0 rfl) 9
        have hk0 : wr.cell? ⟨w.heap.size, 0, none⟩ = some (.int .i64 2) := (blk_cell (HSi.out.get 0 rfl) 0).trans rfl
        have hf0 := blk_frozen (HSi.out.get 0 rfl) 0
        by_cases hn : n < G.length
        · have HNL := Aside0.mk hn
          have hn' : (n : Int) < (G.length : Int) := by omega
          have e1 := w64s (a := n) (by have := HGN.out; omega)
          obtain ⟨gn, hgn⟩ : ∃ gn, G[n]? = some gn := ⟨_, List.getElem?_eq_getElem hn⟩
          have HND : Aside0 (G.getD n [] = gn) := ⟨by rw [List.getD_eq_getElem?_getD, hgn]; rfl⟩
          obtain ⟨aN, A6, c6, eN, _, hcN, hlN, hdN⟩ := HG.out.get n gn hgn
          obtain rfl := Option.some.inj eN
          have hyN : wr.cell? (aG.add n) = some (.slice A6 gn.length c6) := (HBi.out.cell (World.block_lt_of_cell? w _ hcN)).trans hcN
          have HNR := Aside0.mk (And.intro hlN hdN.C)
          clear hgn eN hcN hlN hdN hn
          by_cases hne : n = i
          · have hbn : ((n : Int) != (i : Int)) = false := by rw [hne]; simp
            have HNE := Aside0.mk hne
            clear hne
            go_wp2
            go_roundw
            case rel => exact ⟨n + 1, b, by first | rw [e1] | go_num, rfl, ⟨HNL.out⟩, ⟨by rw [okTo_succ, HOK.out, decide_eq_false (show ¬ n ≠ i from fun h => h HNE.out)]; simp⟩, HSi, HBi⟩
            case measure => first | exact rmeas2_at e1 HNL.out | exact rmeas2_at2 HNL.out
          · have hbn : ((n : Int) != (i : Int)) = true := by simp; omega
            have HNE := Aside0.mk hne
            clear hne
            by_cases hpr : g <+: gn
            · have HPR := Aside0.mk hpr
              clear hpr
              go_wp2_with (first
              | (go_at_call 47; refine (Begins_calls A6 c6 gn A5 c5 g wr (Kd.C_below HNR.out.2 HBi.out) HNR.out.1 (Kd.C_below HGR.out.2 HBi.out) HGR.out.1 (by have := HGX.out; omega)).mono ?_
                 rw [decide_eq_true HPR.out]
                 rintro e w7 ⟨rfl, ⟨nd, rfl⟩⟩))
              go_roundw
              case rel => exact ⟨n + 1, false, by first | rw [e1] | go_num, rfl, ⟨HNL.out⟩, ⟨by rw [okTo_succ, HOK.out, HGD.out, HND.out, decide_eq_true HPR.out, decide_eq_true (show n ≠ i from HNE.out)]; simp⟩, ⟨HSi.out.low (pw_below_drewN (Below.refl _ _) nd)⟩, ⟨pw_below_drewN HBi.out nd⟩⟩
              case measure => first | exact rmeas2_at e1 HNL.out | exact rmeas2_at2 HNL.out
            · have HPR := Aside0.mk hpr
              clear hpr
              go_wp2_with (first
              | (go_at_call 47; refine (Begins_calls A6 c6 gn A5 c5 g wr (Kd.C_below HNR.out.2 HBi.out) HNR.out.1 (Kd.C_below HGR.out.2 HBi.out) HGR.out.1 (by have := HGX.out; omega)).mono ?_
                 rw [decide_eq_false HPR.out]
                 rintro e w7 ⟨rfl, ⟨nd, rfl⟩⟩))
              go_roundw
              case rel => exact ⟨n + 1, b, by first | rw [e1] | go_num, rfl, ⟨HNL.out⟩, ⟨by rw [okTo_succ, HOK.out, HGD.out, HND.out, decide_eq_false HPR.out]; simp⟩, ⟨HSi.out.low (pw_below_drewN (Below.refl _ _) nd)⟩, ⟨pw_below_drewN HBi.out nd⟩⟩
              case measure => first | exact rmeas2_at e1 HNL.out | exact rmeas2_at2 HNL.out
        · have hn' : ¬ ((n : Int) < (G.length : Int)) := by omega
          obtain rfl : n = G.length := by have := HN.out; omega
          clear hn
          cases b with
          | false =>
            go_wp2
            have e2 := w64s (a := i) (by have h1 := HIL.out; have h2 := HGN.out; omega)
            go_roundw
            case rel => exact ⟨i + 1, Q, _, by first | rw [e2] | go_num, rfl, ⟨HIL.out, by have := HI.out.2; omega⟩, HH, ⟨by rw [keep_succ, if_neg (by rw [keepR_is, HOK.out]; decide), List.append_nil]; exact HPM.out⟩, HST, HSi, HBi⟩
            case measure => first | exact rmeas2_at e2 HIL.out | exact rmeas2_at2 HIL.out
          | true =>
            obtain ⟨p, hp⟩ : ∃ p : HW_, ((A5, g.length, c5), g) = p := ⟨_, rfl⟩
            have HPE := Aside0.mk hp
            clear hp hk0 hf0
            go_wp2_with (first
            | ((with_reducible refine gate_builtin (b := .append) (xs := #[.tmp 55, .tmp 57]) rfl ?_)
               at_builtin
               refine Kd.R_append kH (w0 := w) w.heap.size rfl (.tmp 55) (.tmp 57) 25 22 (.slice none 0 0) 24 rfl Try.underlying25 info22 rfl (show 0 < 1 by decide) (by omega) tv (Q.map Prod.fst) (A5, g.length, c5) [.slice A5 g.length c5] (fun _ => True) (fun _ => False) rfl (by simp [Act.eval]) rfl (fun _ hk => hk.elim) (fun _ _ => trivial) (Kd.R_mono (HSi.out.get 1 rfl) (fun _ _ => trivial)) HBi.out HBi.out.size (by rw [List.length_map]; have h2 := HI.out; have h3 := HGN.out; omega) ?_
               intro v8 w8 ho hb hg hat
               rw [show Q.map Prod.fst ++ [(A5, g.length, c5)] = (Q ++ p :: []).map Prod.fst by rw [List.map_append, ← HPE.out]; rfl] at ho
               obtain ⟨gv, cv, hv⟩ := kh_place ho (by simp)
               obtain ⟨N, hN⟩ : ∃ N, ((Q ++ p :: []).map Prod.fst).length = N := ⟨_, rfl⟩
               rw [hN] at hv
               have HNN : Aside0 (N = Q.length + 1) := ⟨by rw [← hN]; simp⟩
               subst hv
               have HS8 : Aside0 (Sep w.heap.size [blk w.heap.size #[.int .i64 2, .int .i64 K, .int .i64 O, .int .i64 0, .slice none 0 0, .slice none 0 0, .int .i64 most, .slice AW W.length cW, .slice AU U.length cU, .slice (some aG) G.length cG, .int .i64 h, .int .i64 m] 50, row kH 22 w.heap.size (.slice (some ⟨gv, 0, none⟩) N cv) ((Q ++ p :: []).map Prod.fst)] w8) := ⟨HSi.out.app 1 rfl rfl ho hg hat HBi.out.size⟩
               have HB8 := Aside0.mk hb
               clear ho hb hg hat hN))
            have e9 : wrap64 ((N : Int) - 1) = ((Q.length : Nat) : Int) := by have := HNN.out; have h2 := HI.out; have h3 := HGN.out; unfold wrap64; omega
            have hQN : Q.length ≤ 2000000 := by have h2 := HI.out; have h3 := HGN.out; omega
            have HQN := Aside0.mk hQN
            clear hQN
            go_loopw [9] (fun v9 wi => ∃ (A D : List HW_), v9 = .int .i64 (A.length : Int) ∧ Aside0 (A ++ D = Q ∧ ∀ d ∈ D, cmpW g d.2 < 0) ∧ Aside0 (Sep w.heap.size [blk w.heap.size #[.int .i64 2, .int .i64 K, .int .i64 O, .int .i64 0, .slice none 0 0, .slice none 0 0, .int .i64 most, .slice AW W.length cW, .slice AU U.length cU, .slice (some aG) G.length cG, .int .i64 h, .int .i64 m] 50, row kH 22 w.heap.size (.slice (some ⟨gv, 0, none⟩) N cv) ((A ++ p :: D).map Prod.fst)] wi) ∧ Aside0 (Below w.heap.size w wi)) (fun v9 _ => (intOf v9).toNat)
            case atStart => exact ⟨Q, [], by rw [e9], ⟨List.append_nil _, fun d hd => by cases hd⟩, HS8, HB8⟩
            case round =>
              clear HS8 HB8 e9
              obtain ⟨A, D, rfl, HAD, HSj, HBj⟩ := hrel
              rcases List.eq_nil_or_concat A with rfl | ⟨A', s, rfl⟩
              · rw [List.length_nil]
                go_wp2
                go_quiet (fail)
                go_wp2
                have e2 := w64s (a := i) (by have h1 := HIL.out; have h2 := HGN.out; omega)
                go_roundw
                case rel => exact ⟨i + 1, [] ++ p :: D, _, by first | rw [e2] | go_num, rfl, ⟨HIL.out, by have h1 := congrArg List.length HAD.out.1; have h2 := HI.out.2; simp only [List.length_append, List.length_cons, List.length_nil] at h1 ⊢; omega⟩, ⟨heads_put HH.out HAD.out.1 (by rw [← HPE.out]; exact ⟨rfl, HGR.out.1, Nat.le_trans HGX.out (by decide), HGR.out.2⟩)⟩, ⟨keep_put HPM.out HAD.out.1 (by rw [keepR_is]; exact HOK.out) (by rw [HGD.out, ← HPE.out])⟩, ⟨ins_sorted (by rw [HAD.out.1]; exact HST.out) (fun d hd => by rw [← HPE.out]; exact HAD.out.2 d hd) (fun A'' a e => by cases A'' <;> cases e)⟩, ⟨HSj.out.low (pw_below_drewN (Below.refl _ _) _)⟩, ⟨pw_below_drewN HBj.out _⟩⟩
                case measure => first | exact rmeas2_at e2 HIL.out | exact rmeas2_at2 HIL.out
              · rw [List.concat_eq_append] at HAD HSj ⊢
                obtain ⟨k1, hk1⟩ : ∃ k1, A'.length = k1 := ⟨_, rfl⟩
                obtain ⟨k, hk⟩ : ∃ k, (A' ++ [s]).length = k := ⟨_, rfl⟩
                have hkk : k = k1 + 1 := by rw [← hk, ← hk1]; simp
                have HKK := Aside0.mk (And.intro hk1 (And.intro hk hkk))
                obtain ⟨⟨As, ns, cs⟩, ls⟩ := s
                have hs1 := (HH.out ((As, ns, cs), ls) (by rw [← HAD.out.1]; simp))
                have HS1 := Aside0.mk hs1
                rw [hk]
                have hkN : (k : Int) < (N : Int) := by
                  have h1 := congrArg List.length HAD.out.1
                  have h2 := HNN.out
                  rw [List.length_append, hk] at h1
                  omega
                have hk1N : (k1 : Int) < (N : Int) := by omega
                have hk0 : (k : Int) > 0 := by omega
                have hk0' : 0 < k := by omega
                have hwk : wrap64 ((k : Int) - 1) = (k1 : Int) := by have h2 := HNN.out; have h3 := HQN.out; unfold wrap64; omega
                have hck : wr.cell? ⟨gv, k, none⟩ = some (.slice A5 g.length c5) := by
                  rw [kh_get (x := p.1) (HSj.out.get 1 rfl) (by rw [List.map_append, List.getElem?_append_right (by rw [List.length_map, hk]; exact Nat.le_refl _), List.length_map, hk, Nat.sub_self]; rfl), ← HPE.out]; rfl
                have hck1 : wr.cell? ⟨gv, k1, none⟩ = some (.slice As ns cs) := by
                  rw [kh_get (x := (As, ns, cs)) (HSj.out.get 1 rfl) (by rw [List.map_append, List.getElem?_append_left (by rw [List.length_map, hk]; omega), List.map_append, List.getElem?_append_right (by rw [List.length_map, hk1]; exact Nat.le_refl _), List.length_map, hk1, Nat.sub_self]; rfl)]; rfl
                clear hs1 hk hk1 hkk
                by_cases hah : cmpW g ls < 0
                · have HAH := Aside0.mk hah
                  clear hah
                  go_wp2
                  refine start_ (n := 14) (S := fun w' => w'.cell? ⟨gv, k, none⟩ = some (.slice A5 g.length c5) ∧ w'.cell? ⟨gv, k1, none⟩ = some (.slice As ns cs)) (ds := [12]) #[false, false, false, false, false, false, false, false, false, false, false, false, false, false] (by kernel_rfl) rfl rfl ⟨(show (World.drew wr).cell? _ = _ from ((below_drew1 (Below.refl wr.heap.size wr)).cell (World.block_lt_of_cell? wr _ hck)).trans hck), (show (World.drew wr).cell? _ = _ from ((below_drew1 (Below.refl wr.heap.size wr)).cell (World.block_lt_of_cell? wr _ hck1)).trans hck1)⟩ (fun hHeld => ?_)
                  refine with_tabW rl.tab15 rl.bits15 (fun HT_ HW_ => ?_)
                  have HS9 := Aside0.mk (HSj.out.low (below_drew1 (Below.refl _ _)))
                  have HB9 := Aside0.mk (below_drew1 HBj.out)
                  clear HSj HBj
                  generalize wr.drew = wd at HS9 HB9 hHeld ⊢
                  refine pure_ (i := 0) (N := (some 62)) (v := ?_) (a' := ?_) #[true, false, false, false, false, false, false, false, false, false, false, false, false, false] rfl rfl (any_of HT_.out (by kernel_rfl)) (fun _ _ _ h => h) (Or.inl ⟨by rfl, ?_⟩) ?_ ?_
                  rotate_left
                  · intro w'
                    go_simp
                    with_reducible rfl
                  rotate_left
                  · simp only [Act.put, List.setIfInBounds_toArray, List.set_cons_zero, List.set_cons_succ, i64_w, i32_w]
                    rfl
                  refine pure_ (i := 1) (N := (some 63)) (v := ?_) (a' := ?_) #[true, true, false, false, false, false, false, false, false, false, false, false, false, false] rfl rfl (any_of HT_.out (by kernel_rfl)) (fun _ _ _ h => h) (Or.inl ⟨by rfl, ?_⟩) ?_ ?_
                  rotate_left
                  · intro w'
                    go_simp
                    with_reducible rfl
                  rotate_left
                  · simp only [Act.put, List.setIfInBounds_toArray, List.set_cons_zero, List.set_cons_succ, i64_w, i32_w]
                    rfl
                  refine pure_ (i := 2) (N := (some 64)) (v := ?_) (a' := ?_) #[true, true, true, false, false, false, false, false, false, false, false, false, false, false] rfl rfl (any_of HT_.out (by kernel_rfl)) (fun _ _ _ h => h) (Or.inl ⟨by rfl, ?_⟩) ?_ ?_
                  rotate_left
                  · intro w'
                    go_simp
                    with_reducible rfl
                  rotate_left
                  · simp only [Act.put, List.setIfInBounds_toArray, List.set_cons_zero, List.set_cons_succ, i64_w, i32_w]
                    rfl
                  refine pure_ (i := 3) (N := (some 65)) (v := ?_) (a' := ?_) #[true, true, true, true, false, false, false, false, false, false, false, false, false, false] rfl rfl (any_of HT_.out (by kernel_rfl)) (fun _ _ _ h => h) (Or.inl ⟨by rfl, ?_⟩) ?_ ?_
                  rotate_left
                  · intro w'
                    go_simp
                    with_reducible rfl
                  rotate_left
                  · simp only [Act.put, List.setIfInBounds_toArray, List.set_cons_zero, List.set_cons_succ, i64_w, i32_w]
                    rfl
                  refine pure_ (i := 4) (N := (some 66)) (v := ?_) (a' := ?_) #[true, true, true, true, true, false, false, false, false, false, false, false, false, false] rfl rfl (any_of HT_.out (by kernel_rfl)) (fun _ _ _ h => h) (Or.inl ⟨by rfl, ?_⟩) ?_ ?_
                  rotate_left
                  · intro w'
                    go_simp
                    with_reducible rfl
                  rotate_left
                  · simp only [Act.put, List.setIfInBounds_toArray, List.set_cons_zero, List.set_cons_succ, i64_w, i32_w]
                    rfl
                  refine pure_ (i := 5) (N := (some 67)) (v := ?_) (a' := ?_) #[true, true, true, true, true, true, false, false, false, false, false, false, false, false] rfl rfl (any_of HT_.out (by kernel_rfl)) (fun _ _ _ h => h) (Or.inl ⟨by rfl, ?_⟩) ?_ ?_
                  rotate_left
                  · intro w'
                    go_simp
                    with_reducible rfl
                  rotate_left
                  · simp only [Act.put, List.setIfInBounds_toArray, List.set_cons_zero, List.set_cons_succ, i64_w, i32_w]
                    rfl
                  refine pure_ (i := 7) (N := (some 69)) (v := ?_) (a' := ?_) #[true, true, true, true, true, true, false, true, false, false, false, false, false, false] rfl rfl (any_of HT_.out (by kernel_rfl)) (fun _ _ _ h => h) (Or.inl ⟨by rfl, ?_⟩) ?_ ?_
                  rotate_left
                  · intro w'
                    go_simp
                    with_reducible rfl
                  rotate_left
                  · simp only [Act.put, List.setIfInBounds_toArray, List.set_cons_zero, List.set_cons_succ, i64_w, i32_w]
                    rfl
                  refine pure_ (i := 8) (N := (some 70)) (v := ?_) (a' := ?_) #[true, true, true, true, true, true, false, true, true, false, false, false, false, false] rfl rfl (any_of HT_.out (by kernel_rfl)) (fun _ _ _ h => h) (Or.inl ⟨by rfl, ?_⟩) ?_ ?_
                  rotate_left
                  · intro w'
                    go_simp
                    with_reducible rfl
                  rotate_left
                  · simp only [Act.put, List.setIfInBounds_toArray, List.set_cons_zero, List.set_cons_succ, i64_w, i32_w]
                    rfl
                  refine pure_ (i := 9) (N := (some 71)) (v := ?_) (a' := ?_) #[true, true, true, true, true, true, false, true, true, true, false, false, false, false] rfl rfl (any_of HT_.out (by kernel_rfl)) (fun _ _ _ h => h) (Or.inl ⟨by rfl, ?_⟩) ?_ ?_
                  rotate_left
                  · intro w'
                    go_simp
                    with_reducible rfl
                  rotate_left
                  · simp only [Act.put, List.setIfInBounds_toArray, List.set_cons_zero, List.set_cons_succ, i64_w, i32_w]
                    rfl
                  refine pure_ (i := 10) (N := (some 72)) (v := ?_) (a' := ?_) #[true, true, true, true, true, true, false, true, true, true, true, false, false, false] rfl rfl (any_of HT_.out (by kernel_rfl)) (fun _ _ _ h => h) (Or.inl ⟨by rfl, ?_⟩) ?_ ?_
                  rotate_left
                  · intro w'
                    go_simp
                    with_reducible rfl
                  rotate_left
                  · simp only [Act.put, List.setIfInBounds_toArray, List.set_cons_zero, List.set_cons_succ, i64_w, i32_w]
                    rfl
                  refine take_ (i := 6) (N := (some 68)) (v := ?_) (a' := ?_) #[true, true, true, true, true, true, true, true, true, true, true, false, false, false] rfl rfl (take_ofW HT_.out HW_.out (by kernel_rfl)) (fun _ _ _ h => h) (Or.inl ⟨by rfl, ?_⟩) hHeld ?_ ?_
                  rotate_left
                  · rintro w' ⟨s0, s1⟩
                    go_simp
                    with_reducible rfl
                  rotate_left
                  · simp only [Act.put, List.setIfInBounds_toArray, List.set_cons_zero, List.set_cons_succ, i64_w, i32_w]
                    rfl
                  refine take_ (i := 11) (N := (some 73)) (v := ?_) (a' := ?_) #[true, true, true, true, true, true, true, true, true, true, true, true, false, false] rfl rfl (take_ofW HT_.out HW_.out (by kernel_rfl)) (fun _ _ _ h => h) (Or.inl ⟨by rfl, ?_⟩) hHeld ?_ ?_
                  rotate_left
                  · rintro w' ⟨s0, s1⟩
                    go_simp
                    with_reducible rfl
                  rotate_left
                  · simp only [Act.put, List.setIfInBounds_toArray, List.set_cons_zero, List.set_cons_succ, i64_w, i32_w]
                    rfl
                  refine last_ (i := 12) (N := (some 74)) #[true, true, true, true, true, true, true, true, true, true, true, true, true, false] rfl rfl (one_of HT_.out (by kernel_rfl)) (by decide) (fun Kc hK => ?_)
                  refine goes_ Try.func48 (by kernel_rfl) rfl #[.slice A5 g.length c5, .slice As ns cs] (by rfl) rfl rfl (by (try simp only [List.map_toArray, List.map_cons, List.map_nil]); first | done | rfl | simp [Act.eval]) ?_
                  refine (Ahead_calls A5 g.length c5 g As ns cs ls wd (Kd.C_below HGR.out.2 HB9.out) HGR.out.1 (by rw [HS1.out.1]; exact Kd.C_below HS1.out.2.2.2 HB9.out) (by have := HS1.out; omega) (by have := HGX.out; omega) HS1.out.2.2.1).mono ?_
                  rw [decide_eq_true HAH.out]
                  rintro e w10 ⟨rfl, ⟨nd, rfl⟩⟩
                  refine ⟨_, rfl, ?_⟩
                  have HS10 := Aside0.mk (HS9.out.low (pw_below_drewN (Below.refl _ _) nd))
                  have HB10 := Aside0.mk (pw_below_drewN HB9.out nd)
                  clear HS9 HB9
                  generalize World.drewN wd nd = w10 at HS10 HB10 ⊢
                  refine hK.out _ _ ?_; clear hK Kc
                  refine norm_ (a' := ?_) ?_ ?_
                  rotate_left
                  · show Act.put _ (some 74) _ = _
                    simp only [Act.put, List.setIfInBounds_toArray, List.set_cons_zero, List.set_cons_succ, i64_w, i32_w]
                    rfl
                  refine pure_ (i := 13) (N := (some 75)) (v := ?_) (a' := ?_) #[true, true, true, true, true, true, true, true, true, true, true, true, true, true] rfl rfl (any_of HT_.out (by kernel_rfl)) (fun _ _ _ h => h) (Or.inl ⟨by rfl, ?_⟩) ?_ ?_
                  rotate_left
                  · intro w'
                    go_simp
                    with_reducible rfl
                  rotate_left
                  · simp only [Act.put, List.setIfInBounds_toArray, List.set_cons_zero, List.set_cons_succ, i64_w, i32_w]
                    rfl
                  refine done_ (done_of HT_.out (by kernel_rfl)) ?_
                  go_wp2
                  have hq1 : w10.drew.cell? ⟨gv, k, none⟩ = some (.slice A5 g.length c5) := by
                    rw [kh_get (x := p.1) ((HS10.out.low (below_drew1 (Below.refl _ _))).get 1 rfl) (by rw [List.map_append, List.getElem?_append_right (by rw [List.length_map, HKK.out.2.1]; exact Nat.le_refl _), List.length_map, HKK.out.2.1, Nat.sub_self]; rfl), ← HPE.out]; rfl
                  have hq2 : w10.drew.cell? ⟨gv, k1, none⟩ = some (.slice As ns cs) := by
                    rw [kh_get (x := (As, ns, cs)) ((HS10.out.low (below_drew1 (Below.refl _ _))).get 1 rfl) (by rw [List.map_append, List.getElem?_append_left (by rw [List.length_map, HKK.out.2.1]; have := HKK.out; omega), List.map_append, List.getElem?_append_right (by rw [List.length_map, HKK.out.1]; exact Nat.le_refl _), List.length_map, HKK.out.1, Nat.sub_self]; rfl)]; rfl
                  refine start_ (n := 18) (S := fun w' => w'.cell? ⟨gv, k, none⟩ = some (.slice A5 g.length c5) ∧ w'.cell? ⟨gv, k1, none⟩ = some (.slice As ns cs)) (ds := [15, 17]) #[false, false, false, false, false, false, false, false, false, false, false, false, false, false, false, false, false, false] (by kernel_rfl) rfl rfl ⟨hq1, hq2⟩ (fun hHeld => ?_)
                  refine with_tabW rl.tab17 rl.bits17 (fun HT_ HW_ => ?_)
                  have HS9 := Aside0.mk (HS10.out.low (below_drew1 (Below.refl _ _)))
                  have HB9 := Aside0.mk (below_drew1 HB10.out)
                  clear HS10 HB10 hq1 hq2
                  generalize w10.drew = wd2 at HS9 HB9 hHeld ⊢
                  refine pure_ (i := 0) (N := (some 78)) (v := ?_) (a' := ?_) #[true, false, false, false, false, false, false, false, false, false, false, false, false, false, false, false, false, false] rfl rfl (any_of HT_.out (by kernel_rfl)) (fun _ _ _ h => h) (Or.inl ⟨by rfl, ?_⟩) ?_ ?_
                  rotate_left
                  · intro w'
                    go_simp
                    with_reducible rfl
                  rotate_left
                  · simp only [Act.put, List.setIfInBounds_toArray, List.set_cons_zero, List.set_cons_succ, i64_w, i32_w]
                    rfl
                  refine pure_ (i := 1) (N := (some 79)) (v := ?_) (a' := ?_) #[true, true, false, false, false, false, false, false, false, false, false, false, false, false, false, false, false, false] rfl rfl (any_of HT_.out (by kernel_rfl)) (fun _ _ _ h => h) (Or.inl ⟨by rfl, ?_⟩) ?_ ?_
                  rotate_left
                  · intro w'
                    go_simp
                    with_reducible rfl
                  rotate_left
                  · simp only [Act.put, List.setIfInBounds_toArray, List.set_cons_zero, List.set_cons_succ, i64_w, i32_w]
                    rfl
                  refine pure_ (i := 2) (N := (some 80)) (v := ?_) (a' := ?_) #[true, true, true, false, false, false, false, false, false, false, false, false, false, false, false, false, false, false] rfl rfl (any_of HT_.out (by kernel_rfl)) (fun _ _ _ h => h) (Or.inl ⟨by rfl, ?_⟩) ?_ ?_
                  rotate_left
                  · intro w'
                    go_simp
                    with_reducible rfl
                  rotate_left
                  · simp only [Act.put, List.setIfInBounds_toArray, List.set_cons_zero, List.set_cons_succ, i64_w, i32_w]
                    rfl
                  refine pure_ (i := 3) (N := (some 81)) (v := ?_) (a' := ?_) #[true, true, true, true, false, false, false, false, false, false, false, false, false, false, false, false, false, false] rfl rfl (any_of HT_.out (by kernel_rfl)) (fun _ _ _ h => h) (Or.inl ⟨by rfl, ?_⟩) ?_ ?_
                  rotate_left
                  · intro w'
                    go_simp
                    with_reducible rfl
                  rotate_left
                  · simp only [Act.put, List.setIfInBounds_toArray, List.set_cons_zero, List.set_cons_succ, i64_w, i32_w]
                    rfl
                  refine pure_ (i := 4) (N := (some 82)) (v := ?_) (a' := ?_) #[true, true, true, true, true, false, false, false, false, false, false, false, false, false, false, false, false, false] rfl rfl (any_of HT_.out (by kernel_rfl)) (fun _ _ _ h => h) (Or.inl ⟨by rfl, ?_⟩) ?_ ?_
                  rotate_left
                  · intro w'
                    go_simp
                    with_reducible rfl
                  rotate_left
                  · simp only [Act.put, List.setIfInBounds_toArray, List.set_cons_zero, List.set_cons_succ, i64_w, i32_w]
                    rfl
                  refine pure_ (i := 5) (N := (some 83)) (v := ?_) (a' := ?_) #[true, true, true, true, true, true, false, false, false, false, false, false, false, false, false, false, false, false] rfl rfl (any_of HT_.out (by kernel_rfl)) (fun _ _ _ h => h) (Or.inl ⟨by rfl, ?_⟩) ?_ ?_
                  rotate_left
                  · intro w'
                    go_simp
                    with_reducible rfl
                  rotate_left
                  · simp only [Act.put, List.setIfInBounds_toArray, List.set_cons_zero, List.set_cons_succ, i64_w, i32_w]
                    rfl
                  refine pure_ (i := 6) (N := (some 84)) (v := ?_) (a' := ?_) #[true, true, true, true, true, true, true, false, false, false, false, false, false, false, false, false, false, false] rfl rfl (any_of HT_.out (by kernel_rfl)) (fun _ _ _ h => h) (Or.inl ⟨by rfl, ?_⟩) ?_ ?_
                  rotate_left
                  · intro w'
                    go_simp
                    with_reducible rfl
                  rotate_left
                  · simp only [Act.put, List.setIfInBounds_toArray, List.set_cons_zero, List.set_cons_succ, i64_w, i32_w]
                    rfl
                  refine pure_ (i := 7) (N := (some 85)) (v := ?_) (a' := ?_) #[true, true, true, true, true, true, true, true, false, false, false, false, false, false, false, false, false, false] rfl rfl (any_of HT_.out (by kernel_rfl)) (fun _ _ _ h => h) (Or.inl ⟨by rfl, ?_⟩) ?_ ?_
                  rotate_left
                  · intro w'
                    go_simp
                    with_reducible rfl
                  rotate_left
                  · simp only [Act.put, List.setIfInBounds_toArray, List.set_cons_zero, List.set_cons_succ, i64_w, i32_w]
                    rfl
                  refine pure_ (i := 8) (N := (some 86)) (v := ?_) (a' := ?_) #[true, true, true, true, true, true, true, true, true, false, false, false, false, false, false, false, false, false] rfl rfl (any_of HT_.out (by kernel_rfl)) (fun _ _ _ h => h) (Or.inl ⟨by rfl, ?_⟩) ?_ ?_
                  rotate_left
                  · intro w'
                    go_simp
                    with_reducible rfl
                  rotate_left
                  · simp only [Act.put, List.setIfInBounds_toArray, List.set_cons_zero, List.set_cons_succ, i64_w, i32_w]
                    rfl
                  refine pure_ (i := 10) (N := (some 88)) (v := ?_) (a' := ?_) #[true, true, true, true, true, true, true, true, true, false, true, false, false, false, false, false, false, false] rfl rfl (any_of HT_.out (by kernel_rfl)) (fun _ _ _ h => h) (Or.inl ⟨by rfl, ?_⟩) ?_ ?_
                  rotate_left
                  · intro w'
                    go_simp
                    with_reducible rfl
                  rotate_left
                  · simp only [Act.put, List.setIfInBounds_toArray, List.set_cons_zero, List.set_cons_succ, i64_w, i32_w]
                    rfl
                  refine pure_ (i := 11) (N := (some 89)) (v := ?_) (a' := ?_) #[true, true, true, true, true, true, true, true, true, false, true, true, false, false, false, false, false, false] rfl rfl (any_of HT_.out (by kernel_rfl)) (fun _ _ _ h => h) (Or.inl ⟨by rfl, ?_⟩) ?_ ?_
                  rotate_left
                  · intro w'
                    go_simp
                    with_reducible rfl
                  rotate_left
                  · simp only [Act.put, List.setIfInBounds_toArray, List.set_cons_zero, List.set_cons_succ, i64_w, i32_w]
                    rfl
                  refine pure_ (i := 12) (N := (some 90)) (v := ?_) (a' := ?_) #[true, true, true, true, true, true, true, true, true, false, true, true, true, false, false, false, false, false] rfl rfl (any_of HT_.out (by kernel_rfl)) (fun _ _ _ h => h) (Or.inl ⟨by rfl, ?_⟩) ?_ ?_
                  rotate_left
                  · intro w'
                    go_simp
                    with_reducible rfl
                  rotate_left
                  · simp only [Act.put, List.setIfInBounds_toArray, List.set_cons_zero, List.set_cons_succ, i64_w, i32_w]
                    rfl
                  refine take_ (i := 9) (N := (some 87)) (v := ?_) (a' := ?_) #[true, true, true, true, true, true, true, true, true, true, true, true, true, false, false, false, false, false] rfl rfl (take_ofW HT_.out HW_.out (by kernel_rfl)) (fun _ _ _ h => h) (Or.inl ⟨by rfl, ?_⟩) hHeld ?_ ?_
                  rotate_left
                  · rintro w' ⟨s0, s1⟩
                    go_simp
                    with_reducible rfl
                  rotate_left
                  · simp only [Act.put, List.setIfInBounds_toArray, List.set_cons_zero, List.set_cons_succ, i64_w, i32_w]
                    rfl
                  refine take_ (i := 13) (N := (some 91)) (v := ?_) (a' := ?_) #[true, true, true, true, true, true, true, true, true, true, true, true, true, true, false, false, false, false] rfl rfl (take_ofW HT_.out HW_.out (by kernel_rfl)) (fun _ _ _ h => h) (Or.inl ⟨by rfl, ?_⟩) hHeld ?_ ?_
                  rotate_left
                  · rintro w' ⟨s0, s1⟩
                    go_simp
                    with_reducible rfl
                  rotate_left
                  · simp only [Act.put, List.setIfInBounds_toArray, List.set_cons_zero, List.set_cons_succ, i64_w, i32_w]
                    rfl
                  refine pure_ (i := 14) (N := (some 92)) (v := ?_) (a' := ?_) #[true, true, true, true, true, true, true, true, true, true, true, true, true, true, true, false, false, false] rfl rfl (any_of HT_.out (by kernel_rfl)) (fun _ _ _ h => h) (Or.inl ⟨by rfl, ?_⟩) ?_ ?_
                  rotate_left
                  · intro w'
                    go_simp
                    with_reducible rfl
                  rotate_left
                  · simp only [Act.put, List.setIfInBounds_toArray, List.set_cons_zero, List.set_cons_succ, i64_w, i32_w]
                    rfl
                  refine last_ (i := 15) (N := none) #[true, true, true, true, true, true, true, true, true, true, true, true, true, true, true, true, false, false] rfl rfl (one_of HT_.out (by kernel_rfl)) (by decide) (fun Kc hK => ?_)
                  have hfz : wd2.frozen? ⟨gv, k, none⟩ = false := kh_frozen (HS9.out.get 1 rfl) k
                  have hcl : wd2.cell? ⟨gv, k, none⟩ = some (.slice A5 g.length c5) := hHeld.1
                  have hcl1 : wd2.cell? ⟨gv, k1, none⟩ = some (.slice As ns cs) := hHeld.2
                  refine skip_ (w1 := ?_) (by rfl) rfl ?_ ?_
                  rotate_left
                  · go_simp
                    rfl
                  have HS9a : Aside0 (Sep w.heap.size [blk w.heap.size #[.int .i64 2, .int .i64 K, .int .i64 O, .int .i64 0, .slice none 0 0, .slice none 0 0, .int .i64 most, .slice AW W.length cW, .slice AU U.length cU, .slice (some aG) G.length cG, .int .i64 h, .int .i64 m] 50, row kH 22 w.heap.size (.slice (some ⟨gv, 0, none⟩) N cv) ((((A' ++ [((As, ns, cs), ls)]) ++ p :: D).map Prod.fst).set k (As, ns, cs))] (World.setCell wd2 ⟨gv, k, none⟩ (.slice As ns cs))) := ⟨by
                    have h1 := HS9.out.put 1 rfl (k : Int) ((As, ns, cs) : Hdr) HB9.out.size
                    rw [Int.toNat_natCast] at h1
                    exact h1⟩
                  have HB9a := Aside0.mk (HB9.out.setCell (HS9.out.bound 1 rfl (show some gv = some gv from rfl)).1 (p := ⟨gv, k, none⟩) (.slice As ns cs))
                  have hcl2 : (World.setCell wd2 ⟨gv, k, none⟩ (.slice As ns cs)).cell? ⟨gv, k1, none⟩ = some (.slice As ns cs) := kh_get (x := (As, ns, cs)) (HS9a.out.get 1 rfl) (by rw [List.getElem?_set_ne (by have := HKK.out; omega), List.map_append, List.getElem?_append_left (by rw [List.length_map, HKK.out.2.1]; have := HKK.out; omega), List.map_append, List.getElem?_append_right (by rw [List.length_map, HKK.out.1]; exact Nat.le_refl _), List.length_map, HKK.out.1, Nat.sub_self]; rfl)
                  generalize World.setCell wd2 ⟨gv, k, none⟩ (.slice As ns cs) = wd3 at HS9a HB9a hcl2 ⊢
                  clear hfz hcl hcl1 HS9 HB9 hHeld
                  refine hK.out _ _ ?_; clear hK Kc
                  refine pure_ (i := 16) (N := (some 93)) (v := ?_) (a' := ?_) #[true, true, true, true, true, true, true, true, true, true, true, true, true, true, true, true, true, false] rfl rfl (any_of HT_.out (by kernel_rfl)) (fun _ _ _ h => h) (Or.inl ⟨by rfl, ?_⟩) ?_ ?_
                  rotate_left
                  · intro w'
                    go_simp
                    with_reducible rfl
                  rotate_left
                  · simp only [Act.put, List.setIfInBounds_toArray, List.set_cons_zero, List.set_cons_succ, i64_w, i32_w]
                    rfl
                  refine last_ (i := 17) (N := none) #[true, true, true, true, true, true, true, true, true, true, true, true, true, true, true, true, true, true] rfl rfl (one_of HT_.out (by kernel_rfl)) (by decide) (fun Kc hK => ?_)
                  have hfz : wd3.frozen? ⟨gv, k1, none⟩ = false := kh_frozen (HS9a.out.get 1 rfl) k1
                  refine skip_ (w1 := ?_) (by rfl) rfl ?_ ?_
                  rotate_left
                  · go_simp
                    rfl
                  have HS11' : Aside0 (Sep w.heap.size [blk w.heap.size #[.int .i64 2, .int .i64 K, .int .i64 O, .int .i64 0, .slice none 0 0, .slice none 0 0, .int .i64 most, .slice AW W.length cW, .slice AU U.length cU, .slice (some aG) G.length cG, .int .i64 h, .int .i64 m] 50, row kH 22 w.heap.size (.slice (some ⟨gv, 0, none⟩) N cv) (((((A' ++ [((As, ns, cs), ls)]) ++ p :: D).map Prod.fst).set k (As, ns, cs)).set k1 (A5, g.length, c5))] (World.setCell wd3 ⟨gv, k1, none⟩ (.slice A5 g.length c5))) := ⟨by
                    have h1 := HS9a.out.put 1 rfl (k1 : Int) ((A5, g.length, c5) : Hdr) HB9a.out.size
                    rw [Int.toNat_natCast] at h1
                    exact h1⟩
                  have HB11 := Aside0.mk (HB9a.out.setCell (HS9a.out.bound 1 rfl (show some gv = some gv from rfl)).1 (p := ⟨gv, k1, none⟩) (.slice A5 g.length c5))
                  have HS11 : Aside0 (Sep w.heap.size [blk w.heap.size #[.int .i64 2, .int .i64 K, .int .i64 O, .int .i64 0, .slice none 0 0, .slice none 0 0, .int .i64 most, .slice AW W.length cW, .slice AU U.length cU, .slice (some aG) G.length cG, .int .i64 h, .int .i64 m] 50, row kH 22 w.heap.size (.slice (some ⟨gv, 0, none⟩) N cv) ((A' ++ p :: (((As, ns, cs), ls) :: D)).map Prod.fst)] (World.setCell wd3 ⟨gv, k1, none⟩ (.slice A5 g.length c5))) := ⟨by
                    have h1 := HS11'.out
                    rw [show (((((A' ++ [((As, ns, cs), ls)]) ++ p :: D).map Prod.fst).set k (As, ns, cs)).set k1 (A5, g.length, c5)) = ((A' ++ p :: (((As, ns, cs), ls) :: D)).map Prod.fst) from swap_list HKK.out.1 HKK.out.2.2 (by rw [← HPE.out])] at h1
                    exact h1⟩
                  generalize World.setCell wd3 ⟨gv, k1, none⟩ (.slice A5 g.length c5) = wd4 at HS11 HB11 ⊢
                  clear hfz hcl2 HS11' HS9a HB9a
                  refine hK.out _ _ ?_; clear hK Kc
                  refine done_ (done_of HT_.out (by kernel_rfl)) ?_
                  go_wp2
                  go_roundw
                  case rel => exact ⟨A', ((As, ns, cs), ls) :: D, by first | rw [hwk, HKK.out.1] | rw [HKK.out.1], ⟨by have := HAD.out.1; rwa [List.append_assoc] at this, fun d hd => by
                    rcases List.mem_cons.1 hd with rfl | hd
                    · exact HAH.out
                    · exact HAD.out.2 d hd⟩, HS11, HB11⟩
                  case measure => 
                    have h1 := HKK.out
                    first | (rw [hwk]; exact meas_dn h1.2.2) | exact meas_dn h1.2.2
                · have HAH := Aside0.mk hah
                  clear hah
                  go_wp2
                  refine start_ (n := 14) (S := fun w' => w'.cell? ⟨gv, k, none⟩ = some (.slice A5 g.length c5) ∧ w'.cell? ⟨gv, k1, none⟩ = some (.slice As ns cs)) (ds := [12]) #[false, false, false, false, false, false, false, false, false, false, false, false, false, false] (by kernel_rfl) rfl rfl ⟨(show (World.drew wr).cell? _ = _ from ((below_drew1 (Below.refl wr.heap.size wr)).cell (World.block_lt_of_cell? wr _ hck)).trans hck), (show (World.drew wr).cell? _ = _ from ((below_drew1 (Below.refl wr.heap.size wr)).cell (World.block_lt_of_cell? wr _ hck1)).trans hck1)⟩ (fun hHeld => ?_)
                  refine with_tabW rl.tab15 rl.bits15 (fun HT_ HW_ => ?_)
                  have HS9 := Aside0.mk (HSj.out.low (below_drew1 (Below.refl _ _)))
                  have HB9 := Aside0.mk (below_drew1 HBj.out)
                  clear HSj HBj
                  generalize wr.drew = wd at HS9 HB9 hHeld ⊢
                  refine pure_ (i := 0) (N := (some 62)) (v := ?_) (a' := ?_) #[true, false, false, false, false, false, false, false, false, false, false, false, false, false] rfl rfl (any_of HT_.out (by kernel_rfl)) (fun _ _ _ h => h) (Or.inl ⟨by rfl, ?_⟩) ?_ ?_
                  rotate_left
                  · intro w'
                    go_simp
                    with_reducible rfl
                  rotate_left
                  · simp only [Act.put, List.setIfInBounds_toArray, List.set_cons_zero, List.set_cons_succ, i64_w, i32_w]
                    rfl
                  refine pure_ (i := 1) (N := (some 63)) (v := ?_) (a' := ?_) #[true, true, false, false, false, false, false, false, false, false, false, false, false, false] rfl rfl (any_of HT_.out (by kernel_rfl)) (fun _ _ _ h => h) (Or.inl ⟨by rfl, ?_⟩) ?_ ?_
                  rotate_left
                  · intro w'
                    go_simp
                    with_reducible rfl
                  rotate_left
                  · simp only [Act.put, List.setIfInBounds_toArray, List.set_cons_zero, List.set_cons_succ, i64_w, i32_w]
                    rfl
                  refine pure_ (i := 2) (N := (some 64)) (v := ?_) (a' := ?_) #[true, true, true, false, false, false, false, false, false, false, false, false, false, false] rfl rfl (any_of HT_.out (by kernel_rfl)) (fun _ _ _ h => h) (Or.inl ⟨by rfl, ?_⟩) ?_ ?_
                  rotate_left
                  · intro w'
                    go_simp
                    with_reducible rfl
                  rotate_left
                  · simp only [Act.put, List.setIfInBounds_toArray, List.set_cons_zero, List.set_cons_succ, i64_w, i32_w]
                    rfl
                  refine pure_ (i := 3) (N := (some 65)) (v := ?_) (a' := ?_) #[true, true, true, true, false, false, false, false, false, false, false, false, false, false] rfl rfl (any_of HT_.out (by kernel_rfl)) (fun _ _ _ h => h) (Or.inl ⟨by rfl, ?_⟩) ?_ ?_
                  rotate_left
                  · intro w'
                    go_simp
                    with_reducible rfl
                  rotate_left
                  · simp only [Act.put, List.setIfInBounds_toArray, List.set_cons_zero, List.set_cons_succ, i64_w, i32_w]
                    rfl
                  refine pure_ (i := 4) (N := (some 66)) (v := ?_) (a' := ?_) #[true, true, true, true, true, false, false, false, false, false, false, false, false, false] rfl rfl (any_of HT_.out (by kernel_rfl)) (fun _ _ _ h => h) (Or.inl ⟨by rfl, ?_⟩) ?_ ?_
                  rotate_left
                  · intro w'
                    go_simp
                    with_reducible rfl
                  rotate_left
                  · simp only [Act.put, List.setIfInBounds_toArray, List.set_cons_zero, List.set_cons_succ, i64_w, i32_w]
                    rfl
                  refine pure_ (i := 5) (N := (some 67)) (v := ?_) (a' := ?_) #[true, true, true, true, true, true, false, false, false, false, false, false, false, false] rfl rfl (any_of HT_.out (by kernel_rfl)) (fun _ _ _ h => h) (Or.inl ⟨by rfl, ?_⟩) ?_ ?_
                  rotate_left
                  · intro w'
                    go_simp
                    with_reducible rfl
                  rotate_left
                  · simp only [Act.put, List.setIfInBounds_toArray, List.set_cons_zero, List.set_cons_succ, i64_w, i32_w]
                    rfl
                  refine pure_ (i := 7) (N := (some 69)) (v := ?_) (a' := ?_) #[true, true, true, true, true, true, false, true, false, false, false, false, false, false] rfl rfl (any_of HT_.out (by kernel_rfl)) (fun _ _ _ h => h) (Or.inl ⟨by rfl, ?_⟩) ?_ ?_
                  rotate_left
                  · intro w'
                    go_simp
                    with_reducible rfl
                  rotate_left
                  · simp only [Act.put, List.setIfInBounds_toArray, List.set_cons_zero, List.set_cons_succ, i64_w, i32_w]
                    rfl
                  refine pure_ (i := 8) (N := (some 70)) (v := ?_) (a' := ?_) #[true, true, true, true, true, true, false, true, true, false, false, false, false, false] rfl rfl (any_of HT_.out (by kernel_rfl)) (fun _ _ _ h => h) (Or.inl ⟨by rfl, ?_⟩) ?_ ?_
                  rotate_left
                  · intro w'
                    go_simp
                    with_reducible rfl
                  rotate_left
                  · simp only [Act.put, List.setIfInBounds_toArray, List.set_cons_zero, List.set_cons_succ, i64_w, i32_w]
                    rfl
                  refine pure_ (i := 9) (N := (some 71)) (v := ?_) (a' := ?_) #[true, true, true, true, true, true, false, true, true, true, false, false, false, false] rfl rfl (any_of HT_.out (by kernel_rfl)) (fun _ _ _ h => h) (Or.inl ⟨by rfl, ?_⟩) ?_ ?_
                  rotate_left
                  · intro w'
                    go_simp
                    with_reducible rfl
                  rotate_left
                  · simp only [Act.put, List.setIfInBounds_toArray, List.set_cons_zero, List.set_cons_succ, i64_w, i32_w]
                    rfl
                  refine pure_ (i := 10) (N := (some 72)) (v := ?_) (a' := ?_) #[true, true, true, true, true, true, false, true, true, true, true, false, false, false] rfl rfl (any_of HT_.out (by kernel_rfl)) (fun _ _ _ h => h) (Or.inl ⟨by rfl, ?_⟩) ?_ ?_
                  rotate_left
                  · intro w'
                    go_simp
                    with_reducible rfl
                  rotate_left
                  · simp only [Act.put, List.setIfInBounds_toArray, List.set_cons_zero, List.set_cons_succ, i64_w, i32_w]
                    rfl
                  refine take_ (i := 6) (N := (some 68)) (v := ?_) (a' := ?_) #[true, true, true, true, true, true, true, true, true, true, true, false, false, false] rfl rfl (take_ofW HT_.out HW_.out (by kernel_rfl)) (fun _ _ _ h => h) (Or.inl ⟨by rfl, ?_⟩) hHeld ?_ ?_
                  rotate_left
                  · rintro w' ⟨s0, s1⟩
                    go_simp
                    with_reducible rfl
                  rotate_left
                  · simp only [Act.put, List.setIfInBounds_toArray, List.set_cons_zero, List.set_cons_succ, i64_w, i32_w]
                    rfl
                  refine take_ (i := 11) (N := (some 73)) (v := ?_) (a' := ?_) #[true, true, true, true, true, true, true, true, true, true, true, true, false, false] rfl rfl (take_ofW HT_.out HW_.out (by kernel_rfl)) (fun _ _ _ h => h) (Or.inl ⟨by rfl, ?_⟩) hHeld ?_ ?_
                  rotate_left
                  · rintro w' ⟨s0, s1⟩
                    go_simp
                    with_reducible rfl
                  rotate_left
                  · simp only [Act.put, List.setIfInBounds_toArray, List.set_cons_zero, List.set_cons_succ, i64_w, i32_w]
                    rfl
                  refine last_ (i := 12) (N := (some 74)) #[true, true, true, true, true, true, true, true, true, true, true, true, true, false] rfl rfl (one_of HT_.out (by kernel_rfl)) (by decide) (fun Kc hK => ?_)
                  refine goes_ Try.func48 (by kernel_rfl) rfl #[.slice A5 g.length c5, .slice As ns cs] (by rfl) rfl rfl (by (try simp only [List.map_toArray, List.map_cons, List.map_nil]); first | done | rfl | simp [Act.eval]) ?_
                  refine (Ahead_calls A5 g.length c5 g As ns cs ls wd (Kd.C_below HGR.out.2 HB9.out) HGR.out.1 (by rw [HS1.out.1]; exact Kd.C_below HS1.out.2.2.2 HB9.out) (by have := HS1.out; omega) (by have := HGX.out; omega) HS1.out.2.2.1).mono ?_
                  rw [decide_eq_false (show ¬ cmpW g ls < 0 from by have := HAH.out; omega)]
                  rintro e w10 ⟨rfl, ⟨nd, rfl⟩⟩
                  refine ⟨_, rfl, ?_⟩
                  have HS10 := Aside0.mk (HS9.out.low (pw_below_drewN (Below.refl _ _) nd))
                  have HB10 := Aside0.mk (pw_below_drewN HB9.out nd)
                  clear HS9 HB9
                  generalize World.drewN wd nd = w10 at HS10 HB10 ⊢
                  refine hK.out _ _ ?_; clear hK Kc
                  refine norm_ (a' := ?_) ?_ ?_
                  rotate_left
                  · show Act.put _ (some 74) _ = _
                    simp only [Act.put, List.setIfInBounds_toArray, List.set_cons_zero, List.set_cons_succ, i64_w, i32_w]
                    rfl
                  refine pure_ (i := 13) (N := (some 75)) (v := ?_) (a' := ?_) #[true, true, true, true, true, true, true, true, true, true, true, true, true, true] rfl rfl (any_of HT_.out (by kernel_rfl)) (fun _ _ _ h => h) (Or.inl ⟨by rfl, ?_⟩) ?_ ?_
                  rotate_left
                  · intro w'
                    go_simp
                    with_reducible rfl
                  rotate_left
                  · simp only [Act.put, List.setIfInBounds_toArray, List.set_cons_zero, List.set_cons_succ, i64_w, i32_w]
                    rfl
                  refine done_ (done_of HT_.out (by kernel_rfl)) ?_
                  go_wp2
                  have e2 := w64s (a := i) (by have h1 := HIL.out; have h2 := HGN.out; omega)
                  go_roundw
                  case rel => exact ⟨i + 1, (A' ++ [((As, ns, cs), ls)]) ++ p :: D, _, by first | rw [e2] | go_num, rfl, ⟨HIL.out, by have h1 := congrArg List.length HAD.out.1; have h2 := HI.out.2; simp only [List.length_append, List.length_cons, List.length_nil] at h1 ⊢; omega⟩, ⟨heads_put HH.out HAD.out.1 (by rw [← HPE.out]; exact ⟨rfl, HGR.out.1, Nat.le_trans HGX.out (by decide), HGR.out.2⟩)⟩, ⟨keep_put HPM.out HAD.out.1 (by rw [keepR_is]; exact HOK.out) (by rw [HGD.out, ← HPE.out])⟩, ⟨ins_sorted (by rw [HAD.out.1]; exact HST.out) (fun d hd => by rw [← HPE.out]; exact HAD.out.2 d hd) (fun A'' a e => by obtain ⟨_, e3⟩ := List.append_inj' e rfl; injection e3 with e3; subst e3; rw [← HPE.out]; show ¬ cmpW g ls < 0; have := HAH.out; omega)⟩, HS10, HB10⟩
                  case measure => first | exact rmeas2_at e2 HIL.out | exact rmeas2_at2 HIL.out
    · have hi' : ¬ ((i : Int) < (G.length : Int)) := by omega
      obtain rfl : i = G.length := by have := HI.out.1; omega
      obtain ⟨Av, cv, hv⟩ := Kd.R_slice (HSr.out.get 1 rfl)
      subst hv
      have HHW : Aside0 (Heads_ wr Q) := ⟨fun q hq => by
        obtain ⟨f1, f2, f3, f4⟩ := HH.out q hq
        exact ⟨f1, f2, f3, Kd.C_below f4 HBr.out⟩⟩
      clear hi
      go_wp2
      go_ret
      obtain ⟨g1, g2, g3⟩ := heads_C (HSr.out.get 1 rfl) HHW.out
      exact RListPost.intro (by simp) (by simpa using g3) g1 HPM.out HST.out HBr.out
set_option maxHeartbeats 16000000 in
set_option maxRecDepth 100000 in
theorem RList_walk (kd : Int) (P : Nat → Prop) (K O most h m : Int) (AW : Option Addr) (cW : Nat) (AU : Option Addr) (cU : Nat) (AG : Option Addr) (cG : Nat) (W U G : List (List Int)) (w : World) (hP : ∀ k, P k → k < w.heap.size) (hW : Wl P w (.slice AW W.length cW) W) (hU : Wl P w (.slice AU U.length cU) U) (hG : Wl P w (.slice AG G.length cG) G) (hWU : W.length = U.length) (hWl : ∀ x ∈ W, x.length ≤ 1000000) (hWn : W.length ≤ 1000000) (hGl : ∀ x ∈ G, x.length ≤ 1000000) (hGn : G.length ≤ 2000000) (hkd : kd = 1 ∨ kd = 2) (hlen : kd = 2 → ∀ (i : Nat) (a o : List Int), W[i]? = some a → U[i]? = some o → a.length ≤ o.length) : Calls Try.prog 31 #[.agg #[.int .i64 kd, .int .i64 K, .int .i64 O, .int .i64 0, .slice none 0 0, .slice none 0 0, .int .i64 most, .slice AW W.length cW, .slice AU U.length cU, .slice AG G.length cG, .int .i64 h, .int .i64 m]] w (RListPost kd W U G w) := by
  rcases hkd with rfl | rfl
  · exact RList_c1 P K O most h m AW cW AU cU AG cG W U G w hP hW hU hG hWU hWl hWn hGl hGn
  · exact RList_c2 P K O most h m AW cW AU cU AG cG W U G w hP hW hU hG hWU hWl hWn hGl hGn (hlen rfl)
end Go.Proofs.Ytdijkhamebkfjaa.X
end

section
namespace Go.Proofs.Ytdijkhamebkfjaa.X
open Go.RowKit Go.Proofs.YtdijkhamebkfjaaW.PrintWords Go.Proofs.YtdijkhamebkfjaaW.PrintLast Go.Proofs.YtdijkhamebkfjaaW.PrintMore
open Go.Proofs.Ytdijkhamebkfjaa Go.Proofs.Ytdijkhamebkfjaa.Sp
theorem trie_tri {base : Nat} {own : Nat → Prop} {g : Nat} {kd : Int} {K : Nat} {O : Int} {most n : Nat} {B : Nat → List Int} {V : Nat → Int} {hits misses : Int} {w : World} (h : (trie base own g kd K O most n B V hits misses).at_ w) : ∃ U Y D, Tri n K B U Y D := by
  obtain ⟨U, Y, D, gn, cn, gd, h1, _⟩ := h
  exact ⟨U, Y, D, h1⟩
structure RI (kd : Int) (n : Nat) (B : Nat → List Int) (V : Nat → Int) (W U G : List (List Int)) : Prop where
  g : G = (List.range n).map B
  len : W.length = U.length
  find : ∀ w a, At n B w a → Stop n B w a → findF kd W U w = tellF kd V w a
  outs : kd = 2 → ∀ (i : Nat) (a o : List Int), W[i]? = some a → U[i]? = some o → a.length ≤ o.length
  wl : ∀ x ∈ W, x.length ≤ 5000
  ul : ∀ x ∈ U, x.length ≤ 5000
  gl : ∀ x ∈ G, x.length ≤ 5000
theorem RI.start {kd : Int} (hkd : kd = 1 ∨ kd = 2) : RI kd 1 (fun _ => []) (fun _ => -1) [] [] [[]] where
  g := rfl
  len := rfl
  outs := fun _ i a o h _ => by cases h
  wl := fun x hx => by cases hx
  ul := fun x hx => by cases hx
  gl := fun x hx => by rw [List.mem_singleton.1 hx]; exact Nat.zero_le _
  find := fun w a ha hs => by
    have h1 : a.length = 1 := by
      refine Classical.byContradiction fun hn => ?_
      have hne := ha.ne
      have hle := ha.le
      obtain ⟨x, hx⟩ : ∃ x, a[1]? = some x := ⟨_, List.getElem?_eq_getElem (by omega)⟩
      have h2 := (ha.ok 1 x hx).2
      have h3 := congrArg List.length h2
      rw [List.length_take] at h3
      simp at h3
      have : w.length = 0 := by omega
      omega
    unfold findF
    have hf : findR kd [] [] w = ([], false) := by unfold findR; rfl
    rw [hf]
    by_cases hw : w = []
    · subst hw
      have h2 : a.length = ([] : List Int).length + 1 := h1
      rcases hkd with rfl | rfl
      · rw [if_neg (fun h => absurd h.1 (by decide))]
        unfold tellF
        rw [if_pos h2, if_pos rfl, if_pos (show (-1 : Int) < 0 by decide)]
      · rw [if_pos ⟨rfl, rfl⟩]
        unfold tellF
        rw [if_pos h2, if_neg (by decide)]
        obtain ⟨x, rfl⟩ := List.length_eq_one_iff.1 h1
        rfl
    · rw [if_neg (fun h => hw h.2), tell_no]
      intro e
      exact hw (List.eq_nil_of_length_eq_zero (by omega))
theorem findR_app (kd : Int) (w l out : List Int) : ∀ W U : List (List Int), W.length = U.length → findR kd (W ++ [l]) (U ++ [out]) w = if (findR kd W U w).2 = true then findR kd W U w else if okR kd l w = true then (if kd = 1 then out else out.take w.length, true) else ([], false)
  | [], [], _ => by
    have hf : findR kd [] [] w = ([], false) := by unfold findR; rfl
    rw [hf, if_neg (by decide)]
    show (if okR kd l w = true then _ else findR kd [] [] w) = _
    rw [hf]
  | [], _ :: _, h => by cases h
  | _ :: _, [], h => by cases h
  | a :: W, o :: U, h => by
    have ih := findR_app kd w l out W U (by simpa using h)
    show (if okR kd a w = true then (if kd = 1 then o else o.take w.length, true) else findR kd (W ++ [l]) (U ++ [out]) w) = if (if okR kd a w = true then (if kd = 1 then o else o.take w.length, true) else findR kd W U w).2 = true then (if okR kd a w = true then (if kd = 1 then o else o.take w.length, true) else findR kd W U w) else _
    by_cases h1 : okR kd a w = true
    · rw [if_pos h1, if_pos h1, if_pos rfl]
    · rw [if_neg h1, if_neg h1, ih]
section
variable {n K : Nat} {B : Nat → List Int} {V : Nat → Int} {Up Y : Nat → Nat} {D : Nat → Nat → Nat} {kd : Int} {O : Int} {most : Nat} {W U G : List (List Int)} {l out : List Int} {at_ : List Nat}
theorem fresh_is (ht : Tri n K B Up Y D) (ha : At n B l at_) (hs : Stop n B l at_) (hG : G = (List.range n).map B) : ∀ j, j ≤ l.length + 1 → freshR G l j = (List.range (n + (j - at_.length))).map (putB n B l at_)
  | 0, _ => by
    show G = _
    rw [Nat.zero_sub, Nat.add_zero, hG]
    exact List.map_congr_left fun i hi => (putB_old (List.mem_range.1 hi)).symm
  | j + 1, hj => by
    have ih := fresh_is ht ha hs hG j (by omega)
    show (if l.take j ∈ freshR G l j then freshR G l j else freshR G l j ++ [l.take j]) = _
    rw [ih]
    by_cases h1 : j < at_.length
    · rw [if_pos]
      · rw [show j + 1 - at_.length = j - at_.length by omega]
      · obtain ⟨h2, h3⟩ := ha.ok j _ (List.getElem?_eq_getElem h1)
        rw [← h3]
        exact List.mem_map.2 ⟨_, List.mem_range.2 (by omega), putB_old h2⟩
    · rw [if_neg]
      · rw [show n + (j + 1 - at_.length) = n + (j - at_.length) + 1 by omega, List.range_succ, List.map_append]
        congr 1
        rw [List.map_cons, List.map_nil, putB_new, show at_.length + (j - at_.length) = j by omega]
      · intro hm
        obtain ⟨i, hi, he⟩ := List.mem_map.1 hm
        have hi2 := List.mem_range.1 hi
        by_cases h2 : i < n
        · rw [putB_old h2] at he
          have := Tri.fresh ht hs (j - at_.length) (by omega) i h2
          rw [show at_.length + (j - at_.length) = j by omega] at this
          exact this he
        · obtain ⟨q, rfl⟩ : ∃ q, i = n + q := ⟨i - n, by omega⟩
          rw [putB_new] at he
          have := congrArg List.length he
          rw [List.length_take, List.length_take] at this
          omega
theorem fresh_all (ht : Tri n K B Up Y D) (ha : At n B l at_) (hs : Stop n B l at_) (hG : G = (List.range n).map B) : freshR G l (l.length + 1) = (List.range (putN n l at_)).map (putB n B l at_) := fresh_is ht ha hs hG _ (Nat.le_refl _)
theorem At.pre (ha : At n B l at_) (hs : Stop n B l at_) {i : Nat} (hi : i ≤ l.length) : At n B (l.take i) (at_.take (i + 1)) ∧ Stop n B (l.take i) (at_.take (i + 1)) := by
  have hne := ha.ne
  refine ⟨⟨by rw [List.length_take]; omega, fun j a hj => ?_, by rw [List.length_take, List.length_take]; omega⟩, fun hl x hx => ?_⟩
  · rw [List.getElem?_take] at hj
    by_cases h1 : j < i + 1
    · rw [if_pos h1] at hj
      obtain ⟨h2, h3⟩ := ha.ok j a hj
      rw [List.take_take, Nat.min_eq_left (by omega)]
      exact ⟨h2, h3⟩
    · rw [if_neg h1] at hj
      cases hj
  · rw [List.length_take, List.length_take] at hl
    have h1 : at_.take (i + 1) = at_ := List.take_of_length_le (by omega)
    rw [h1, List.take_take, Nat.min_eq_left (by omega)]
    exact hs (by omega) x hx
theorem clash_is (ha : At n B l at_) (hs : Stop n B l at_) (h : RI kd n B V W U G) (hkd : kd = 1 ∨ kd = 2) (hm : memB kd O l.length out = true) : (∃ i, i ≤ l.length ∧ clashAt kd W U l out i) ↔ clashF kd V l out at_ = true := by
  have hle := ha.le
  have hne := ha.ne
  have hf : ∀ i, i ≤ l.length → findF kd W U (l.take i) = tellF kd V (l.take i) (at_.take (i + 1)) := fun i hi => h.find _ _ (ha.pre hs hi).1 (ha.pre hs hi).2
  unfold clashAt clashF
  rcases hkd with rfl | rfl
  · have hol := mem_len hm
    rw [if_pos rfl] at hol
    have ho : out = [rd out 0] := by
      obtain ⟨x, rfl⟩ := List.length_eq_one_iff.1 hol
      rfl
    have hfl := hf l.length (Nat.le_refl _)
    rw [List.take_length, List.take_of_length_le hle] at hfl
    rw [if_pos rfl, decide_eq_true_eq]
    constructor
    · rintro ⟨i, hi, h1, h2⟩
      rw [if_pos rfl] at h2
      obtain ⟨rfl, h2⟩ := h2
      rw [List.take_length, hfl] at h1 h2
      unfold tellF at h1 h2
      by_cases hl : at_.length = l.length + 1
      · rw [if_pos hl, if_pos rfl] at h1 h2
        by_cases hv : V (at_.getD l.length 0) < 0
        · rw [if_pos hv] at h1; cases h1
        · rw [if_neg hv] at h2
          rw [show at_.length - 1 = l.length by omega]
          refine ⟨hl, by omega, fun e => h2 ?_⟩
          rw [ho, ← e]
      · rw [if_neg hl] at h1; cases h1
    · rintro ⟨hl, hv, hr⟩
      rw [show at_.length - 1 = l.length by omega] at hv hr
      refine ⟨l.length, Nat.le_refl _, ?_⟩
      rw [List.take_length, hfl]
      unfold tellF
      rw [if_pos hl, if_pos rfl, if_neg (by omega), if_pos rfl]
      refine ⟨rfl, rfl, fun e => hr ?_⟩
      have e2 : [V (at_.getD l.length 0)] = out := e
      rw [← e2]
      rfl
  · have key : ∀ i, i < at_.length → ((at_.take (i + 1)).drop 1).map V = ((at_.drop 1).map V).take i := fun i hi => by
      rw [← List.map_take, List.take_drop]
      congr 3
      omega
    have tel : ∀ i, i ≤ l.length → tellF 2 V (l.take i) (at_.take (i + 1)) = if i < at_.length then (((at_.drop 1).map V).take i, true) else ([], false) := fun i hi => by
      unfold tellF
      by_cases h1 : i < at_.length
      · rw [if_pos h1, if_pos (by rw [List.length_take, List.length_take]; omega), if_neg (by decide), key i h1]
      · rw [if_neg h1, if_neg (by rw [List.length_take, List.length_take]; omega)]
    rw [if_neg (by decide), decide_eq_true_eq]
    constructor
    · rintro ⟨i, hi, h1, h2⟩ e
      rw [if_neg (by decide)] at h2
      rw [hf i hi, tel i hi] at h1 h2
      by_cases h3 : i < at_.length
      · rw [if_pos h3] at h2
        apply h2
        show ((at_.drop 1).map V).take i = _
        rw [e, List.take_take, Nat.min_eq_left (by omega)]
      · rw [if_neg h3] at h1; cases h1
    · intro hn
      have h3 : at_.length - 1 < at_.length := by omega
      refine ⟨at_.length - 1, by omega, ?_⟩
      rw [hf _ (by omega), tel _ (by omega), if_pos h3, if_neg (by decide)]
      refine ⟨rfl, fun e => hn ?_⟩
      have e2 : ((at_.drop 1).map V).take (at_.length - 1) = out.take (at_.length - 1) := e
      rw [← e2, List.take_of_length_le (by rw [List.length_map, List.length_drop]; exact Nat.le_refl _)]
theorem refErr_is (ht : Tri n K B Up Y D) (ha : At n B l at_) (hs : Stop n B l at_) (h : RI kd n B V W U G) (hkd : kd = 1 ∨ kd = 2) (hnm : n ≤ most) : refErr kd K O most W U G l out = putErr kd K O most n V l out at_ := by
  unfold refErr putErr
  by_cases h1 : wordErr K l ≠ 0
  · rw [if_pos h1, if_pos h1]
  · rw [if_neg h1, if_neg h1]
    by_cases h2 : memB kd O l.length out = false
    · rw [if_pos h2, if_pos h2]
    · rw [if_neg h2, if_neg h2]
      have h3 := clash_is ha hs h hkd (O := O) (out := out) (by simpa using h2)
      by_cases h4 : clashF kd V l out at_ = true
      · rw [if_pos (h3.2 h4), if_pos h4]
      · rw [if_neg (fun h5 => h4 (h3.1 h5)), if_neg h4, fresh_all ht ha hs h.g, List.length_map, List.length_range]
        have hle := ha.le
        by_cases h5 : putN n l at_ > most
        · rw [if_pos h5, if_pos (by unfold putN at h5; omega)]
        · rw [if_neg h5, if_neg (by unfold putN at h5; omega)]
theorem node_way (ht : Tri n K B Up Y D) {w : List Int} {a : List Nat} (ha : At n B w a) (hs : Stop n B w a) {i : Nat} (hi : i < n) (hB : B i = w) : a.length = w.length + 1 ∧ a[w.length]? = some i := by
  have h1 := (ha.whole ht hs).2 ⟨i, hi, hB⟩
  obtain ⟨x, h2, h3, h4⟩ := ha.last
  rw [h1, Nat.add_sub_cancel] at h2 h4
  rw [List.take_length] at h4
  have := ht.inj x i h3 hi (by rw [h4, hB])
  exact ⟨h1, this ▸ h2⟩
theorem RI.put (ht : Tri n K B Up Y D) {Up2 Y2 : Nat → Nat} {D2 : Nat → Nat → Nat} (ht2 : Tri (putN n l at_) K (putB n B l at_) Up2 Y2 D2) (ha : At n B l at_) (hs : Stop n B l at_) (h : RI kd n B V W U G) (hkd : kd = 1 ∨ kd = 2) (he : putErr kd K O most n V l out at_ = 0) (hl1 : l.length ≤ 5000) (hl2 : out.length ≤ 5000) : RI kd (putN n l at_) (putB n B l at_) (putV kd n V l out at_) (W ++ [l]) (U ++ [out]) (freshR G l (l.length + 1)) := by
  obtain ⟨_, hmem, hc, _⟩ := putErr_fine he
  have hol := mem_len hmem
  have hwt := wayN_tell (n := n) hkd ha hc (fun e => by subst e; exact mem_first hmem) (fun e => by subst e; rwa [if_neg (by decide)] at hol)
  obtain ⟨hwa, hws⟩ := wayN_at (n := n) ha
  have hle := ha.le
  have hne := ha.ne
  have hwl := wayN_len (n := n) hle
  refine ⟨fresh_all ht ha hs h.g, by simp [h.len], fun w a hat hst => ?_, fun e i x o hx ho => ?_, fun x hx => ?_, fun x hx => ?_, freshR_all G l 5000 h.gl hl1 _⟩
  · obtain ⟨a0, ha0, hs0⟩ := ht.way w
    have hold := h.find w a0 ha0 hs0
    unfold findF at hold ⊢
    by_cases hnil : kd = 2 ∧ w = []
    · rw [if_pos hnil] at hold ⊢
      have h1 := tell_keep hkd hle hc ha0 hold.symm
      have h2 := At.one ht2 hat hst ha0.keep (At.all_stop (by rw [tell_full hold.symm]; omega))
      rw [h2, h1]
    · rw [if_neg hnil] at hold ⊢
      rw [findR_app kd w l out W U h.len]
      by_cases hfo : (findR kd W U w).2 = true
      · rw [if_pos hfo]
        obtain ⟨r, hr⟩ : ∃ r, findR kd W U w = (r, true) := ⟨_, Prod.ext rfl hfo⟩
        rw [hr] at hold ⊢
        have h1 := tell_keep hkd hle hc ha0 hold.symm
        have h2 := At.one ht2 hat hst ha0.keep (At.all_stop (by rw [tell_full hold.symm]; omega))
        rw [h2, h1]
      · rw [if_neg hfo]
        have hof : (tellF kd V w a0).2 ≠ true := by rw [← hold]; exact hfo
        -- a node of the new tree that says w
        have hnode : ∀ s, s < n → B s = w → (tellF kd V w a0).2 = true ∨ (kd = 1 ∧ V s < 0) := fun s hsn hBs => by
          obtain ⟨g1, g2⟩ := node_way ht ha0 hs0 hsn hBs
          rcases hkd with rfl | rfl
          · rw [tell_1 g1 g2]
            by_cases hv : V s < 0
            · exact .inr ⟨rfl, hv⟩
            · rw [if_neg hv]; exact .inl rfl
          · unfold tellF
            rw [if_pos g1, if_neg (by decide)]
            exact .inl rfl
        rcases hkd with rfl | rfl
        · by_cases hlw : l = w
          · subst hlw
            have h2 := At.one ht2 hat hst hwa hws
            rw [h2, hwt, if_pos (show okR 1 l l = true by unfold okR; rw [if_pos rfl]; exact decide_eq_true rfl), if_pos rfl]
          · rw [if_neg (show ¬ okR 1 l w = true by unfold okR; rw [if_pos rfl]; exact fun e => hlw (of_decide_eq_true e))]
            by_cases hfull : a.length = w.length + 1
            · obtain ⟨s, hs1⟩ : ∃ s, a[w.length]? = some s := ⟨_, List.getElem?_eq_getElem (by omega)⟩
              obtain ⟨g1, g2⟩ := hat.ok _ _ hs1
              rw [List.take_length] at g2
              rw [tell_1 hfull hs1, if_pos]
              have hns : s ≠ lastN n l at_ := fun e => by
                obtain ⟨x, f1, f2, f3⟩ := hwa.last
                rw [hwl, Nat.add_sub_cancel] at f1 f3
                rw [List.take_length] at f3
                have f4 : x = lastN n l at_ := by
                  unfold lastN
                  unfold wayN at f1
                  by_cases hfa : at_.length = l.length + 1
                  · rw [if_pos hfa]
                    rw [List.getElem?_append_left (by omega)] at f1
                    rw [List.getD_eq_getElem?_getD, show at_.length - 1 = l.length by omega, f1]
                    rfl
                  · rw [if_neg hfa]
                    rw [List.getElem?_append_right (by omega), List.getElem?_range' (by omega)] at f1
                    injection f1 with f1
                    unfold putN
                    omega
                rw [f4, ← e, g2] at f3
                exact hlw f3.symm
              unfold putV
              rw [if_pos rfl, upd_ne _ _ hns]
              unfold putV0
              by_cases hsn : s < n
              · rw [if_pos hsn]
                rw [putB_old hsn] at g2
                rcases hnode s hsn g2 with h5 | h5
                · exact absurd h5 hof
                · exact h5.2
              · rw [if_neg hsn, if_neg (by decide)]
                decide
            · rw [tell_no hfull]
        · by_cases hpr : w <+: l
          · have hwl2 := hpr.length_le
            have hwe : w = l.take w.length := List.prefix_iff_eq_take.1 hpr
            obtain ⟨p1, p2⟩ := At.pre hwa hws hwl2
            rw [← hwe] at p1 p2
            have h2 := At.one ht2 hat hst p1 p2
            rw [h2, if_pos (show okR 2 l w = true by unfold okR; rw [if_neg (by decide)]; exact decide_eq_true hpr), if_neg (by decide)]
            unfold tellF at hwt ⊢
            rw [if_pos hwl, if_neg (by decide)] at hwt
            rw [if_pos (by rw [List.length_take, hwl]; omega), if_neg (by decide)]
            injection hwt with hwt _
            have h7 := congrArg (List.take w.length) hwt
            rw [← h7, ← List.map_take, List.take_drop, Nat.add_comm 1 w.length]
          · rw [if_neg (show ¬ okR 2 l w = true by unfold okR; rw [if_neg (by decide)]; exact fun e => hpr (of_decide_eq_true e))]
            by_cases hfull : a.length = w.length + 1
            · exfalso
              obtain ⟨s, hs1⟩ : ∃ s, a[w.length]? = some s := ⟨_, List.getElem?_eq_getElem (by omega)⟩
              obtain ⟨g1, g2⟩ := hat.ok _ _ hs1
              rw [List.take_length] at g2
              by_cases hsn : s < n
              · rw [putB_old hsn] at g2
                rcases hnode s hsn g2 with h5 | h5
                · exact hof h5
                · cases h5.1
              · obtain ⟨q, rfl⟩ : ∃ q, s = n + q := ⟨s - n, by omega⟩
                rw [putB_new] at g2
                exact hpr (g2 ▸ List.take_prefix _ _)
            · rw [tell_no hfull]
  · by_cases hi : i < W.length
    · rw [List.getElem?_append_left hi] at hx
      rw [List.getElem?_append_left (by rw [← h.len]; exact hi)] at ho
      exact h.outs e i x o hx ho
    · rw [List.getElem?_append_right (by omega)] at hx
      rw [List.getElem?_append_right (by rw [← h.len]; omega)] at ho
      have hi2 := (List.getElem?_eq_some_iff.1 hx).1
      have h3 : i - W.length = 0 := by simpa using hi2
      rw [h3] at hx
      rw [← h.len, h3] at ho
      simp only [List.getElem?_cons_zero, Option.some.injEq] at hx ho
      subst hx ho
      subst e
      rw [if_neg (by decide)] at hol
      omega
  · rcases List.mem_append.1 hx with hx | hx
    · exact h.wl x hx
    · rw [List.mem_singleton.1 hx]; exact hl1
  · rcases List.mem_append.1 hx with hx | hx
    · exact h.ul x hx
    · rw [List.mem_singleton.1 hx]; exact hl2
theorem leaf_ext (ht : Tri n K B Up Y D) {i : Nat} (hi : i < n) : leafB n B i = !((List.range n).any fun k => decide (k ≠ i) && decide (B i <+: B k)) := by
  have h1 : leafB n B i = false ↔ ∃ j, j < n ∧ B j ≠ [] ∧ (B j).dropLast = B i := by
    unfold leafB
    rw [List.all_eq_false]
    constructor
    · rintro ⟨j, hj, h2⟩
      simp only [Bool.not_eq_true, Bool.not_eq_false', Bool.and_eq_true, decide_eq_true_eq] at h2
      exact ⟨j, List.mem_range.1 hj, h2.1, h2.2⟩
    · rintro ⟨j, hj, h2, h3⟩
      refine ⟨j, List.mem_range.2 hj, ?_⟩
      simp [h2, h3]
  have h2 : ((List.range n).any fun k => decide (k ≠ i) && decide (B i <+: B k)) = true ↔ ∃ k, k < n ∧ k ≠ i ∧ B i <+: B k := by
    rw [List.any_eq_true]
    constructor
    · rintro ⟨k, hk, h3⟩
      simp only [Bool.and_eq_true, decide_eq_true_eq] at h3
      exact ⟨k, List.mem_range.1 hk, h3.1, h3.2⟩
    · rintro ⟨k, hk, h3, h4⟩
      refine ⟨k, List.mem_range.2 hk, ?_⟩
      simp [h3, h4]
  have h3 : (∃ j, j < n ∧ B j ≠ [] ∧ (B j).dropLast = B i) ↔ ∃ k, k < n ∧ k ≠ i ∧ B i <+: B k := by
    constructor
    · rintro ⟨j, hj, h4, h5⟩
      refine ⟨j, hj, fun e => ?_, h5 ▸ List.dropLast_prefix _⟩
      have h6 := congrArg List.length h5
      rw [List.length_dropLast, e] at h6
      have : 0 < (B i).length := List.length_pos_iff.2 (e ▸ h4)
      omega
    · rintro ⟨k, hk, h4, h5⟩
      obtain ⟨a, ha, hs⟩ := ht.way (B k)
      have hfull := (ha.whole ht hs).2 ⟨k, hk, rfl⟩
      have hlt : (B i).length < (B k).length := by
        have h6 := h5.length_le
        refine Nat.lt_of_le_of_ne h6 fun e => h4 ?_
        exact (ht.inj i k hi hk (h5.eq_of_length e)).symm
      obtain ⟨j, hj⟩ : ∃ j, a[(B i).length + 1]? = some j := ⟨_, List.getElem?_eq_getElem (by omega)⟩
      obtain ⟨g1, g2⟩ := ha.ok _ _ hj
      refine ⟨j, g1, fun e => ?_, ?_⟩
      · rw [g2] at e
        have h6 := congrArg List.length e
        rw [List.length_take, List.length_nil] at h6
        omega
      · rw [g2, List.dropLast_eq_take, List.length_take, List.take_take, show min (min ((B i).length + 1) (B k).length - 1) ((B i).length + 1) = (B i).length by omega]
        exact (List.prefix_iff_eq_take.1 h5).symm
  cases hb : ((List.range n).any fun k => decide (k ≠ i) && decide (B i <+: B k)) with
  | true => exact h1.2 (h3.2 (h2.1 hb))
  | false =>
    cases hl : leafB n B i with
    | true => rfl
    | false => rw [h2.2 (h3.1 (h1.1 hl))] at hb; cases hb
theorem list_is (ht : Tri n K B Up Y D) (h : RI kd n B V W U G) (hkd : kd = 1 ∨ kd = 2) : ((List.range G.length).filter (keepR kd W U G)).map (G.getD · []) = ((List.range n).filter (keepB kd n B V)).map B := by
  have hgl : G.length = n := by rw [h.g]; simp
  have hgd : ∀ i, i < n → G.getD i [] = B i := fun i hi => by
    rw [h.g, List.getD_eq_getElem?_getD, List.getElem?_map, List.getElem?_range hi]
    rfl
  have hk : ∀ i, i < n → keepR kd W U G i = keepB kd n B V i := fun i hi => by
    unfold keepR keepB
    rw [hgd i hi, hgl]
    have hany : ((List.range n).any fun k => decide (k ≠ i) && decide (B i <+: G.getD k [])) = ((List.range n).any fun k => decide (k ≠ i) && decide (B i <+: B k)) := by
      rw [Bool.eq_iff_iff, List.any_eq_true, List.any_eq_true]
      constructor
      · rintro ⟨k, h1, h2⟩
        rw [hgd k (List.mem_range.1 h1)] at h2
        exact ⟨k, h1, h2⟩
      · rintro ⟨k, h1, h2⟩
        refine ⟨k, h1, ?_⟩
        rw [hgd k (List.mem_range.1 h1)]
        exact h2
    obtain ⟨a, ha, hs⟩ := ht.way (B i)
    obtain ⟨g1, g2⟩ := node_way ht ha hs hi rfl
    rw [h.find _ _ ha hs, hany]
    rcases hkd with rfl | rfl
    · rw [tell_1 g1 g2, if_pos rfl]
      by_cases hv : V i < 0
      · rw [if_pos hv]
        show (false && _) = _
        rw [Bool.false_and]
        exact (decide_eq_false (by omega)).symm
      · rw [if_neg hv]
        show (true && !(false && _)) = _
        rw [Bool.false_and]
        exact (decide_eq_true (by omega)).symm
    · rw [if_neg (by decide), leaf_ext ht hi]
      unfold tellF
      rw [if_pos g1, if_neg (by decide)]
      simp
  rw [hgl, List.filter_congr (fun i hi => hk i (List.mem_range.1 hi))]
  refine List.map_congr_left fun i hi => hgd i ?_
  exact List.mem_range.1 (List.mem_filter.1 hi).1
end
end Go.Proofs.Ytdijkhamebkfjaa.X
end

section
namespace Go.Proofs.Ytdijkhamebkfjaa.X
open Go.RowKit Go.Proofs.YtdijkhamebkfjaaW.PrintWords Go.Proofs.YtdijkhamebkfjaaW.PrintLast Go.Proofs.YtdijkhamebkfjaaW.PrintMore
open Go.Proofs.Ytdijkhamebkfjaa Go.Proofs.Ytdijkhamebkfjaa.Sp
def zeroR : Array Value := #[.int .i64 0, .int .i64 0, .int .i64 0, .int .i64 0, .slice none 0 0, .slice none 0 0, .int .i64 0, .slice none 0 0, .slice none 0 0, .slice none 0 0, .int .i64 0, .int .i64 0]
def RNewErrPost (w : World) (x : Int) : Ending → World → Prop := fun e w' => e = .returned (.tuple #[.agg zeroR, .int .i64 x]) ∧ Below w.heap.size w w'
def RNewPost (w : World) (kd : Int) (K : Nat) (O : Int) (most : Nat) : Ending → World → Prop := fun e w' => ∃ (P : Nat → Prop) (AG : Option Addr) (cG : Nat), e = .returned (.tuple #[.agg (stR kd K O most 0 0 (.slice none 0 0) (.slice none 0 0) (.slice AG 1 cG)), .int .i64 0]) ∧ Wl P w' (.slice AG 1 cG) [[]] ∧ (∀ k, P k → w.heap.size ≤ k ∧ k < w'.heap.size) ∧ Below w.heap.size w w'
theorem kl_rep {P : Nat → Prop} {w W : World} {base : Nat} {ok : Nat → Prop} {l : List Int} {A : Option Addr} {c : Nat} (hc : l.length ≤ c) (hd : Wd P w A l) : Reps ((kL P w).M W base ok) (kL P w).sz [l] [.slice A l.length c] := ⟨rfl, fun j p hj => by
  cases j with
  | zero =>
    simp only [List.getElem?_cons_zero, Option.some.injEq] at hj
    subst hj
    exact ⟨A, c, rfl, hc, hd⟩
  | succ j => simp at hj⟩
theorem Wd.none_ (P : Nat → Prop) (w : World) (A : Option Addr) : Wd P w A [] := fun w1 _ => ⟨rfl, by decide, fun h => absurd h (Nat.lt_irrefl 0)⟩
attribute [local go_sem] max2_int min2_int max_two min_two max_three min_three max_four min_four
set_option maxHeartbeats 16000000 in
set_option maxRecDepth 100000 in
theorem RNew_bad1 (kd K O most : Int) (w : World) (h1 : kd ≠ 1) (h2 : kd ≠ 2) : Calls Try.prog 23 #[.int .i64 kd, .int .i64 K, .int .i64 O, .int .i64 most] w (RNewErrPost w 30) := by
  have e1 : (kd != 1) = true := by simpa using h1
  have e2 : (kd != 2) = true := by simpa using h2
  clear h1 h2
  have hu50 := Try.underlying50
  have hu24 := Try.underlying24
  obtain ⟨z50, i50⟩ := zero_of_info info50
  go_enter Try.func23, Try.ntmps23
  go_wp2_with (first
  | ((with_reducible refine gate_store (t := 50) (p := 8) rfl ?_)
     refine wpList_store_rowTo rfl 50 (.tmp 8) (.tmp 16) rfl rfl w.heap.size #[.int .i64 0, .int .i64 0, .int .i64 0, .int .i64 0, .slice none 0 0, .slice none 0 0, .int .i64 0, .slice none 0 0, .slice none 0 0, .slice none 0 0, .int .i64 0, .int .i64 0] rfl rfl 50 _ (blk_new w _) ?_ ?_ (by simp [Value.oneCell']) ?_
     (focus (rw [i50]; rfl))
     (focus rfl)
     rw [World.setRow_alloc_new]))
  refine bodyPost_ret (results_ct rfl _ _ w.heap.size 50 #[.int .i64 0, .int .i64 0, .int .i64 0, .int .i64 0, .slice none 0 0, .slice none 0 0, .int .i64 0, .slice none 0 0, .slice none 0 0, .slice none 0 0, .int .i64 0, .int .i64 0] (0, 0) _ rfl (blk_new w _) Try.underlying50 rfl (by kernel_rfl)) rfl ?_
  exact ⟨rfl, below_alloc (Below.refl _ _) _⟩
set_option maxHeartbeats 16000000 in
set_option maxRecDepth 100000 in
theorem RNew_bad2a (kd K O most : Int) (w : World) (hkd : kd = 1 ∨ kd = 2) (h : K < 1) : Calls Try.prog 23 #[.int .i64 kd, .int .i64 K, .int .i64 O, .int .i64 most] w (RNewErrPost w 1) := by
  rcases hkd with rfl | rfl
  · skip
    have hu50 := Try.underlying50
    have hu24 := Try.underlying24
    obtain ⟨z50, i50⟩ := zero_of_info info50
    go_enter Try.func23, Try.ntmps23
    go_wp2_with (first
    | ((with_reducible refine gate_store (t := 50) (p := 8) rfl ?_)
       refine wpList_store_rowTo rfl 50 (.tmp 8) (.tmp 23) rfl rfl w.heap.size #[.int .i64 0, .int .i64 0, .int .i64 0, .int .i64 0, .slice none 0 0, .slice none 0 0, .int .i64 0, .slice none 0 0, .slice none 0 0, .slice none 0 0, .int .i64 0, .int .i64 0] rfl rfl 50 _ (blk_new w _) ?_ ?_ (by simp [Value.oneCell']) ?_
       (focus (rw [i50]; rfl))
       (focus rfl)
       rw [World.setRow_alloc_new]))
    refine bodyPost_ret (results_ct rfl _ _ w.heap.size 50 #[.int .i64 0, .int .i64 0, .int .i64 0, .int .i64 0, .slice none 0 0, .slice none 0 0, .int .i64 0, .slice none 0 0, .slice none 0 0, .slice none 0 0, .int .i64 0, .int .i64 0] (0, 0) _ rfl (blk_new w _) Try.underlying50 rfl (by kernel_rfl)) rfl ?_
    exact ⟨rfl, below_alloc (Below.refl _ _) _⟩
  · skip
    have hu50 := Try.underlying50
    have hu24 := Try.underlying24
    obtain ⟨z50, i50⟩ := zero_of_info info50
    go_enter Try.func23, Try.ntmps23
    go_wp2_with (first
    | ((with_reducible refine gate_store (t := 50) (p := 8) rfl ?_)
       refine wpList_store_rowTo rfl 50 (.tmp 8) (.tmp 23) rfl rfl w.heap.size #[.int .i64 0, .int .i64 0, .int .i64 0, .int .i64 0, .slice none 0 0, .slice none 0 0, .int .i64 0, .slice none 0 0, .slice none 0 0, .slice none 0 0, .int .i64 0, .int .i64 0] rfl rfl 50 _ (blk_new w _) ?_ ?_ (by simp [Value.oneCell']) ?_
       (focus (rw [i50]; rfl))
       (focus rfl)
       rw [World.setRow_alloc_new]))
    refine bodyPost_ret (results_ct rfl _ _ w.heap.size 50 #[.int .i64 0, .int .i64 0, .int .i64 0, .int .i64 0, .slice none 0 0, .slice none 0 0, .int .i64 0, .slice none 0 0, .slice none 0 0, .slice none 0 0, .int .i64 0, .int .i64 0] (0, 0) _ rfl (blk_new w _) Try.underlying50 rfl (by kernel_rfl)) rfl ?_
    exact ⟨rfl, below_alloc (Below.refl _ _) _⟩
set_option maxHeartbeats 16000000 in
set_option maxRecDepth 100000 in
theorem RNew_bad2b (kd K O most : Int) (w : World) (hkd : kd = 1 ∨ kd = 2) (h0 : ¬ K < 1) (h : K > 64) : Calls Try.prog 23 #[.int .i64 kd, .int .i64 K, .int .i64 O, .int .i64 most] w (RNewErrPost w 1) := by
  rcases hkd with rfl | rfl
  · skip
    have hu50 := Try.underlying50
    have hu24 := Try.underlying24
    obtain ⟨z50, i50⟩ := zero_of_info info50
    go_enter Try.func23, Try.ntmps23
    go_wp2_with (first
    | ((with_reducible refine gate_store (t := 50) (p := 8) rfl ?_)
       refine wpList_store_rowTo rfl 50 (.tmp 8) (.tmp 23) rfl rfl w.heap.size #[.int .i64 0, .int .i64 0, .int .i64 0, .int .i64 0, .slice none 0 0, .slice none 0 0, .int .i64 0, .slice none 0 0, .slice none 0 0, .slice none 0 0, .int .i64 0, .int .i64 0] rfl rfl 50 _ (blk_new w _) ?_ ?_ (by simp [Value.oneCell']) ?_
       (focus (rw [i50]; rfl))
       (focus rfl)
       rw [World.setRow_alloc_new]))
    refine bodyPost_ret (results_ct rfl _ _ w.heap.size 50 #[.int .i64 0, .int .i64 0, .int .i64 0, .int .i64 0, .slice none 0 0, .slice none 0 0, .int .i64 0, .slice none 0 0, .slice none 0 0, .slice none 0 0, .int .i64 0, .int .i64 0] (0, 0) _ rfl (blk_new w _) Try.underlying50 rfl (by kernel_rfl)) rfl ?_
    exact ⟨rfl, below_alloc (Below.refl _ _) _⟩
  · skip
    have hu50 := Try.underlying50
    have hu24 := Try.underlying24
    obtain ⟨z50, i50⟩ := zero_of_info info50
    go_enter Try.func23, Try.ntmps23
    go_wp2_with (first
    | ((with_reducible refine gate_store (t := 50) (p := 8) rfl ?_)
       refine wpList_store_rowTo rfl 50 (.tmp 8) (.tmp 23) rfl rfl w.heap.size #[.int .i64 0, .int .i64 0, .int .i64 0, .int .i64 0, .slice none 0 0, .slice none 0 0, .int .i64 0, .slice none 0 0, .slice none 0 0, .slice none 0 0, .int .i64 0, .int .i64 0] rfl rfl 50 _ (blk_new w _) ?_ ?_ (by simp [Value.oneCell']) ?_
       (focus (rw [i50]; rfl))
       (focus rfl)
       rw [World.setRow_alloc_new]))
    refine bodyPost_ret (results_ct rfl _ _ w.heap.size 50 #[.int .i64 0, .int .i64 0, .int .i64 0, .int .i64 0, .slice none 0 0, .slice none 0 0, .int .i64 0, .slice none 0 0, .slice none 0 0, .slice none 0 0, .int .i64 0, .int .i64 0] (0, 0) _ rfl (blk_new w _) Try.underlying50 rfl (by kernel_rfl)) rfl ?_
    exact ⟨rfl, below_alloc (Below.refl _ _) _⟩
set_option maxHeartbeats 16000000 in
set_option maxRecDepth 100000 in
theorem RNew_bad3a (kd K O most : Int) (w : World) (hkd : kd = 1) (k0 : ¬ K < 1) (k1 : ¬ K > 64) (h : O ≠ 2) : Calls Try.prog 23 #[.int .i64 kd, .int .i64 K, .int .i64 O, .int .i64 most] w (RNewErrPost w 33) := by
  subst hkd
  have e1 : (O != 2) = true := by simpa using h
  clear h
  have hu50 := Try.underlying50
  have hu24 := Try.underlying24
  obtain ⟨z50, i50⟩ := zero_of_info info50
  go_enter Try.func23, Try.ntmps23
  go_wp2_with (first
  | ((with_reducible refine gate_store (t := 50) (p := 8) rfl ?_)
     refine wpList_store_rowTo rfl 50 (.tmp 8) (.tmp 38) rfl rfl w.heap.size #[.int .i64 0, .int .i64 0, .int .i64 0, .int .i64 0, .slice none 0 0, .slice none 0 0, .int .i64 0, .slice none 0 0, .slice none 0 0, .slice none 0 0, .int .i64 0, .int .i64 0] rfl rfl 50 _ (blk_new w _) ?_ ?_ (by simp [Value.oneCell']) ?_
     (focus (rw [i50]; rfl))
     (focus rfl)
     rw [World.setRow_alloc_new]))
  refine bodyPost_ret (results_ct rfl _ _ w.heap.size 50 #[.int .i64 0, .int .i64 0, .int .i64 0, .int .i64 0, .slice none 0 0, .slice none 0 0, .int .i64 0, .slice none 0 0, .slice none 0 0, .slice none 0 0, .int .i64 0, .int .i64 0] (0, 0) _ rfl (blk_new w _) Try.underlying50 rfl (by kernel_rfl)) rfl ?_
  exact ⟨rfl, below_alloc (Below.refl _ _) _⟩
set_option maxHeartbeats 16000000 in
set_option maxRecDepth 100000 in
theorem RNew_bad3b (kd K O most : Int) (w : World) (hkd : kd = 2) (k0 : ¬ K < 1) (k1 : ¬ K > 64) (h : O < 1) : Calls Try.prog 23 #[.int .i64 kd, .int .i64 K, .int .i64 O, .int .i64 most] w (RNewErrPost w 33) := by
  subst hkd
  have hu50 := Try.underlying50
  have hu24 := Try.underlying24
  obtain ⟨z50, i50⟩ := zero_of_info info50
  go_enter Try.func23, Try.ntmps23
  go_wp2_with (first
  | ((with_reducible refine gate_store (t := 50) (p := 8) rfl ?_)
     refine wpList_store_rowTo rfl 50 (.tmp 8) (.tmp 38) rfl rfl w.heap.size #[.int .i64 0, .int .i64 0, .int .i64 0, .int .i64 0, .slice none 0 0, .slice none 0 0, .int .i64 0, .slice none 0 0, .slice none 0 0, .slice none 0 0, .int .i64 0, .int .i64 0] rfl rfl 50 _ (blk_new w _) ?_ ?_ (by simp [Value.oneCell']) ?_
     (focus (rw [i50]; rfl))
     (focus rfl)
     rw [World.setRow_alloc_new]))
  refine bodyPost_ret (results_ct rfl _ _ w.heap.size 50 #[.int .i64 0, .int .i64 0, .int .i64 0, .int .i64 0, .slice none 0 0, .slice none 0 0, .int .i64 0, .slice none 0 0, .slice none 0 0, .slice none 0 0, .int .i64 0, .int .i64 0] (0, 0) _ rfl (blk_new w _) Try.underlying50 rfl (by kernel_rfl)) rfl ?_
  exact ⟨rfl, below_alloc (Below.refl _ _) _⟩
set_option maxHeartbeats 16000000 in
set_option maxRecDepth 100000 in
theorem RNew_bad3c (kd K O most : Int) (w : World) (hkd : kd = 2) (k0 : ¬ K < 1) (k1 : ¬ K > 64) (h0 : ¬ O < 1) (h : O > 64) : Calls Try.prog 23 #[.int .i64 kd, .int .i64 K, .int .i64 O, .int .i64 most] w (RNewErrPost w 33) := by
  subst hkd
  have hu50 := Try.underlying50
  have hu24 := Try.underlying24
  obtain ⟨z50, i50⟩ := zero_of_info info50
  go_enter Try.func23, Try.ntmps23
  go_wp2_with (first
  | ((with_reducible refine gate_store (t := 50) (p := 8) rfl ?_)
     refine wpList_store_rowTo rfl 50 (.tmp 8) (.tmp 38) rfl rfl w.heap.size #[.int .i64 0, .int .i64 0, .int .i64 0, .int .i64 0, .slice none 0 0, .slice none 0 0, .int .i64 0, .slice none 0 0, .slice none 0 0, .slice none 0 0, .int .i64 0, .int .i64 0] rfl rfl 50 _ (blk_new w _) ?_ ?_ (by simp [Value.oneCell']) ?_
     (focus (rw [i50]; rfl))
     (focus rfl)
     rw [World.setRow_alloc_new]))
  refine bodyPost_ret (results_ct rfl _ _ w.heap.size 50 #[.int .i64 0, .int .i64 0, .int .i64 0, .int .i64 0, .slice none 0 0, .slice none 0 0, .int .i64 0, .slice none 0 0, .slice none 0 0, .slice none 0 0, .int .i64 0, .int .i64 0] (0, 0) _ rfl (blk_new w _) Try.underlying50 rfl (by kernel_rfl)) rfl ?_
  exact ⟨rfl, below_alloc (Below.refl _ _) _⟩
set_option maxHeartbeats 16000000 in
set_option maxRecDepth 100000 in
theorem RNew_bad4a (kd K O most : Int) (w : World) (hkd : kd = 1 ∨ kd = 2) (k0 : ¬ K < 1) (k1 : ¬ K > 64) (ho : kd = 1 → O = 2) (o0 : ¬ O < 1) (o1 : ¬ O > 64) (h : most < 1) : Calls Try.prog 23 #[.int .i64 kd, .int .i64 K, .int .i64 O, .int .i64 most] w (RNewErrPost w 3) := by
  rcases hkd with rfl | rfl
  · obtain rfl := ho rfl
    have hu50 := Try.underlying50
    have hu24 := Try.underlying24
    obtain ⟨z50, i50⟩ := zero_of_info info50
    go_enter Try.func23, Try.ntmps23
    go_wp2_with (first
    | ((with_reducible refine gate_store (t := 50) (p := 8) rfl ?_)
       refine wpList_store_rowTo rfl 50 (.tmp 8) (.tmp 45) rfl rfl w.heap.size #[.int .i64 0, .int .i64 0, .int .i64 0, .int .i64 0, .slice none 0 0, .slice none 0 0, .int .i64 0, .slice none 0 0, .slice none 0 0, .slice none 0 0, .int .i64 0, .int .i64 0] rfl rfl 50 _ (blk_new w _) ?_ ?_ (by simp [Value.oneCell']) ?_
       (focus (rw [i50]; rfl))
       (focus rfl)
       rw [World.setRow_alloc_new]))
    refine bodyPost_ret (results_ct rfl _ _ w.heap.size 50 #[.int .i64 0, .int .i64 0, .int .i64 0, .int .i64 0, .slice none 0 0, .slice none 0 0, .int .i64 0, .slice none 0 0, .slice none 0 0, .slice none 0 0, .int .i64 0, .int .i64 0] (0, 0) _ rfl (blk_new w _) Try.underlying50 rfl (by kernel_rfl)) rfl ?_
    exact ⟨rfl, below_alloc (Below.refl _ _) _⟩
  · clear ho
    have hu50 := Try.underlying50
    have hu24 := Try.underlying24
    obtain ⟨z50, i50⟩ := zero_of_info info50
    go_enter Try.func23, Try.ntmps23
    go_wp2_with (first
    | ((with_reducible refine gate_store (t := 50) (p := 8) rfl ?_)
       refine wpList_store_rowTo rfl 50 (.tmp 8) (.tmp 45) rfl rfl w.heap.size #[.int .i64 0, .int .i64 0, .int .i64 0, .int .i64 0, .slice none 0 0, .slice none 0 0, .int .i64 0, .slice none 0 0, .slice none 0 0, .slice none 0 0, .int .i64 0, .int .i64 0] rfl rfl 50 _ (blk_new w _) ?_ ?_ (by simp [Value.oneCell']) ?_
       (focus (rw [i50]; rfl))
       (focus rfl)
       rw [World.setRow_alloc_new]))
    refine bodyPost_ret (results_ct rfl _ _ w.heap.size 50 #[.int .i64 0, .int .i64 0, .int .i64 0, .int .i64 0, .slice none 0 0, .slice none 0 0, .int .i64 0, .slice none 0 0, .slice none 0 0, .slice none 0 0, .int .i64 0, .int .i64 0] (0, 0) _ rfl (blk_new w _) Try.underlying50 rfl (by kernel_rfl)) rfl ?_
    exact ⟨rfl, below_alloc (Below.refl _ _) _⟩
set_option maxHeartbeats 16000000 in
set_option maxRecDepth 100000 in
theorem RNew_bad4b (kd K O most : Int) (w : World) (hkd : kd = 1 ∨ kd = 2) (k0 : ¬ K < 1) (k1 : ¬ K > 64) (ho : kd = 1 → O = 2) (o0 : ¬ O < 1) (o1 : ¬ O > 64) (h0 : ¬ most < 1) (h : most > 1048576) : Calls Try.prog 23 #[.int .i64 kd, .int .i64 K, .int .i64 O, .int .i64 most] w (RNewErrPost w 3) := by
  rcases hkd with rfl | rfl
  · obtain rfl := ho rfl
    have hu50 := Try.underlying50
    have hu24 := Try.underlying24
    obtain ⟨z50, i50⟩ := zero_of_info info50
    go_enter Try.func23, Try.ntmps23
    go_wp2_with (first
    | ((with_reducible refine gate_store (t := 50) (p := 8) rfl ?_)
       refine wpList_store_rowTo rfl 50 (.tmp 8) (.tmp 45) rfl rfl w.heap.size #[.int .i64 0, .int .i64 0, .int .i64 0, .int .i64 0, .slice none 0 0, .slice none 0 0, .int .i64 0, .slice none 0 0, .slice none 0 0, .slice none 0 0, .int .i64 0, .int .i64 0] rfl rfl 50 _ (blk_new w _) ?_ ?_ (by simp [Value.oneCell']) ?_
       (focus (rw [i50]; rfl))
       (focus rfl)
       rw [World.setRow_alloc_new]))
    refine bodyPost_ret (results_ct rfl _ _ w.heap.size 50 #[.int .i64 0, .int .i64 0, .int .i64 0, .int .i64 0, .slice none 0 0, .slice none 0 0, .int .i64 0, .slice none 0 0, .slice none 0 0, .slice none 0 0, .int .i64 0, .int .i64 0] (0, 0) _ rfl (blk_new w _) Try.underlying50 rfl (by kernel_rfl)) rfl ?_
    exact ⟨rfl, below_alloc (Below.refl _ _) _⟩
  · clear ho
    have hu50 := Try.underlying50
    have hu24 := Try.underlying24
    obtain ⟨z50, i50⟩ := zero_of_info info50
    go_enter Try.func23, Try.ntmps23
    go_wp2_with (first
    | ((with_reducible refine gate_store (t := 50) (p := 8) rfl ?_)
       refine wpList_store_rowTo rfl 50 (.tmp 8) (.tmp 45) rfl rfl w.heap.size #[.int .i64 0, .int .i64 0, .int .i64 0, .int .i64 0, .slice none 0 0, .slice none 0 0, .int .i64 0, .slice none 0 0, .slice none 0 0, .slice none 0 0, .int .i64 0, .int .i64 0] rfl rfl 50 _ (blk_new w _) ?_ ?_ (by simp [Value.oneCell']) ?_
       (focus (rw [i50]; rfl))
       (focus rfl)
       rw [World.setRow_alloc_new]))
    refine bodyPost_ret (results_ct rfl _ _ w.heap.size 50 #[.int .i64 0, .int .i64 0, .int .i64 0, .int .i64 0, .slice none 0 0, .slice none 0 0, .int .i64 0, .slice none 0 0, .slice none 0 0, .slice none 0 0, .int .i64 0, .int .i64 0] (0, 0) _ rfl (blk_new w _) Try.underlying50 rfl (by kernel_rfl)) rfl ?_
    exact ⟨rfl, below_alloc (Below.refl _ _) _⟩
theorem RNew_bad (kd K O most : Int) (w : World) (h : newErr kd K O most ≠ 0) : Calls Try.prog 23 #[.int .i64 kd, .int .i64 K, .int .i64 O, .int .i64 most] w (RNewErrPost w (newErr kd K O most)) := by
  unfold newErr at h ⊢
  by_cases h1 : kd ≠ 1 ∧ kd ≠ 2
  · rw [if_pos h1]
    exact RNew_bad1 kd K O most w h1.1 h1.2
  · have hkd : kd = 1 ∨ kd = 2 := by omega
    rw [if_neg h1] at h ⊢
    by_cases h2 : K < 1 ∨ K > 64
    · rw [if_pos h2]
      by_cases h3 : K < 1
      · exact RNew_bad2a kd K O most w hkd h3
      · exact RNew_bad2b kd K O most w hkd h3 (by omega)
    · rw [if_neg h2] at h ⊢
      by_cases h3 : (kd = 1 ∧ O ≠ 2) ∨ O < 1 ∨ O > 64
      · rw [if_pos h3]
        by_cases h4 : kd = 1
        · exact RNew_bad3a kd K O most w h4 (by omega) (by omega) (by omega)
        · by_cases h5 : O < 1
          · exact RNew_bad3b kd K O most w (by omega) (by omega) (by omega) h5
          · exact RNew_bad3c kd K O most w (by omega) (by omega) (by omega) h5 (by omega)
      · rw [if_neg h3] at h ⊢
        by_cases h4 : most < 1 ∨ most > 1048576
        · rw [if_pos h4]
          by_cases h5 : most < 1
          · exact RNew_bad4a kd K O most w hkd (by omega) (by omega) (by omega) (by omega) (by omega) h5
          · exact RNew_bad4b kd K O most w hkd (by omega) (by omega) (by omega) (by omega) (by omega) h5 (by omega)
        · exact absurd (if_neg h4) h
set_option maxHeartbeats 16000000 in
set_option maxRecDepth 100000 in
theorem RNew_ok1 (K most : Nat) (w : World) (h1 : 1 ≤ K) (h2 : K ≤ 64) (h5 : 1 ≤ most) (h6 : most ≤ 1048576) : Calls Try.prog 23 #[.int .i64 1, .int .i64 (K : Int), .int .i64 2, .int .i64 (most : Int)] w (RNewPost w 1 K 2 most) := by
  have hu50 := Try.underlying50
  have hu24 := Try.underlying24
  have hu25 := Try.underlying25
  have hu22 := Try.underlying22
  obtain ⟨z50, i50⟩ := zero_of_info info50
  have g1 : ¬ (K : Int) < 1 := by omega
  have g2 : ¬ (K : Int) > 64 := by omega
  have g3 : ¬ (most : Int) < 1 := by omega
  have g4 : ¬ (most : Int) > 1048576 := by omega
  have HS0 : Aside0 (Sep w.heap.size [blk w.heap.size #[.int .i64 0, .int .i64 0, .int .i64 0, .int .i64 0, .slice none 0 0, .slice none 0 0, .int .i64 0, .slice none 0 0, .slice none 0 0, .slice none 0 0, .int .i64 0, .int .i64 0] 50, none_, none_] (w.alloc (.cells #[.int .i64 0, .int .i64 0, .int .i64 0, .int .i64 0, .slice none 0 0, .slice none 0 0, .int .i64 0, .slice none 0 0, .slice none 0 0, .slice none 0 0, .int .i64 0, .int .i64 0] 50))) := ⟨(Sep.start w.heap.size 3 w).fillBlk 0 rfl rfl (blk_new w (.cells #[.int .i64 0, .int .i64 0, .int .i64 0, .int .i64 0, .slice none 0 0, .slice none 0 0, .int .i64 0, .slice none 0 0, .slice none 0 0, .slice none 0 0, .int .i64 0, .int .i64 0] 50)) (below_alloc (Below.refl w.heap.size w) (.cells #[.int .i64 0, .int .i64 0, .int .i64 0, .int .i64 0, .slice none 0 0, .slice none 0 0, .int .i64 0, .slice none 0 0, .slice none 0 0, .slice none 0 0, .int .i64 0, .int .i64 0] 50)) (Nat.le_refl _)⟩
  have HB0 : Aside0 (Below w.heap.size w (w.alloc (.cells #[.int .i64 0, .int .i64 0, .int .i64 0, .int .i64 0, .slice none 0 0, .slice none 0 0, .int .i64 0, .slice none 0 0, .slice none 0 0, .slice none 0 0, .int .i64 0, .int .i64 0] 50))) := ⟨below_alloc (Below.refl _ _) _⟩
  clear h1 h2 h5 h6
  go_enter Try.func23, Try.ntmps23
  go_wp2_with (first
  | ((with_reducible refine gate_store (t := 50) (p := 8) rfl ?_)
     refine wpList_store_rowTo rfl 50 (.tmp 8) (.tmp 53) rfl rfl w.heap.size #[.int .i64 1, .int .i64 (K : Int), .int .i64 2, .int .i64 0, .slice none 0 0, .slice none 0 0, .int .i64 (most : Int), .slice none 0 0, .slice none 0 0, .slice A2 1 c2, .int .i64 0, .int .i64 0] rfl rfl 50 _ (HS2.out.get 0 rfl) ?_ ?_ (by simp [Value.oneCell']) ?_
     (focus (rw [i50]; rfl))
     (focus rfl)
     have HS3 := Aside0.mk (HS2.out.setStruct 0 rfl #[.int .i64 1, .int .i64 (K : Int), .int .i64 2, .int .i64 0, .slice none 0 0, .slice none 0 0, .int .i64 (most : Int), .slice none 0 0, .slice none 0 0, .slice A2 1 c2, .int .i64 0, .int .i64 0] HB2.out.size)
     have HB3 := Aside0.mk (below_setRow HB2.out (HS2.out.bound 0 rfl (show w.heap.size = w.heap.size from rfl)).1 #[.int .i64 1, .int .i64 (K : Int), .int .i64 2, .int .i64 0, .slice none 0 0, .slice none 0 0, .int .i64 (most : Int), .slice none 0 0, .slice none 0 0, .slice A2 1 c2, .int .i64 0, .int .i64 0])
     generalize World.setRow _ w.heap.size _ = w3 at HS3 HB3 ⊢)
  | ((with_reducible refine gate_dst (N := 52) rfl ?_)
     refine Kd.R_lit (kL (fun _ => False) w1) (w0 := w) w.heap.size 22 rfl (N := 52) rfl (xs := [([] : List Int)]) (inner := [.slice A1 0 c1]) (ok := fun _ => True) (okp := fun _ => True) ?hr ?hp (fun _ hk => hk) trivial HB1.out HB1.out.size (by simp) ?_
     (case hr => first | (go_simp; done) | (go_simp; rfl))
     (case hp => exact kl_rep (Nat.zero_le _) (Wd.none_ _ _ _))
     intro v2 w2 ho hb hg hnew
     obtain ⟨A2, c2, hv⟩ := Kd.R_slice ho
     have hv' : v2 = .slice A2 1 c2 := hv
     subst hv'
     have HS2 := Aside0.mk (HS1.out.fillNew 2 rfl rfl ho hg hnew HB1.out.size)
     have HB2 := Aside0.mk hb
     clear ho hb hg hnew hv)
  | ((with_reducible refine gate_dst (N := 51) rfl ?_)
     refine Kd.R_lit (Kd.int .i64) (w0 := w) w.heap.size 3 rfl (N := 51) rfl (xs := ([] : List Int)) (inner := []) (ok := fun _ => True) (okp := fun _ => True) ?hr ?hp (fun _ hk => hk) trivial HB0.out HB0.out.size (by simp) ?_
     (case hr => first | (go_simp; done) | (go_simp; rfl))
     (case hp => exact (Reps.none _ _))
     intro v1 w1 ho hb hg hnew
     obtain ⟨A1, c1, hv⟩ := Kd.R_slice ho
     have hv' : v1 = .slice A1 0 c1 := hv
     subst hv'
     have HS1 := Aside0.mk (HS0.out.fillNew 1 rfl rfl ho hg hnew HB0.out.size)
     have HB1 := Aside0.mk hb
     clear ho hb hg hnew hv))
  refine bodyPost_ret (results_ct rfl _ _ w.heap.size 50 #[.int .i64 1, .int .i64 (K : Int), .int .i64 2, .int .i64 0, .slice none 0 0, .slice none 0 0, .int .i64 (most : Int), .slice none 0 0, .slice none 0 0, .slice A2 1 c2, .int .i64 0, .int .i64 0] (0, 0) _ rfl (HS3.out.get 0 rfl) Try.underlying50 rfl (by kernel_rfl)) rfl ?_
  refine ⟨fun k => (Value.slice A2 1 c2).ownBlock = some k, A2, c2, rfl, Wl.of_R (kL_R (HS3.out.get 2 rfl) (fun _ hk => hk.elim) (fun _ hk => hk.elim)) (fun k hk => hk), fun k hk => HS3.out.bound 2 rfl (show some k = _ from hk.symm), HB3.out⟩
set_option maxHeartbeats 16000000 in
set_option maxRecDepth 100000 in
theorem RNew_ok2 (K most : Nat) (O : Int) (w : World) (h1 : 1 ≤ K) (h2 : K ≤ 64) (h5 : 1 ≤ most) (h6 : most ≤ 1048576) (h3 : ¬ O < 1) (h4 : ¬ O > 64) : Calls Try.prog 23 #[.int .i64 2, .int .i64 (K : Int), .int .i64 O, .int .i64 (most : Int)] w (RNewPost w 2 K O most) := by
  have hu50 := Try.underlying50
  have hu24 := Try.underlying24
  have hu25 := Try.underlying25
  have hu22 := Try.underlying22
  obtain ⟨z50, i50⟩ := zero_of_info info50
  have g1 : ¬ (K : Int) < 1 := by omega
  have g2 : ¬ (K : Int) > 64 := by omega
  have g3 : ¬ (most : Int) < 1 := by omega
  have g4 : ¬ (most : Int) > 1048576 := by omega
  have HS0 : Aside0 (Sep w.heap.size [blk w.heap.size #[.int .i64 0, .int .i64 0, .int .i64 0, .int .i64 0, .slice none 0 0, .slice none 0 0, .int .i64 0, .slice none 0 0, .slice none 0 0, .slice none 0 0, .int .i64 0, .int .i64 0] 50, none_, none_] (w.alloc (.cells #[.int .i64 0, .int .i64 0, .int .i64 0, .int .i64 0, .slice none 0 0, .slice none 0 0, .int .i64 0, .slice none 0 0, .slice none 0 0, .slice none 0 0, .int .i64 0, .int .i64 0] 50))) := ⟨(Sep.start w.heap.size 3 w).fillBlk 0 rfl rfl (blk_new w (.cells #[.int .i64 0, .int .i64 0, .int .i64 0, .int .i64 0, .slice none 0 0, .slice none 0 0, .int .i64 0, .slice none 0 0, .slice none 0 0, .slice none 0 0, .int .i64 0, .int .i64 0] 50)) (below_alloc (Below.refl w.heap.size w) (.cells #[.int .i64 0, .int .i64 0, .int .i64 0, .int .i64 0, .slice none 0 0, .slice none 0 0, .int .i64 0, .slice none 0 0, .slice none 0 0, .slice none 0 0, .int .i64 0, .int .i64 0] 50)) (Nat.le_refl _)⟩
  have HB0 : Aside0 (Below w.heap.size w (w.alloc (.cells #[.int .i64 0, .int .i64 0, .int .i64 0, .int .i64 0, .slice none 0 0, .slice none 0 0, .int .i64 0, .slice none 0 0, .slice none 0 0, .slice none 0 0, .int .i64 0, .int .i64 0] 50))) := ⟨below_alloc (Below.refl _ _) _⟩
  clear h1 h2 h5 h6
  go_enter Try.func23, Try.ntmps23
  go_wp2_with (first
  | ((with_reducible refine gate_store (t := 50) (p := 8) rfl ?_)
     refine wpList_store_rowTo rfl 50 (.tmp 8) (.tmp 53) rfl rfl w.heap.size #[.int .i64 2, .int .i64 (K : Int), .int .i64 O, .int .i64 0, .slice none 0 0, .slice none 0 0, .int .i64 (most : Int), .slice none 0 0, .slice none 0 0, .slice A2 1 c2, .int .i64 0, .int .i64 0] rfl rfl 50 _ (HS2.out.get 0 rfl) ?_ ?_ (by simp [Value.oneCell']) ?_
     (focus (rw [i50]; rfl))
     (focus rfl)
     have HS3 := Aside0.mk (HS2.out.setStruct 0 rfl #[.int .i64 2, .int .i64 (K : Int), .int .i64 O, .int .i64 0, .slice none 0 0, .slice none 0 0, .int .i64 (most : Int), .slice none 0 0, .slice none 0 0, .slice A2 1 c2, .int .i64 0, .int .i64 0] HB2.out.size)
     have HB3 := Aside0.mk (below_setRow HB2.out (HS2.out.bound 0 rfl (show w.heap.size = w.heap.size from rfl)).1 #[.int .i64 2, .int .i64 (K : Int), .int .i64 O, .int .i64 0, .slice none 0 0, .slice none 0 0, .int .i64 (most : Int), .slice none 0 0, .slice none 0 0, .slice A2 1 c2, .int .i64 0, .int .i64 0])
     generalize World.setRow _ w.heap.size _ = w3 at HS3 HB3 ⊢)
  | ((with_reducible refine gate_dst (N := 52) rfl ?_)
     refine Kd.R_lit (kL (fun _ => False) w1) (w0 := w) w.heap.size 22 rfl (N := 52) rfl (xs := [([] : List Int)]) (inner := [.slice A1 0 c1]) (ok := fun _ => True) (okp := fun _ => True) ?hr ?hp (fun _ hk => hk) trivial HB1.out HB1.out.size (by simp) ?_
     (case hr => first | (go_simp; done) | (go_simp; rfl))
     (case hp => exact kl_rep (Nat.zero_le _) (Wd.none_ _ _ _))
     intro v2 w2 ho hb hg hnew
     obtain ⟨A2, c2, hv⟩ := Kd.R_slice ho
     have hv' : v2 = .slice A2 1 c2 := hv
     subst hv'
     have HS2 := Aside0.mk (HS1.out.fillNew 2 rfl rfl ho hg hnew HB1.out.size)
     have HB2 := Aside0.mk hb
     clear ho hb hg hnew hv)
  | ((with_reducible refine gate_dst (N := 51) rfl ?_)
     refine Kd.R_lit (Kd.int .i64) (w0 := w) w.heap.size 3 rfl (N := 51) rfl (xs := ([] : List Int)) (inner := []) (ok := fun _ => True) (okp := fun _ => True) ?hr ?hp (fun _ hk => hk) trivial HB0.out HB0.out.size (by simp) ?_
     (case hr => first | (go_simp; done) | (go_simp; rfl))
     (case hp => exact (Reps.none _ _))
     intro v1 w1 ho hb hg hnew
     obtain ⟨A1, c1, hv⟩ := Kd.R_slice ho
     have hv' : v1 = .slice A1 0 c1 := hv
     subst hv'
     have HS1 := Aside0.mk (HS0.out.fillNew 1 rfl rfl ho hg hnew HB0.out.size)
     have HB1 := Aside0.mk hb
     clear ho hb hg hnew hv))
  refine bodyPost_ret (results_ct rfl _ _ w.heap.size 50 #[.int .i64 2, .int .i64 (K : Int), .int .i64 O, .int .i64 0, .slice none 0 0, .slice none 0 0, .int .i64 (most : Int), .slice none 0 0, .slice none 0 0, .slice A2 1 c2, .int .i64 0, .int .i64 0] (0, 0) _ rfl (HS3.out.get 0 rfl) Try.underlying50 rfl (by kernel_rfl)) rfl ?_
  refine ⟨fun k => (Value.slice A2 1 c2).ownBlock = some k, A2, c2, rfl, Wl.of_R (kL_R (HS3.out.get 2 rfl) (fun _ hk => hk.elim) (fun _ hk => hk.elim)) (fun k hk => hk), fun k hk => HS3.out.bound 2 rfl (show some k = _ from hk.symm), HB3.out⟩
theorem RNew_ok (kd : Int) (K : Nat) (O : Int) (most : Nat) (w : World) (h : newErr kd (K : Int) O (most : Int) = 0) : Calls Try.prog 23 #[.int .i64 kd, .int .i64 (K : Int), .int .i64 O, .int .i64 (most : Int)] w (RNewPost w kd K O most) := by
  obtain ⟨h1, h2, h3, h4, h5, h6, h7, h8⟩ := newErr_ok h
  rcases h1 with rfl | rfl
  · obtain rfl := h4 rfl
    exact RNew_ok1 K most w (by omega) (by omega) (by omega) (by omega)
  · exact RNew_ok2 K most O w (by omega) (by omega) (by omega) (by omega) h5 h6
end Go.Proofs.Ytdijkhamebkfjaa.X
end
