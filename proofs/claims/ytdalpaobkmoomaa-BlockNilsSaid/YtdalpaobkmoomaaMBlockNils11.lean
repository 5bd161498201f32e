/- Texts of the statement BlockNils, one behind the other: Go functions as Lean functions, the machine's calls, the plain law. -/
import Derived.Test.YtdalpaobkmoomaaMBlockNils4
import Derived.Test.YtdalpaobkmoomaaMBlockNils7
import Derived.Test.YtdalpaobkmoomaaMBlockNils10
set_option linter.unusedVariables false
set_option linter.unusedSimpArgs false
section
namespace Go.Proofs.Ytdalpaobkmoomaa.X
open Go.RowKit Go.Proofs.YtdalpaobkmoomaaW.PrintWords Go.Proofs.YtdalpaobkmoomaaW.PrintLast Go.Proofs.YtdalpaobkmoomaaW.PrintMore
open Go.Proofs.Ytdalpaobkmoomaa Go.Proofs.Ytdalpaobkmoomaa.Sp
set_option maxRecDepth 100000 in
theorem Split_nil (A : Option Addr) (n c : Nat) (w : World) : Calls Try.prog 12 #[.pointer none, .slice A n c] w fun e w' => e = .returned (.tuple #[.slice none 0 0, .int .i64 5]) ∧ Below w.heap.size w w' := by
  go_enter Try.func12, Try.ntmps12
  go_wp2
  go_ret2
  exact ⟨rfl, Below.refl _ _⟩
theorem All_nil (w : World) : Calls Try.prog 13 #[.pointer none] w fun e w' => e = .returned (.slice none 0 0) ∧ Below w.heap.size w w' := by
  go_enter Try.func13, Try.ntmps13
  go_wp2
  go_ret
  exact ⟨rfl, Below.refl _ _⟩
theorem Count_nil (w : World) : Calls Try.prog 17 #[.pointer none] w fun e w' => e = .returned (.int .i64 0) ∧ Below w.heap.size w w' := by
  go_enter Try.func17, Try.ntmps17
  go_wp2
  go_ret
  exact ⟨rfl, Below.refl _ _⟩
theorem Class_nil (i : Int) (w : World) : Calls Try.prog 22 #[.pointer none, .int .i64 i] w fun e w' => e = .returned (.tuple #[.int .i64 0, .int .i64 5]) ∧ Below w.heap.size w w' := by
  go_enter Try.func22, Try.ntmps22
  go_wp2
  try rw [Exit.noGoto_ret]
  go_ret2
  exact ⟨rfl, Below.refl _ _⟩
theorem Members_nil (i : Int) (w : World) : Calls Try.prog 14 #[.pointer none, .int .i64 i] w fun e w' => e = .returned (.tuple #[.slice none 0 0, .int .i64 5]) ∧ Below w.heap.size w w' := by
  go_enter Try.func14, Try.ntmps14
  go_wp2
  try rw [Exit.noGoto_ret]
  go_ret2
  exact ⟨rfl, Below.refl _ _⟩
attribute [local go_sem] max2_int min2_int max_two min_two max_three min_three max_four min_four
set_option maxHeartbeats 8000000 in
set_option maxRecDepth 100000 in
theorem Count_walk (base : Nat) (own : Nat → Prop) (g n N : Nat) (C : Nat → Nat) (w : World) (h : (part base own g n N C).at_ w) : Calls Try.prog 17 #[.pointer (some ⟨g, 0, none⟩)] w fun e w' => e = .returned (.int .i64 (N : Int)) ∧ Below w.heap.size w w' := by
  obtain ⟨R, P, A, B, gr, cr, gp, cp, gc, gs, cs, hi, hs, _⟩ := h
  have hu64 := Try.underlying64
  have hx : w.cell? ⟨g, 3, none⟩ = some (.slice (some ⟨gs, 0, none⟩) N cs) := (blk_cell (hs.get 0 rfl) 3).trans rfl
  clear hs hi
  go_enter Try.func17, Try.ntmps17
  go_wp2
  go_ret
  exact ⟨rfl, Below.refl _ _⟩
set_option maxHeartbeats 8000000 in
set_option maxRecDepth 100000 in
theorem All_walk (base : Nat) (own : Nat → Prop) (g n N : Nat) (C : Nat → Nat) (w : World) (h : (part base own g n N C).at_ w) (hn : n ≤ 65536) : Calls Try.prog 13 #[.pointer (some ⟨g, 0, none⟩)] w (RowPost w (lst n C)) := by
  obtain ⟨R, P, A, B, gr, cr, gp, cp, gc, gs, cs, hi, hs, _⟩ := h
  have hu64 := Try.underlying64
  have hx : w.cell? ⟨g, 2, none⟩ = some (.slice (some ⟨gc, 0, none⟩) n n) := (blk_cell (hs.get 0 rfl) 2).trans rfl
  have hcl := Clone_calls (some ⟨gc, 0, none⟩) n (lst n C) w (nums_C (hs.get 3 rfl) (by rw [lst_len]; omega)) (by rw [lst_len]; omega) (by rw [lst_len]; omega)
  rw [lst_len] at hcl
  have hcl' : Calls Try.prog 31 #[.slice (some ⟨gc, 0, none⟩) n n] w fun e w' => ∃ v, e = .returned v ∧ Kd.R (Kd.int .i64) 3 w' w.heap.size (fun _ => True) v (lst n C) ∧ Below w.heap.size w w' := hcl
  clear hs hi hcl
  go_enter Try.func13, Try.ntmps13
  go_wp2_with (go_at_call 31; with_reducible refine hcl'.mono ?_; rintro e w1 ⟨v, rfl, hR, hb⟩)
  go_ret
  exact ⟨v, rfl, hR, hb⟩
end Go.Proofs.Ytdalpaobkmoomaa.X
end

section
namespace Go.Proofs.Ytdalpaobkmoomaa.X
open Go.RowKit Go.Proofs.YtdalpaobkmoomaaW.PrintWords Go.Proofs.YtdalpaobkmoomaaW.PrintLast Go.Proofs.YtdalpaobkmoomaaW.PrintMore
open Go.Proofs.Ytdalpaobkmoomaa Go.Proofs.Ytdalpaobkmoomaa.Sp
theorem rd_nat {xs : List Int} {i : Nat} (h : i < xs.length) : rd xs (i : Int) = xs[i] := by simp [rd, List.getD_eq_getElem?_getD, List.getElem?_eq_getElem h]
theorem same_l0 (a b : List Int) (hl : a.length = b.length) (hb : a.length ≤ 1000000000) : ∀ (d k i : Nat), i + d = a.length → d < k → tutorref01_Same.l0 k a b (i : Int) = some (decide (a.drop i = b.drop i)) := by
  intro d
  induction d with
  | zero =>
    intro k i h hk
    obtain ⟨k, rfl⟩ : ∃ m, k = m + 1 := ⟨k - 1, by omega⟩
    simp only [tutorref01_Same.l0]
    rw [if_neg (by omega), List.drop_of_length_le (by omega), List.drop_of_length_le (by omega)]
    rfl
  | succ d ih =>
    intro k i h hk
    obtain ⟨k, rfl⟩ : ∃ m, k = m + 1 := ⟨k - 1, by omega⟩
    simp only [tutorref01_Same.l0]
    have hda : a.drop i = a[i]'(by omega) :: a.drop (i + 1) := List.drop_eq_getElem_cons (by omega)
    have hdb : b.drop i = b[i]'(by omega) :: b.drop (i + 1) := List.drop_eq_getElem_cons (by omega)
    rw [if_pos (by omega), if_pos (by omega), if_pos (by omega), rd_nat (by omega), rd_nat (by omega), hda, hdb]
    by_cases he : a[i]'(by omega) = b[i]'(by omega)
    · rw [if_pos he, w64s (by omega), ih k (i + 1) (by omega) (by omega), he]
      congr 1
      exact decide_eq_decide.2 ⟨fun h => by rw [h], fun h => (List.cons.inj h).2⟩
    · rw [if_neg he]
      congr 1
      exact (decide_eq_false (fun h => he (List.cons.inj h).1)).symm
theorem same_f {a b : List Int} {k : Nat} (hb : a.length ≤ 1000000000) (hk : a.length < k) : tutorref01_Same.f k a b = some (decide (a = b)) := by
  unfold tutorref01_Same.f
  by_cases hl : a.length = b.length
  · rw [if_pos (by omega)]
    have := same_l0 a b hl hb a.length k 0 (by omega) hk
    simpa using this
  · rw [if_neg (by omega)]
    have : a ≠ b := fun h => hl (by rw [h])
    simp [this]
/-- Same of two rows, with lengths as they are told. -/
theorem same_calls (A0 : Option Addr) (n c0 : Nat) (a : List Int) (A1 : Option Addr) (m c1 : Nat) (b : List Int) (w : World) (h0 : Kd.C (Kd.int .i64) w A0 n a) (hc0 : n ≤ c0) (h1 : Kd.C (Kd.int .i64) w A1 m b) (hc1 : m ≤ c1) (hl : n ≤ 1000000000) :
    Calls Try.prog 16 #[.slice A0 n c0, .slice A1 m c1] w fun e w' => e = .returned (.bool (decide (a = b))) ∧ Drawn0 w w' := by
  have e0 := Kd.C_len h0
  have e1 := Kd.C_len h1
  subst e0
  subst e1
  exact tutorref01_Same.calls (a.length + 1) A0 c0 a A1 c1 b _ w h0 hc0 h1 hc1 (same_f hl (by omega))
/-- The reading of a row of the call's own. -/
theorem row_C {w : World} {base : Nat} {ok : Nat → Prop} {A : Option Addr} {n c : Nat} {xs : List Int} (h : Kd.R (Kd.int .i64) 3 w base ok (.slice A n c) xs) : Kd.C (Kd.int .i64) w A n xs ∧ n ≤ c := by
  obtain ⟨h1, h2, h3⟩ := Kd.R_reads' h
  exact ⟨h1 ▸ h3, h2⟩
theorem lit_C {w : World} {g n : Nat} {xs : List Int} {cs : Array Value} (h : w.heap[g]? = some (.cells cs 3 (0, 0))) (e : cs = numsA xs) (hn : n = xs.length) (hm : n ≤ 1000000000) : Kd.C (Kd.int .i64) w (some ⟨g, 0, none⟩) n xs := by
  subst e
  subst hn
  exact nums_C h (by omega)
/-- A piece that a call turned, and a row that it answered. -/
theorem Sep.turn {base : Nat} {own : Nat → Prop} {rs : List Res} {w w1 : World} {p p' m : Res} (h : Sep base rs w) (i j : Nat) (hi : rs[i]? = some p) (hp : ∀ k, p.own k → own k) (hp2 : ∀ k, own k → p.own k) (hj : rs[j]? = some none_) (hij : i ≠ j) (hh : Hold base own w [m, p'] w1) : Sep base ((rs.set i p').set j m) w1 := by
  have hil := (List.getElem?_eq_some_iff.1 hi).1
  have hjl := (List.getElem?_eq_some_iff.1 hj).1
  have hget : ∀ a x, ((rs.set i p').set j m)[a]? = some x → (a = j ∧ x = m) ∨ (a ≠ j ∧ a = i ∧ x = p') ∨ (a ≠ j ∧ a ≠ i ∧ rs[a]? = some x) := by
    intro a x hx
    by_cases ha : a = j
    · subst ha
      rw [List.getElem?_set_self (by simpa using hjl)] at hx
      exact .inl ⟨rfl, (Option.some.inj hx).symm⟩
    · rw [List.getElem?_set_ne (fun e => ha e.symm)] at hx
      by_cases hb : a = i
      · subst hb
        rw [List.getElem?_set_self hil] at hx
        exact .inr (.inl ⟨ha, rfl, (Option.some.inj hx).symm⟩)
      · rw [List.getElem?_set_ne (fun e => hb e.symm)] at hx
        exact .inr (.inr ⟨ha, hb, hx⟩)
  have old : ∀ a x, a ≠ i → rs[a]? = some x → ∀ k, x.own k → ¬ own k ∧ k < w.heap.size ∧ base ≤ k := fun a x ha hx k hk => ⟨fun ho => h.apart hx hi ha hk (hp2 k ho), (h.bound a hx hk).2, (h.bound a hx hk).1⟩
  have new : ∀ r ∈ [m, p'], ∀ k, r.own k → own k ∨ w.heap.size ≤ k := hh.mine
  refine Sep.of_apart (fun a x hx => ?_) (fun a b x y hx hy hab k hk hk' => ?_)
  · rcases hget a x hx with ⟨_, rfl⟩ | ⟨_, _, rfl⟩ | ⟨_, h2, h3⟩
    · exact ⟨hh.get 0 rfl, fun k hk => hh.sep.bound 0 rfl hk⟩
    · exact ⟨hh.get 1 rfl, fun k hk => hh.sep.bound 1 rfl hk⟩
    · refine ⟨x.step (h.get a h3) (fun k hk hlt => hh.kept k hlt (old a x h2 h3 k hk).1), fun k hk => ?_⟩
      have := old a x h2 h3 k hk
      have := hh.size
      omega
  · rcases hget a x hx with ⟨ha, rfl⟩ | ⟨ha, ha2, rfl⟩ | ⟨ha, ha2, hx3⟩
    · rcases hget b y hy with ⟨hb, rfl⟩ | ⟨hb, hb2, rfl⟩ | ⟨hb, hb2, hy3⟩
      · exact hab (ha.trans hb.symm)
      · exact hh.sep.apart (i := 0) (j := 1) rfl rfl (by decide) hk hk'
      · have g1 := old b y hb2 hy3 k hk'
        rcases new x (by simp) k hk with h1 | h1
        · exact g1.1 h1
        · omega
    · rcases hget b y hy with ⟨hb, rfl⟩ | ⟨hb, hb2, rfl⟩ | ⟨hb, hb2, hy3⟩
      · exact hh.sep.apart (i := 1) (j := 0) rfl rfl (by decide) hk hk'
      · exact hab (ha2.trans hb2.symm)
      · have g1 := old b y hb2 hy3 k hk'
        rcases new x (by simp) k hk with h1 | h1
        · exact g1.1 h1
        · omega
    · have g1 := old a x ha2 hx3 k hk
      rcases hget b y hy with ⟨hb, rfl⟩ | ⟨hb, hb2, rfl⟩ | ⟨hb, hb2, hy3⟩
      · rcases new y (by simp) k hk' with h1 | h1
        · exact g1.1 h1
        · omega
      · rcases new y (by simp) k hk' with h1 | h1
        · exact g1.1 h1
        · omega
      · exact h.apart hx3 hy3 hab hk hk'
/-- Split, by a Part among other pieces. -/
theorem Split_law {base : Nat} {own : Nat → Prop} {rs : List Res} {w : World} {g n N : Nat} {C : Nat → Nat} (h : Sep base rs w) (i j : Nat) (hi : rs[i]? = some (part base own g n N C)) (hj : rs[j]? = some none_) (hij : i ≠ j) (hb : base ≤ w.heap.size) (hn0 : 0 < n) (hn : n ≤ 65536) (l : List Nat) (hl : ∀ x ∈ l, x < n) (hll : l.length ≤ 1000000) (Al : Option Addr) (m cl : Nat) (hm : m = l.length)
    (hrd : ∀ w1, (∀ k, k < w.heap.size → ¬ own k → w1.heap[k]? = w.heap[k]?) → Kd.C (Kd.int .i64) w1 Al m (tl l)) :
    Calls Try.prog 12 #[.pointer (some ⟨g, 0, none⟩), .slice Al m cl] w fun e w' => ∃ (mv : Value) (own' : Nat → Prop), e = .returned (.tuple #[mv, .int .i64 0]) ∧ Sep base ((rs.set i (part base own' g n (splitOf n C N l).N (splitOf n C N l).C)).set j (ints base mv (tl (splitOf n C N l).made))) w' ∧ Below base w w' := by
  subst hm
  obtain ⟨R, P, A, B, gr, cr, gp, cp, gc, gs, cs, h1, h2, h3⟩ := h.get i hi
  have H : Hold base own w (pcs base g n N C R P A B gr cr gp cp gc gs cs) w := Hold.start h2 h3 hb
  refine (Split_walk base own w g n N C R P A B gr cr gp cp gc gs cs l Al cl H h1 hn0 hn hl hll hrd).mono ?_
  rintro e w' ⟨mv, own', rfl, hh⟩
  exact ⟨mv, own', rfl, Sep.turn h i j hi (fun _ hk => hk) (fun _ hk => hk) hj hij hh, hh.below⟩
theorem All_law {base : Nat} {own : Nat → Prop} {rs : List Res} {w : World} {g n N : Nat} {C : Nat → Nat} (h : Sep base rs w) (i : Nat) (hi : rs[i]? = some (part base own g n N C)) (hn : n ≤ 65536) :
    Calls Try.prog 13 #[.pointer (some ⟨g, 0, none⟩)] w fun e w' => ∃ v, e = .returned v ∧ Kd.R (Kd.int .i64) 3 w' w.heap.size (fun _ => True) v (lst n C) ∧ Below w.heap.size w w' := All_walk base own g n N C w (h.get i hi) hn
/-- A list of the walk's own, as Split reads it. -/
theorem lit_rd {base : Nat} {own : Nat → Prop} {rs : List Res} {w : World} {p : Res} (h : Sep base rs w) (i : Nat) (hi : rs[i]? = some p) (hp : ∀ k, own k → p.own k) (cs : Array Value) (l : List Nat) (n : Nat) (e : cs = numsA (tl l)) (hn : n = l.length) (hm : n ≤ 1000000000) :
    ∀ w1, (∀ k, k < (w.alloc (.cells cs 3)).heap.size → ¬ own k → w1.heap[k]? = (w.alloc (.cells cs 3)).heap[k]?) → Kd.C (Kd.int .i64) w1 (some ⟨w.heap.size, 0, none⟩) n (tl l) := fun w1 hk => by
  refine lit_C (cs := cs) ?_ e (by rw [tl_len]; exact hn) hm
  rw [hk w.heap.size (by simp) (fun ho => by have := (h.bound i hi (hp _ ho)).2; omega)]
  exact blk_new w _
end Go.Proofs.Ytdalpaobkmoomaa.X
end

section
namespace Go.Proofs.Ytdalpaobkmoomaa.X
open Go.RowKit Go.Proofs.YtdalpaobkmoomaaW.PrintWords Go.Proofs.YtdalpaobkmoomaaW.PrintLast Go.Proofs.YtdalpaobkmoomaaW.PrintMore
open Go.Proofs.Ytdalpaobkmoomaa Go.Proofs.Ytdalpaobkmoomaa.Sp
attribute [local go_sem] max2_int min2_int max_two min_two max_three min_three max_four min_four
set_option maxHeartbeats 16000000 in
set_option maxRecDepth 100000 in
theorem live_walk (w : World) : Calls Try.prog 9 #[] w fun e w' => e = .returned (.bool true) ∧ Below w.heap.size w w' := by
  have hu22 := Try.underlying22
  have hnew : Calls Try.prog 10 #[.int .i64 4] w fun e w' => ∃ (g : Nat) (own : Nat → Prop), e = .returned (.tuple #[.pointer (some ⟨g, 0, none⟩), .int .i64 0]) ∧ Sep w.heap.size [part w.heap.size own g 4 1 (fun _ => 0)] w' ∧ Below w.heap.size w w' := New_walk 4 w (by decide) (by decide)
  go_enter Try.func9, Try.ntmps9
  go_wp2_with (first
  | (go_at_call 17; refine (Count_walk w.heap.size own2 g 4 (splitOf 4 (splitOf 4 (fun _ => 0) 1 [1, 2]).C (splitOf 4 (fun _ => 0) 1 [1, 2]).N [0, 1, 1]).N (splitOf 4 (splitOf 4 (fun _ => 0) 1 [1, 2]).C (splitOf 4 (fun _ => 0) 1 [1, 2]).N [0, 1, 1]).C w12 (HS12.out.get 1 rfl)).mono ?_
     rintro e w13 ⟨rfl, hb⟩
     have hc4 : (((splitOf 4 (splitOf 4 (fun _ => 0) 1 [1, 2]).C (splitOf 4 (fun _ => 0) 1 [1, 2]).N [0, 1, 1]).N : Nat) : Int) = 4 := by decide
     have HB13 := Aside0.mk (below_step HB12.out hb)
     clear hb)
  | (go_at_call 16; refine (same_calls Ad 4 cd [2, 3, 1, 0] (some ⟨w11.heap.size, 0, none⟩) 4 4 [2, 3, 1, 0] (w11.alloc (.cells #[.int .i64 2, .int .i64 3, .int .i64 1, .int .i64 0] 3)) (row_C ((HS11.out.low (below_alloc (Below.refl w11.heap.size w11) (.cells #[.int .i64 2, .int .i64 3, .int .i64 1, .int .i64 0] 3))).get 0 rfl)).1 (row_C (HS11.out.get 0 rfl)).2 (lit_C (blk_new w11 (.cells #[.int .i64 2, .int .i64 3, .int .i64 1, .int .i64 0] 3)) rfl rfl (by decide)) (Nat.le_refl _) (by decide)).mono ?_
     rintro e w12 ⟨rfl, hd⟩
     have HS12 := Aside0.mk ((HS11.out.low (below_alloc (Below.refl w11.heap.size w11) (.cells #[.int .i64 2, .int .i64 3, .int .i64 1, .int .i64 0] 3))).low hd.below)
     have HB12 := Aside0.mk (below_step (below_alloc HB11.out (.cells #[.int .i64 2, .int .i64 3, .int .i64 1, .int .i64 0] 3)) hd.below)
     clear hd)
  | (go_at_call 13; with_reducible refine (All_law HS10.out 3 rfl (by decide)).mono ?_
     rintro e w11 ⟨v11, rfl, hR, hb⟩
     have hS' : Sep w.heap.size [ints w.heap.size v11 [2, 3, 1, 0], part w.heap.size own2 g 4 (splitOf 4 (splitOf 4 (fun _ => 0) 1 [1, 2]).C (splitOf 4 (fun _ => 0) 1 [1, 2]).N [0, 1, 1]).N (splitOf 4 (splitOf 4 (fun _ => 0) 1 [1, 2]).C (splitOf 4 (fun _ => 0) 1 [1, 2]).N [0, 1, 1]).C] w11 := (((HS10.out.sub (rs' := [part w.heap.size own2 g 4 (splitOf 4 (splitOf 4 (fun _ => 0) 1 [1, 2]).C (splitOf 4 (fun _ => 0) 1 [1, 2]).N [0, 1, 1]).N (splitOf 4 (splitOf 4 (fun _ => 0) 1 [1, 2]).C (splitOf 4 (fun _ => 0) 1 [1, 2]).N [0, 1, 1]).C]) (.cons _ (.cons _ (.cons _ (List.Sublist.refl _))))).free none_ trivial (fun _ hk => hk.elim)).fillRow 0 rfl rfl hR hb HB10.out.size)
     obtain ⟨Ad, cd, hv⟩ := Kd.R_slice (hS'.get 0 rfl)
     have hv' : v11 = .slice Ad 4 cd := hv
     subst hv'
     have HS11 := Aside0.mk hS'
     have HB11 := Aside0.mk (below_step HB10.out hb)
     clear hS' hb hv hR)
  | (go_at_call 16; refine (same_calls Ac 2 cc [2, 3] (some ⟨w9.heap.size, 0, none⟩) 2 2 [2, 3] (w9.alloc (.cells #[.int .i64 2, .int .i64 3] 3)) (row_C ((HS9.out.low (below_alloc (Below.refl w9.heap.size w9) (.cells #[.int .i64 2, .int .i64 3] 3))).get 2 rfl)).1 (row_C (HS9.out.get 2 rfl)).2 (lit_C (blk_new w9 (.cells #[.int .i64 2, .int .i64 3] 3)) rfl rfl (by decide)) (Nat.le_refl _) (by decide)).mono ?_
     rintro e w10 ⟨rfl, hd⟩
     have HS10 := Aside0.mk ((HS9.out.low (below_alloc (Below.refl w9.heap.size w9) (.cells #[.int .i64 2, .int .i64 3] 3))).low hd.below)
     have HB10 := Aside0.mk (below_step (below_alloc HB9.out (.cells #[.int .i64 2, .int .i64 3] 3)) hd.below)
     clear hd)
  | (go_at_call 16; refine (same_calls Ab 4 cb [0, 1, 1, 0] (some ⟨w8.heap.size, 0, none⟩) 4 4 [0, 1, 1, 0] (w8.alloc (.cells #[.int .i64 0, .int .i64 1, .int .i64 1, .int .i64 0] 3)) (row_C ((HS8.out.low (below_alloc (Below.refl w8.heap.size w8) (.cells #[.int .i64 0, .int .i64 1, .int .i64 1, .int .i64 0] 3))).get 1 rfl)).1 (row_C (HS8.out.get 1 rfl)).2 (lit_C (blk_new w8 (.cells #[.int .i64 0, .int .i64 1, .int .i64 1, .int .i64 0] 3)) rfl rfl (by decide)) (Nat.le_refl _) (by decide)).mono ?_
     rintro e w9 ⟨rfl, hd⟩
     have HS9 := Aside0.mk ((HS8.out.low (below_alloc (Below.refl w8.heap.size w8) (.cells #[.int .i64 0, .int .i64 1, .int .i64 1, .int .i64 0] 3))).low hd.below)
     have HB9 := Aside0.mk (below_step (below_alloc HB8.out (.cells #[.int .i64 0, .int .i64 1, .int .i64 1, .int .i64 0] 3)) hd.below)
     clear hd)
  | (go_at_call 16; refine (same_calls Aa 1 ca [1] (some ⟨w7.heap.size, 0, none⟩) 1 1 [1] (w7.alloc (.cells #[.int .i64 1] 3)) (row_C ((HS7.out.low (below_alloc (Below.refl w7.heap.size w7) (.cells #[.int .i64 1] 3))).get 0 rfl)).1 (row_C (HS7.out.get 0 rfl)).2 (lit_C (blk_new w7 (.cells #[.int .i64 1] 3)) rfl rfl (by decide)) (Nat.le_refl _) (by decide)).mono ?_
     rintro e w8 ⟨rfl, hd⟩
     have HS8 := Aside0.mk ((HS7.out.low (below_alloc (Below.refl w7.heap.size w7) (.cells #[.int .i64 1] 3))).low hd.below)
     have HB8 := Aside0.mk (below_step (below_alloc HB7.out (.cells #[.int .i64 1] 3)) hd.below)
     clear hd)
  | (go_at_call 11; with_reducible refine (tutorlaw06_num.calls 0 0 w6 rfl).mono ?_
     rintro e w7 ⟨rfl, hd⟩
     have HS7 := Aside0.mk (HS6.out.low hd.below)
     have HB7 := Aside0.mk (below_step HB6.out hd.below)
     clear hd)
  | (go_at_call 11; with_reducible refine (tutorlaw06_num.calls 0 0 w5 rfl).mono ?_
     rintro e w6 ⟨rfl, hd⟩
     have HS6 := Aside0.mk (HS5.out.low hd.below)
     have HB6 := Aside0.mk (below_step HB5.out hd.below)
     clear hd)
  | (go_at_call 12
     refine (Split_law (HS4.out.low (below_alloc (Below.refl w4.heap.size w4) (.cells #[.int .i64 0, .int .i64 1, .int .i64 1] 3))) 3 2 rfl rfl (by decide) (by have := HB4.out.size; simp; omega) (by decide) (by decide) [0, 1, 1] (by decide) (by decide) (some ⟨w4.heap.size, 0, none⟩) 3 3 rfl (lit_rd HS4.out 3 rfl (fun _ hk => hk) #[.int .i64 0, .int .i64 1, .int .i64 1] [0, 1, 1] 3 rfl rfl (by decide))).mono ?_
     rintro e w5 ⟨m2, own2, rfl, hS, hb⟩
     have hS' : Sep w.heap.size [ints w.heap.size (.slice Aa 1 ca) [1], ints w.heap.size (.slice Ab 4 cb) [0, 1, 1, 0], ints w.heap.size m2 [2, 3], part w.heap.size own2 g 4 (splitOf 4 (splitOf 4 (fun _ => 0) 1 [1, 2]).C (splitOf 4 (fun _ => 0) 1 [1, 2]).N [0, 1, 1]).N (splitOf 4 (splitOf 4 (fun _ => 0) 1 [1, 2]).C (splitOf 4 (fun _ => 0) 1 [1, 2]).N [0, 1, 1]).C] w5 := hS
     obtain ⟨Ac, cc, hv⟩ := Kd.R_slice (hS'.get 2 rfl)
     have hv' : m2 = .slice Ac 2 cc := hv
     subst hv'
     have HS5 := Aside0.mk hS'
     have HB5 := Aside0.mk ((below_alloc HB4.out (.cells #[.int .i64 0, .int .i64 1, .int .i64 1] 3)).trans hb)
     clear hS hS' hb hv)
  | (go_at_call 13; with_reducible refine (All_law HS3.out 3 rfl (by decide)).mono ?_
     rintro e w4 ⟨v4, rfl, hR, hb⟩
     have hS' : Sep w.heap.size [ints w.heap.size (.slice Aa 1 ca) [1], ints w.heap.size v4 [0, 1, 1, 0], none_, part w.heap.size own1 g 4 (splitOf 4 (fun _ => 0) 1 [1, 2]).N (splitOf 4 (fun _ => 0) 1 [1, 2]).C] w4 := HS3.out.fillRow 1 rfl rfl hR hb HB3.out.size
     obtain ⟨Ab, cb, hv⟩ := Kd.R_slice (hS'.get 1 rfl)
     have hv' : v4 = .slice Ab 4 cb := hv
     subst hv'
     have HS4 := Aside0.mk hS'
     have HB4 := Aside0.mk (below_step HB3.out hb)
     clear hS' hb hv hR)
  | (go_at_call 12
     refine (Split_law (HS2.out.low (below_alloc (Below.refl w2.heap.size w2) (.cells #[.int .i64 1, .int .i64 2] 3))) 3 0 rfl rfl (by decide) (by have := HB2.out.size; simp; omega) (by decide) (by decide) [1, 2] (by decide) (by decide) (some ⟨w2.heap.size, 0, none⟩) 2 2 rfl (lit_rd HS2.out 3 rfl (fun _ hk => hk) #[.int .i64 1, .int .i64 2] [1, 2] 2 rfl rfl (by decide))).mono ?_
     rintro e w3 ⟨m1, own1, rfl, hS, hb⟩
     have hS' : Sep w.heap.size [ints w.heap.size m1 [1], none_, none_, part w.heap.size own1 g 4 (splitOf 4 (fun _ => 0) 1 [1, 2]).N (splitOf 4 (fun _ => 0) 1 [1, 2]).C] w3 := hS
     obtain ⟨Aa, ca, hv⟩ := Kd.R_slice (hS'.get 0 rfl)
     have hv' : m1 = .slice Aa 1 ca := hv
     subst hv'
     have HS3 := Aside0.mk hS'
     have HB3 := Aside0.mk ((below_alloc HB2.out (.cells #[.int .i64 1, .int .i64 2] 3)).trans hb)
     clear hS hS' hb hv)
  | (go_at_call 11; with_reducible refine (tutorlaw06_num.calls 0 0 w1 rfl).mono ?_
     rintro e w2 ⟨rfl, hd⟩
     have HS2 := Aside0.mk (HS1.out.low hd.below)
     have HB2 := Aside0.mk (below_step HB1.out hd.below)
     clear hd)
  | (go_at_call 10; with_reducible refine hnew.mono ?_
     rintro e w1 ⟨g, own, rfl, hS, hb⟩
     have HS1 : Aside0 (Sep w.heap.size [none_, none_, none_, part w.heap.size own g 4 1 (fun _ => 0)] w1) := ⟨((hS.free none_ trivial (fun _ hk => hk.elim)).free none_ trivial (fun _ hk => hk.elim)).free none_ trivial (fun _ hk => hk.elim)⟩
     have HB1 := Aside0.mk hb
     clear hS hb))
  go_ret
  exact ⟨rfl, HB13.out⟩
end Go.Proofs.Ytdalpaobkmoomaa.X
end

section
namespace Go.Proofs.Ytdalpaobkmoomaa.X
open Go.RowKit Go.Proofs.YtdalpaobkmoomaaW.PrintWords Go.Proofs.YtdalpaobkmoomaaW.PrintLast Go.Proofs.YtdalpaobkmoomaaW.PrintMore
open Go.Proofs.Ytdalpaobkmoomaa Go.Proofs.Ytdalpaobkmoomaa.Sp
attribute [local go_sem] max2_int min2_int max_two min_two max_three min_three max_four min_four
set_option maxHeartbeats 8000000 in
set_option maxRecDepth 100000 in
theorem tutorlaw06_BlockNils.calls (A0 : Option Addr) (c0 : Nat) (l0 : List Int) (i : Int) (r : Bool) (w : World) (_hr0 : Kd.C (Kd.int .i64) w A0 l0.length l0) (_hc0 : l0.length ≤ c0) (h : r = true) : Calls Try.prog 5 #[.slice A0 l0.length c0, .int .i64 i] w fun e w' => e = .returned (.bool r) ∧ Below w.heap.size w w' := by
  subst h
  have hlv := live_walk
  go_enter Try.func5, Try.ntmps5
  go_wp2_with (first
  | (go_at_call 9; refine (hlv w9).mono ?_; rintro e w10 ⟨rfl, hb⟩; have HB10 := Aside0.mk (below_step HB9.out hb); clear hb)
  | (go_at_call 11; with_reducible refine (tutorlaw06_num.calls 5 5 w7 rfl).mono ?_; rintro e w9 ⟨rfl, hd⟩; have HB9 := Aside0.mk (below_step HB7.out hd.below); clear hd)
  | (go_at_call 11; with_reducible refine (tutorlaw06_num.calls 5 5 w6 rfl).mono ?_; rintro e w7 ⟨rfl, hd⟩; have HB7 := Aside0.mk (below_step HB6.out hd.below); clear hd)
  | (go_at_call 11; with_reducible refine (tutorlaw06_num.calls 5 5 w5 rfl).mono ?_; rintro e w6 ⟨rfl, hd⟩; have HB6 := Aside0.mk (below_step HB5.out hd.below); clear hd)
  | (go_at_call 13; with_reducible refine (All_nil w4).mono ?_; rintro e w5 ⟨rfl, hb⟩; have HB5 := Aside0.mk (below_step HB4.out hb); clear hb)
  | (go_at_call 17; with_reducible refine (Count_nil w3).mono ?_; rintro e w4 ⟨rfl, hb⟩; have HB4 := Aside0.mk (below_step HB3.out hb); clear hb)
  | (go_at_call 14; with_reducible refine (Members_nil i w2).mono ?_; rintro e w3 ⟨rfl, hb⟩; have HB3 := Aside0.mk (below_step HB2.out hb); clear hb)
  | (go_at_call 22; with_reducible refine (Class_nil i w1).mono ?_; rintro e w2 ⟨rfl, hb⟩; have HB2 := Aside0.mk (below_step HB1.out hb); clear hb)
  | (go_at_call 12; with_reducible refine (Split_nil A0 l0.length c0 w).mono ?_; rintro e w1 ⟨rfl, hb⟩; have HB1 := Aside0.mk hb; clear hb))
  go_ret
  exact ⟨rfl, HB10.out⟩
end Go.Proofs.Ytdalpaobkmoomaa.X
end
