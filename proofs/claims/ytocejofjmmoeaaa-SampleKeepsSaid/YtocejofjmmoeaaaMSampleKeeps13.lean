/- Texts of the statement SampleKeeps, one behind the other: Go functions as Lean functions, the machine's calls, the plain law. -/
import Derived.Test.YtocejofjmmoeaaaMSampleKeeps10
import Derived.Test.YtocejofjmmoeaaaMSampleKeeps12
set_option linter.unusedVariables false
set_option linter.unusedSimpArgs false
section
namespace Go.Proofs.Ytocejofjmmoeaaa.X
open Go.RowKit Go.Proofs.YtocejofjmmoeaaaW.PrintWords Go.Proofs.YtocejofjmmoeaaaW.PrintLast Go.Proofs.YtocejofjmmoeaaaW.PrintMore
open Go.Proofs.Ytocejofjmmoeaaa Go.Proofs.Ytocejofjmmoeaaa.Sp
/-- What is wrong with the i-th example. -/
def faultAt (K : Nat) (l : List S57) (i : Nat) : Int :=
  if wordErr K (rd_T57 l (i : Int)).f0 ≠ 0 then wordErr K (rd_T57 l (i : Int)).f0 else if (rd_T57 l (i : Int)).f1 ≠ 0 ∧ (rd_T57 l (i : Int)).f1 ≠ 1 then 33
  else if (List.range i).any (fun j => decide ((rd_T57 l (j : Int)).f0 = (rd_T57 l (i : Int)).f0) && decide ((rd_T57 l (j : Int)).f1 ≠ (rd_T57 l (i : Int)).f1)) = true then 111 else 0
def scanF (K : Nat) (l : List S57) : Nat → Nat → Int × Int
  | 0, _ => (0, 0)
  | d + 1, i => if faultAt K l i ≠ 0 then ((i : Int), faultAt K l i) else scanF K l d (i + 1)
def checkF (k : Int) (l : List S57) : Int × Int := if k < 1 ∨ k > 64 then (0, 1) else if l.length > 65536 then (0, 3) else scanF k.toNat l l.length 0
theorem scan_skip (K : Nat) (l : List S57) : ∀ (d i : Nat), (∀ j, j < i → faultAt K l j = 0) → i + d = l.length → scanF K l l.length 0 = scanF K l d i := by
  intro d i
  induction i generalizing d with
  | zero => intro _ h; rw [show l.length = d by omega]
  | succ i ih =>
    intro hj h
    rw [ih (d + 1) (fun j hj2 => hj j (by omega)) (by omega), scanF, if_neg (fun h2 => h2 (hj i (by omega)))]
/-- What the map holds ahead of the i-th. -/
structure Said (l : List S57) (i : Nat) (es : List (ByteArray × Int)) : Prop where
  has : ∀ j, j < i → Vm.getK es (spellB (rd_T57 l (j : Int)).f0) = some (rd_T57 l (j : Int)).f1
  of : ∀ p ∈ es, ∃ j, j < i ∧ p.1 = spellB (rd_T57 l (j : Int)).f0
theorem getK_mem {α β : Type} [DecidableEq α] : ∀ (es : List (α × β)) (k : α) (v : β), Vm.getK es k = some v → (k, v) ∈ es
  | [], k, v, h => by simp [Vm.getK] at h
  | p :: es, k, v, h => by
    rw [Vm.getK] at h
    by_cases hp : p.1 = k
    · rw [if_pos hp] at h
      injection h with h
      subst hp h
      exact List.mem_cons_self
    · rw [if_neg hp] at h
      exact List.mem_cons_of_mem _ (getK_mem es k v h)
theorem Said.start (l : List S57) : Said l 0 [] := ⟨fun j h => absurd h (Nat.not_lt_zero _), fun p h => by cases h⟩
theorem mem_putK {α β : Type} [DecidableEq α] : ∀ (es : List (α × β)) (k : α) (v : β) (p : α × β), p ∈ Vm.putK es k v → p ∈ es ∨ p.1 = k
  | [], k, v, p, h => by
    simp only [Vm.putK, List.mem_singleton] at h
    exact .inr (by rw [h])
  | q :: es, k, v, p, h => by
    rw [Vm.putK] at h
    by_cases hq : q.1 = k
    · rw [if_pos hq] at h
      rcases List.mem_cons.1 h with rfl | h
      · exact .inr rfl
      · exact .inl (List.mem_cons_of_mem _ h)
    · rw [if_neg hq] at h
      rcases List.mem_cons.1 h with rfl | h
      · exact .inl List.mem_cons_self
      · exact (mem_putK es k v p h).elim (fun h => .inl (List.mem_cons_of_mem _ h)) .inr
/-- The word's text is new: no example ahead has the word. -/
theorem Said.none_ {K : Nat} {l : List S57} {i : Nat} {es : List (ByteArray × Int)} (h : Said l i es) (h1 : wordErr K (rd_T57 l (i : Int)).f0 = 0) (h2 : (rd_T57 l (i : Int)).f1 = 0 ∨ (rd_T57 l (i : Int)).f1 = 1) (hn : Vm.getK es (spellB (rd_T57 l (i : Int)).f0) = none) : faultAt K l i = 0 := by
  unfold faultAt
  rw [if_neg (fun h => h h1), if_neg (by omega), if_neg]
  intro ha
  obtain ⟨j, hj, hb⟩ := List.any_eq_true.1 ha
  simp only [Bool.and_eq_true, decide_eq_true_eq] at hb
  have := h.has j (List.mem_range.1 hj)
  rw [hb.1, hn] at this
  cases this
theorem Said.some_ {K : Nat} {l : List S57} {i : Nat} {es : List (ByteArray × Int)} {v : Int} (h : Said l i es) (hK : K ≤ 64) (h0 : ∀ j, j < i → faultAt K l j = 0) (h1 : wordErr K (rd_T57 l (i : Int)).f0 = 0) (h2 : (rd_T57 l (i : Int)).f1 = 0 ∨ (rd_T57 l (i : Int)).f1 = 1) (hs : Vm.getK es (spellB (rd_T57 l (i : Int)).f0) = some v) : faultAt K l i = if v ≠ (rd_T57 l (i : Int)).f1 then 111 else 0 := by
  have hw : ∀ j, j < i → wordErr K (rd_T57 l (j : Int)).f0 = 0 := fun j hj => by
    have := h0 j hj
    unfold faultAt at this
    refine Classical.byContradiction fun hn => ?_
    rw [if_pos hn] at this
    exact hn this
  have hsy : ∀ x : List Int, wordErr K x = 0 → ∀ y ∈ x, 0 ≤ y ∧ y < 256 := fun x hx y hy => by
    have := (wordErr_ok hx).2 y hy
    omega
  unfold faultAt
  rw [if_neg (fun h => h h1), if_neg (by omega)]
  by_cases hv : v ≠ (rd_T57 l (i : Int)).f1
  · rw [if_pos hv, if_pos]
    obtain ⟨j, hj, he⟩ := h.of _ (getK_mem _ _ _ hs)
    have he2 := spell_inj (hsy _ h1) (hsy _ (hw j hj)) he
    have h3 := h.has j hj
    rw [← he2, hs] at h3
    injection h3 with h3
    refine List.any_eq_true.2 ⟨j, List.mem_range.2 hj, ?_⟩
    rw [← he2, ← h3]
    simp [hv]
  · rw [if_neg hv, if_neg]
    intro ha
    obtain ⟨j, hj, hb⟩ := List.any_eq_true.1 ha
    simp only [Bool.and_eq_true, decide_eq_true_eq] at hb
    have h3 := h.has j (List.mem_range.1 hj)
    rw [hb.1, hs] at h3
    injection h3 with h3
    exact hb.2 (by rw [← h3]; exact Classical.not_not.1 hv)
theorem Said.put {K : Nat} {l : List S57} {i : Nat} {es : List (ByteArray × Int)} (h : Said l i es) (hf : faultAt K l i = 0) (h0 : ∀ j, j < i → faultAt K l j = 0) (hK : K ≤ 64) (h1 : wordErr K (rd_T57 l (i : Int)).f0 = 0) (h2 : (rd_T57 l (i : Int)).f1 = 0 ∨ (rd_T57 l (i : Int)).f1 = 1) : Said l (i + 1) (Vm.putK es (spellB (rd_T57 l (i : Int)).f0) (rd_T57 l (i : Int)).f1) where
  has := fun j hj => by
    rw [Vm.getK_putK]
    by_cases he : spellB (rd_T57 l (i : Int)).f0 = spellB (rd_T57 l (j : Int)).f0
    · rw [if_pos he]
      by_cases hji : j = i
      · rw [hji]
      · have h3 := h.has j (by omega)
        rw [← he] at h3
        have h4 := h.some_ hK h0 h1 h2 h3
        rw [hf] at h4
        by_cases h5 : (rd_T57 l (j : Int)).f1 ≠ (rd_T57 l (i : Int)).f1
        · rw [if_pos h5] at h4; cases h4
        · rw [Classical.not_not.1 h5]
    · rw [if_neg he]
      have hji : j ≠ i := fun e => he (by rw [e])
      exact h.has j (by omega)
  of := fun p hp => by
    rcases mem_putK _ _ _ _ hp with hp | hp
    · obtain ⟨j, hj, he⟩ := h.of p hp
      exact ⟨j, by omega, he⟩
    · exact ⟨i, by omega, hp⟩
def CheckPost (k : Int) (l : List S57) (w : World) : Ending → World → Prop := fun e w' => e = .returned (.tuple #[.int .i64 (checkF k l).1, .int .i64 (checkF k l).2]) ∧ Below w.heap.size w w'
theorem CheckPost.intro {k : Int} {l : List S57} {w w' : World} {a b : Int} (h : checkF k l = (a, b)) (hb : Below w.heap.size w w') : CheckPost k l w (.returned (.tuple #[.int .i64 a, .int .i64 b])) w' := by
  unfold CheckPost
  rw [h]
  exact ⟨rfl, hb⟩
theorem cmeas_at {a j : Nat} (e : wrap64 ((j : Int) + 1) = ((j + 1 : Nat) : Int)) (h : j < a) : a - (intOf (.int .i64 (wrap64 ((j : Int) + 1)))).toNat < a - (intOf (.int .i64 (j : Int))).toNat := by
  rw [e]
  show a - (((j + 1 : Nat) : Int)).toNat < a - ((j : Int)).toNat
  omega
theorem cmeas_at2 {a j : Nat} (h : j < a) : a - (intOf (.int .i64 ((j : Int) + 1))).toNat < a - (intOf (.int .i64 (j : Int))).toNat := by
  show a - ((j : Int) + 1).toNat < a - ((j : Int)).toNat
  omega
theorem info57z : (Try.prog.info? 57).map (fun i => (i.zero, i.size)) = some (some (.agg #[.slice none 0 0, .int .i64 0]), 2) := by kernel_rfl
attribute [local go_sem] max2_int min2_int max_two min_two max_three min_three max_four min_four
set_option maxHeartbeats 16000000 in
set_option maxRecDepth 100000 in
theorem Check_k (k : Int) (A1 : Option Addr) (c1 : Nat) (l : List S57) (w : World) (hk : k < 1 ∨ k > 64) : Calls Try.prog 14 #[.int .i64 k, .slice A1 l.length c1] w (CheckPost k l w) := by
  have hc : checkF k l = (0, 1) := by unfold checkF; rw [if_pos hk]
  have HC := Aside0.mk hc
  clear hc
  by_cases h1 : k < 1
  · go_enter Try.func14, Try.ntmps14
    go_wp2
    go_ret2
    exact CheckPost.intro HC.out (Below.refl _ _)
  · have h2 : k > 64 := by omega
    clear hk
    go_enter Try.func14, Try.ntmps14
    go_wp2
    go_ret2
    exact CheckPost.intro HC.out (Below.refl _ _)
set_option maxHeartbeats 16000000 in
set_option maxRecDepth 100000 in
theorem Check_many (k : Int) (A1 : Option Addr) (c1 : Nat) (l : List S57) (w : World) (h1 : ¬ k < 1) (h2 : ¬ k > 64) (hl : l.length > 65536) : Calls Try.prog 14 #[.int .i64 k, .slice A1 l.length c1] w (CheckPost k l w) := by
  have hc : checkF k l = (0, 3) := by unfold checkF; rw [if_neg (by omega), if_pos hl]
  have HC := Aside0.mk hc
  have hl' : (l.length : Int) > 65536 := by omega
  clear hc hl
  go_enter Try.func14, Try.ntmps14
  go_wp2
  go_ret2
  exact CheckPost.intro HC.out (Below.refl _ _)
theorem check_at {K : Nat} {l : List S57} {i : Nat} {x : Int} (hK : 1 ≤ K ∧ K ≤ 64) (hl : l.length ≤ 65536) (h0 : ∀ j, j < i → faultAt K l j = 0) (hi : i < l.length) (hf : faultAt K l i = x) (hx : x ≠ 0) : checkF (K : Int) l = ((i : Int), x) := by
  unfold checkF
  rw [if_neg (by omega), if_neg (by omega), Int.toNat_natCast, scan_skip K l (l.length - i) i h0 (by omega)]
  obtain ⟨d, hd⟩ : ∃ d, l.length - i = d + 1 := ⟨l.length - i - 1, by omega⟩
  rw [hd, scanF, hf, if_pos hx]
theorem check_ok {K : Nat} {l : List S57} (hK : 1 ≤ K ∧ K ≤ 64) (hl : l.length ≤ 65536) (h0 : ∀ j, j < l.length → faultAt K l j = 0) : checkF (K : Int) l = (0, 0) := by
  unfold checkF
  rw [if_neg (by omega), if_neg (by omega), Int.toNat_natCast, scan_skip K l 0 l.length h0 (by omega)]
  rfl
set_option maxHeartbeats 16000000 in
set_option maxRecDepth 100000 in
theorem Check_l (K : Nat) (A1 : Option Addr) (c1 : Nat) (l : List S57) (w : World) (hr : Kd.C k57 w A1 l.length l) (hc : l.length ≤ c1) (hK : 1 ≤ K ∧ K ≤ 64) (hl : l.length ≤ 65536) : Calls Try.prog 14 #[.int .i64 (K : Int), .slice A1 l.length c1] w (CheckPost (K : Int) l w) := by
  have hu22 := Try.underlying22
  have hu32 := Try.underlying32
  have hu57 := Try.underlying57
  have hu71 := Try.underlying71
  have hmm := @run_makeMap Try.prog
  obtain ⟨z57, i57⟩ := zero_of_info info57z
  have HR := Aside0.mk hr
  have HK := Aside0.mk hK
  have HL := Aside0.mk hl
  have g1 : ¬ (K : Int) < 1 := by omega
  have g2 : ¬ (K : Int) > 64 := by omega
  have g3 : ¬ (l.length : Int) > 65536 := by omega
  have HM0 : Aside0 (Sep w.heap.size [Sp.mp w.heap.size Value.string (Value.int .i64) ([] : List (ByteArray × Int))] (w.alloc (.map #[] 0))) := ⟨(Sep.nil w.heap.size w).newMap Value.string (Value.int .i64) (Nat.le_refl _)⟩
  have HB0 : Aside0 (Below w.heap.size w (w.alloc (.map #[] 0))) := ⟨below_alloc (Below.refl _ _) _⟩
  clear hr hK hl
  go_enter Try.func14, Try.ntmps14
  go_wp2
  clear g1 g2 g3
  go_loopw [28] (fun v28 wr => ∃ (i : Nat) (es : List (ByteArray × Int)), v28 = .int .i64 (i : Int) ∧ Aside0 (i ≤ l.length ∧ ∀ j, j < i → faultAt K l j = 0) ∧ Aside0 (Said l i es) ∧ Aside0 (Sep w.heap.size [Sp.mp w.heap.size Value.string (Value.int .i64) es] wr) ∧ Aside0 (Below w.heap.size w wr)) (fun v28 _ => l.length - (intOf v28).toNat)
  case atStart => exact ⟨0, [], rfl, ⟨Nat.zero_le _, fun j hj => absurd hj (Nat.not_lt_zero _)⟩, ⟨Said.start l⟩, HM0, HB0⟩
  case round =>
    clear HM0 HB0
    obtain ⟨i, es, rfl, HI, HSD, HSr, HBr⟩ := hrel
    by_cases hi : i < l.length
    · have HIL := Aside0.mk hi
      have hi' : (i : Int) < (l.length : Int) := by omega
      obtain ⟨ad, A0, c0, ea, hx0, hx1, hx2, hx3⟩ := at_T57 (Kd.C_below HR.out HBr.out) (i : Int) (by omega) hi'
      rw [Int.toNat_natCast] at hx0 hx1
      obtain ⟨x, hx⟩ : ∃ x, rd_T57 l (i : Int) = x := ⟨_, rfl⟩
      obtain ⟨ad', A0', c0', ea', hw0, hw1, hw2, hw3⟩ := at_T57 HR.out (i : Int) (by omega) hi'
      have hq : wr.cell? (ad.add (i * 2)) = w.cell? (ad'.add (i * 2)) := by
        rw [ea] at ea'
        obtain rfl := Option.some.inj ea'
        exact HBr.out.cell (World.block_lt_of_cell? w _ (by rw [Int.toNat_natCast] at hw0; exact hw0))
      rw [Int.toNat_natCast] at hw0
      rw [hx0, hw0] at hq
      injection hq with hq
      injection hq with hq1 hq2 hq3
      subst hq1 hq3
      subst ea
      rw [hx] at hx0 hx1 hx2 hw3 hw2
      have HXE := Aside0.mk hx
      have HXR := Aside0.mk (And.intro hw2 hw3)
      clear hx hw0 hw1 hw2 hw3 hx2 hx3 hq2 ea' hi
      have HES : Aside0 (∀ p ∈ es, p.1.size ≤ maxLen) := ⟨fun p hp => by
        obtain ⟨j, hj, he⟩ := HSD.out.of p hp
        have h1 := HI.out.2 j hj
        have h2 : wordErr K (rd_T57 l (j : Int)).f0 = 0 := by
          unfold faultAt at h1
          refine Classical.byContradiction fun hn => ?_
          rw [if_pos hn] at h1
          exact hn h1
        rw [he, spell_size]
        have := (wordErr_ok h2).1
        unfold maxLen
        omega⟩
      obtain ⟨pw, hpw⟩ := word_is (l := x.f0) HK.out.1 HK.out.2
      have HPW := Aside0.mk hpw
      clear hpw
      by_cases hwe : wordErr K x.f0 = 0
      · have HWE := Aside0.mk hwe
        have HXL : Aside0 (x.f0.length ≤ 1000000000) := ⟨by have := (wordErr_ok hwe).1; omega⟩
        have HSZ : Aside0 ((spellB x.f0).size ≤ maxLen) := ⟨by rw [spell_size]; have := (wordErr_ok hwe).1; unfold maxLen; omega⟩
        clear hwe
        by_cases h0 : x.f1 = 0
        · have hb0 : (x.f1 != 0) = false := by rw [h0]; rfl
          have HSA : Aside0 (x.f1 = 0 ∨ x.f1 = 1) := ⟨.inl h0⟩
          clear h0
          cases hgk : Vm.getK es (spellB x.f0) with
          | none =>
            have HGK := Aside0.mk hgk
            go_wp2_with (first
            | ((with_reducible refine Sp.gate_update rfl ?_)
               refine Vm.wpList_map_put str_keys Try.underlying71 rfl (.tmp 70) (.tmp 71) (.tmp 73) (.inr rfl) (spellB x.f0) x.f1 rfl rfl rfl rfl (HS3.out.get 1 rfl) HES.out HSZ.out ?_
               intro w4 hm4 hg4
               have HS4 := Aside0.mk (HS3.out.putMap 1 rfl hm4 hg4 HB3.out.size)
               have HB4 := Aside0.mk (HS3.out.belowGrown (i := 1) rfl (fun k hk => by injection hk with hk; exact hk.symm) HB3.out HB3.out.size hg4)
               clear hm4 hg4)
            | (go_at_call 36; refine (Spell_calls A0 x.f0.length c0 x.f0 w2 (Kd.C_below HXR.out.2 HB2.out) HXR.out.1 HXL.out).mono ?_
               rintro e w3 ⟨rfl, hb⟩
               have HS3 := Aside0.mk (HS2.out.low hb)
               have HB3 := Aside0.mk (below_step HB2.out hb)
               have hv0 : w3.cell? ⟨gx, 0, none⟩ = some (.slice A0 x.f0.length c0) := (blk_cell (HS3.out.get 0 rfl) 0).trans rfl
               have hv1 : w3.cell? ⟨gx, 1, none⟩ = some (.int .i64 x.f1) := (blk_cell (HS3.out.get 0 rfl) 1).trans rfl
               have hvf0 := blk_frozen (HS3.out.get 0 rfl) 0
               have hvf1 := blk_frozen (HS3.out.get 0 rfl) 1
               have hlk := Vm.map_lookup str_keys Try.underlying71 zeroI (HS3.out.get 1 rfl) HES.out (k := spellB x.f0) HSZ.out true
               rw [hgk] at hlk
               simp only [Option.map_none, Option.getD_none, Option.isSome_none, if_true] at hlk
               clear hb)
            | (go_at_call 35; refine (word_Check.calls 5000 A0 c0 x.f0 (K : Int) pw (wordErr K x.f0) w1 (Kd.C_below HXR.out.2 HB1.out) HXR.out.1 HPW.out).mono ?_
               rintro e w2 ⟨rfl, ⟨nd, rfl⟩⟩
               rw [HWE.out]
               have HS2 := Aside0.mk (HS1.out.low (pw_below_drewN (Below.refl _ _) nd))
               have HB2 := Aside0.mk (pw_below_drewN HB1.out nd)
               generalize World.drewN w1 nd = w2 at HS2 HB2 ⊢
               have hy0 : w2.cell? ⟨gx, 0, none⟩ = some (.slice A0 x.f0.length c0) := (blk_cell (HS2.out.get 0 rfl) 0).trans rfl
               have hy1 : w2.cell? ⟨gx, 1, none⟩ = some (.int .i64 x.f1) := (blk_cell (HS2.out.get 0 rfl) 1).trans rfl
               have hyf0 := blk_frozen (HS2.out.get 0 rfl) 0
               have hyf1 := blk_frozen (HS2.out.get 0 rfl) 1)
            | ((with_reducible refine gate_store (t := 57) (p := 8) rfl ?_)
               refine wpList_store_rowTo rfl 57 (.tmp 8) (.tmp 32) rfl rfl wr.heap.size #[.slice A0 x.f0.length c0, .int .i64 x.f1] rfl rfl 57 _ (blk_new wr _) ?_ ?_ (by simp [Value.oneCell']) ?_
               (focus (rw [i57]; rfl))
               (focus rfl)
               rw [World.setRow_alloc_new]
               have HS1 := Aside0.mk (HSr.out.alloc #[.slice A0 x.f0.length c0, .int .i64 x.f1] 57 HBr.out.size)
               have HB1 := Aside0.mk (below_alloc HBr.out (.cells #[.slice A0 x.f0.length c0, .int .i64 x.f1] 57))
               obtain ⟨gx, hgx⟩ : ∃ gx, wr.heap.size = gx := ⟨_, rfl⟩
               rw [hgx] at HS1
               simp only [hgx]
               generalize wr.alloc (.cells #[.slice A0 x.f0.length c0, .int .i64 x.f1] 57) = w1 at HS1 HB1 ⊢
               have hz0 : w1.cell? ⟨gx, 0, none⟩ = some (.slice A0 x.f0.length c0) := (blk_cell (HS1.out.get 0 rfl) 0).trans rfl
               have hz1 : w1.cell? ⟨gx, 1, none⟩ = some (.int .i64 x.f1) := (blk_cell (HS1.out.get 0 rfl) 1).trans rfl
               have hzf0 := blk_frozen (HS1.out.get 0 rfl) 0
               have hzf1 := blk_frozen (HS1.out.get 0 rfl) 1
               clear hgx HSr HBr))
            have e1 := w64s (a := i) (by have := HIL.out; have := HL.out; omega)
            go_roundw
            case rel => exact ⟨i + 1, _, by first | rw [e1] | go_num, ⟨HIL.out, fun j hj => by
              rcases Nat.lt_or_ge j i with h1 | h1
              · exact HI.out.2 j h1
              · obtain rfl : j = i := by omega
                exact (Said.none_ HSD.out (by rw [HXE.out]; exact HWE.out) (by rw [HXE.out]; exact HSA.out) (by rw [HXE.out]; exact HGK.out))⟩, ⟨by have h1 := Said.put HSD.out (Said.none_ HSD.out (by rw [HXE.out]; exact HWE.out) (by rw [HXE.out]; exact HSA.out) (by rw [HXE.out]; exact HGK.out)) HI.out.2 HK.out.2 (by rw [HXE.out]; exact HWE.out) (by rw [HXE.out]; exact HSA.out); rw [HXE.out] at h1; exact h1⟩, ⟨HS4.out.tail⟩, HB4⟩
            case measure => first | exact cmeas_at e1 HIL.out | exact cmeas_at2 HIL.out
          | some v =>
            have HGK := Aside0.mk hgk
            by_cases hve : v = x.f1
            · have hvb : (v != x.f1) = false := by rw [hve]; simp
              have HVE := Aside0.mk hve
              clear hve
              go_wp2_with (first
              | ((with_reducible refine Sp.gate_update rfl ?_)
                 refine Vm.wpList_map_put str_keys Try.underlying71 rfl (.tmp 70) (.tmp 71) (.tmp 73) (.inr rfl) (spellB x.f0) x.f1 rfl rfl rfl rfl (HS3.out.get 1 rfl) HES.out HSZ.out ?_
                 intro w4 hm4 hg4
                 have HS4 := Aside0.mk (HS3.out.putMap 1 rfl hm4 hg4 HB3.out.size)
                 have HB4 := Aside0.mk (HS3.out.belowGrown (i := 1) rfl (fun k hk => by injection hk with hk; exact hk.symm) HB3.out HB3.out.size hg4)
                 clear hm4 hg4)
              | (go_at_call 36; refine (Spell_calls A0 x.f0.length c0 x.f0 w2 (Kd.C_below HXR.out.2 HB2.out) HXR.out.1 HXL.out).mono ?_
                 rintro e w3 ⟨rfl, hb⟩
                 have HS3 := Aside0.mk (HS2.out.low hb)
                 have HB3 := Aside0.mk (below_step HB2.out hb)
                 have hv0 : w3.cell? ⟨gx, 0, none⟩ = some (.slice A0 x.f0.length c0) := (blk_cell (HS3.out.get 0 rfl) 0).trans rfl
                 have hv1 : w3.cell? ⟨gx, 1, none⟩ = some (.int .i64 x.f1) := (blk_cell (HS3.out.get 0 rfl) 1).trans rfl
                 have hvf0 := blk_frozen (HS3.out.get 0 rfl) 0
                 have hvf1 := blk_frozen (HS3.out.get 0 rfl) 1
                 have hlk := Vm.map_lookup str_keys Try.underlying71 zeroI (HS3.out.get 1 rfl) HES.out (k := spellB x.f0) HSZ.out true
                 rw [hgk] at hlk
                 simp only [Option.map_some, Option.getD_some, Option.isSome_some, if_true] at hlk
                 clear hb)
              | (go_at_call 35; refine (word_Check.calls 5000 A0 c0 x.f0 (K : Int) pw (wordErr K x.f0) w1 (Kd.C_below HXR.out.2 HB1.out) HXR.out.1 HPW.out).mono ?_
                 rintro e w2 ⟨rfl, ⟨nd, rfl⟩⟩
                 rw [HWE.out]
                 have HS2 := Aside0.mk (HS1.out.low (pw_below_drewN (Below.refl _ _) nd))
                 have HB2 := Aside0.mk (pw_below_drewN HB1.out nd)
                 generalize World.drewN w1 nd = w2 at HS2 HB2 ⊢
                 have hy0 : w2.cell? ⟨gx, 0, none⟩ = some (.slice A0 x.f0.length c0) := (blk_cell (HS2.out.get 0 rfl) 0).trans rfl
                 have hy1 : w2.cell? ⟨gx, 1, none⟩ = some (.int .i64 x.f1) := (blk_cell (HS2.out.get 0 rfl) 1).trans rfl
                 have hyf0 := blk_frozen (HS2.out.get 0 rfl) 0
                 have hyf1 := blk_frozen (HS2.out.get 0 rfl) 1)
              | ((with_reducible refine gate_store (t := 57) (p := 8) rfl ?_)
                 refine wpList_store_rowTo rfl 57 (.tmp 8) (.tmp 32) rfl rfl wr.heap.size #[.slice A0 x.f0.length c0, .int .i64 x.f1] rfl rfl 57 _ (blk_new wr _) ?_ ?_ (by simp [Value.oneCell']) ?_
                 (focus (rw [i57]; rfl))
                 (focus rfl)
                 rw [World.setRow_alloc_new]
                 have HS1 := Aside0.mk (HSr.out.alloc #[.slice A0 x.f0.length c0, .int .i64 x.f1] 57 HBr.out.size)
                 have HB1 := Aside0.mk (below_alloc HBr.out (.cells #[.slice A0 x.f0.length c0, .int .i64 x.f1] 57))
                 obtain ⟨gx, hgx⟩ : ∃ gx, wr.heap.size = gx := ⟨_, rfl⟩
                 rw [hgx] at HS1
                 simp only [hgx]
                 generalize wr.alloc (.cells #[.slice A0 x.f0.length c0, .int .i64 x.f1] 57) = w1 at HS1 HB1 ⊢
                 have hz0 : w1.cell? ⟨gx, 0, none⟩ = some (.slice A0 x.f0.length c0) := (blk_cell (HS1.out.get 0 rfl) 0).trans rfl
                 have hz1 : w1.cell? ⟨gx, 1, none⟩ = some (.int .i64 x.f1) := (blk_cell (HS1.out.get 0 rfl) 1).trans rfl
                 have hzf0 := blk_frozen (HS1.out.get 0 rfl) 0
                 have hzf1 := blk_frozen (HS1.out.get 0 rfl) 1
                 clear hgx HSr HBr))
              have e1 := w64s (a := i) (by have := HIL.out; have := HL.out; omega)
              go_roundw
              case rel => exact ⟨i + 1, _, by first | rw [e1] | go_num, ⟨HIL.out, fun j hj => by
                rcases Nat.lt_or_ge j i with h1 | h1
                · exact HI.out.2 j h1
                · obtain rfl : j = i := by omega
                  exact ((Said.some_ HSD.out HK.out.2 HI.out.2 (by rw [HXE.out]; exact HWE.out) (by rw [HXE.out]; exact HSA.out) (by rw [HXE.out]; exact HGK.out)).trans (if_neg (fun h => h (by rw [HXE.out]; exact HVE.out))))⟩, ⟨by have h1 := Said.put HSD.out ((Said.some_ HSD.out HK.out.2 HI.out.2 (by rw [HXE.out]; exact HWE.out) (by rw [HXE.out]; exact HSA.out) (by rw [HXE.out]; exact HGK.out)).trans (if_neg (fun h => h (by rw [HXE.out]; exact HVE.out)))) HI.out.2 HK.out.2 (by rw [HXE.out]; exact HWE.out) (by rw [HXE.out]; exact HSA.out); rw [HXE.out] at h1; exact h1⟩, ⟨HS4.out.tail⟩, HB4⟩
              case measure => first | exact cmeas_at e1 HIL.out | exact cmeas_at2 HIL.out
            · have hvb : (v != x.f1) = true := by simpa using hve
              have HVE := Aside0.mk hve
              clear hve
              go_wp2_with (first
              | (go_at_call 36; refine (Spell_calls A0 x.f0.length c0 x.f0 w2 (Kd.C_below HXR.out.2 HB2.out) HXR.out.1 HXL.out).mono ?_
                 rintro e w3 ⟨rfl, hb⟩
                 have HS3 := Aside0.mk (HS2.out.low hb)
                 have HB3 := Aside0.mk (below_step HB2.out hb)
                 have hv0 : w3.cell? ⟨gx, 0, none⟩ = some (.slice A0 x.f0.length c0) := (blk_cell (HS3.out.get 0 rfl) 0).trans rfl
                 have hv1 : w3.cell? ⟨gx, 1, none⟩ = some (.int .i64 x.f1) := (blk_cell (HS3.out.get 0 rfl) 1).trans rfl
                 have hvf0 := blk_frozen (HS3.out.get 0 rfl) 0
                 have hvf1 := blk_frozen (HS3.out.get 0 rfl) 1
                 have hlk := Vm.map_lookup str_keys Try.underlying71 zeroI (HS3.out.get 1 rfl) HES.out (k := spellB x.f0) HSZ.out true
                 rw [hgk] at hlk
                 simp only [Option.map_some, Option.getD_some, Option.isSome_some, if_true] at hlk
                 clear hb)
              | (go_at_call 35; refine (word_Check.calls 5000 A0 c0 x.f0 (K : Int) pw (wordErr K x.f0) w1 (Kd.C_below HXR.out.2 HB1.out) HXR.out.1 HPW.out).mono ?_
                 rintro e w2 ⟨rfl, ⟨nd, rfl⟩⟩
                 rw [HWE.out]
                 have HS2 := Aside0.mk (HS1.out.low (pw_below_drewN (Below.refl _ _) nd))
                 have HB2 := Aside0.mk (pw_below_drewN HB1.out nd)
                 generalize World.drewN w1 nd = w2 at HS2 HB2 ⊢
                 have hy0 : w2.cell? ⟨gx, 0, none⟩ = some (.slice A0 x.f0.length c0) := (blk_cell (HS2.out.get 0 rfl) 0).trans rfl
                 have hy1 : w2.cell? ⟨gx, 1, none⟩ = some (.int .i64 x.f1) := (blk_cell (HS2.out.get 0 rfl) 1).trans rfl
                 have hyf0 := blk_frozen (HS2.out.get 0 rfl) 0
                 have hyf1 := blk_frozen (HS2.out.get 0 rfl) 1)
              | ((with_reducible refine gate_store (t := 57) (p := 8) rfl ?_)
                 refine wpList_store_rowTo rfl 57 (.tmp 8) (.tmp 32) rfl rfl wr.heap.size #[.slice A0 x.f0.length c0, .int .i64 x.f1] rfl rfl 57 _ (blk_new wr _) ?_ ?_ (by simp [Value.oneCell']) ?_
                 (focus (rw [i57]; rfl))
                 (focus rfl)
                 rw [World.setRow_alloc_new]
                 have HS1 := Aside0.mk (HSr.out.alloc #[.slice A0 x.f0.length c0, .int .i64 x.f1] 57 HBr.out.size)
                 have HB1 := Aside0.mk (below_alloc HBr.out (.cells #[.slice A0 x.f0.length c0, .int .i64 x.f1] 57))
                 obtain ⟨gx, hgx⟩ : ∃ gx, wr.heap.size = gx := ⟨_, rfl⟩
                 rw [hgx] at HS1
                 simp only [hgx]
                 generalize wr.alloc (.cells #[.slice A0 x.f0.length c0, .int .i64 x.f1] 57) = w1 at HS1 HB1 ⊢
                 have hz0 : w1.cell? ⟨gx, 0, none⟩ = some (.slice A0 x.f0.length c0) := (blk_cell (HS1.out.get 0 rfl) 0).trans rfl
                 have hz1 : w1.cell? ⟨gx, 1, none⟩ = some (.int .i64 x.f1) := (blk_cell (HS1.out.get 0 rfl) 1).trans rfl
                 have hzf0 := blk_frozen (HS1.out.get 0 rfl) 0
                 have hzf1 := blk_frozen (HS1.out.get 0 rfl) 1
                 clear hgx HSr HBr))
              go_ret2
              exact CheckPost.intro (check_at HK.out HL.out HI.out.2 HIL.out ((Said.some_ HSD.out HK.out.2 HI.out.2 (by rw [HXE.out]; exact HWE.out) (by rw [HXE.out]; exact HSA.out) (by rw [HXE.out]; exact HGK.out)).trans (if_pos (by rw [HXE.out]; exact HVE.out))) (by decide)) HB3.out
        · have hb0 : (x.f1 != 0) = true := by simpa using h0
          by_cases h1 : x.f1 = 1
          · have hb1 : (x.f1 != 1) = false := by rw [h1]; rfl
            have HSA : Aside0 (x.f1 = 0 ∨ x.f1 = 1) := ⟨.inr h1⟩
            clear h0 h1
            cases hgk : Vm.getK es (spellB x.f0) with
            | none =>
              have HGK := Aside0.mk hgk
              go_wp2_with (first
              | ((with_reducible refine Sp.gate_update rfl ?_)
                 refine Vm.wpList_map_put str_keys Try.underlying71 rfl (.tmp 70) (.tmp 71) (.tmp 73) (.inr rfl) (spellB x.f0) x.f1 rfl rfl rfl rfl (HS3.out.get 1 rfl) HES.out HSZ.out ?_
                 intro w4 hm4 hg4
                 have HS4 := Aside0.mk (HS3.out.putMap 1 rfl hm4 hg4 HB3.out.size)
                 have HB4 := Aside0.mk (HS3.out.belowGrown (i := 1) rfl (fun k hk => by injection hk with hk; exact hk.symm) HB3.out HB3.out.size hg4)
                 clear hm4 hg4)
              | (go_at_call 36; refine (Spell_calls A0 x.f0.length c0 x.f0 w2 (Kd.C_below HXR.out.2 HB2.out) HXR.out.1 HXL.out).mono ?_
                 rintro e w3 ⟨rfl, hb⟩
                 have HS3 := Aside0.mk (HS2.out.low hb)
                 have HB3 := Aside0.mk (below_step HB2.out hb)
                 have hv0 : w3.cell? ⟨gx, 0, none⟩ = some (.slice A0 x.f0.length c0) := (blk_cell (HS3.out.get 0 rfl) 0).trans rfl
                 have hv1 : w3.cell? ⟨gx, 1, none⟩ = some (.int .i64 x.f1) := (blk_cell (HS3.out.get 0 rfl) 1).trans rfl
                 have hvf0 := blk_frozen (HS3.out.get 0 rfl) 0
                 have hvf1 := blk_frozen (HS3.out.get 0 rfl) 1
                 have hlk := Vm.map_lookup str_keys Try.underlying71 zeroI (HS3.out.get 1 rfl) HES.out (k := spellB x.f0) HSZ.out true
                 rw [hgk] at hlk
                 simp only [Option.map_none, Option.getD_none, Option.isSome_none, if_true] at hlk
                 clear hb)
              | (go_at_call 35; refine (word_Check.calls 5000 A0 c0 x.f0 (K : Int) pw (wordErr K x.f0) w1 (Kd.C_below HXR.out.2 HB1.out) HXR.out.1 HPW.out).mono ?_
                 rintro e w2 ⟨rfl, ⟨nd, rfl⟩⟩
                 rw [HWE.out]
                 have HS2 := Aside0.mk (HS1.out.low (pw_below_drewN (Below.refl _ _) nd))
                 have HB2 := Aside0.mk (pw_below_drewN HB1.out nd)
                 generalize World.drewN w1 nd = w2 at HS2 HB2 ⊢
                 have hy0 : w2.cell? ⟨gx, 0, none⟩ = some (.slice A0 x.f0.length c0) := (blk_cell (HS2.out.get 0 rfl) 0).trans rfl
                 have hy1 : w2.cell? ⟨gx, 1, none⟩ = some (.int .i64 x.f1) := (blk_cell (HS2.out.get 0 rfl) 1).trans rfl
                 have hyf0 := blk_frozen (HS2.out.get 0 rfl) 0
                 have hyf1 := blk_frozen (HS2.out.get 0 rfl) 1)
              | ((with_reducible refine gate_store (t := 57) (p := 8) rfl ?_)
                 refine wpList_store_rowTo rfl 57 (.tmp 8) (.tmp 32) rfl rfl wr.heap.size #[.slice A0 x.f0.length c0, .int .i64 x.f1] rfl rfl 57 _ (blk_new wr _) ?_ ?_ (by simp [Value.oneCell']) ?_
                 (focus (rw [i57]; rfl))
                 (focus rfl)
                 rw [World.setRow_alloc_new]
                 have HS1 := Aside0.mk (HSr.out.alloc #[.slice A0 x.f0.length c0, .int .i64 x.f1] 57 HBr.out.size)
                 have HB1 := Aside0.mk (below_alloc HBr.out (.cells #[.slice A0 x.f0.length c0, .int .i64 x.f1] 57))
                 obtain ⟨gx, hgx⟩ : ∃ gx, wr.heap.size = gx := ⟨_, rfl⟩
                 rw [hgx] at HS1
                 simp only [hgx]
                 generalize wr.alloc (.cells #[.slice A0 x.f0.length c0, .int .i64 x.f1] 57) = w1 at HS1 HB1 ⊢
                 have hz0 : w1.cell? ⟨gx, 0, none⟩ = some (.slice A0 x.f0.length c0) := (blk_cell (HS1.out.get 0 rfl) 0).trans rfl
                 have hz1 : w1.cell? ⟨gx, 1, none⟩ = some (.int .i64 x.f1) := (blk_cell (HS1.out.get 0 rfl) 1).trans rfl
                 have hzf0 := blk_frozen (HS1.out.get 0 rfl) 0
                 have hzf1 := blk_frozen (HS1.out.get 0 rfl) 1
                 clear hgx HSr HBr))
              have e1 := w64s (a := i) (by have := HIL.out; have := HL.out; omega)
              go_roundw
              case rel => exact ⟨i + 1, _, by first | rw [e1] | go_num, ⟨HIL.out, fun j hj => by
                rcases Nat.lt_or_ge j i with h1 | h1
                · exact HI.out.2 j h1
                · obtain rfl : j = i := by omega
                  exact (Said.none_ HSD.out (by rw [HXE.out]; exact HWE.out) (by rw [HXE.out]; exact HSA.out) (by rw [HXE.out]; exact HGK.out))⟩, ⟨by have h1 := Said.put HSD.out (Said.none_ HSD.out (by rw [HXE.out]; exact HWE.out) (by rw [HXE.out]; exact HSA.out) (by rw [HXE.out]; exact HGK.out)) HI.out.2 HK.out.2 (by rw [HXE.out]; exact HWE.out) (by rw [HXE.out]; exact HSA.out); rw [HXE.out] at h1; exact h1⟩, ⟨HS4.out.tail⟩, HB4⟩
              case measure => first | exact cmeas_at e1 HIL.out | exact cmeas_at2 HIL.out
            | some v =>
              have HGK := Aside0.mk hgk
              by_cases hve : v = x.f1
              · have hvb : (v != x.f1) = false := by rw [hve]; simp
                have HVE := Aside0.mk hve
                clear hve
                go_wp2_with (first
                | ((with_reducible refine Sp.gate_update rfl ?_)
                   refine Vm.wpList_map_put str_keys Try.underlying71 rfl (.tmp 70) (.tmp 71) (.tmp 73) (.inr rfl) (spellB x.f0) x.f1 rfl rfl rfl rfl (HS3.out.get 1 rfl) HES.out HSZ.out ?_
                   intro w4 hm4 hg4
                   have HS4 := Aside0.mk (HS3.out.putMap 1 rfl hm4 hg4 HB3.out.size)
                   have HB4 := Aside0.mk (HS3.out.belowGrown (i := 1) rfl (fun k hk => by injection hk with hk; exact hk.symm) HB3.out HB3.out.size hg4)
                   clear hm4 hg4)
                | (go_at_call 36; refine (Spell_calls A0 x.f0.length c0 x.f0 w2 (Kd.C_below HXR.out.2 HB2.out) HXR.out.1 HXL.out).mono ?_
                   rintro e w3 ⟨rfl, hb⟩
                   have HS3 := Aside0.mk (HS2.out.low hb)
                   have HB3 := Aside0.mk (below_step HB2.out hb)
                   have hv0 : w3.cell? ⟨gx, 0, none⟩ = some (.slice A0 x.f0.length c0) := (blk_cell (HS3.out.get 0 rfl) 0).trans rfl
                   have hv1 : w3.cell? ⟨gx, 1, none⟩ = some (.int .i64 x.f1) := (blk_cell (HS3.out.get 0 rfl) 1).trans rfl
                   have hvf0 := blk_frozen (HS3.out.get 0 rfl) 0
                   have hvf1 := blk_frozen (HS3.out.get 0 rfl) 1
                   have hlk := Vm.map_lookup str_keys Try.underlying71 zeroI (HS3.out.get 1 rfl) HES.out (k := spellB x.f0) HSZ.out true
                   rw [hgk] at hlk
                   simp only [Option.map_some, Option.getD_some, Option.isSome_some, if_true] at hlk
                   clear hb)
                | (go_at_call 35; refine (word_Check.calls 5000 A0 c0 x.f0 (K : Int) pw (wordErr K x.f0) w1 (Kd.C_below HXR.out.2 HB1.out) HXR.out.1 HPW.out).mono ?_
                   rintro e w2 ⟨rfl, ⟨nd, rfl⟩⟩
                   rw [HWE.out]
                   have HS2 := Aside0.mk (HS1.out.low (pw_below_drewN (Below.refl _ _) nd))
                   have HB2 := Aside0.mk (pw_below_drewN HB1.out nd)
                   generalize World.drewN w1 nd = w2 at HS2 HB2 ⊢
                   have hy0 : w2.cell? ⟨gx, 0, none⟩ = some (.slice A0 x.f0.length c0) := (blk_cell (HS2.out.get 0 rfl) 0).trans rfl
                   have hy1 : w2.cell? ⟨gx, 1, none⟩ = some (.int .i64 x.f1) := (blk_cell (HS2.out.get 0 rfl) 1).trans rfl
                   have hyf0 := blk_frozen (HS2.out.get 0 rfl) 0
                   have hyf1 := blk_frozen (HS2.out.get 0 rfl) 1)
                | ((with_reducible refine gate_store (t := 57) (p := 8) rfl ?_)
                   refine wpList_store_rowTo rfl 57 (.tmp 8) (.tmp 32) rfl rfl wr.heap.size #[.slice A0 x.f0.length c0, .int .i64 x.f1] rfl rfl 57 _ (blk_new wr _) ?_ ?_ (by simp [Value.oneCell']) ?_
                   (focus (rw [i57]; rfl))
                   (focus rfl)
                   rw [World.setRow_alloc_new]
                   have HS1 := Aside0.mk (HSr.out.alloc #[.slice A0 x.f0.length c0, .int .i64 x.f1] 57 HBr.out.size)
                   have HB1 := Aside0.mk (below_alloc HBr.out (.cells #[.slice A0 x.f0.length c0, .int .i64 x.f1] 57))
                   obtain ⟨gx, hgx⟩ : ∃ gx, wr.heap.size = gx := ⟨_, rfl⟩
                   rw [hgx] at HS1
                   simp only [hgx]
                   generalize wr.alloc (.cells #[.slice A0 x.f0.length c0, .int .i64 x.f1] 57) = w1 at HS1 HB1 ⊢
                   have hz0 : w1.cell? ⟨gx, 0, none⟩ = some (.slice A0 x.f0.length c0) := (blk_cell (HS1.out.get 0 rfl) 0).trans rfl
                   have hz1 : w1.cell? ⟨gx, 1, none⟩ = some (.int .i64 x.f1) := (blk_cell (HS1.out.get 0 rfl) 1).trans rfl
                   have hzf0 := blk_frozen (HS1.out.get 0 rfl) 0
                   have hzf1 := blk_frozen (HS1.out.get 0 rfl) 1
                   clear hgx HSr HBr))
                have e1 := w64s (a := i) (by have := HIL.out; have := HL.out; omega)
                go_roundw
                case rel => exact ⟨i + 1, _, by first | rw [e1] | go_num, ⟨HIL.out, fun j hj => by
                  rcases Nat.lt_or_ge j i with h1 | h1
                  · exact HI.out.2 j h1
                  · obtain rfl : j = i := by omega
                    exact ((Said.some_ HSD.out HK.out.2 HI.out.2 (by rw [HXE.out]; exact HWE.out) (by rw [HXE.out]; exact HSA.out) (by rw [HXE.out]; exact HGK.out)).trans (if_neg (fun h => h (by rw [HXE.out]; exact HVE.out))))⟩, ⟨by have h1 := Said.put HSD.out ((Said.some_ HSD.out HK.out.2 HI.out.2 (by rw [HXE.out]; exact HWE.out) (by rw [HXE.out]; exact HSA.out) (by rw [HXE.out]; exact HGK.out)).trans (if_neg (fun h => h (by rw [HXE.out]; exact HVE.out)))) HI.out.2 HK.out.2 (by rw [HXE.out]; exact HWE.out) (by rw [HXE.out]; exact HSA.out); rw [HXE.out] at h1; exact h1⟩, ⟨HS4.out.tail⟩, HB4⟩
                case measure => first | exact cmeas_at e1 HIL.out | exact cmeas_at2 HIL.out
              · have hvb : (v != x.f1) = true := by simpa using hve
                have HVE := Aside0.mk hve
                clear hve
                go_wp2_with (first
                | (go_at_call 36; refine (Spell_calls A0 x.f0.length c0 x.f0 w2 (Kd.C_below HXR.out.2 HB2.out) HXR.out.1 HXL.out).mono ?_
                   rintro e w3 ⟨rfl, hb⟩
                   have HS3 := Aside0.mk (HS2.out.low hb)
                   have HB3 := Aside0.mk (below_step HB2.out hb)
                   have hv0 : w3.cell? ⟨gx, 0, none⟩ = some (.slice A0 x.f0.length c0) := (blk_cell (HS3.out.get 0 rfl) 0).trans rfl
                   have hv1 : w3.cell? ⟨gx, 1, none⟩ = some (.int .i64 x.f1) := (blk_cell (HS3.out.get 0 rfl) 1).trans rfl
                   have hvf0 := blk_frozen (HS3.out.get 0 rfl) 0
                   have hvf1 := blk_frozen (HS3.out.get 0 rfl) 1
                   have hlk := Vm.map_lookup str_keys Try.underlying71 zeroI (HS3.out.get 1 rfl) HES.out (k := spellB x.f0) HSZ.out true
                   rw [hgk] at hlk
                   simp only [Option.map_some, Option.getD_some, Option.isSome_some, if_true] at hlk
                   clear hb)
                | (go_at_call 35; refine (word_Check.calls 5000 A0 c0 x.f0 (K : Int) pw (wordErr K x.f0) w1 (Kd.C_below HXR.out.2 HB1.out) HXR.out.1 HPW.out).mono ?_
                   rintro e w2 ⟨rfl, ⟨nd, rfl⟩⟩
                   rw [HWE.out]
                   have HS2 := Aside0.mk (HS1.out.low (pw_below_drewN (Below.refl _ _) nd))
                   have HB2 := Aside0.mk (pw_below_drewN HB1.out nd)
                   generalize World.drewN w1 nd = w2 at HS2 HB2 ⊢
                   have hy0 : w2.cell? ⟨gx, 0, none⟩ = some (.slice A0 x.f0.length c0) := (blk_cell (HS2.out.get 0 rfl) 0).trans rfl
                   have hy1 : w2.cell? ⟨gx, 1, none⟩ = some (.int .i64 x.f1) := (blk_cell (HS2.out.get 0 rfl) 1).trans rfl
                   have hyf0 := blk_frozen (HS2.out.get 0 rfl) 0
                   have hyf1 := blk_frozen (HS2.out.get 0 rfl) 1)
                | ((with_reducible refine gate_store (t := 57) (p := 8) rfl ?_)
                   refine wpList_store_rowTo rfl 57 (.tmp 8) (.tmp 32) rfl rfl wr.heap.size #[.slice A0 x.f0.length c0, .int .i64 x.f1] rfl rfl 57 _ (blk_new wr _) ?_ ?_ (by simp [Value.oneCell']) ?_
                   (focus (rw [i57]; rfl))
                   (focus rfl)
                   rw [World.setRow_alloc_new]
                   have HS1 := Aside0.mk (HSr.out.alloc #[.slice A0 x.f0.length c0, .int .i64 x.f1] 57 HBr.out.size)
                   have HB1 := Aside0.mk (below_alloc HBr.out (.cells #[.slice A0 x.f0.length c0, .int .i64 x.f1] 57))
                   obtain ⟨gx, hgx⟩ : ∃ gx, wr.heap.size = gx := ⟨_, rfl⟩
                   rw [hgx] at HS1
                   simp only [hgx]
                   generalize wr.alloc (.cells #[.slice A0 x.f0.length c0, .int .i64 x.f1] 57) = w1 at HS1 HB1 ⊢
                   have hz0 : w1.cell? ⟨gx, 0, none⟩ = some (.slice A0 x.f0.length c0) := (blk_cell (HS1.out.get 0 rfl) 0).trans rfl
                   have hz1 : w1.cell? ⟨gx, 1, none⟩ = some (.int .i64 x.f1) := (blk_cell (HS1.out.get 0 rfl) 1).trans rfl
                   have hzf0 := blk_frozen (HS1.out.get 0 rfl) 0
                   have hzf1 := blk_frozen (HS1.out.get 0 rfl) 1
                   clear hgx HSr HBr))
                go_ret2
                exact CheckPost.intro (check_at HK.out HL.out HI.out.2 HIL.out ((Said.some_ HSD.out HK.out.2 HI.out.2 (by rw [HXE.out]; exact HWE.out) (by rw [HXE.out]; exact HSA.out) (by rw [HXE.out]; exact HGK.out)).trans (if_pos (by rw [HXE.out]; exact HVE.out))) (by decide)) HB3.out
          · have hb1 : (x.f1 != 1) = true := by simpa using h1
            have HF : Aside0 (faultAt K l i = 33) := ⟨by unfold faultAt; rw [HXE.out, if_neg (fun h => h HWE.out), if_pos ⟨h0, h1⟩]⟩
            clear h0 h1
            go_wp2_with (first
            | (go_at_call 35; refine (word_Check.calls 5000 A0 c0 x.f0 (K : Int) pw (wordErr K x.f0) w1 (Kd.C_below HXR.out.2 HB1.out) HXR.out.1 HPW.out).mono ?_
               rintro e w2 ⟨rfl, ⟨nd, rfl⟩⟩
               rw [HWE.out]
               have HS2 := Aside0.mk (HS1.out.low (pw_below_drewN (Below.refl _ _) nd))
               have HB2 := Aside0.mk (pw_below_drewN HB1.out nd)
               generalize World.drewN w1 nd = w2 at HS2 HB2 ⊢
               have hy0 : w2.cell? ⟨gx, 0, none⟩ = some (.slice A0 x.f0.length c0) := (blk_cell (HS2.out.get 0 rfl) 0).trans rfl
               have hy1 : w2.cell? ⟨gx, 1, none⟩ = some (.int .i64 x.f1) := (blk_cell (HS2.out.get 0 rfl) 1).trans rfl
               have hyf0 := blk_frozen (HS2.out.get 0 rfl) 0
               have hyf1 := blk_frozen (HS2.out.get 0 rfl) 1)
            | ((with_reducible refine gate_store (t := 57) (p := 8) rfl ?_)
               refine wpList_store_rowTo rfl 57 (.tmp 8) (.tmp 32) rfl rfl wr.heap.size #[.slice A0 x.f0.length c0, .int .i64 x.f1] rfl rfl 57 _ (blk_new wr _) ?_ ?_ (by simp [Value.oneCell']) ?_
               (focus (rw [i57]; rfl))
               (focus rfl)
               rw [World.setRow_alloc_new]
               have HS1 := Aside0.mk (HSr.out.alloc #[.slice A0 x.f0.length c0, .int .i64 x.f1] 57 HBr.out.size)
               have HB1 := Aside0.mk (below_alloc HBr.out (.cells #[.slice A0 x.f0.length c0, .int .i64 x.f1] 57))
               obtain ⟨gx, hgx⟩ : ∃ gx, wr.heap.size = gx := ⟨_, rfl⟩
               rw [hgx] at HS1
               simp only [hgx]
               generalize wr.alloc (.cells #[.slice A0 x.f0.length c0, .int .i64 x.f1] 57) = w1 at HS1 HB1 ⊢
               have hz0 : w1.cell? ⟨gx, 0, none⟩ = some (.slice A0 x.f0.length c0) := (blk_cell (HS1.out.get 0 rfl) 0).trans rfl
               have hz1 : w1.cell? ⟨gx, 1, none⟩ = some (.int .i64 x.f1) := (blk_cell (HS1.out.get 0 rfl) 1).trans rfl
               have hzf0 := blk_frozen (HS1.out.get 0 rfl) 0
               have hzf1 := blk_frozen (HS1.out.get 0 rfl) 1
               clear hgx HSr HBr))
            go_ret2
            exact CheckPost.intro (check_at HK.out HL.out HI.out.2 HIL.out HF.out (by decide)) HB2.out
      · have hwb : (wordErr K x.f0 != 0) = true := by simpa using hwe
        have HF : Aside0 (faultAt K l i = wordErr K x.f0) := ⟨by unfold faultAt; rw [HXE.out, if_pos hwe]⟩
        have HWN := Aside0.mk hwe
        clear hwe
        go_wp2_with (first
        | (go_at_call 35; refine (word_Check.calls 5000 A0 c0 x.f0 (K : Int) pw (wordErr K x.f0) w1 (Kd.C_below HXR.out.2 HB1.out) HXR.out.1 HPW.out).mono ?_
           rintro e w2 ⟨rfl, ⟨nd, rfl⟩⟩
           have HS2 := Aside0.mk (HS1.out.low (pw_below_drewN (Below.refl _ _) nd))
           have HB2 := Aside0.mk (pw_below_drewN HB1.out nd)
           generalize World.drewN w1 nd = w2 at HS2 HB2 ⊢
           have hy0 : w2.cell? ⟨gx, 0, none⟩ = some (.slice A0 x.f0.length c0) := (blk_cell (HS2.out.get 0 rfl) 0).trans rfl
           have hy1 : w2.cell? ⟨gx, 1, none⟩ = some (.int .i64 x.f1) := (blk_cell (HS2.out.get 0 rfl) 1).trans rfl
           have hyf0 := blk_frozen (HS2.out.get 0 rfl) 0
           have hyf1 := blk_frozen (HS2.out.get 0 rfl) 1)
        | ((with_reducible refine gate_store (t := 57) (p := 8) rfl ?_)
           refine wpList_store_rowTo rfl 57 (.tmp 8) (.tmp 32) rfl rfl wr.heap.size #[.slice A0 x.f0.length c0, .int .i64 x.f1] rfl rfl 57 _ (blk_new wr _) ?_ ?_ (by simp [Value.oneCell']) ?_
           (focus (rw [i57]; rfl))
           (focus rfl)
           rw [World.setRow_alloc_new]
           have HS1 := Aside0.mk (HSr.out.alloc #[.slice A0 x.f0.length c0, .int .i64 x.f1] 57 HBr.out.size)
           have HB1 := Aside0.mk (below_alloc HBr.out (.cells #[.slice A0 x.f0.length c0, .int .i64 x.f1] 57))
           obtain ⟨gx, hgx⟩ : ∃ gx, wr.heap.size = gx := ⟨_, rfl⟩
           rw [hgx] at HS1
           simp only [hgx]
           generalize wr.alloc (.cells #[.slice A0 x.f0.length c0, .int .i64 x.f1] 57) = w1 at HS1 HB1 ⊢
           have hz0 : w1.cell? ⟨gx, 0, none⟩ = some (.slice A0 x.f0.length c0) := (blk_cell (HS1.out.get 0 rfl) 0).trans rfl
           have hz1 : w1.cell? ⟨gx, 1, none⟩ = some (.int .i64 x.f1) := (blk_cell (HS1.out.get 0 rfl) 1).trans rfl
           have hzf0 := blk_frozen (HS1.out.get 0 rfl) 0
           have hzf1 := blk_frozen (HS1.out.get 0 rfl) 1
           clear hgx HSr HBr))
        go_ret2
        exact CheckPost.intro (check_at HK.out HL.out HI.out.2 HIL.out HF.out HWN.out) HB2.out
    · have hi' : ¬ ((i : Int) < (l.length : Int)) := by omega
      obtain rfl : i = l.length := by have := HI.out.1; omega
      clear hi
      go_wp2
      go_ret2
      exact CheckPost.intro (check_ok HK.out HL.out HI.out.2) HBr.out
theorem Check_walk (k : Int) (A1 : Option Addr) (c1 : Nat) (l : List S57) (w : World) (hr : Kd.C k57 w A1 l.length l) (hc : l.length ≤ c1) : Calls Try.prog 14 #[.int .i64 k, .slice A1 l.length c1] w (CheckPost k l w) := by
  by_cases hk : k < 1 ∨ k > 64
  · exact Check_k k A1 c1 l w hk
  · by_cases hl : l.length > 65536
    · exact Check_many k A1 c1 l w (by omega) (by omega) hl
    · obtain ⟨K, rfl⟩ : ∃ K : Nat, k = (K : Int) := ⟨k.toNat, by omega⟩
      exact Check_l K A1 c1 l w hr hc (by omega) (by omega)
theorem set_same {rs : List Res} {i : Nat} {r : Res} (h : rs[i]? = some r) : rs.set i r = rs := by
  obtain ⟨h1, h2⟩ := List.getElem?_eq_some_iff.1 h
  rw [← h2]
  exact List.set_getElem_self h1
end Go.Proofs.Ytocejofjmmoeaaa.X
end
