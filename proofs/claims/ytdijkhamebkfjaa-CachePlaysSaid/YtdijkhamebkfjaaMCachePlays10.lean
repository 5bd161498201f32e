/- Texts of the statement CachePlays, one behind the other: Go functions as Lean functions, the machine's calls, the plain law. -/
import Derived.Test.YtdijkhamebkfjaaMCachePlays4
import Derived.Test.YtdijkhamebkfjaaMCachePlays7
import Derived.Test.YtdijkhamebkfjaaMCachePlays9
set_option linter.unusedVariables false
set_option linter.unusedSimpArgs false
section
namespace Go.Proofs.Ytdijkhamebkfjaa.X
open Go.RowKit Go.Proofs.YtdijkhamebkfjaaW.PrintWords Go.Proofs.YtdijkhamebkfjaaW.PrintLast Go.Proofs.YtdijkhamebkfjaaW.PrintMore
open Go.Proofs.Ytdijkhamebkfjaa Go.Proofs.Ytdijkhamebkfjaa.Sp
def mm.T1 : Bool × List (List Nat × List Nat) := (true, [([], []), ([0], [0]), ([1], [1]), ([], []), ([3], [3]), ([4], [4]), ([], []), ([2, 0, 1, 2, 6], [2]), ([6, 5, 7, 0, 1, 2, 3, 4, 5, 6, 7], [5, 6])])
def mm.B1 : List Nat := [0, 1, 3, 0, 8, 24, 0, 71, 255]
theorem mm.tab1 : rtab .any (opsOf Try.f52 1) = mm.T1 := by kernel_rfl
theorem mm.bits1 : waitsOk mm.T1.2 mm.B1 = true := by kernel_rfl
/-- What may not be said. -/
def badB (M x : Int) : Bool := decide (x < 0) || decide (x ≥ M)
theorem member1_calls (M x : Int) (C : Nat) (w : World) (hc : w.cell? ⟨C, 0, none⟩ = some (.int .i64 M)) : Calls Try.prog 59 #[.int .i64 x, .pointer (some ⟨C, 0, none⟩)] w fun e w' => e = .returned (.bool (badB M x)) ∧ Drawn0 w w' := by
  unfold badB
  by_cases h0 : x < 0
  · rw [decide_eq_true h0, Bool.true_or]
    go_enter Try.func59, Try.ntmps59
    go_wp2
    go_ret
    exact ⟨rfl, Drawn0.refl _⟩
  · rw [decide_eq_false h0, Bool.false_or]
    by_cases h1 : x ≥ M
    · rw [decide_eq_true h1]
      go_enter Try.func59, Try.ntmps59
      go_wp2
      go_ret
      exact ⟨rfl, Drawn0.refl _⟩
    · rw [decide_eq_false h1]
      go_enter Try.func59, Try.ntmps59
      go_wp2
      go_ret
      exact ⟨rfl, Drawn0.refl _⟩
theorem member1_pred (M : Int) (C : Nat) (w : World) (hC : C < w.heap.size) (hc : w.cell? ⟨C, 0, none⟩ = some (.int .i64 M)) : PredAt 59 #[.pointer (some ⟨C, 0, none⟩)] (badB M) w := fun x W hb =>
  member1_calls M x C W ((hb.cell (p := ⟨C, 0, none⟩) hC).trans hc)
theorem enters59 : ∀ args W, (callFunc 59 args).run Try.prog W = .ok (.enter 59 args) W := fun args W => enters_ Try.func59 (by kernel_rfl) rfl args W
theorem Contains_calls (M : Int) (C : Nat) (A : Option Addr) (c : Nat) (l : List Int) (w : World) (hr : Kd.C (Kd.int .i64) w A l.length l) (hC : C < w.heap.size) (hc : w.cell? ⟨C, 0, none⟩ = some (.int .i64 M)) :
    Calls Try.prog 39 #[.slice A l.length c, .func (.func 59) #[] #[.pointer (some ⟨C, 0, none⟩)]] w fun e w' => e = .returned (.bool (l.any (badB M))) ∧ Below w.heap.size w w' := by
  have hix := IndexFunc_calls 59 #[.pointer (some ⟨C, 0, none⟩)] (badB M) A c l w hr enters59 (member1_pred M C w hC hc)
  have hb : decide (idxBy (badB M) l ≥ 0) = l.any (badB M) := by
    unfold idxBy
    cases h : l.findIdx? (badB M) with
    | none =>
      rw [List.findIdx?_eq_none_iff] at h
      rw [List.any_eq_false.2 (fun x hx => by rw [h x hx]; simp)]
      rfl
    | some i =>
      rw [List.findIdx?_eq_some_iff_getElem] at h
      obtain ⟨hi, h1, _⟩ := h
      rw [List.any_eq_true.2 ⟨l[i], List.getElem_mem hi, h1⟩]
      exact decide_eq_true (show (i : Int) ≥ 0 by omega)
  rw [← hb]
  generalize idxBy (badB M) l = z at hix
  clear hb hr hc
  go_enter Try.func39, Try.ntmps39
  go_wp2_with (go_at_call 53; refine hix.mono ?_; rintro e w' ⟨rfl, hd⟩; have HB := Aside0.mk hd.below; clear hd)
  go_ret
  exact ⟨rfl, HB.out⟩
/-- May this be said of a word of so many symbols? -/
def memB (kd O : Int) (nw : Nat) (out : List Int) : Bool := if kd = 1 then decide (out.length = 1) && !(out.any (badB 2)) else decide (out.length = nw) && !(out.any (badB O))
theorem eight {w : World} {g : Nat} {a b c d e f x y : Value} {t : TypeId} (h : (blk g #[a, b, c, d, e, f, x, y] t).at_ w) : w.cell? ⟨g, 0, none⟩ = some a ∧ w.cell? ⟨g, 1, none⟩ = some b ∧ w.cell? ⟨g, 2, none⟩ = some c ∧ w.cell? ⟨g, 3, none⟩ = some d ∧ w.cell? ⟨g, 4, none⟩ = some e ∧ w.cell? ⟨g, 5, none⟩ = some f ∧ w.cell? ⟨g, 6, none⟩ = some x ∧ w.cell? ⟨g, 7, none⟩ = some y := ⟨(blk_cell h 0).trans rfl, (blk_cell h 1).trans rfl, (blk_cell h 2).trans rfl, (blk_cell h 3).trans rfl, (blk_cell h 4).trans rfl, (blk_cell h 5).trans rfl, (blk_cell h 6).trans rfl, (blk_cell h 7).trans rfl⟩
attribute [local go_sem] max2_int min2_int max_two min_two max_three min_three max_four min_four
set_option maxHeartbeats 16000000 in
set_option maxRecDepth 100000 in
theorem member_walk (kd K O : Int) (Aw : Option Addr) (nw cw : Nat) (Ao : Option Addr) (co : Nat) (out : List Int) (w : World) (hro : Kd.C (Kd.int .i64) w Ao out.length out) (hkd : kd = 1 ∨ kd = 2) :
    Calls Try.prog 52 #[.agg #[.int .i64 1, .slice Aw nw cw, .int .i64 kd, .int .i64 K, .int .i64 O, .int .i64 0, .slice none 0 0, .slice none 0 0], .slice Ao out.length co] w fun e w' => e = .returned (.bool (memB kd O nw out)) ∧ Below w.heap.size w w' := by
  have hu76 := Try.underlying76
  have hu24 := Try.underlying24
  have HRO := Aside0.mk hro
  have HS1 := Aside0.mk ((Sep.nil w.heap.size w).alloc #[.int .i64 1, .slice Aw nw cw, .int .i64 kd, .int .i64 K, .int .i64 O, .int .i64 0, .slice none 0 0, .slice none 0 0] 76 (Nat.le_refl _))
  have HB1 := Aside0.mk (below_alloc (Below.refl w.heap.size w) (.cells #[.int .i64 1, .slice Aw nw cw, .int .i64 kd, .int .i64 K, .int .i64 O, .int .i64 0, .slice none 0 0, .slice none 0 0] 76))
  clear hro
  go_enter Try.func52, Try.ntmps52
  go_wp2
  refine start_ (n := 9) (S := fun w' => w'.cell? ⟨w.heap.size, 1, none⟩ = some (.slice Aw nw cw) ∧ w'.cell? ⟨w.heap.size, 4, none⟩ = some (.int .i64 O)) (ds := [8]) #[false, false, false, false, false, false, false, false, false] (by kernel_rfl) rfl rfl ⟨(blk_cell ((HS1.out.low (below_drew1 (Below.refl _ _))).get 0 rfl) 1).trans rfl, (blk_cell ((HS1.out.low (below_drew1 (Below.refl _ _))).get 0 rfl) 4).trans rfl⟩ (fun hHeld => ?_)
  refine with_tabW mm.tab1 mm.bits1 (fun HT_ HW_ => ?_)
  have HSD := Aside0.mk (HS1.out.low (below_drew1 (Below.refl _ _)))
  have HBD := Aside0.mk (below_drew1 HB1.out)
  clear HS1 HB1
  generalize (w.alloc _).drew = wd at HSD HBD hHeld ⊢
  refine pure_ (i := 0) (N := (some 7)) (v := ?_) (a' := ?_) #[true, false, false, false, false, false, false, false, false] rfl rfl (any_of HT_.out (by kernel_rfl)) (fun _ _ _ h => h) (Or.inl ⟨by rfl, ?_⟩) ?_ ?_
  rotate_left
  · intro w'
    go_simp
    with_reducible rfl
  rotate_left
  · simp only [Act.put, List.setIfInBounds_toArray, List.set_cons_zero, List.set_cons_succ, i64_w, i32_w]
    rfl
  refine pure_ (i := 3) (N := (some 10)) (v := ?_) (a' := ?_) #[true, false, false, true, false, false, false, false, false] rfl rfl (any_of HT_.out (by kernel_rfl)) (fun _ _ _ h => h) (Or.inl ⟨by rfl, ?_⟩) ?_ ?_
  rotate_left
  · intro w'
    go_simp
    with_reducible rfl
  rotate_left
  · simp only [Act.put, List.setIfInBounds_toArray, List.set_cons_zero, List.set_cons_succ, i64_w, i32_w]
    rfl
  refine pure_ (i := 4) (N := (some 11)) (v := ?_) (a' := ?_) #[true, false, false, true, true, false, false, false, false] rfl rfl (any_of HT_.out (by kernel_rfl)) (fun _ _ _ h => h) (Or.inl ⟨by rfl, ?_⟩) ?_ ?_
  rotate_left
  · intro w'
    go_simp
    with_reducible rfl
  rotate_left
  · simp only [Act.put, List.setIfInBounds_toArray, List.set_cons_zero, List.set_cons_succ, i64_w, i32_w]
    rfl
  refine take_ (i := 1) (N := (some 8)) (v := ?_) (a' := ?_) #[true, true, false, true, true, false, false, false, false] rfl rfl (take_ofW HT_.out HW_.out (by kernel_rfl)) (fun _ _ _ h => h) (Or.inl ⟨by rfl, ?_⟩) hHeld ?_ ?_
  rotate_left
  · rintro w' ⟨s0, s1⟩
    go_simp
    with_reducible rfl
  rotate_left
  · simp only [Act.put, List.setIfInBounds_toArray, List.set_cons_zero, List.set_cons_succ, i64_w, i32_w]
    rfl
  refine pure_ (i := 2) (N := (some 9)) (v := ?_) (a' := ?_) #[true, true, true, true, true, false, false, false, false] rfl rfl (any_of HT_.out (by kernel_rfl)) (fun _ _ _ h => h) (Or.inl ⟨by rfl, ?_⟩) ?_ ?_
  rotate_left
  · intro w'
    go_simp
    with_reducible rfl
  rotate_left
  · simp only [Act.put, List.setIfInBounds_toArray, List.set_cons_zero, List.set_cons_succ, i64_w, i32_w]
    rfl
  refine take_ (i := 5) (N := (some 12)) (v := ?_) (a' := ?_) #[true, true, true, true, true, true, false, false, false] rfl rfl (take_ofW HT_.out HW_.out (by kernel_rfl)) (fun _ _ _ h => h) (Or.inl ⟨by rfl, ?_⟩) hHeld ?_ ?_
  rotate_left
  · rintro w' ⟨s0, s1⟩
    go_simp
    with_reducible rfl
  rotate_left
  · simp only [Act.put, List.setIfInBounds_toArray, List.set_cons_zero, List.set_cons_succ, i64_w, i32_w]
    rfl
  refine one_ (i := 6) (N := (some 6)) #[true, true, true, true, true, true, true, false, false] rfl rfl (one_of HT_.out (by kernel_rfl)) (by decide) (fun Kc hK => ?_)
  refine value_ (w1 := ?_) (v := ?_) (by rfl) rfl ?_ ?_
  rotate_left 2
  · go_simp
    constructor
    · rfl
    · rfl
  have HS2 : Aside0 (Sep w.heap.size [blk wd.heap.size #[.int .i64 0] 3, blk w.heap.size #[.int .i64 1, .slice Aw nw cw, .int .i64 kd, .int .i64 K, .int .i64 O, .int .i64 0, .slice none 0 0, .slice none 0 0] 76] _) := ⟨HSD.out.alloc #[.int .i64 0] 3 HBD.out.size⟩
  have HB2 := Aside0.mk (below_alloc HBD.out (.cells #[.int .i64 0] 3))
  have HLT : Aside0 (wd.heap.size < (wd.alloc (.cells #[.int .i64 0] 3)).heap.size) := ⟨by simp⟩
  refine hK.out _ _ ⟨(blk_cell (HS2.out.get 1 rfl) 1).trans rfl, (blk_cell (HS2.out.get 1 rfl) 4).trans rfl⟩ (fun hHeld => ?_); clear hK Kc
  generalize wd.alloc (.cells #[.int .i64 0] 3) = wa at HS2 HB2 HLT hHeld ⊢
  generalize wd.heap.size = gc at HS2 HLT ⊢
  refine norm_ (a' := ?_) ?_ ?_
  rotate_left
  · show Act.put _ (some 6) _ = _
    simp only [Act.put, List.setIfInBounds_toArray, List.set_cons_zero, List.set_cons_succ, i64_w, i32_w]
    rfl
  refine pure_ (i := 7) (N := (some 5)) (v := ?_) (a' := ?_) #[true, true, true, true, true, true, true, true, false] rfl rfl (any_of HT_.out (by kernel_rfl)) (fun _ _ _ h => h) (Or.inl ⟨by rfl, ?_⟩) ?_ ?_
  rotate_left
  · intro w'
    go_simp
    with_reducible rfl
  rotate_left
  · simp only [Act.put, List.setIfInBounds_toArray, List.set_cons_zero, List.set_cons_succ, i64_w, i32_w]
    rfl
  refine last_ (i := 8) (N := none) #[true, true, true, true, true, true, true, true, true] rfl rfl (one_of HT_.out (by kernel_rfl)) (by decide) (fun Kc hK => ?_)
  have hcl : wa.cell? ⟨gc, 0, none⟩ = some (.int .i64 0) := (blk_cell (HS2.out.get 0 rfl) 0).trans rfl
  have hfz := blk_frozen (HS2.out.get 0 rfl) 0
  refine skip_ (w1 := ?_) (by rfl) rfl ?_ ?_
  rotate_left
  · go_simp
    rfl
  have HS3 : Aside0 (Sep w.heap.size [blk gc #[.int .i64 O] 3, blk w.heap.size #[.int .i64 1, .slice Aw nw cw, .int .i64 kd, .int .i64 K, .int .i64 O, .int .i64 0, .slice none 0 0, .slice none 0 0] 76] _) := ⟨HS2.out.cell 0 rfl 0 (.int .i64 O) rfl HB2.out.size⟩
  have HB3 := Aside0.mk (HS2.out.belowSet 0 rfl (j := 0) (u := .int .i64 O) HB2.out)
  refine hK.out _ _ ?_; clear hK Kc
  clear hcl hfz
  refine done_ (done_of HT_.out (by kernel_rfl)) ?_
  generalize World.setCell wa _ _ = w3 at HS3 HB3 ⊢
  have hx2 : w3.cell? ⟨w.heap.size, 2, none⟩ = some (.int .i64 kd) := (blk_cell (HS3.out.get 1 rfl) 2).trans rfl
  have hgc : gc < w3.heap.size := (HS3.out.bound 0 rfl rfl).2
  clear HS2 HB2 HLT hHeld
  rcases hkd with rfl | rfl
  · have hy : w3.cell? ⟨gc, 0, none⟩ = some (.int .i64 O) := (blk_cell (HS3.out.get 0 rfl) 0).trans rfl
    have hfz := blk_frozen (HS3.out.get 0 rfl) 0
    have HS4 : Aside0 (Sep w.heap.size [blk gc #[.int .i64 2] 3, blk w.heap.size #[.int .i64 1, .slice Aw nw cw, .int .i64 1, .int .i64 K, .int .i64 O, .int .i64 0, .slice none 0 0, .slice none 0 0] 76] (w3.setCell ⟨gc, 0, none⟩ (.int .i64 2))) := ⟨HS3.out.cell 0 rfl 0 (.int .i64 2) rfl HB3.out.size⟩
    have HB4 := Aside0.mk (HS3.out.belowSet 0 rfl (j := 0) (u := .int .i64 2) HB3.out)
    have hcc := fun hC => Contains_calls 2 gc Ao co out (w3.setCell ⟨gc, 0, none⟩ (.int .i64 2)) (Kd.C_below HRO.out HB4.out) hC ((blk_cell (HS4.out.get 0 rfl) 0).trans rfl)
    have HGC := Aside0.mk (HS4.out.bound 0 rfl (show gc = gc from rfl)).2
    have hmb : memB 1 O nw out = (decide (out.length = 1) && !(out.any (badB 2))) := by unfold memB; rw [if_pos rfl]
    generalize out.any (badB 2) = z at hcc hmb
    have HMB := Aside0.mk hmb
    clear hmb
    clear HS3 HB3 hgc HRO
    by_cases h1 : out.length = 1
    · have h1' : ((out.length : Int) == 1) = true := by rw [h1]; rfl
      have HMC := Aside0.mk (HMB.out.trans (by rw [decide_eq_true h1, Bool.true_and]))
      clear h1
      go_wp2_with (first
      | (go_at_call 39; refine (hcc HGC.out).mono ?_
         rintro e w5 ⟨rfl, hb⟩
         have HB5 := Aside0.mk (below_step HB4.out hb)
         clear hb))
      go_ret
      exact ⟨by rw [HMC.out]; rfl, HB5.out⟩
    · have h1' : ((out.length : Int) == 1) = false := by simp; omega
      have HMC := Aside0.mk (HMB.out.trans (by rw [decide_eq_false h1, Bool.false_and]))
      clear h1 hcc
      go_wp2
      go_ret
      exact ⟨by rw [HMC.out]; rfl, HB4.out⟩
  · have hcc := fun hC => Contains_calls O gc Ao co out w3 (Kd.C_below HRO.out HB3.out) hC ((blk_cell (HS3.out.get 0 rfl) 0).trans rfl)
    have HGC := Aside0.mk hgc
    have hmb : memB 2 O nw out = (decide (out.length = nw) && !(out.any (badB O))) := by unfold memB; rw [if_neg (by decide)]
    generalize out.any (badB O) = z at hcc hmb
    have HMB := Aside0.mk hmb
    clear hmb
    clear HS3 hgc HRO
    by_cases h1 : out.length = nw
    · have h1' : ((out.length : Int) == (nw : Int)) = true := by rw [h1]; simp
      have HMC := Aside0.mk (HMB.out.trans (by rw [decide_eq_true h1, Bool.true_and]))
      clear h1
      go_wp2_with (first
      | (go_at_call 39; refine (hcc HGC.out).mono ?_
         rintro e w5 ⟨rfl, hb⟩
         have HB5 := Aside0.mk (below_step HB3.out hb)
         clear hb))
      go_ret
      exact ⟨by rw [HMC.out]; rfl, HB5.out⟩
    · have h1' : ((out.length : Int) == (nw : Int)) = false := by simp; omega
      have HMC := Aside0.mk (HMB.out.trans (by rw [decide_eq_false h1, Bool.false_and]))
      clear h1 hcc
      go_wp2
      go_ret
      exact ⟨by rw [HMC.out]; rfl, HB3.out⟩
theorem as94 (v : Value) (w : World) : (Instr.typeAssert (.iface 94 v) 91 94 true).run Try.prog w = .ok (.tuple #[v, .bool true]) w := by kernel_rfl
set_option maxHeartbeats 16000000 in
set_option maxRecDepth 100000 in
theorem of_walk (Ao : Option Addr) (no co : Nat) (w : World) : Calls Try.prog 51 #[.agg #[.int .i64 1, .slice Ao no co, .slice none 0 0]] w fun e w' => e = .returned (.iface 94 (.agg #[.slice Ao no co])) ∧ Below w.heap.size w w' := by
  have hu78 := Try.underlying78
  have hu91 := Try.underlying91
  have hu94 := Try.underlying94
  go_enter Try.func51, Try.ntmps51
  go_wp2
  try rw [Exit.noGoto_ret]
  go_ret
  exact ⟨rfl, by repeat (first | exact Below.refl _ _ | apply below_alloc)⟩
attribute [local go_sem] as94
set_option maxHeartbeats 16000000 in
set_option maxRecDepth 100000 in
theorem TCheck_walk (kd K O : Int) (Aw : Option Addr) (nw cw : Nat) (Ao : Option Addr) (co : Nat) (out : List Int) (w : World) (hro : Kd.C (Kd.int .i64) w Ao out.length out) (hkd : kd = 1 ∨ kd = 2) :
    Calls Try.prog 35 #[.agg #[.int .i64 1, .slice Aw nw cw, .int .i64 kd, .int .i64 K, .int .i64 O, .int .i64 0, .slice none 0 0, .slice none 0 0], .agg #[.int .i64 1, .slice Ao out.length co, .slice none 0 0]] w fun e w' => e = .returned (.int .i64 (if memB kd O nw out = true then 0 else 100)) ∧ Below w.heap.size w w' := by
  have hu76 := Try.underlying76
  have hu78 := Try.underlying78
  have hu91 := Try.underlying91
  have hu94 := Try.underlying94
  have hu24 := Try.underlying24
  have HS1 := Aside0.mk (((Sep.nil w.heap.size w).alloc #[.int .i64 1, .slice Aw nw cw, .int .i64 kd, .int .i64 K, .int .i64 O, .int .i64 0, .slice none 0 0, .slice none 0 0] 76 (Nat.le_refl _)).alloc #[.int .i64 1, .slice Ao out.length co, .slice none 0 0] 78 (by simp))
  have HB1 := Aside0.mk (below_alloc (below_alloc (Below.refl w.heap.size w) (.cells #[.int .i64 1, .slice Aw nw cw, .int .i64 kd, .int .i64 K, .int .i64 O, .int .i64 0, .slice none 0 0, .slice none 0 0] 76)) (.cells #[.int .i64 1, .slice Ao out.length co, .slice none 0 0] 78))
  have hmw := fun (W : World) (hb : Below w.heap.size w W) => member_walk kd K O Aw nw cw Ao co out W (Kd.C_below hro hb) hkd
  generalize memB kd O nw out = z at hmw
  clear hro
  have hs1 : (w.alloc (.cells #[.int .i64 1, .slice Aw nw cw, .int .i64 kd, .int .i64 K, .int .i64 O, .int .i64 0, .slice none 0 0, .slice none 0 0] 76)).heap.size = w.heap.size + 1 := by simp
  rw [hs1] at HS1
  clear hs1
  obtain ⟨hx0, hx1, hx2, hx3, hx4, hx5, hx6, hx7⟩ := eight (HS1.out.get 1 rfl)
  go_enter Try.func35, Try.ntmps35
  go_upto_region 7 with (
     go_at_call 51
     refine (of_walk Ao out.length co _).mono ?_
     rintro e w5 ⟨rfl, hb⟩
     have HS5 := Aside0.mk (HS1.out.low hb)
     have HB5 := Aside0.mk (below_step HB1.out hb)
     clear hb HS1 HB1 hx0 hx1 hx2 hx3 hx4 hx5 hx6 hx7)
  have HS6 := Aside0.mk (HS5.out.alloc #[.slice Ao out.length co] 94 HB5.out.size)
  have HB6 := Aside0.mk (below_alloc HB5.out (.cells #[.slice Ao out.length co] 94))
  generalize w5.alloc (.cells #[.slice Ao out.length co] 94) = w6 at HS6 HB6 ⊢
  generalize w5.heap.size = gr at HS6 ⊢
  obtain ⟨hx0, hx1, hx2, hx3, hx4, hx5, hx6, hx7⟩ := eight (HS6.out.get 2 rfl)
  have hy2 : w6.cell? ⟨w.heap.size + 1, 2, none⟩ = some (.slice none 0 0) := (blk_cell (HS6.out.get 1 rfl) 2).trans rfl
  have hr0 : w6.cell? ⟨gr, 0, none⟩ = some (.slice Ao out.length co) := (blk_cell (HS6.out.get 0 rfl) 0).trans rfl
  clear HS5 HB5
  cases z with
  | true =>
    go_wp2_with (
      go_at_call 52
      refine (hmw w6 HB6.out).mono ?_
      rintro e w7 ⟨rfl, hb⟩
      have HB7 := Aside0.mk (below_step HB6.out hb)
      clear hb)
    go_ret
    exact ⟨rfl, HB7.out⟩
  | false =>
    go_wp2_with (
      go_at_call 52
      refine (hmw w6 HB6.out).mono ?_
      rintro e w7 ⟨rfl, hb⟩
      have HB7 := Aside0.mk (below_step HB6.out hb)
      clear hb)
    go_ret
    exact ⟨rfl, HB7.out⟩
end Go.Proofs.Ytdijkhamebkfjaa.X
end

section
namespace Go.Proofs.Ytdijkhamebkfjaa.X
open Go.RowKit Go.Proofs.YtdijkhamebkfjaaW.PrintWords Go.Proofs.YtdijkhamebkfjaaW.PrintLast Go.Proofs.YtdijkhamebkfjaaW.PrintMore
open Go.Proofs.Ytdijkhamebkfjaa Go.Proofs.Ytdijkhamebkfjaa.Sp
theorem notnil_pred (w : World) : PredAt 40 #[] (fun x => x != 0) w := fun x W _ => by
  go_enter Try.func40, Try.ntmps40
  go_wp2
  go_ret
  exact ⟨rfl, Drawn0.refl _⟩
theorem enters40 : ∀ args W, (callFunc 40 args).run Try.prog W = .ok (.enter 40 args) W := fun args W => enters_ Try.func40 (by kernel_rfl) rfl args W
theorem Notnil_calls (A : Option Addr) (c : Nat) (l : List Int) (w : World) (hr : Kd.C (Kd.int .i64) w A l.length l) :
    Calls Try.prog 39 #[.slice A l.length c, .func (.func 40) #[] #[]] w fun e w' => e = .returned (.bool (l.any (fun x => x != 0))) ∧ Drawn0 w w' := by
  have hix := IndexFunc_calls 40 #[] (fun x => x != 0) A c l w hr enters40 (notnil_pred w)
  have hb : decide (idxBy (fun x => x != 0) l ≥ 0) = l.any (fun x => x != 0) := by
    unfold idxBy
    cases h : l.findIdx? (fun x => x != 0) with
    | none =>
      rw [List.findIdx?_eq_none_iff] at h
      rw [List.any_eq_false.2 (fun x hx => by rw [h x hx]; simp)]
      rfl
    | some i =>
      rw [List.findIdx?_eq_some_iff_getElem] at h
      obtain ⟨hi, h1, _⟩ := h
      rw [List.any_eq_true.2 ⟨l[i], List.getElem_mem hi, h1⟩]
      exact decide_eq_true (show (i : Int) ≥ 0 by omega)
  rw [← hb]
  generalize idxBy (fun x => x != 0) l = z at hix
  clear hb hr
  go_enter Try.func39, Try.ntmps39
  go_wp2_with (go_at_call 53; refine hix.mono ?_; rintro e w' ⟨rfl, ⟨nd, rfl⟩⟩)
  go_ret
  exact ⟨rfl, (Drawn0.refl _).step _⟩
def lexC : List Int → List Int → Int
  | [], [] => 0
  | [], _ :: _ => -1
  | _ :: _, [] => 1
  | a :: xs, b :: ys => if a < b then -1 else if a > b then 1 else lexC xs ys
def cmpW (a b : List Int) : Int := if a.length < b.length then -1 else if a.length > b.length then 1 else lexC a b
theorem lexC_self : ∀ a, lexC a a = 0
  | [] => rfl
  | a :: xs => by unfold lexC; rw [if_neg (by omega), if_neg (by omega)]; exact lexC_self xs
theorem lexC_anti : ∀ a b, lexC a b = - lexC b a
  | [], [] => rfl
  | [], _ :: _ => rfl
  | _ :: _, [] => rfl
  | a :: xs, b :: ys => by
    unfold lexC
    have := lexC_anti xs ys
    split <;> split <;> (try split) <;> first | omega | (exfalso; omega) | skip
theorem lexC_zero : ∀ a b, lexC a b = 0 → a = b
  | [], [], _ => rfl
  | [], _ :: _, h => by simp [lexC] at h
  | _ :: _, [], h => by simp [lexC] at h
  | a :: xs, b :: ys, h => by
    unfold lexC at h
    by_cases h1 : a < b
    · rw [if_pos h1] at h; omega
    · by_cases h2 : a > b
      · rw [if_neg h1, if_pos h2] at h; omega
      · rw [if_neg h1, if_neg h2] at h
        rw [lexC_zero xs ys h, show a = b by omega]
theorem lexC_trans : ∀ a b c, lexC a b < 0 → lexC b c < 0 → lexC a c < 0
  | [], [], c, h, _ => by simp [lexC] at h
  | [], _ :: _, [], _, h2 => by simp [lexC] at h2
  | [], _ :: _, _ :: _, _, _ => by simp [lexC]
  | _ :: _, [], _, h, _ => by simp [lexC] at h
  | _ :: _, _ :: _, [], _, h2 => by simp [lexC] at h2
  | a :: xs, b :: ys, c :: zs, h, h2 => by
    unfold lexC at h h2 ⊢
    by_cases c1 : a < c
    · rw [if_pos c1]; omega
    · by_cases c2 : a > c
      · exfalso
        by_cases h3 : a < b
        · have : b > c := by omega
          rw [if_neg (by omega), if_pos this] at h2
          omega
        · by_cases h4 : a > b
          · rw [if_neg h3, if_pos h4] at h; omega
          · rw [if_neg (by omega), if_pos (by omega)] at h2; omega
      · rw [if_neg c1, if_neg c2]
        by_cases h3 : a < b
        · rw [if_neg (by omega), if_pos (by omega)] at h2; omega
        · by_cases h4 : a > b
          · rw [if_neg h3, if_pos h4] at h; omega
          · rw [if_neg h3, if_neg h4] at h
            rw [if_neg (by omega), if_neg (by omega)] at h2
            exact lexC_trans xs ys zs h h2
theorem cmpW_self (a : List Int) : cmpW a a = 0 := by unfold cmpW; rw [if_neg (by omega), if_neg (by omega)]; exact lexC_self a
theorem cmpW_anti (a b : List Int) : cmpW a b = - cmpW b a := by
  unfold cmpW
  have := lexC_anti a b
  split <;> split <;> (try split) <;> first | omega | (exfalso; omega) | skip
theorem cmpW_zero (a b : List Int) (h : cmpW a b = 0) : a = b := by
  unfold cmpW at h
  by_cases h1 : a.length < b.length
  · rw [if_pos h1] at h; omega
  · by_cases h2 : a.length > b.length
    · rw [if_neg h1, if_pos h2] at h; omega
    · rw [if_neg h1, if_neg h2] at h
      exact lexC_zero a b h
theorem cmpW_trans (a b c : List Int) (h : cmpW a b < 0) (h2 : cmpW b c < 0) : cmpW a c < 0 := by
  unfold cmpW at h h2 ⊢
  by_cases c1 : a.length < c.length
  · rw [if_pos c1]; omega
  · by_cases c2 : a.length > c.length
    · exfalso
      by_cases h3 : a.length < b.length
      · rw [if_neg (by omega), if_pos (by omega)] at h2; omega
      · by_cases h4 : a.length > b.length
        · rw [if_neg h3, if_pos h4] at h; omega
        · rw [if_neg (by omega), if_pos (by omega)] at h2; omega
    · rw [if_neg c1, if_neg c2]
      by_cases h3 : a.length < b.length
      · rw [if_neg (by omega), if_pos (by omega)] at h2; omega
      · by_cases h4 : a.length > b.length
        · rw [if_neg h3, if_pos h4] at h; omega
        · rw [if_neg h3, if_neg h4] at h
          rw [if_neg (by omega), if_neg (by omega)] at h2
          exact lexC_trans a b c h h2
theorem cmp_int (x y : Int) : cmp_Compare_int.f x y = some (if x < y then -1 else if x > y then 1 else 0) := by
  unfold cmp_Compare_int.f cmp_isNaN_int.f
  simp
  split <;> (try split) <;> rfl
theorem sl_cmp : ∀ (k : Nat) (a b : List Int) (i : Nat), i ≤ a.length → a.length - i + 1 ≤ k → a.length < 4611686018427387904 → b.length < 4611686018427387904 → i ≤ b.length → slices_Compare_int_int.l0 k a b a (a.length : Int) i = some (lexC (a.drop i) (b.drop i))
  | 0, a, b, i, hi, hk, _, _, _ => by omega
  | k + 1, a, b, i, hi, hk, ha, hb, hib => by
    unfold slices_Compare_int_int.l0
    by_cases h : i < a.length
    · rw [if_pos (by omega), if_pos (by omega), if_pos (by omega)]
      rw [List.drop_eq_getElem_cons h]
      by_cases h2 : i < b.length
      · rw [if_neg (by omega), if_pos (by omega), cmp_int, rd_nat h, rd_nat h2, List.drop_eq_getElem_cons h2]
        have e : wrap64 ((i : Int) + 1) = ((i + 1 : Nat) : Int) := by unfold wrap64; omega
        have ih := sl_cmp k a b (i + 1) (by omega) (by omega) ha hb (by omega)
        unfold lexC
        by_cases c1 : a[i] < b[i]
        · simp [c1]
        · by_cases c2 : a[i] > b[i]
          · simp [c1, c2]
          · rw [if_neg c1, if_neg c2, if_neg c1, if_neg c2]
            simp only [Option.bind_some, ↓reduceIte]
            rw [e, ih]
      · have hbe : b.drop i = [] := List.drop_eq_nil_of_le (by omega)
        rw [if_pos (by omega), hbe]
        rfl
    · have hae : a.drop i = [] := List.drop_eq_nil_of_le (by omega)
      rw [if_neg (by omega), hae]
      by_cases h2 : i < b.length
      · rw [if_pos (by omega), List.drop_eq_getElem_cons h2]
        rfl
      · rw [if_neg (by omega), List.drop_eq_nil_of_le (by omega)]
        rfl
theorem cmpW_is (k : Nat) (a b : List Int) (hk : a.length + 1 ≤ k) (ha : a.length < 4611686018427387904) (hb : b.length < 4611686018427387904) : word_Compare.f k a b = some (cmpW a b) := by
  unfold word_Compare.f cmpW
  rw [cmp_int]
  by_cases c1 : a.length < b.length
  · rw [if_pos (by omega), if_pos c1]; rfl
  · by_cases c2 : a.length > b.length
    · rw [if_neg (by omega), if_pos (by omega), if_neg c1, if_pos c2]; rfl
    · rw [if_neg (by omega), if_neg (by omega), if_neg c1, if_neg c2]
      have := sl_cmp k a b 0 (by omega) (by omega) ha hb (by omega)
      simp only [Option.bind_some, ↓reduceIte]
      unfold slices_Compare_int_int.f
      have t2 : slices_Compare_int_int.l0 k a b a (a.length : Int) 0 = some (lexC a b) := this
      rw [t2]
      rfl
end Go.Proofs.Ytdijkhamebkfjaa.X
end

section
namespace Go.Proofs.Ytdijkhamebkfjaa.X
open Go.RowKit Go.Proofs.YtdijkhamebkfjaaW.PrintWords Go.Proofs.YtdijkhamebkfjaaW.PrintLast Go.Proofs.YtdijkhamebkfjaaW.PrintMore
open Go.Proofs.Ytdijkhamebkfjaa Go.Proofs.Ytdijkhamebkfjaa.Sp
def pt.T18 : Bool × List (List Nat × List Nat) := (true, [([], []), ([], []), ([], []), ([1, 2], [1, 2]), ([3], [3]), ([0, 4], [0, 4]), ([], []), ([6], [6]), ([7], [7]), ([8], [8]), ([9], [9]), ([10, 10], [10]), ([5, 11], [5, 11]), ([], []), ([13, 12, 0, 1, 2, 3, 4, 5, 6, 7, 8, 9, 10, 11, 12, 13], [12, 13])])
def pt.B18 : List Nat := [0, 0, 0, 6, 14, 31, 0, 64, 192, 448, 960, 1984, 4095, 0, 16383]
theorem pt.tab18 : rtab .any (opsOf Try.f15 18) = pt.T18 := by kernel_rfl
theorem pt.bits18 : waitsOk pt.T18.2 pt.B18 = true := by kernel_rfl
def pt.T21 : Bool × List (List Nat × List Nat) := (true, [([], []), ([0], [0]), ([1], [1]), ([2], [2]), ([], []), ([3, 4], [3, 4]), ([5], [5]), ([6], [6]), ([], []), ([], []), ([8, 9], [8, 9]), ([10], [10]), ([], []), ([12], [12]), ([13], [13]), ([14], [14]), ([15], [15]), ([7, 11, 0, 1, 2, 3, 4, 5, 6, 7, 8, 9, 10, 11, 12, 13, 14, 15, 16], [7, 11]), ([17, 16, 0, 1, 2, 3, 4, 5, 6, 7, 8, 9, 10, 11, 12, 13, 14, 15, 16], [16, 17])])
def pt.B21 : List Nat := [0, 1, 3, 7, 0, 31, 63, 127, 0, 0, 768, 1792, 0, 4096, 12288, 28672, 61440, 131071, 262143]
theorem pt.tab21 : rtab .any (opsOf Try.f15 21) = pt.T21 := by kernel_rfl
theorem pt.bits21 : waitsOk pt.T21.2 pt.B21 = true := by kernel_rfl
def pt.T23 : Bool × List (List Nat × List Nat) := (true, [([], []), ([], []), ([1], [1]), ([2], [2]), ([3], [3]), ([], []), ([5], [5]), ([4, 6], [4, 6]), ([0, 0, 1, 2, 3, 4, 5, 6, 7], [0]), ([8, 0, 1, 2, 3, 4, 5, 6, 7], [8]), ([9, 7, 7, 0, 1, 2, 3, 4, 5, 6, 7], [7, 9])])
def pt.B23 : List Nat := [0, 0, 2, 6, 14, 0, 32, 126, 255, 511, 1023]
theorem pt.tab23 : rtab .any (opsOf Try.f15 23) = pt.T23 := by kernel_rfl
theorem pt.bits23 : waitsOk pt.T23.2 pt.B23 = true := by kernel_rfl
def pt.T25 : Bool × List (List Nat × List Nat) := (true, [([], []), ([0], [0]), ([1], [1]), ([2], [2]), ([], []), ([], []), ([5], [5]), ([6], [6]), ([3, 4, 0, 1, 2, 3, 4, 5, 6, 7], [3, 4]), ([8, 0, 1, 2, 3, 4, 5, 6, 7], [8]), ([9, 0, 1, 2, 3, 4, 5, 6, 7], [9]), ([10, 7, 0, 1, 2, 3, 4, 5, 6, 7], [7, 10])])
def pt.B25 : List Nat := [0, 1, 3, 7, 0, 0, 32, 96, 255, 511, 1023, 2047]
theorem pt.tab25 : rtab .any (opsOf Try.f15 25) = pt.T25 := by kernel_rfl
theorem pt.bits25 : waitsOk pt.T25.2 pt.B25 = true := by kernel_rfl
def wordErr (K : Nat) (l : List Int) : Int := if l.length > 4096 then 2 else if ∃ x ∈ l, x < 0 ∨ x ≥ (K : Int) then 10 else 0
theorem wordErr_ok {K : Nat} {l : List Int} (h : wordErr K l = 0) : l.length ≤ 4096 ∧ ∀ x ∈ l, 0 ≤ x ∧ x < (K : Int) := by
  unfold wordErr at h
  by_cases h1 : l.length > 4096
  · rw [if_pos h1] at h; cases h
  · rw [if_neg h1] at h
    by_cases h2 : ∃ x ∈ l, x < 0 ∨ x ≥ (K : Int)
    · rw [if_pos h2] at h; cases h
    · exact ⟨by omega, fun x hx => by
        refine Classical.byContradiction fun h3 => h2 ⟨x, hx, by omega⟩⟩
theorem word_l0 (K : Nat) (l : List Int) (hl : l.length ≤ 4096) : ∀ (d k i : Nat), i + d = l.length → d < k → ∃ a, word_Check.l0 k l (K : Int) (l.length : Int) (i : Int) = some (a, if ∃ x ∈ l.drop i, x < 0 ∨ x ≥ (K : Int) then 10 else 0) := by
  intro d
  induction d with
  | zero =>
    intro k i h hk
    obtain ⟨k, rfl⟩ : ∃ m, k = m + 1 := ⟨k - 1, by omega⟩
    rw [word_Check.l0, if_neg (by omega), List.drop_of_length_le (by omega), if_neg (by simp)]
    exact ⟨_, rfl⟩
  | succ d ih =>
    intro k i h hk
    obtain ⟨k, rfl⟩ : ∃ m, k = m + 1 := ⟨k - 1, by omega⟩
    have hi : i < l.length := by omega
    rw [word_Check.l0, if_pos (by omega), if_pos (by omega), if_pos (by omega), rd_nat hi, List.drop_eq_getElem_cons hi]
    by_cases h1 : l[i] < 0
    · rw [if_pos h1, if_pos ⟨_, List.mem_cons_self, .inl h1⟩]
      exact ⟨_, rfl⟩
    · by_cases h2 : l[i] ≥ (K : Int)
      · rw [if_neg h1, if_pos h2, if_pos ⟨_, List.mem_cons_self, .inr h2⟩]
        exact ⟨_, rfl⟩
      · obtain ⟨a, ha⟩ := ih k (i + 1) (by omega) (by omega)
        rw [if_neg h1, if_neg h2, w64s (by omega), ha]
        refine ⟨a, ?_⟩
        congr 2
        by_cases h3 : ∃ x ∈ l.drop (i + 1), x < 0 ∨ x ≥ (K : Int)
        · obtain ⟨x, hx, h4⟩ := h3
          rw [if_pos ⟨x, hx, h4⟩, if_pos ⟨x, List.mem_cons_of_mem _ hx, h4⟩]
        · rw [if_neg h3, if_neg]
          rintro ⟨x, hx, h4⟩
          rcases List.mem_cons.1 hx with rfl | hx
          · omega
          · exact h3 ⟨x, hx, h4⟩
theorem word_is {K : Nat} {l : List Int} (hK0 : 1 ≤ K) (hK : K ≤ 64) : ∃ a, word_Check.f 5000 l (K : Int) = some (a, wordErr K l) := by
  unfold word_Check.f word_alphabet.f wordErr
  rw [if_pos (by omega), Option.bind_some, if_pos (decide_eq_true (by omega))]
  by_cases h1 : l.length > 4096
  · rw [if_pos (by omega), if_pos h1]
    exact ⟨_, rfl⟩
  · rw [if_neg (by omega), if_neg h1]
    exact word_l0 K l (by omega) l.length 5000 0 (by omega) (by omega)
def putErr (kd : Int) (K : Nat) (O : Int) (most n : Nat) (V : Nat → Int) (l out : List Int) (at_ : List Nat) : Int :=
  if wordErr K l ≠ 0 then wordErr K l else if memB kd O l.length out = false then 100 else if clashF kd V l out at_ = true then 111 else if l.length + 1 - at_.length > most - n then 110 else 0
def PutPost (base : Nat) (own : Nat → Prop) (g : Nat) (kd : Int) (K : Nat) (O : Int) (most n : Nat) (B : Nat → List Int) (V : Nat → Int) (hits misses : Int) (l out : List Int) (w : World) : Ending → World → Prop := fun e w' => ∃ (at_ : List Nat) (own' : Nat → Prop), At n B l at_ ∧ Stop n B l at_ ∧ e = .returned (.int .i64 (putErr kd K O most n V l out at_)) ∧
  Hold base own w [trie base own' g kd K O most (if putErr kd K O most n V l out at_ = 0 then putN n l at_ else n) (if putErr kd K O most n V l out at_ = 0 then putB n B l at_ else B) (if putErr kd K O most n V l out at_ = 0 then putV kd n V l out at_ else V) hits misses] w'
theorem Hold.same {base : Nat} {own : Nat → Prop} {w w1 : World} {r : Res} (h : r.at_ w) (ho : r.own = own) (hlt : ∀ k, own k → base ≤ k ∧ k < w.heap.size) (hb : Below w.heap.size w w1) (hb0 : base ≤ w.heap.size) : Hold base own w [r] w1 :=
  Hold.low (Hold.start ⟨fun q hq => by
    rw [List.mem_singleton] at hq
    subst hq
    exact ⟨h, fun k hk => hlt k (ho ▸ hk)⟩, List.pairwise_singleton _ _⟩ (fun q hq k hk => by
    rw [List.mem_singleton] at hq
    subst hq
    exact ho ▸ hk) hb0) hb
theorem Hold.over {base : Nat} {own : Nat → Prop} {w0 w w1 : World} {rs rs2 : List Res} (h : Hold base own w0 rs w) (hb : Below w.heap.size w w1) (h2 : Sep w.heap.size rs2 w1) : Hold base own w0 (rs2 ++ rs) w1 :=
  ⟨h.sep.over hb h2 h.bsize, fun r hr k hk => by
    rcases List.mem_append.1 hr with hr | hr
    · exact .inr (Nat.le_trans h.size (h2.1 r hr |>.2 k hk).1)
    · exact h.mine r hr k hk, fun k hk hno => (hb.block k (Nat.lt_of_lt_of_le hk h.size)).trans (h.kept k hk hno), below_then h.below h.bsize hb, h.hb⟩
theorem make_step {P : Program} {ops : Array Oper} {o : Oper} {a : Act} {Q : Exit → Act → World → Prop} {Kc : Act → World → Prop} {W : World} (hw : Region.wanted o (yielded ops a.tmps) = true) {x : Operand} (ho : o.op = .makeSlice 22 x x) {K : Nat} (hx : a.eval x = .int .i64 (K : Int))
    (hmk : (Instr.makeSlice 22 (.int .i64 (K : Int)) (.int .i64 (K : Int))).run P W = .ok (.slice (some ⟨W.heap.size, 0, none⟩) K K) (W.alloc (.cells (numsA (lst K fun _ => 0)) 3)))
    (h : ∀ g, g = W.heap.size → ∀ w1, w1.heap[g]? = some (.cells (numsA (lst K fun _ => 0)) 3 (0, 0)) → Below W.heap.size W w1 → Kc (a.put o.dst (.slice (some ⟨g, 0, none⟩) K K)) w1) : if Region.wanted o (yielded ops a.tmps) = true then Oper.wp P o a W Kc Q else Kc (a.put o.dst undef) W := by
  refine event_step hw (v := .slice (some ⟨W.heap.size, 0, none⟩) K K) (w1 := W.alloc (.cells (numsA (lst K fun _ => 0)) 3)) ?_ (h _ rfl _ (blk_new W _) (below_alloc (Below.refl _ _) _))
  unfold execOp
  simp [ho, hx, hmk, Result.andThen]
theorem mk_run (K : Nat) (hK : K ≤ 64) (W : World) : (Instr.makeSlice 22 (.int .i64 (K : Int)) (.int .i64 (K : Int))).run Try.prog W = .ok (.slice (some ⟨W.heap.size, 0, none⟩) K K) (W.alloc (.cells (numsA (lst K fun _ => 0)) 3)) := by
  have hmk := print_make_int 22 3 (.int .i64 0) 8 Try.underlying22 info3 rfl (by decide) (K : Int) (by omega) (by omega) W
  rw [made_nums', Int.toNat_natCast] at hmk
  exact hmk
attribute [local go_sem] max2_int min2_int max_two min_two max_three min_three max_four min_four
theorem Put_early (base : Nat) (own : Nat → Prop) (g : Nat) (kd : Int) (K : Nat) (O : Int) (most n : Nat) (B : Nat → List Int) (V : Nat → Int) (hits misses : Int) (l out : List Int) (w w' : World) (at_ : List Nat) (hat : At n B l at_) (hst : Stop n B l at_) {x : Int} (he : putErr kd K O most n V l out at_ = x) (hx : x ≠ 0) (h : (trie base own g kd K O most n B V hits misses).at_ w) (hlt : ∀ k, own k → base ≤ k ∧ k < w.heap.size) (hb : Below w.heap.size w w') (hb0 : base ≤ w.heap.size) : PutPost base own g kd K O most n B V hits misses l out w (.returned (.int .i64 x)) w' := by
  refine ⟨at_, own, hat, hst, by rw [he], ?_⟩
  have hne : ¬ putErr kd K O most n V l out at_ = 0 := by rw [he]; exact hx
  simp only [if_neg hne]
  exact Hold.same h rfl hlt hb hb0
theorem Clash_any (base : Nat) (own : Nat → Prop) (g : Nat) (kd : Int) (K : Nat) (O : Int) (most n : Nat) (B : Nat → List Int) (V : Nat → Int) (hits misses : Int) (hkd : kd = 1 ∨ kd = 2) (w : World) (h : (trie base own g kd K O most n B V hits misses).at_ w) (hn : n ≤ 1048576) (l : List Int) (at_ : List Nat) (ga ca bs : Nat) (ok : Nat → Prop) (hR : Kd.R (Kd.int .i64) 3 w bs ok (.slice (some ⟨ga, 0, none⟩) at_.length ca) (tl at_)) (hat : At n B l at_) (hl : l.length ≤ 1000000) (out : List Int) (Ao : Option Addr) (co : Nat) (hro : Kd.C (Kd.int .i64) w Ao out.length out) (ho : out.length = if kd = 1 then 1 else l.length) :
    Calls Try.prog 37 #[.pointer (some ⟨g, 0, none⟩), .slice (some ⟨ga, 0, none⟩) at_.length ca, .int .i64 (l.length : Int), .slice Ao out.length co] w fun e w' => e = .returned (.bool (clashF kd V l out at_)) ∧ Below w.heap.size w w' := by
  rcases hkd with rfl | rfl
  · exact Clash_1 base own g K O most n B V hits misses w h hn l at_ ga ca bs ok hR hat hl out Ao co hro (by rw [ho, if_pos rfl])
  · exact Clash_2 base own g K O most n B V hits misses w h hn l at_ ga ca bs ok hR hat hl out Ao co hro (by rw [ho, if_neg (by decide)])
theorem mem_len {kd O : Int} {nw : Nat} {out : List Int} (h : memB kd O nw out = true) : out.length = if kd = 1 then 1 else nw := by
  unfold memB at h
  split at h
  · rename_i h1
    rw [if_pos h1]
    rw [Bool.and_eq_true] at h
    exact of_decide_eq_true h.1
  · rename_i h1
    rw [if_neg h1]
    rw [Bool.and_eq_true] at h
    exact of_decide_eq_true h.1
theorem putB_old {n : Nat} {B : Nat → List Int} {l : List Int} {at_ : List Nat} {i : Nat} (h : i < n) : putB n B l at_ i = B i := by unfold putB; rw [if_pos h]
theorem putB_new {n : Nat} {B : Nat → List Int} {l : List Int} {at_ : List Nat} (j : Nat) : putB n B l at_ (n + j) = l.take (at_.length + j) := by unfold putB; rw [if_neg (by omega), Nat.add_sub_cancel_left]
theorem put_more {n K : Nat} {B : Nat → List Int} {U0 Y0 : Nat → Nat} {D0 : Nat → Nat → Nat} (ht : Tri n K B U0 Y0 D0) {l : List Int} {at_ : List Nat} (hat : At n B l at_) (hst : Stop n B l at_) {j : Nat} {U Y : Nat → Nat} {D : Nat → Nat → Nat} (T : Tri (n + j) K (putB n B l at_) U Y D) (hj : at_.length + j ≤ l.length) {la y : Nat} (hla : la < n + j) (hB : putB n B l at_ la = l.take (at_.length - 1 + j)) (hy : l[at_.length - 1 + j]? = some (y : Int)) (hyK : y < K) :
    Tri (n + j + 1) K (putB n B l at_) (upd U (n + j) la) (upd Y (n + j) y) (upd (upd D la (upd (D la) y (n + j))) (n + j) (fun _ => 0)) ∧ putB n B l at_ (n + j) = l.take (at_.length - 1 + (j + 1)) := by
  have hne := hat.ne
  have e1 : at_.length + j - 1 = at_.length - 1 + j := by omega
  have hB2 : putB n B l at_ (n + j) = putB n B l at_ la ++ [(y : Int)] := by
    rw [putB_new, hB, take_at (l := at_.length + j) (by omega) (by rw [e1]; exact hy), e1]
  refine ⟨T.more hla hyK hB2 (fun i hi e => ?_), by rw [putB_new]; congr 1; omega⟩
  rw [putB_new] at e
  by_cases hin : i < n
  · rw [putB_old hin] at e
    exact Tri.fresh ht (fun h => hst h) j hj i hin e
  · obtain ⟨q, rfl⟩ : ∃ q, i = n + q := ⟨i - n, by omega⟩
    rw [putB_new] at e
    have := congrArg List.length e
    rw [List.length_take, List.length_take] at this
    omega
theorem tpc_congr {base g : Nat} {kd : Int} {K : Nat} {O : Int} {most n : Nat} {U Y : Nat → Nat} {V V' : Nat → Int} {D : Nat → Nat → Nat} {gn cn : Nat} {gd : Nat → Nat} {hits misses : Int} (hv : ∀ i, i < n → V' i = V i) : tpc base g kd K O most n U Y V' D gn cn gd hits misses = tpc base g kd K O most n U Y V D gn cn gd hits misses := by
  unfold tpc
  rw [nlst_congr (fun _ _ => rfl) (fun _ _ => rfl) hv (fun _ _ => rfl)]
theorem putV0_old {kd : Int} {n : Nat} {V : Nat → Int} {out : List Int} {at_ : List Nat} {i : Nat} (h : i < n) : putV0 kd n V out at_ i = V i := by unfold putV0; rw [if_pos h]
/-- The new node takes its place. -/
theorem fold_more {base : Nat} {own : Nat → Prop} {w w' : World} {g : Nat} {kd : Int} {K : Nat} {O : Int} {most m : Nat} {U Y : Nat → Nat} {V : Nat → Int} {D : Nat → Nat → Nat} {gn cn : Nat} {gd : Nat → Nat} {hits misses : Int} {la y gv gx : Nat} {cs : Array Value} {z : Int} (hz : V m = z)
    (h : Hold base own w (blk gv (numsA (lst K fun _ => 0)) 3 :: blk gx cs 69 :: blk g (hdr kd K O most gn (m + 1) cn hits misses) 65 :: nodes K base (.slice (some ⟨gn, 0, none⟩) (m + 1) cn) (nlst m U Y V gd ++ [((la : Int), (y : Int), z, gv)]) :: dns m K D gd) w') :
    Hold base own w (none_ :: none_ :: tpc base g kd K O most (m + 1) (upd U m la) (upd Y m y) V (upd D m fun _ => 0) gn cn (upd gd m gv) hits misses) w' := by
  have h1 : Hold base own w (blk g (hdr kd K O most gn (m + 1) cn hits misses) 65 :: nodes K base (.slice (some ⟨gn, 0, none⟩) (m + 1) cn) (nlst m U Y V gd ++ [((la : Int), (y : Int), z, gv)]) :: (dns m K D gd ++ [blk gv (numsA (lst K fun _ => 0)) 3])) w' :=
    Hold.sub (Hold.perm h (rs2 := blk gx cs 69 :: blk g (hdr kd K O most gn (m + 1) cn hits misses) 65 :: nodes K base (.slice (some ⟨gn, 0, none⟩) (m + 1) cn) (nlst m U Y V gd ++ [((la : Int), (y : Int), z, gv)]) :: (dns m K D gd ++ [blk gv (numsA (lst K fun _ => 0)) 3])) (by
      have := List.perm_append_comm (l₁ := [blk gv (numsA (lst K fun _ => 0)) 3]) (l₂ := blk gx cs 69 :: blk g (hdr kd K O most gn (m + 1) cn hits misses) 65 :: nodes K base (.slice (some ⟨gn, 0, none⟩) (m + 1) cn) (nlst m U Y V gd ++ [((la : Int), (y : Int), z, gv)]) :: dns m K D gd)
      exact this)) (List.Sublist.cons _ (List.Sublist.refl _))
  rw [← hz] at h1
  rw [← dns_snoc, ← nlst_snoc] at h1
  exact h1.free.free
theorem set_down {base : Nat} {a b : Res} {g : Nat} {kd : Int} {K : Nat} {O : Int} {most m : Nat} {U Y : Nat → Nat} {V : Nat → Int} {D : Nat → Nat → Nat} {gn cn : Nat} {gd : Nat → Nat} {hits misses : Int} {la : Nat} (hla : la < m) (f : Nat → Nat) :
    (a :: b :: tpc base g kd K O most m U Y V D gn cn gd hits misses).set (la + 4) (blk (gd la) (numsA (lst K f)) 3) = a :: b :: tpc base g kd K O most m U Y V (upd D la f) gn cn gd hits misses := by
  show a :: b :: _ :: _ :: (dns m K D gd).set la _ = _
  rw [dns_set _ _ hla]
  rfl
theorem get_down {base : Nat} {a b : Res} {g : Nat} {kd : Int} {K : Nat} {O : Int} {most m : Nat} {U Y : Nat → Nat} {V : Nat → Int} {D : Nat → Nat → Nat} {gn cn : Nat} {gd : Nat → Nat} {hits misses : Int} {la : Nat} (hla : la < m) :
    (a :: b :: tpc base g kd K O most m U Y V D gn cn gd hits misses)[la + 4]? = some (blk (gd la) (numsA (lst K (D la))) 3) := by
  show (dns m K D gd)[la]? = _
  exact dns_get D gd hla
theorem Hold.rd2 {base : Nat} {own : Nat → Prop} {w w' : World} {a b : Res} {g : Nat} {kd : Int} {K : Nat} {O : Int} {most m : Nat} {U Y : Nat → Nat} {V : Nat → Int} {D : Nat → Nat → Nat} {gn cn : Nat} {gd : Nat → Nat} {hits misses : Int} (h : Hold base own w (a :: b :: tpc base g kd K O most m U Y V D gn cn gd hits misses) w') : Rd g kd K O most m U Y V D gn cn gd hits misses w' :=
  rd_of (h.sub (.cons _ (.cons _ (List.Sublist.refl _)))).sep
theorem put_node {base : Nat} {own : Nat → Prop} {w w' : World} {a b : Res} {g : Nat} {kd : Int} {K : Nat} {O : Int} {most m : Nat} {U Y : Nat → Nat} {V : Nat → Int} {D : Nat → Nat → Nat} {gn cn : Nat} {gd : Nat → Nat} {hits misses : Int} (h : Hold base own w (a :: b :: tpc base g kd K O most m U Y V D gn cn gd hits misses) w') {la : Nat} (hla : la < m) (z : Int) : Hold base own w (a :: b :: tpc base g kd K O most m U Y (upd V la z) D gn cn gd hits misses) (w'.setCell ⟨gn, la * 4 + 2, none⟩ (.int .i64 z)) := by
  have h2 : Hold base own w (a :: b :: blk g (hdr kd K O most gn m cn hits misses) 65 :: nodes K base (.slice (some ⟨gn, 0, none⟩) m cn) ((nlst m U Y V gd).set la ((U la : Int), (Y la : Int), z, gd la)) :: dns m K D gd) (w'.setCell ⟨gn, la * 4 + 2, none⟩ (.int .i64 z)) := h.putNode 3 rfl la _ (nlst_get U Y V gd hla) z
  rw [nlst_set U Y V gd hla z] at h2
  exact h2
theorem Put_late (base : Nat) (own : Nat → Prop) (g : Nat) (kd : Int) (K : Nat) (O : Int) (most n : Nat) (B : Nat → List Int) (V : Nat → Int) (hits misses : Int) (l out : List Int) (w w' : World) (at_ : List Nat) (hat : At n B l at_) (hst : Stop n B l at_) (he : putErr kd K O most n V l out at_ = 0) {U Y : Nat → Nat} {D : Nat → Nat → Nat} {gn cn : Nat} {gd : Nat → Nat} {V' : Nat → Int} {n' : Nat} (hn : n' = putN n l at_) (hv : ∀ i, i < n' → V' i = putV kd n V l out at_ i) (T : Tri n' K (putB n B l at_) U Y D) {a b : Res} (h : Hold base own w (a :: b :: tpc base g kd K O most n' U Y V' D gn cn gd hits misses) w') : PutPost base own g kd K O most n B V hits misses l out w (.returned (.int .i64 0)) w' := by
  subst hn
  have h1 := h.sub (rs' := tpc base g kd K O most (putN n l at_) U Y V' D gn cn gd hits misses) (.cons _ (.cons _ (List.Sublist.refl _)))
  rw [← tpc_congr (fun i hi => (hv i hi).symm)] at h1
  obtain ⟨ow, h2⟩ : ∃ ow, Hold base own w [trie base ow g kd K O most (putN n l at_) (putB n B l at_) (putV kd n V l out at_) hits misses] w' := ⟨_, Hold.pack (ms := []) h1 T⟩
  refine ⟨at_, ow, hat, hst, by rw [he], ?_⟩
  simp only [if_pos he]
  exact h2
set_option maxHeartbeats 16000000 in
set_option maxRecDepth 100000 in
theorem Put_walk (base : Nat) (own : Nat → Prop) (g : Nat) (kd : Int) (K : Nat) (O : Int) (most n : Nat) (B : Nat → List Int) (V : Nat → Int) (hits misses : Int) (hkd : kd = 1 ∨ kd = 2) (w : World) (h : (trie base own g kd K O most n B V hits misses).at_ w) (hlt : ∀ k, own k → base ≤ k ∧ k < w.heap.size) (hb0 : base ≤ w.heap.size) (hnm : n ≤ most) (hm : most ≤ 1048576) (hK0 : 1 ≤ K) (hK : K ≤ 64) (l : List Int) (A : Option Addr) (c : Nat) (hr : ∀ w1, (∀ k, k < w.heap.size → ¬ own k → w1.heap[k]? = w.heap[k]?) → Kd.C (Kd.int .i64) w1 A l.length l) (hc : l.length ≤ c) (hl : l.length ≤ 1000000) (out : List Int) (Ao : Option Addr) (co : Nat) (hro : ∀ w1, (∀ k, k < w.heap.size → ¬ own k → w1.heap[k]? = w.heap[k]?) → Kd.C (Kd.int .i64) w1 Ao out.length out) (hox : ∃ at0, At n B l at0 ∧ Stop n B l at0) :
    Calls Try.prog 15 #[.pointer (some ⟨g, 0, none⟩), .slice A l.length c, .slice Ao out.length co] w (PutPost base own g kd K O most n B V hits misses l out w) := by
  have HH := Aside0.mk h
  have HLT := Aside0.mk hlt
  have hn : n ≤ 1048576 := by omega
  obtain ⟨at0, ha0, hs0⟩ := hox
  have HA0 := Aside0.mk (And.intro ha0 hs0)
  obtain ⟨U, Y, D, gn, cn, gd, htri, hsep, hmine⟩ := h
  have HTR := Aside0.mk htri
  have HSP := Aside0.mk hsep
  have HMI := Aside0.mk hmine
  have hu65 := Try.underlying65
  have hu69 := Try.underlying69
  have hu67 := Try.underlying67
  have hu24 := Try.underlying24
  have hu63 := Try.underlying63
  have hu76 := Try.underlying76
  have hu78 := Try.underlying78
  obtain ⟨z69, i69⟩ := zero_of_info info69
  have hKb : K ≤ 64 := hK
  have HRC := Aside0.mk hr
  have HRO := Aside0.mk hro
  obtain ⟨wa, hwc⟩ := word_is (K := K) (l := l) hK0 hK
  have hx1 : w.cell? ⟨g, 1, none⟩ = some (.int .i64 (K : Int)) := ((rd_of hsep).h 1).trans rfl
  clear ha0 hs0 htri hsep hmine hr hro hlt
  go_enter Try.func15, Try.ntmps15
  go_upto_region 4 with (
     go_at_call 34
     refine (word_Check.calls 5000 A c l (K : Int) wa (wordErr K l) _ (HRC.out _ (fun _ _ _ => rfl)) hc hwc).mono ?_
     rintro e w1 ⟨rfl, hd⟩
     have HB1 := Aside0.mk hd.below
     clear hd)
  clear hx1
  by_cases hwe : wordErr K l = 0
  · have HWO := Aside0.mk (wordErr_ok hwe)
    have HWE := Aside0.mk hwe
    rw [hwe]
    clear hwe hwc
    have RD1 := Rd.low HSP.out HB1.out
    have hx0 : w1.cell? ⟨g, 0, none⟩ = some (.int .i64 kd) := (RD1.h 0).trans rfl
    have hx1 : w1.cell? ⟨g, 1, none⟩ = some (.int .i64 (K : Int)) := (RD1.h 1).trans rfl
    have hx2 : w1.cell? ⟨g, 2, none⟩ = some (.int .i64 O) := (RD1.h 2).trans rfl
    have hx3 : w1.cell? ⟨g, 3, none⟩ = some (.int .i64 0) := (RD1.h 3).trans rfl
    have hx4 : w1.cell? ⟨g, 4, none⟩ = some (.slice none 0 0) := (RD1.h 4).trans rfl
    have hx5 : w1.cell? ⟨g, 5, none⟩ = some (.slice none 0 0) := (RD1.h 5).trans rfl
    clear RD1
    go_upto_region 7 with (
       go_at_call 35
       refine (TCheck_walk kd (K : Int) O A l.length c Ao co out w1 (HRO.out _ (fun k hk _ => HB1.out.block k hk)) hkd).mono ?_
       rintro e w2 ⟨rfl, hb⟩
       have HB2 := Aside0.mk (below_step HB1.out hb)
       clear hb)
    clear hx0 hx1 hx2 hx3 hx4 hx5
    cases hmb : memB kd O l.length out with
    | false =>
      have HE : Aside0 (putErr kd K O most n V l out at0 = 100) := ⟨by unfold putErr; rw [if_neg (fun h => h HWE.out), if_pos hmb]⟩
      clear hmb
      rw [if_neg (by decide)]
      go_wp2
      go_ret
      exact Put_early base own g kd K O most n B V hits misses l out w _ at0 HA0.out.1 HA0.out.2 HE.out (by decide) HH.out HLT.out HB2.out hb0
    | true =>
      have HOL := Aside0.mk (mem_len hmb)
      have HMB := Aside0.mk hmb
      clear hmb
      rw [if_pos rfl]
      go_upto_region 10 with (
         go_at_call 36
         refine (Walk_walk base own g kd K O most n B V hits misses w2 (Res.low HH.out HB2.out) hn hK l A c (HRC.out _ (fun k hk _ => HB2.out.block k hk)) hl).mono ?_
         rintro e w3 ⟨ga, ca, at_, rfl, hR, hat, hst, hb⟩
         have HR := Aside0.mk hR
         have HAT := Aside0.mk hat
         have HST := Aside0.mk hst
         have HB3 := Aside0.mk (below_step HB2.out hb)
         clear hR hat hst hb)
      cases hcl : clashF kd V l out at_ with
      | true =>
        have HE : Aside0 (putErr kd K O most n V l out at_ = 111) := ⟨by unfold putErr; rw [if_neg (fun h => h HWE.out), if_neg (by rw [HMB.out]; decide), if_pos hcl]⟩
        go_wp2_with (
           go_at_call 37
           refine (Clash_any base own g kd K O most n B V hits misses hkd w3 (Res.low HH.out HB3.out) hn l at_ ga ca _ _ HR.out HAT.out hl out Ao co (HRO.out _ (fun k hk _ => HB3.out.block k hk)) HOL.out).mono ?_
           rw [hcl]
           rintro e w4 ⟨rfl, hb⟩
           have HB34 := Aside0.mk hb
           have HB4 := Aside0.mk (below_step HB3.out hb)
           clear hb)
        go_ret
        exact Put_early base own g kd K O most n B V hits misses l out w _ at_ HAT.out HST.out HE.out (by decide) HH.out HLT.out HB4.out hb0
      | false =>
        have HCL := Aside0.mk hcl
        go_wp2_with (
           go_at_call 37
           refine (Clash_any base own g kd K O most n B V hits misses hkd w3 (Res.low HH.out HB3.out) hn l at_ ga ca _ _ HR.out HAT.out hl out Ao co (HRO.out _ (fun k hk _ => HB3.out.block k hk)) HOL.out).mono ?_
           rw [hcl]
           rintro e w4 ⟨rfl, hb⟩
           have HB34 := Aside0.mk hb
           have HB4 := Aside0.mk (below_step HB3.out hb)
           clear hb)
        clear hcl
        have RD4 := Rd.low HSP.out HB4.out
        have hx6 : w4.cell? ⟨g, 6, none⟩ = some (.int .i64 (most : Int)) := (RD4.h 6).trans rfl
        have hx7 : w4.cell? ⟨g, 7, none⟩ = some (.slice (some ⟨gn, 0, none⟩) n cn) := (RD4.h 7).trans rfl
        obtain ⟨L, hL⟩ : ∃ L, at_.length = L := ⟨_, rfl⟩
        have hne := HAT.out.ne
        have hle := HAT.out.le
        rw [hL] at hne hle ⊢
        obtain ⟨m, hm1⟩ : ∃ m, l.length + 1 = m := ⟨_, rfl⟩
        obtain ⟨d, hd⟩ : ∃ d, m - L = d := ⟨_, rfl⟩
        obtain ⟨f, hf⟩ : ∃ f, most - n = f := ⟨_, rfl⟩
        obtain ⟨i0, hi0⟩ : ∃ i0, L - 1 = i0 := ⟨_, rfl⟩
        have hw1 : IntKind.i64.wrap ((l.length : Int) + 1) = (m : Int) := by rw [i64_w]; unfold wrap64; omega
        have hw2 : IntKind.i64.wrap ((m : Int) - (L : Int)) = (d : Int) := by rw [i64_w]; unfold wrap64; omega
        have hw3 : IntKind.i64.wrap ((most : Int) - (n : Int)) = (f : Int) := by rw [i64_w]; unfold wrap64; omega
        have hw4 : IntKind.i64.wrap ((L : Int) - 1) = (i0 : Int) := by rw [i64_w]; unfold wrap64; omega
        have HLN := Aside0.mk (And.intro hL (And.intro hm1 (And.intro hd (And.intro hf (And.intro hi0 (And.intro hne hle))))))
        clear RD4
        by_cases hdf : d > f
        · have hdf' : (d : Int) > (f : Int) := by omega
          have HE : Aside0 (putErr kd K O most n V l out at_ = 110) := ⟨by unfold putErr; rw [if_neg (fun h => h HWE.out), if_neg (by rw [HMB.out]; decide), if_neg (by rw [HCL.out]; decide), if_pos (by rw [hL]; omega)]⟩
          clear hL hm1 hd hf hi0
          try go_wp2
          go_quiet (fail)
          go_wp2
          go_ret
          exact Put_early base own g kd K O most n B V hits misses l out w _ at_ HAT.out HST.out HE.out (by decide) HH.out HLT.out (pw_below_drewN HB4.out _) hb0
        · have hdf' : ¬ (d : Int) > (f : Int) := by omega
          have HE : Aside0 (putErr kd K O most n V l out at_ = 0) := ⟨by unfold putErr; rw [if_neg (fun h => h HWE.out), if_neg (by rw [HMB.out]; decide), if_neg (by rw [HCL.out]; decide), if_neg (by rw [hL]; omega)]⟩
          obtain ⟨a, ha⟩ : ∃ a, at_[i0]? = some a := ⟨_, List.getElem?_eq_getElem (show i0 < at_.length by omega)⟩
          have hxa := (HB34.out.cell (p := ⟨ga, i0, none⟩) (Kd.R_lt HR.out ga rfl)).trans (tl_cell HR.out ha)
          have HA := Aside0.mk (And.intro ha (HAT.out.ok _ a ha))
          have hiL : (i0 : Int) < (L : Int) := by omega
          have HDF : Aside0 (n + d ≤ most) := ⟨by omega⟩
          have H0 : ∀ q, Aside0 (Hold base own w (none_ :: none_ :: tpc base g kd K O most n U Y (putV0 kd n V out at_) D gn cn gd hits misses) (w4.drewN q)) := fun q => ⟨by
            have h1 := (Hold.start HSP.out HMI.out hb0).low (pw_below_drewN HB4.out q)
            have h2 := h1.free.free
            rw [← tpc_congr (V' := (putV0 kd n V out at_)) (fun i hi => putV0_old hi)] at h2
            exact h2⟩
          clear hL hm1 hd hf hi0 ha
          try go_wp2
          go_quiet (fail)
          go_wp2
          go_loopw [12, 11] (fun v12 v11 wr => ∃ (j i la : Nat) (U Y : Nat → Nat) (D : Nat → Nat → Nat) (gn cn : Nat) (gd : Nat → Nat), v12 = .int .i64 (i : Int) ∧ v11 = .int .i64 (la : Int) ∧ Aside0 (j ≤ d ∧ i = i0 + j) ∧ Aside0 (la < n + j ∧ (putB n B l at_) la = l.take i ∧ (j = 0 → la = a) ∧ (0 < j → la = n + j - 1)) ∧ Aside0 (Tri (n + j) K (putB n B l at_) U Y D) ∧ Aside0 (Hold base own w (none_ :: none_ :: tpc base g kd K O most (n + j) U Y (putV0 kd n V out at_) D gn cn gd hits misses) wr)) (fun v12 _ _ => l.length - (intOf v12).toNat)
          case atStart => exact ⟨0, i0, a, U, Y, D, gn, cn, gd, rfl, rfl, ⟨Nat.zero_le _, rfl⟩, ⟨HA.out.2.1, by rw [putB_old HA.out.2.1]; exact HA.out.2.2, fun _ => rfl, fun h => absurd h (Nat.lt_irrefl _)⟩, ⟨HTR.out.congr (fun i hi => putB_old hi)⟩, H0 _⟩
          case round =>
            clear H0
            obtain ⟨j, i, la, U1, Y1, D1, gn1, cn1, gd1, rfl, rfl, HJ, HLA, HT1, HH1⟩ := hrel
            have RD1 := HH1.out.rd2
            have hil : i ≤ l.length := by have h1 := HJ.out; have h2 := HLN.out; omega
            by_cases hi : i < l.length
            · have HIL := Aside0.mk hi
              have hi' : (i : Int) < (l.length : Int) := by omega
              have hjd : j < d := by have h1 := HJ.out; have h2 := HLN.out; omega
              have HJD := Aside0.mk hjd
              obtain ⟨adl, el, hxl⟩ := Kd.at_int (HRC.out wr HH1.out.kept) (i : Int) (by omega) hi'
              subst el
              rw [Int.toNat_natCast, rd_nat hi] at hxl
              have hwo := HWO.out.2 _ (List.getElem_mem hi)
              obtain ⟨y, hy⟩ : ∃ y : Nat, l[i] = (y : Int) := ⟨(l[i]).toNat, by omega⟩
              rw [hy] at hxl hwo
              have HYI : Aside0 (l[i]? = some (y : Int)) := ⟨by rw [List.getElem?_eq_getElem hi, hy]⟩
              have hyK : y < K := by omega
              have hla := HLA.out.1
              have HYK := Aside0.mk hyK
              have HXL := Aside0.mk hxl
              have HLC : Aside0 (∀ w1 : World, (∀ k, k < w.heap.size → ¬ own k → w1.heap[k]? = w.heap[k]?) → w1.cell? (adl.add i) = some (.int .i64 (y : Int))) := ⟨fun w1 hk => by
                obtain ⟨_, e, h⟩ := Kd.at_int (HRC.out w1 hk) (i : Int) (by omega) hi'
                cases e
                rw [Int.toNat_natCast, rd_nat hi, hy] at h
                exact h⟩
              have hpm := put_more HTR.out HAT.out HST.out HT1.out (j := j) (la := la) (y := y) (by have h1 := HJ.out; have h2 := HLN.out; omega) HLA.out.1 (by rw [HLA.out.2.1]; congr 1; have h1 := HJ.out; have h2 := HLN.out; omega) (by rw [← HYI.out]; congr 1; have h1 := HJ.out; have h2 := HLN.out; omega) hyK
              have HLE : Aside0 (at_.length - 1 + (j + 1) = i + 1) := ⟨by have h1 := HJ.out; have h2 := HLN.out; omega⟩
              obtain ⟨q, hq⟩ : ∃ q, n + j = q := ⟨_, rfl⟩
              rw [hq] at HLA HH1 RD1 hpm hla
              have HPM := Aside0.mk hpm
              have HQ := Aside0.mk hq
              have hqm : q ≤ most := by have h1 := HDF.out; omega
              have hql : (la : Int) < (q : Int) := by omega
              have hyl : (y : Int) < (K : Int) := by omega
              clear hpm hq
              have HX1 : Aside0 (wr.cell? ⟨g, 1, none⟩ = some (.int .i64 (K : Int))) := ⟨(RD1.h 1).trans rfl⟩
              clear RD1 hi hy hjd hwo
              try go_wp2
              refine start_ (n := 15) (S := fun w' => Below wr.heap.size wr w') (ds := [14]) #[false, false, false, false, false, false, false, false, false, false, false, false, false, false, false] (by kernel_rfl) rfl rfl (below_drew1 (Below.refl _ _)) (fun hHeld => ?_)
              refine with_tabW pt.tab18 pt.bits18 (fun HT_ HW_ => ?_)
              generalize wr.drew = wd at hHeld ⊢
              have hsep : Sp.Sep wr.heap.size [Sp.none_, Sp.none_] wd := Sp.Sep.start _ 2 _
              have hbel := hHeld
              refine pure_ (i := 0) (N := (some 82)) (v := ?_) (a' := ?_) #[true, false, false, false, false, false, false, false, false, false, false, false, false, false, false] rfl rfl (any_of HT_.out (by kernel_rfl)) (fun _ _ _ h => h) (Or.inl ⟨by rfl, ?_⟩) ?_ ?_
              rotate_left
              · intro w'
                go_simp
                with_reducible rfl
              rotate_left
              · simp only [Act.put, List.setIfInBounds_toArray, List.set_cons_zero, List.set_cons_succ, i64_w, i32_w]
                rfl
              refine pure_ (i := 1) (N := (some 83)) (v := ?_) (a' := ?_) #[true, true, false, false, false, false, false, false, false, false, false, false, false, false, false] rfl rfl (any_of HT_.out (by kernel_rfl)) (fun _ _ _ h => h) (Or.inl ⟨by rfl, ?_⟩) ?_ ?_
              rotate_left
              · intro w'
                go_simp
                with_reducible rfl
              rotate_left
              · simp only [Act.put, List.setIfInBounds_toArray, List.set_cons_zero, List.set_cons_succ, i64_w, i32_w]
                rfl
              refine pure_ (i := 2) (N := (some 84)) (v := ?_) (a' := ?_) #[true, true, true, false, false, false, false, false, false, false, false, false, false, false, false] rfl rfl (any_of HT_.out (by kernel_rfl)) (fun _ _ _ h => h) (Or.inl ⟨by rfl, ?_⟩) ?_ ?_
              rotate_left
              · intro w'
                go_simp
                with_reducible rfl
              rotate_left
              · simp only [Act.put, List.setIfInBounds_toArray, List.set_cons_zero, List.set_cons_succ, i64_w, i32_w]
                rfl
              refine pure_ (i := 3) (N := (some 85)) (v := ?_) (a' := ?_) #[true, true, true, true, false, false, false, false, false, false, false, false, false, false, false] rfl rfl (any_of HT_.out (by kernel_rfl)) (fun _ _ _ h => h) (Or.inl ⟨by rfl, ?_⟩) ?_ ?_
              rotate_left
              · intro w'
                go_simp
                with_reducible rfl
              rotate_left
              · simp only [Act.put, List.setIfInBounds_toArray, List.set_cons_zero, List.set_cons_succ, i64_w, i32_w]
                rfl
              refine pure_ (i := 6) (N := (some 88)) (v := ?_) (a' := ?_) #[true, true, true, true, false, false, true, false, false, false, false, false, false, false, false] rfl rfl (any_of HT_.out (by kernel_rfl)) (fun _ _ _ h => h) (Or.inl ⟨by rfl, ?_⟩) ?_ ?_
              rotate_left
              · intro w'
                go_simp
                with_reducible rfl
              rotate_left
              · simp only [Act.put, List.setIfInBounds_toArray, List.set_cons_zero, List.set_cons_succ, i64_w, i32_w]
                rfl
              refine pure_ (i := 7) (N := (some 89)) (v := ?_) (a' := ?_) #[true, true, true, true, false, false, true, true, false, false, false, false, false, false, false] rfl rfl (any_of HT_.out (by kernel_rfl)) (fun _ _ _ h => h) (Or.inl ⟨by rfl, ?_⟩) ?_ ?_
              rotate_left
              · intro w'
                go_simp
                with_reducible rfl
              rotate_left
              · simp only [Act.put, List.setIfInBounds_toArray, List.set_cons_zero, List.set_cons_succ, i64_w, i32_w]
                rfl
              refine pure_ (i := 8) (N := (some 90)) (v := ?_) (a' := ?_) #[true, true, true, true, false, false, true, true, true, false, false, false, false, false, false] rfl rfl (any_of HT_.out (by kernel_rfl)) (fun _ _ _ h => h) (Or.inl ⟨by rfl, ?_⟩) ?_ ?_
              rotate_left
              · intro w'
                go_simp
                with_reducible rfl
              rotate_left
              · simp only [Act.put, List.setIfInBounds_toArray, List.set_cons_zero, List.set_cons_succ, i64_w, i32_w]
                rfl
              refine pure_ (i := 9) (N := (some 91)) (v := ?_) (a' := ?_) #[true, true, true, true, false, false, true, true, true, true, false, false, false, false, false] rfl rfl (any_of HT_.out (by kernel_rfl)) (fun _ _ _ h => h) (Or.inl ⟨by rfl, ?_⟩) ?_ ?_
              rotate_left
              · intro w'
                go_simp
                with_reducible rfl
              rotate_left
              · simp only [Act.put, List.setIfInBounds_toArray, List.set_cons_zero, List.set_cons_succ, i64_w, i32_w]
                rfl
              refine take_ (i := 4) (N := (some 86)) (v := ?_) (a' := ?_) #[true, true, true, true, true, false, true, true, true, true, false, false, false, false, false] rfl rfl (take_ofW HT_.out HW_.out (by kernel_rfl)) (fun _ _ _ h => h) (Or.inl ⟨by rfl, ?_⟩) hHeld ?_ ?_
              rotate_left
              · intro w' s0
                have pl : w'.cell? (adl.add i) = some (.int .i64 (y : Int)) := (s0.cell (World.block_lt_of_cell? wr _ HXL.out)).trans HXL.out
                have pk : w'.cell? ⟨g, 1, none⟩ = some (.int .i64 (K : Int)) := (s0.cell (World.block_lt_of_cell? wr _ HX1.out)).trans HX1.out
                go_simp
                with_reducible rfl
              rotate_left
              · simp only [Act.put, List.setIfInBounds_toArray, List.set_cons_zero, List.set_cons_succ, i64_w, i32_w]
                rfl
              refine pure_ (i := 5) (N := (some 87)) (v := ?_) (a' := ?_) #[true, true, true, true, true, true, true, true, true, true, false, false, false, false, false] rfl rfl (any_of HT_.out (by kernel_rfl)) (fun _ _ _ h => h) (Or.inl ⟨by rfl, ?_⟩) ?_ ?_
              rotate_left
              · intro w'
                go_simp
                with_reducible rfl
              rotate_left
              · simp only [Act.put, List.setIfInBounds_toArray, List.set_cons_zero, List.set_cons_succ, i64_w, i32_w]
                rfl
              refine take_ (i := 10) (N := (some 92)) (v := ?_) (a' := ?_) #[true, true, true, true, true, true, true, true, true, true, true, false, false, false, false] rfl rfl (take_ofW HT_.out HW_.out (by kernel_rfl)) (fun _ _ _ h => h) (Or.inl ⟨by rfl, ?_⟩) hHeld ?_ ?_
              rotate_left
              · intro w' s0
                have pl : w'.cell? (adl.add i) = some (.int .i64 (y : Int)) := (s0.cell (World.block_lt_of_cell? wr _ HXL.out)).trans HXL.out
                have pk : w'.cell? ⟨g, 1, none⟩ = some (.int .i64 (K : Int)) := (s0.cell (World.block_lt_of_cell? wr _ HX1.out)).trans HX1.out
                go_simp
                with_reducible rfl
              rotate_left
              · simp only [Act.put, List.setIfInBounds_toArray, List.set_cons_zero, List.set_cons_succ, i64_w, i32_w]
                rfl
              refine join_ (σ := Nat × Nat) 1 #[true, true, true, true, true, true, true, true, true, true, true, true, true, true, false] (fun s_ => [(93, .slice (some ⟨s_.1, 0, none⟩) K K), (13, .pointer (some ⟨s_.2, 0, none⟩)), (94, .agg #[.int .i64 (la : Int), .int .i64 (y : Int), .int .i64 (-1), .slice (some ⟨s_.1, 0, none⟩) K K])]) (fun s_ w' => Sp.Sep wr.heap.size [Sp.blk s_.1 (numsA (lst K fun _ => 0)) 3, Sp.blk s_.2 #[.int .i64 0, .int .i64 0, .int .i64 0, .slice none 0 0] 69] w' ∧ Below wr.heap.size wr w') ?_ ?_
              rotate_left
              · intro hJ11_13
                refine two_ (i := 11) (j := 13) (Ni := some 93) (Nj := some 13) #[true, true, true, true, true, true, true, true, true, true, true, true, false, false, false] #[true, true, true, true, true, true, true, true, true, true, true, false, false, true, false] rfl rfl rfl rfl (two_of HT_.out (by kernel_rfl)) (by decide) (by decide) (fun Kc hK => ?_) (fun Kc hK => ?_)
                · skip
                  refine make_step (by rfl) (x := .tmp 92) rfl (K := K) (by rfl) (mk_run K hKb _) ?_
                  intro gv hg w1 hbox hb
                  have hsep1 : Sp.Sep wr.heap.size [Sp.blk gv (numsA (lst K fun _ => 0)) 3, Sp.none_] w1 := hsep.fillBlk 0 rfl hg hbox hb hbel.size
                  have hbel1 := below_then hbel hbel.size hb
                  clear hg hbox hb
                  refine hK.out _ _ hbel1 (fun hHeld => ?_)
                  clear hK Kc hsep hbel
                  have hsep := hsep1
                  have hbel := hbel1
                  clear hsep1 hbel1
                  refine norm_ (a' := ?_) ?_ ?_
                  rotate_left
                  · show Act.put _ (some 93) _ = _
                    simp only [Act.put, List.setIfInBounds_toArray, List.set_cons_zero, List.set_cons_succ, i64_w, i32_w]
                    rfl
                  refine pure_ (i := 12) (N := (some 94)) (v := ?_) (a' := ?_) #[true, true, true, true, true, true, true, true, true, true, true, true, true, false, false] rfl rfl (any_of HT_.out (by kernel_rfl)) (fun _ _ _ h => h) (Or.inl ⟨by rfl, ?_⟩) ?_ ?_
                  rotate_left
                  · intro w'
                    go_simp
                    with_reducible rfl
                  rotate_left
                  · simp only [Act.put, List.setIfInBounds_toArray, List.set_cons_zero, List.set_cons_succ, i64_w, i32_w]
                    rfl
                  refine one_ (i := 13) (N := some 13) #[true, true, true, true, true, true, true, true, true, true, true, true, true, true, false] rfl rfl (one_of HT_.out (by kernel_rfl)) (by decide) (fun Kc hK => ?_)
                  refine box_step ?hg (N := 13) ?hd (cs := #[.int .i64 0, .int .i64 0, .int .i64 0, .slice none 0 0]) (t := 69) ?hr ?_; (case hd => rfl); (case hg => rfl); (case hr => first | (go_simp; done) | (go_simp; rfl))
                  intro gx hg w1 hbox hb
                  have hsep1 : Sp.Sep wr.heap.size [Sp.blk gv (numsA (lst K fun _ => 0)) 3, Sp.blk gx #[.int .i64 0, .int .i64 0, .int .i64 0, .slice none 0 0] 69] w1 := hsep.fillBlk 1 rfl hg hbox hb hbel.size
                  have hbel1 := below_then hbel hbel.size hb
                  clear hg hbox hb
                  refine hK.out _ _ hbel1 (fun hHeld => ?_)
                  clear hK Kc hsep hbel
                  have hsep := hsep1
                  have hbel := hbel1
                  clear hsep1 hbel1
                  refine norm_ (a' := ?_) ?_ ?_
                  rotate_left
                  · show Act.put _ (some 13) _ = _
                    simp only [Act.put, List.setIfInBounds_toArray, List.set_cons_zero, List.set_cons_succ, i64_w, i32_w]
                    rfl
                  exact norm_ (by first | (simp only [putAll, Act.put, List.setIfInBounds_toArray, List.set_cons_zero, List.set_cons_succ]; done) | (simp only [putAll, Act.put, List.setIfInBounds_toArray, List.set_cons_zero, List.set_cons_succ]; rfl)) (hJ11_13 (gv, gx) _ ⟨hsep, hbel⟩)
                · skip
                  refine box_step ?hg (N := 13) ?hd (cs := #[.int .i64 0, .int .i64 0, .int .i64 0, .slice none 0 0]) (t := 69) ?hr ?_; (case hd => rfl); (case hg => rfl); (case hr => first | (go_simp; done) | (go_simp; rfl))
                  intro gx hg w1 hbox hb
                  have hsep1 : Sp.Sep wr.heap.size [Sp.none_, Sp.blk gx #[.int .i64 0, .int .i64 0, .int .i64 0, .slice none 0 0] 69] w1 := hsep.fillBlk 1 rfl hg hbox hb hbel.size
                  have hbel1 := below_then hbel hbel.size hb
                  clear hg hbox hb
                  refine hK.out _ _ hbel1 (fun hHeld => ?_)
                  clear hK Kc hsep hbel
                  have hsep := hsep1
                  have hbel := hbel1
                  clear hsep1 hbel1
                  refine norm_ (a' := ?_) ?_ ?_
                  rotate_left
                  · show Act.put _ (some 13) _ = _
                    simp only [Act.put, List.setIfInBounds_toArray, List.set_cons_zero, List.set_cons_succ, i64_w, i32_w]
                    rfl
                  refine one_ (i := 11) (N := some 93) #[true, true, true, true, true, true, true, true, true, true, true, true, false, true, false] rfl rfl (one_of HT_.out (by kernel_rfl)) (by decide) (fun Kc hK => ?_)
                  refine make_step (by rfl) (x := .tmp 92) rfl (K := K) (by rfl) (mk_run K hKb _) ?_
                  intro gv hg w1 hbox hb
                  have hsep1 : Sp.Sep wr.heap.size [Sp.blk gv (numsA (lst K fun _ => 0)) 3, Sp.blk gx #[.int .i64 0, .int .i64 0, .int .i64 0, .slice none 0 0] 69] w1 := hsep.fillBlk 0 rfl hg hbox hb hbel.size
                  have hbel1 := below_then hbel hbel.size hb
                  clear hg hbox hb
                  refine hK.out _ _ hbel1 (fun hHeld => ?_)
                  clear hK Kc hsep hbel
                  have hsep := hsep1
                  have hbel := hbel1
                  clear hsep1 hbel1
                  refine norm_ (a' := ?_) ?_ ?_
                  rotate_left
                  · show Act.put _ (some 93) _ = _
                    simp only [Act.put, List.setIfInBounds_toArray, List.set_cons_zero, List.set_cons_succ, i64_w, i32_w]
                    rfl
                  refine pure_ (i := 12) (N := (some 94)) (v := ?_) (a' := ?_) #[true, true, true, true, true, true, true, true, true, true, true, true, true, true, false] rfl rfl (any_of HT_.out (by kernel_rfl)) (fun _ _ _ h => h) (Or.inl ⟨by rfl, ?_⟩) ?_ ?_
                  rotate_left
                  · intro w'
                    go_simp
                    with_reducible rfl
                  rotate_left
                  · simp only [Act.put, List.setIfInBounds_toArray, List.set_cons_zero, List.set_cons_succ, i64_w, i32_w]
                    rfl
                  exact norm_ (by first | (simp only [putAll, Act.put, List.setIfInBounds_toArray, List.set_cons_zero, List.set_cons_succ]; done) | (simp only [putAll, Act.put, List.setIfInBounds_toArray, List.set_cons_zero, List.set_cons_succ]; rfl)) (hJ11_13 (gv, gx) _ ⟨hsep, hbel⟩)
              rintro ⟨gv, gx⟩ wj ⟨hsep, hbel⟩
              try dsimp only at hsep
              have hHeld : Below wr.heap.size wr wj := hbel
              refine norm_ (a' := ?_) ?_ ?_
              rotate_left
              · simp only [putAll, Act.put, List.setIfInBounds_toArray, List.set_cons_zero, List.set_cons_succ]
                rfl
              refine last_ (i := 14) (N := none) #[true, true, true, true, true, true, true, true, true, true, true, true, true, true, true] rfl rfl (one_of HT_.out (by kernel_rfl)) (by decide) (fun Kc hK => ?_)
              refine Sp.store_row_step (by rfl) rfl 69 (.tmp 13) (.tmp 94) rfl gx #[.int .i64 (la : Int), .int .i64 (y : Int), .int .i64 (-1), .slice (some ⟨gv, 0, none⟩) K K] rfl rfl 69 _ (hsep.get 1 rfl) (by rw [i69]; rfl) rfl (by simp [Value.oneCell']) ?_
              have hsep1 : Sp.Sep wr.heap.size [Sp.blk gv (numsA (lst K fun _ => 0)) 3, Sp.blk gx #[.int .i64 (la : Int), .int .i64 (y : Int), .int .i64 (-1), .slice (some ⟨gv, 0, none⟩) K K] 69] _ := hsep.setStruct 1 rfl #[.int .i64 (la : Int), .int .i64 (y : Int), .int .i64 (-1), .slice (some ⟨gv, 0, none⟩) K K] hbel.size
              have hbel1 := below_setRow hbel (hsep.bound 1 rfl (show gx = gx from rfl)).1 #[.int .i64 (la : Int), .int .i64 (y : Int), .int .i64 (-1), .slice (some ⟨gv, 0, none⟩) K K]
              refine hK.out _ _ ?_
              clear hK Kc hsep hbel
              refine done_ (done_of HT_.out (by kernel_rfl)) ?_
              generalize World.setRow _ gx _ = wb at hsep1 hbel1 ⊢
              have HH2 : Aside0 (Hold base own w (blk gv (numsA (lst K fun _ => 0)) 3 :: blk gx #[.int .i64 (la : Int), .int .i64 (y : Int), .int .i64 (-1), .slice (some ⟨gv, 0, none⟩) K K] 69 :: tpc base g kd K O most q U1 Y1 (putV0 kd n V out at_) D1 gn1 cn1 gd1 hits misses) wb) := ⟨(HH1.out.over hbel1 hsep1).sub (.cons_cons _ (.cons_cons _ (.cons _ (.cons _ (List.Sublist.refl _)))))⟩
              clear hsep1 hbel1 hHeld HH1 HXL HX1 hxl
              have RD2 := HH2.out.rd2
              have hx0 : wb.cell? ⟨g, 0, none⟩ = some (.int .i64 kd) := (RD2.h 0).trans rfl
              clear RD2
              rcases hkd with hk1 | hk2
              · have hkb : (kd == (2 : Int)) = false := by rw [hk1]; rfl
                have HZ : Aside0 ((putV0 kd n V out at_) q = -1) := ⟨by unfold putV0; rw [← HQ.out, if_neg (by omega), if_neg (by rw [hk1]; decide)]⟩
                clear hk1
                go_wp2
                refine start_ (n := 19) (S := fun w' => w'.cell? ⟨g, 7, none⟩ = some (.slice (some ⟨gn1, 0, none⟩) q cn1) ∧ w'.cell? ⟨gn1, la * 4 + 3, none⟩ = some (.slice (some ⟨gd1 la, 0, none⟩) K K) ∧ w'.cell? (adl.add i) = some (.int .i64 (y : Int))) (ds := [18]) #[false, false, false, false, false, false, false, false, false, false, false, false, false, false, false, false, false, false, false] (by kernel_rfl) rfl rfl ⟨((HH2.out.low (below_drew1 (Below.refl _ _))).rd2.h 7).trans rfl, ((HH2.out.low (below_drew1 (Below.refl _ _))).rd2.u la hla).2.2.2, HLC.out _ (HH2.out.low (below_drew1 (Below.refl _ _))).kept⟩ (fun hHeld => ?_)
                refine with_tabW pt.tab21 pt.bits21 (fun HT_ HW_ => ?_)
                have HH4 := Aside0.mk (HH2.out.low (below_drew1 (Below.refl _ _)))
                clear HH2
                generalize wb.drew = wd2 at HH4 hHeld ⊢
                refine pure_ (i := 0) (N := (some 107)) (v := ?_) (a' := ?_) #[true, false, false, false, false, false, false, false, false, false, false, false, false, false, false, false, false, false, false] rfl rfl (any_of HT_.out (by kernel_rfl)) (fun _ _ _ h => h) (Or.inl ⟨by rfl, ?_⟩) ?_ ?_
                rotate_left
                · intro w'
                  go_simp
                  with_reducible rfl
                rotate_left
                · simp only [Act.put, List.setIfInBounds_toArray, List.set_cons_zero, List.set_cons_succ, i64_w, i32_w]
                  rfl
                refine pure_ (i := 1) (N := (some 108)) (v := ?_) (a' := ?_) #[true, true, false, false, false, false, false, false, false, false, false, false, false, false, false, false, false, false, false] rfl rfl (any_of HT_.out (by kernel_rfl)) (fun _ _ _ h => h) (Or.inl ⟨by rfl, ?_⟩) ?_ ?_
                rotate_left
                · intro w'
                  go_simp
                  with_reducible rfl
                rotate_left
                · simp only [Act.put, List.setIfInBounds_toArray, List.set_cons_zero, List.set_cons_succ, i64_w, i32_w]
                  rfl
                refine pure_ (i := 2) (N := (some 109)) (v := ?_) (a' := ?_) #[true, true, true, false, false, false, false, false, false, false, false, false, false, false, false, false, false, false, false] rfl rfl (any_of HT_.out (by kernel_rfl)) (fun _ _ _ h => h) (Or.inl ⟨by rfl, ?_⟩) ?_ ?_
                rotate_left
                · intro w'
                  go_simp
                  with_reducible rfl
                rotate_left
                · simp only [Act.put, List.setIfInBounds_toArray, List.set_cons_zero, List.set_cons_succ, i64_w, i32_w]
                  rfl
                refine pure_ (i := 4) (N := (some 111)) (v := ?_) (a' := ?_) #[true, true, true, false, true, false, false, false, false, false, false, false, false, false, false, false, false, false, false] rfl rfl (any_of HT_.out (by kernel_rfl)) (fun _ _ _ h => h) (Or.inl ⟨by rfl, ?_⟩) ?_ ?_
                rotate_left
                · intro w'
                  go_simp
                  with_reducible rfl
                rotate_left
                · simp only [Act.put, List.setIfInBounds_toArray, List.set_cons_zero, List.set_cons_succ, i64_w, i32_w]
                  rfl
                refine pure_ (i := 8) (N := (some 115)) (v := ?_) (a' := ?_) #[true, true, true, false, true, false, false, false, true, false, false, false, false, false, false, false, false, false, false] rfl rfl (any_of HT_.out (by kernel_rfl)) (fun _ _ _ h => h) (Or.inl ⟨by rfl, ?_⟩) ?_ ?_
                rotate_left
                · intro w'
                  go_simp
                  with_reducible rfl
                rotate_left
                · simp only [Act.put, List.setIfInBounds_toArray, List.set_cons_zero, List.set_cons_succ, i64_w, i32_w]
                  rfl
                refine pure_ (i := 9) (N := (some 116)) (v := ?_) (a' := ?_) #[true, true, true, false, true, false, false, false, true, true, false, false, false, false, false, false, false, false, false] rfl rfl (any_of HT_.out (by kernel_rfl)) (fun _ _ _ h => h) (Or.inl ⟨by rfl, ?_⟩) ?_ ?_
                rotate_left
                · intro w'
                  go_simp
                  with_reducible rfl
                rotate_left
                · simp only [Act.put, List.setIfInBounds_toArray, List.set_cons_zero, List.set_cons_succ, i64_w, i32_w]
                  rfl
                refine pure_ (i := 10) (N := (some 117)) (v := ?_) (a' := ?_) #[true, true, true, false, true, false, false, false, true, true, true, false, false, false, false, false, false, false, false] rfl rfl (any_of HT_.out (by kernel_rfl)) (fun _ _ _ h => h) (Or.inl ⟨by rfl, ?_⟩) ?_ ?_
                rotate_left
                · intro w'
                  go_simp
                  with_reducible rfl
                rotate_left
                · simp only [Act.put, List.setIfInBounds_toArray, List.set_cons_zero, List.set_cons_succ, i64_w, i32_w]
                  rfl
                refine pure_ (i := 12) (N := (some 119)) (v := ?_) (a' := ?_) #[true, true, true, false, true, false, false, false, true, true, true, false, true, false, false, false, false, false, false] rfl rfl (any_of HT_.out (by kernel_rfl)) (fun _ _ _ h => h) (Or.inl ⟨by rfl, ?_⟩) ?_ ?_
                rotate_left
                · intro w'
                  go_simp
                  with_reducible rfl
                rotate_left
                · simp only [Act.put, List.setIfInBounds_toArray, List.set_cons_zero, List.set_cons_succ, i64_w, i32_w]
                  rfl
                refine pure_ (i := 13) (N := (some 120)) (v := ?_) (a' := ?_) #[true, true, true, false, true, false, false, false, true, true, true, false, true, true, false, false, false, false, false] rfl rfl (any_of HT_.out (by kernel_rfl)) (fun _ _ _ h => h) (Or.inl ⟨by rfl, ?_⟩) ?_ ?_
                rotate_left
                · intro w'
                  go_simp
                  with_reducible rfl
                rotate_left
                · simp only [Act.put, List.setIfInBounds_toArray, List.set_cons_zero, List.set_cons_succ, i64_w, i32_w]
                  rfl
                refine pure_ (i := 14) (N := (some 121)) (v := ?_) (a' := ?_) #[true, true, true, false, true, false, false, false, true, true, true, false, true, true, true, false, false, false, false] rfl rfl (any_of HT_.out (by kernel_rfl)) (fun _ _ _ h => h) (Or.inl ⟨by rfl, ?_⟩) ?_ ?_
                rotate_left
                · intro w'
                  go_simp
                  with_reducible rfl
                rotate_left
                · simp only [Act.put, List.setIfInBounds_toArray, List.set_cons_zero, List.set_cons_succ, i64_w, i32_w]
                  rfl
                refine take_ (i := 3) (N := (some 110)) (v := ?_) (a' := ?_) #[true, true, true, true, true, false, false, false, true, true, true, false, true, true, true, false, false, false, false] rfl rfl (take_ofW HT_.out HW_.out (by kernel_rfl)) (fun _ _ _ h => h) (Or.inl ⟨by rfl, ?_⟩) hHeld ?_ ?_
                rotate_left
                · rintro w' ⟨s0, s1, s2⟩
                  go_simp
                  with_reducible rfl
                rotate_left
                · simp only [Act.put, List.setIfInBounds_toArray, List.set_cons_zero, List.set_cons_succ, i64_w, i32_w]
                  rfl
                refine pure_ (i := 5) (N := (some 112)) (v := ?_) (a' := ?_) #[true, true, true, true, true, true, false, false, true, true, true, false, true, true, true, false, false, false, false] rfl rfl (any_of HT_.out (by kernel_rfl)) (fun _ _ _ h => h) (Or.inl ⟨by rfl, ?_⟩) ?_ ?_
                rotate_left
                · intro w'
                  go_simp
                  with_reducible rfl
                rotate_left
                · simp only [Act.put, List.setIfInBounds_toArray, List.set_cons_zero, List.set_cons_succ, i64_w, i32_w]
                  rfl
                refine pure_ (i := 6) (N := (some 113)) (v := ?_) (a' := ?_) #[true, true, true, true, true, true, true, false, true, true, true, false, true, true, true, false, false, false, false] rfl rfl (any_of HT_.out (by kernel_rfl)) (fun _ _ _ h => h) (Or.inl ⟨by rfl, ?_⟩) ?_ ?_
                rotate_left
                · intro w'
                  go_simp
                  with_reducible rfl
                rotate_left
                · simp only [Act.put, List.setIfInBounds_toArray, List.set_cons_zero, List.set_cons_succ, i64_w, i32_w]
                  rfl
                refine take_ (i := 7) (N := (some 114)) (v := ?_) (a' := ?_) #[true, true, true, true, true, true, true, true, true, true, true, false, true, true, true, false, false, false, false] rfl rfl (take_ofW HT_.out HW_.out (by kernel_rfl)) (fun _ _ _ h => h) (Or.inl ⟨by rfl, ?_⟩) hHeld ?_ ?_
                rotate_left
                · rintro w' ⟨s0, s1, s2⟩
                  go_simp
                  with_reducible rfl
                rotate_left
                · simp only [Act.put, List.setIfInBounds_toArray, List.set_cons_zero, List.set_cons_succ, i64_w, i32_w]
                  rfl
                refine take_ (i := 11) (N := (some 118)) (v := ?_) (a' := ?_) #[true, true, true, true, true, true, true, true, true, true, true, true, true, true, true, false, false, false, false] rfl rfl (take_ofW HT_.out HW_.out (by kernel_rfl)) (fun _ _ _ h => h) (Or.inl ⟨by rfl, ?_⟩) hHeld ?_ ?_
                rotate_left
                · rintro w' ⟨s0, s1, s2⟩
                  go_simp
                  with_reducible rfl
                rotate_left
                · simp only [Act.put, List.setIfInBounds_toArray, List.set_cons_zero, List.set_cons_succ, i64_w, i32_w]
                  rfl
                refine take_ (i := 15) (N := (some 122)) (v := ?_) (a' := ?_) #[true, true, true, true, true, true, true, true, true, true, true, true, true, true, true, true, false, false, false] rfl rfl (take_ofW HT_.out HW_.out (by kernel_rfl)) (fun _ _ _ h => h) (Or.inl ⟨by rfl, ?_⟩) hHeld ?_ ?_
                rotate_left
                · rintro w' ⟨s0, s1, s2⟩
                  go_simp
                  with_reducible rfl
                rotate_left
                · simp only [Act.put, List.setIfInBounds_toArray, List.set_cons_zero, List.set_cons_succ, i64_w, i32_w]
                  rfl
                refine pure_ (i := 16) (N := (some 123)) (v := ?_) (a' := ?_) #[true, true, true, true, true, true, true, true, true, true, true, true, true, true, true, true, true, false, false] rfl rfl (any_of HT_.out (by kernel_rfl)) (fun _ _ _ h => h) (Or.inl ⟨by rfl, ?_⟩) ?_ ?_
                rotate_left
                · intro w'
                  go_simp
                  with_reducible rfl
                rotate_left
                · simp only [Act.put, List.setIfInBounds_toArray, List.set_cons_zero, List.set_cons_succ, i64_w, i32_w]
                  rfl
                refine pure_ (i := 17) (N := (some 124)) (v := ?_) (a' := ?_) #[true, true, true, true, true, true, true, true, true, true, true, true, true, true, true, true, true, true, false] rfl rfl (any_of HT_.out (by kernel_rfl)) (fun _ _ _ h => h) (Or.inl ⟨by rfl, ?_⟩) ?_ ?_
                rotate_left
                · intro w'
                  go_simp
                  with_reducible rfl
                rotate_left
                · simp only [Act.put, List.setIfInBounds_toArray, List.set_cons_zero, List.set_cons_succ, i64_w, i32_w]
                  rfl
                refine last_ (i := 18) (N := none) #[true, true, true, true, true, true, true, true, true, true, true, true, true, true, true, true, true, true, true] rfl rfl (one_of HT_.out (by kernel_rfl)) (by decide) (fun Kc hK => ?_)
                have hcl : wd2.cell? ⟨gd1 la, y, none⟩ = some (.int .i64 (D1 la y : Int)) := HH4.out.rd2.d la y hla HYK.out
                have hfz := blk_frozen (HH4.out.get (la + 4) (get_down hla)) y
                refine skip_ (w1 := ?_) (by rfl) rfl ?_ ?_
                rotate_left
                · go_simp
                  rfl
                have HH5 := Aside0.mk (HH4.out.cell (la + 4) (get_down hla) y (.int .i64 (q : Int)) (lstA_set _ HYK.out q))
                rw [set_down hla] at HH5
                clear hcl hfz HH4
                refine hK.out _ _ ?_; clear hK Kc
                refine done_ (done_of HT_.out (by kernel_rfl)) ?_
                generalize World.setCell wd2 _ _ = wc at HH5 ⊢
                have hx7 : wc.cell? ⟨g, 7, none⟩ = some (.slice (some ⟨gn1, 0, none⟩) q cn1) := (HH5.out.rd2.h 7).trans rfl
                try go_wp2
                clear hx7
                refine start_ (n := 11) (S := fun w' => w'.cell? ⟨g, 7, none⟩ = some (.slice (some ⟨gn1, 0, none⟩) q cn1) ∧ w'.cell? ⟨gx, 0, none⟩ = some (.int .i64 (la : Int)) ∧ w'.cell? ⟨gx, 1, none⟩ = some (.int .i64 (y : Int)) ∧ w'.cell? ⟨gx, 2, none⟩ = some (.int .i64 (-1)) ∧ w'.cell? ⟨gx, 3, none⟩ = some (.slice (some ⟨gv, 0, none⟩) K K)) (ds := [7, 10]) #[false, false, false, false, false, false, false, false, false, false, false] (by kernel_rfl) rfl rfl ⟨((HH5.out.low (below_drew1 (Below.refl _ _))).rd2.h 7).trans rfl, (blk_cell ((HH5.out.low (below_drew1 (Below.refl _ _))).get 1 rfl) 0).trans rfl, (blk_cell ((HH5.out.low (below_drew1 (Below.refl _ _))).get 1 rfl) 1).trans rfl, (blk_cell ((HH5.out.low (below_drew1 (Below.refl _ _))).get 1 rfl) 2).trans rfl, (blk_cell ((HH5.out.low (below_drew1 (Below.refl _ _))).get 1 rfl) 3).trans rfl⟩ (fun hHeld => ?_)
                refine with_tabW pt.tab23 pt.bits23 (fun HT_ HW_ => ?_)
                have HH6 := Aside0.mk (HH5.out.low (below_drew1 (Below.refl _ _)))
                clear HH5
                generalize wc.drew = wd3 at HH6 hHeld ⊢
                refine pure_ (i := 0) (N := (some 130)) (v := ?_) (a' := ?_) #[true, false, false, false, false, false, false, false, false, false, false] rfl rfl (any_of HT_.out (by kernel_rfl)) (fun _ _ _ h => h) (Or.inl ⟨by rfl, ?_⟩) ?_ ?_
                rotate_left
                · intro w'
                  go_simp
                  with_reducible rfl
                rotate_left
                · simp only [Act.put, List.setIfInBounds_toArray, List.set_cons_zero, List.set_cons_succ, i64_w, i32_w]
                  rfl
                refine pure_ (i := 1) (N := (some 131)) (v := ?_) (a' := ?_) #[true, true, false, false, false, false, false, false, false, false, false] rfl rfl (any_of HT_.out (by kernel_rfl)) (fun _ _ _ h => h) (Or.inl ⟨by rfl, ?_⟩) ?_ ?_
                rotate_left
                · intro w'
                  go_simp
                  with_reducible rfl
                rotate_left
                · simp only [Act.put, List.setIfInBounds_toArray, List.set_cons_zero, List.set_cons_succ, i64_w, i32_w]
                  rfl
                refine pure_ (i := 2) (N := (some 132)) (v := ?_) (a' := ?_) #[true, true, true, false, false, false, false, false, false, false, false] rfl rfl (any_of HT_.out (by kernel_rfl)) (fun _ _ _ h => h) (Or.inl ⟨by rfl, ?_⟩) ?_ ?_
                rotate_left
                · intro w'
                  go_simp
                  with_reducible rfl
                rotate_left
                · simp only [Act.put, List.setIfInBounds_toArray, List.set_cons_zero, List.set_cons_succ, i64_w, i32_w]
                  rfl
                refine pure_ (i := 3) (N := (some 133)) (v := ?_) (a' := ?_) #[true, true, true, true, false, false, false, false, false, false, false] rfl rfl (any_of HT_.out (by kernel_rfl)) (fun _ _ _ h => h) (Or.inl ⟨by rfl, ?_⟩) ?_ ?_
                rotate_left
                · intro w'
                  go_simp
                  with_reducible rfl
                rotate_left
                · simp only [Act.put, List.setIfInBounds_toArray, List.set_cons_zero, List.set_cons_succ, i64_w, i32_w]
                  rfl
                refine take_ (i := 4) (N := (some 134)) (v := ?_) (a' := ?_) #[true, true, true, true, true, false, false, false, false, false, false] rfl rfl (take_ofW HT_.out HW_.out (by kernel_rfl)) (fun _ _ _ h => h) (Or.inl ⟨by rfl, ?_⟩) hHeld ?_ ?_
                rotate_left
                · rintro w' ⟨s0, s1, s2, s3, s4⟩
                  go_simp
                  with_reducible rfl
                rotate_left
                · simp only [Act.put, List.setIfInBounds_toArray, List.set_cons_zero, List.set_cons_succ, i64_w, i32_w]
                  rfl
                refine take_ (i := 5) (N := (some 135)) (v := ?_) (a' := ?_) #[true, true, true, true, true, true, false, false, false, false, false] rfl rfl (take_ofW HT_.out HW_.out (by kernel_rfl)) (fun _ _ _ h => h) (Or.inl ⟨by rfl, ?_⟩) hHeld ?_ ?_
                rotate_left
                · rintro w' ⟨s0, s1, s2, s3, s4⟩
                  go_simp
                  with_reducible rfl
                rotate_left
                · simp only [Act.put, List.setIfInBounds_toArray, List.set_cons_zero, List.set_cons_succ, i64_w, i32_w]
                  rfl
                refine one_ (i := 6) (N := (some 136)) #[true, true, true, true, true, true, true, false, false, false, false] rfl rfl (one_of HT_.out (by kernel_rfl)) (by decide) (fun Kc hK => ?_)
                have hrn := run_one_node K wd3 ((la : Int), (y : Int), (-1), gv)
                simp only [nodeC] at hrn
                refine value_ (w1 := ?_) (v := ?_) (by rfl) rfl ?_ ?_
                rotate_left 2
                · go_simp
                  constructor
                  · rfl
                  · rfl
                clear hrn
                refine hK.out _ _ ⟨((HH6.out.low (below_alloc (Below.refl _ _) _)).rd2.h 7).trans rfl, (blk_cell ((HH6.out.low (below_alloc (Below.refl _ _) _)).get 1 rfl) 0).trans rfl, (blk_cell ((HH6.out.low (below_alloc (Below.refl _ _) _)).get 1 rfl) 1).trans rfl, (blk_cell ((HH6.out.low (below_alloc (Below.refl _ _) _)).get 1 rfl) 2).trans rfl, (blk_cell ((HH6.out.low (below_alloc (Below.refl _ _) _)).get 1 rfl) 3).trans rfl⟩ (fun hHeld => ?_); clear hK Kc
                refine norm_ (a' := ?_) ?_ ?_
                rotate_left
                · show Act.put _ (some 136) _ = _
                  simp only [Act.put, List.setIfInBounds_toArray, List.set_cons_zero, List.set_cons_succ, i64_w, i32_w]
                  rfl
                refine last_ (i := 7) (N := (some 137)) #[true, true, true, true, true, true, true, true, false, false, false] rfl rfl (one_of HT_.out (by kernel_rfl)) (by decide) (fun Kc hK => ?_)
                refine Kd.R_append_step (knode K) (w0 := w) base (by rfl) (.tmp 134) (.tmp 136) 63 69 (.agg #[.int .i64 0, .int .i64 0, .int .i64 0, .slice none 0 0]) 48 rfl Try.underlying63 (info69b K) rfl (show 0 < 4 by decide) (by omega) (.slice (some ⟨gn1, 0, none⟩) q cn1) (nlst q U1 Y1 (putV0 kd n V out at_) gd1) ((la : Int), (y : Int), (-1), gv) (nodeC K ((la : Int), (y : Int), (-1), gv)) (fun _ => True) (fun _ => False) rfl rfl rfl (fun _ hk => hk.elim) (fun _ _ => trivial) (Kd.R_mono (HH6.out.get 3 rfl) (fun _ _ => trivial)) HH6.out.below HH6.out.bsize (by rw [nlst_len]; omega) ?_
                intro v1 w3 ho hb hg hat
                obtain ⟨gn2, cn2, e1, _, _, _⟩ := Kd.R_form ho (by simp)
                rw [List.length_append, nlst_len, List.length_singleton] at e1
                subst e1
                have HH7 : Aside0 (Hold base own w (blk gv (numsA (lst K fun _ => 0)) 3 :: blk gx #[.int .i64 (la : Int), .int .i64 (y : Int), .int .i64 (-1), .slice (some ⟨gv, 0, none⟩) K K] 69 :: blk g (hdr kd K O most gn1 q cn1 hits misses) 65 :: nodes K base (.slice (some ⟨gn2, 0, none⟩) (q + 1) cn2) (nlst q U1 Y1 (putV0 kd n V out at_) gd1 ++ [((la : Int), (y : Int), (-1), gv)]) :: dns q K (upd D1 la (upd (D1 la) y q)) gd1) w3) := ⟨HH6.out.app 3 rfl rfl ho hg hat⟩
                clear ho hb hg hat HH6 hHeld
                refine hK.out _ _ ?_; clear hK Kc
                refine norm_ (a' := ?_) ?_ ?_
                rotate_left
                · show Act.put _ (some 137) _ = _
                  simp only [Act.put, List.setIfInBounds_toArray, List.set_cons_zero, List.set_cons_succ, i64_w, i32_w]
                  rfl
                refine pure_ (i := 8) (N := (some 138)) (v := ?_) (a' := ?_) #[true, true, true, true, true, true, true, true, true, false, false] rfl rfl (any_of HT_.out (by kernel_rfl)) (fun _ _ _ h => h) (Or.inl ⟨by rfl, ?_⟩) ?_ ?_
                rotate_left
                · intro w'
                  go_simp
                  with_reducible rfl
                rotate_left
                · simp only [Act.put, List.setIfInBounds_toArray, List.set_cons_zero, List.set_cons_succ, i64_w, i32_w]
                  rfl
                refine pure_ (i := 9) (N := (some 139)) (v := ?_) (a' := ?_) #[true, true, true, true, true, true, true, true, true, true, false] rfl rfl (any_of HT_.out (by kernel_rfl)) (fun _ _ _ h => h) (Or.inl ⟨by rfl, ?_⟩) ?_ ?_
                rotate_left
                · intro w'
                  go_simp
                  with_reducible rfl
                rotate_left
                · simp only [Act.put, List.setIfInBounds_toArray, List.set_cons_zero, List.set_cons_succ, i64_w, i32_w]
                  rfl
                refine last_ (i := 10) (N := none) #[true, true, true, true, true, true, true, true, true, true, true] rfl rfl (one_of HT_.out (by kernel_rfl)) (by decide) (fun Kc hK => ?_)
                have hcl : w3.cell? ⟨g, 7, none⟩ = some (.slice (some ⟨gn1, 0, none⟩) q cn1) := (blk_cell (HH7.out.get 2 rfl) 7).trans rfl
                have hfz := blk_frozen (HH7.out.get 2 rfl) 7
                refine skip_ (w1 := ?_) (by rfl) rfl ?_ ?_
                rotate_left
                · go_simp
                  rfl
                have HH8 : Aside0 (Hold base own w (blk gv (numsA (lst K fun _ => 0)) 3 :: blk gx #[.int .i64 (la : Int), .int .i64 (y : Int), .int .i64 (-1), .slice (some ⟨gv, 0, none⟩) K K] 69 :: blk g (hdr kd K O most gn2 (q + 1) cn2 hits misses) 65 :: nodes K base (.slice (some ⟨gn2, 0, none⟩) (q + 1) cn2) (nlst q U1 Y1 (putV0 kd n V out at_) gd1 ++ [((la : Int), (y : Int), (-1), gv)]) :: dns q K (upd D1 la (upd (D1 la) y q)) gd1) (w3.setCell ⟨g, 7, none⟩ (.slice (some ⟨gn2, 0, none⟩) (q + 1) cn2))) := ⟨HH7.out.cell 2 rfl 7 (.slice (some ⟨gn2, 0, none⟩) (q + 1) cn2) rfl⟩
                clear hcl hfz HH7
                refine hK.out _ _ ?_; clear hK Kc
                refine done_ (done_of HT_.out (by kernel_rfl)) ?_
                have HH9 := Aside0.mk (fold_more HZ.out HH8.out)
                clear HH8
                go_wp2
                go_roundw
                case rel => exact ⟨j + 1, i + 1, q, _, _, _, gn2, cn2, _, by go_num, rfl, ⟨by have h1 := HJ.out; have h2 := HJD.out; omega⟩, ⟨by have h1 := HQ.out; omega, by rw [HPM.out.2, HLE.out], fun h => absurd h (Nat.succ_ne_zero _), fun _ => by have h1 := HQ.out; omega⟩, ⟨by have h1 := HQ.out; rw [show n + (j + 1) = q + 1 by omega]; exact HPM.out.1⟩, ⟨by have h1 := HQ.out; rw [show n + (j + 1) = q + 1 by omega]; exact HH9.out⟩⟩
                case measure => have := HIL.out; simp [intOf]; omega
              · have hkb : (kd == (2 : Int)) = true := by rw [hk2]; rfl
                have hio : i < out.length := by rw [HOL.out, if_neg (by rw [hk2]; decide)]; exact HIL.out
                have HZ : Aside0 ((putV0 kd n V out at_) q = rd out (i : Int)) := ⟨by
                  unfold putV0
                  rw [← HQ.out, if_neg (by omega), if_pos hk2, Nat.add_sub_cancel_left]
                  congr 2
                  have h1 := HJ.out
                  have h2 := HLN.out
                  omega⟩
                obtain ⟨ado, eo, hxo⟩ := Kd.at_int (HRO.out wb HH2.out.kept) (i : Int) (by omega) (by omega)
                subst eo
                rw [Int.toNat_natCast] at hxo
                generalize hz : rd out (i : Int) = z at hxo HZ
                have hio' : (i : Int) < (out.length : Int) := by omega
                have hcl : wb.cell? ⟨gx, 2, none⟩ = some (.int .i64 (-1)) := (blk_cell (HH2.out.get 1 rfl) 2).trans rfl
                have hfz := blk_frozen (HH2.out.get 1 rfl) 2
                have HH3 : Aside0 (Hold base own w (blk gv (numsA (lst K fun _ => 0)) 3 :: blk gx #[.int .i64 (la : Int), .int .i64 (y : Int), .int .i64 z, .slice (some ⟨gv, 0, none⟩) K K] 69 :: tpc base g kd K O most q U1 Y1 (putV0 kd n V out at_) D1 gn1 cn1 gd1 hits misses) (wb.setCell ⟨gx, 2, none⟩ (.int .i64 z))) := ⟨HH2.out.cell 1 rfl 2 (.int .i64 z) rfl⟩
                clear hk2 hio hz HH2
                go_wp2
                clear hcl hfz hxo hx0 hio'
                generalize World.setCell wb _ _ = wb at HH3 ⊢
                refine start_ (n := 19) (S := fun w' => w'.cell? ⟨g, 7, none⟩ = some (.slice (some ⟨gn1, 0, none⟩) q cn1) ∧ w'.cell? ⟨gn1, la * 4 + 3, none⟩ = some (.slice (some ⟨gd1 la, 0, none⟩) K K) ∧ w'.cell? (adl.add i) = some (.int .i64 (y : Int))) (ds := [18]) #[false, false, false, false, false, false, false, false, false, false, false, false, false, false, false, false, false, false, false] (by kernel_rfl) rfl rfl ⟨((HH3.out.low (below_drew1 (Below.refl _ _))).rd2.h 7).trans rfl, ((HH3.out.low (below_drew1 (Below.refl _ _))).rd2.u la hla).2.2.2, HLC.out _ (HH3.out.low (below_drew1 (Below.refl _ _))).kept⟩ (fun hHeld => ?_)
                refine with_tabW pt.tab21 pt.bits21 (fun HT_ HW_ => ?_)
                have HH4 := Aside0.mk (HH3.out.low (below_drew1 (Below.refl _ _)))
                clear HH3
                generalize wb.drew = wd2 at HH4 hHeld ⊢
                refine pure_ (i := 0) (N := (some 107)) (v := ?_) (a' := ?_) #[true, false, false, false, false, false, false, false, false, false, false, false, false, false, false, false, false, false, false] rfl rfl (any_of HT_.out (by kernel_rfl)) (fun _ _ _ h => h) (Or.inl ⟨by rfl, ?_⟩) ?_ ?_
                rotate_left
                · intro w'
                  go_simp
                  with_reducible rfl
                rotate_left
                · simp only [Act.put, List.setIfInBounds_toArray, List.set_cons_zero, List.set_cons_succ, i64_w, i32_w]
                  rfl
                refine pure_ (i := 1) (N := (some 108)) (v := ?_) (a' := ?_) #[true, true, false, false, false, false, false, false, false, false, false, false, false, false, false, false, false, false, false] rfl rfl (any_of HT_.out (by kernel_rfl)) (fun _ _ _ h => h) (Or.inl ⟨by rfl, ?_⟩) ?_ ?_
                rotate_left
                · intro w'
                  go_simp
                  with_reducible rfl
                rotate_left
                · simp only [Act.put, List.setIfInBounds_toArray, List.set_cons_zero, List.set_cons_succ, i64_w, i32_w]
                  rfl
                refine pure_ (i := 2) (N := (some 109)) (v := ?_) (a' := ?_) #[true, true, true, false, false, false, false, false, false, false, false, false, false, false, false, false, false, false, false] rfl rfl (any_of HT_.out (by kernel_rfl)) (fun _ _ _ h => h) (Or.inl ⟨by rfl, ?_⟩) ?_ ?_
                rotate_left
                · intro w'
                  go_simp
                  with_reducible rfl
                rotate_left
                · simp only [Act.put, List.setIfInBounds_toArray, List.set_cons_zero, List.set_cons_succ, i64_w, i32_w]
                  rfl
                refine pure_ (i := 4) (N := (some 111)) (v := ?_) (a' := ?_) #[true, true, true, false, true, false, false, false, false, false, false, false, false, false, false, false, false, false, false] rfl rfl (any_of HT_.out (by kernel_rfl)) (fun _ _ _ h => h) (Or.inl ⟨by rfl, ?_⟩) ?_ ?_
                rotate_left
                · intro w'
                  go_simp
                  with_reducible rfl
                rotate_left
                · simp only [Act.put, List.setIfInBounds_toArray, List.set_cons_zero, List.set_cons_succ, i64_w, i32_w]
                  rfl
                refine pure_ (i := 8) (N := (some 115)) (v := ?_) (a' := ?_) #[true, true, true, false, true, false, false, false, true, false, false, false, false, false, false, false, false, false, false] rfl rfl (any_of HT_.out (by kernel_rfl)) (fun _ _ _ h => h) (Or.inl ⟨by rfl, ?_⟩) ?_ ?_
                rotate_left
                · intro w'
                  go_simp
                  with_reducible rfl
                rotate_left
                · simp only [Act.put, List.setIfInBounds_toArray, List.set_cons_zero, List.set_cons_succ, i64_w, i32_w]
                  rfl
                refine pure_ (i := 9) (N := (some 116)) (v := ?_) (a' := ?_) #[true, true, true, false, true, false, false, false, true, true, false, false, false, false, false, false, false, false, false] rfl rfl (any_of HT_.out (by kernel_rfl)) (fun _ _ _ h => h) (Or.inl ⟨by rfl, ?_⟩) ?_ ?_
                rotate_left
                · intro w'
                  go_simp
                  with_reducible rfl
                rotate_left
                · simp only [Act.put, List.setIfInBounds_toArray, List.set_cons_zero, List.set_cons_succ, i64_w, i32_w]
                  rfl
                refine pure_ (i := 10) (N := (some 117)) (v := ?_) (a' := ?_) #[true, true, true, false, true, false, false, false, true, true, true, false, false, false, false, false, false, false, false] rfl rfl (any_of HT_.out (by kernel_rfl)) (fun _ _ _ h => h) (Or.inl ⟨by rfl, ?_⟩) ?_ ?_
                rotate_left
                · intro w'
                  go_simp
                  with_reducible rfl
                rotate_left
                · simp only [Act.put, List.setIfInBounds_toArray, List.set_cons_zero, List.set_cons_succ, i64_w, i32_w]
                  rfl
                refine pure_ (i := 12) (N := (some 119)) (v := ?_) (a' := ?_) #[true, true, true, false, true, false, false, false, true, true, true, false, true, false, false, false, false, false, false] rfl rfl (any_of HT_.out (by kernel_rfl)) (fun _ _ _ h => h) (Or.inl ⟨by rfl, ?_⟩) ?_ ?_
                rotate_left
                · intro w'
                  go_simp
                  with_reducible rfl
                rotate_left
                · simp only [Act.put, List.setIfInBounds_toArray, List.set_cons_zero, List.set_cons_succ, i64_w, i32_w]
                  rfl
                refine pure_ (i := 13) (N := (some 120)) (v := ?_) (a' := ?_) #[true, true, true, false, true, false, false, false, true, true, true, false, true, true, false, false, false, false, false] rfl rfl (any_of HT_.out (by kernel_rfl)) (fun _ _ _ h => h) (Or.inl ⟨by rfl, ?_⟩) ?_ ?_
                rotate_left
                · intro w'
                  go_simp
                  with_reducible rfl
                rotate_left
                · simp only [Act.put, List.setIfInBounds_toArray, List.set_cons_zero, List.set_cons_succ, i64_w, i32_w]
                  rfl
                refine pure_ (i := 14) (N := (some 121)) (v := ?_) (a' := ?_) #[true, true, true, false, true, false, false, false, true, true, true, false, true, true, true, false, false, false, false] rfl rfl (any_of HT_.out (by kernel_rfl)) (fun _ _ _ h => h) (Or.inl ⟨by rfl, ?_⟩) ?_ ?_
                rotate_left
                · intro w'
                  go_simp
                  with_reducible rfl
                rotate_left
                · simp only [Act.put, List.setIfInBounds_toArray, List.set_cons_zero, List.set_cons_succ, i64_w, i32_w]
                  rfl
                refine take_ (i := 3) (N := (some 110)) (v := ?_) (a' := ?_) #[true, true, true, true, true, false, false, false, true, true, true, false, true, true, true, false, false, false, false] rfl rfl (take_ofW HT_.out HW_.out (by kernel_rfl)) (fun _ _ _ h => h) (Or.inl ⟨by rfl, ?_⟩) hHeld ?_ ?_
                rotate_left
                · rintro w' ⟨s0, s1, s2⟩
                  go_simp
                  with_reducible rfl
                rotate_left
                · simp only [Act.put, List.setIfInBounds_toArray, List.set_cons_zero, List.set_cons_succ, i64_w, i32_w]
                  rfl
                refine pure_ (i := 5) (N := (some 112)) (v := ?_) (a' := ?_) #[true, true, true, true, true, true, false, false, true, true, true, false, true, true, true, false, false, false, false] rfl rfl (any_of HT_.out (by kernel_rfl)) (fun _ _ _ h => h) (Or.inl ⟨by rfl, ?_⟩) ?_ ?_
                rotate_left
                · intro w'
                  go_simp
                  with_reducible rfl
                rotate_left
                · simp only [Act.put, List.setIfInBounds_toArray, List.set_cons_zero, List.set_cons_succ, i64_w, i32_w]
                  rfl
                refine pure_ (i := 6) (N := (some 113)) (v := ?_) (a' := ?_) #[true, true, true, true, true, true, true, false, true, true, true, false, true, true, true, false, false, false, false] rfl rfl (any_of HT_.out (by kernel_rfl)) (fun _ _ _ h => h) (Or.inl ⟨by rfl, ?_⟩) ?_ ?_
                rotate_left
                · intro w'
                  go_simp
                  with_reducible rfl
                rotate_left
                · simp only [Act.put, List.setIfInBounds_toArray, List.set_cons_zero, List.set_cons_succ, i64_w, i32_w]
                  rfl
                refine take_ (i := 7) (N := (some 114)) (v := ?_) (a' := ?_) #[true, true, true, true, true, true, true, true, true, true, true, false, true, true, true, false, false, false, false] rfl rfl (take_ofW HT_.out HW_.out (by kernel_rfl)) (fun _ _ _ h => h) (Or.inl ⟨by rfl, ?_⟩) hHeld ?_ ?_
                rotate_left
                · rintro w' ⟨s0, s1, s2⟩
                  go_simp
                  with_reducible rfl
                rotate_left
                · simp only [Act.put, List.setIfInBounds_toArray, List.set_cons_zero, List.set_cons_succ, i64_w, i32_w]
                  rfl
                refine take_ (i := 11) (N := (some 118)) (v := ?_) (a' := ?_) #[true, true, true, true, true, true, true, true, true, true, true, true, true, true, true, false, false, false, false] rfl rfl (take_ofW HT_.out HW_.out (by kernel_rfl)) (fun _ _ _ h => h) (Or.inl ⟨by rfl, ?_⟩) hHeld ?_ ?_
                rotate_left
                · rintro w' ⟨s0, s1, s2⟩
                  go_simp
                  with_reducible rfl
                rotate_left
                · simp only [Act.put, List.setIfInBounds_toArray, List.set_cons_zero, List.set_cons_succ, i64_w, i32_w]
                  rfl
                refine take_ (i := 15) (N := (some 122)) (v := ?_) (a' := ?_) #[true, true, true, true, true, true, true, true, true, true, true, true, true, true, true, true, false, false, false] rfl rfl (take_ofW HT_.out HW_.out (by kernel_rfl)) (fun _ _ _ h => h) (Or.inl ⟨by rfl, ?_⟩) hHeld ?_ ?_
                rotate_left
                · rintro w' ⟨s0, s1, s2⟩
                  go_simp
                  with_reducible rfl
                rotate_left
                · simp only [Act.put, List.setIfInBounds_toArray, List.set_cons_zero, List.set_cons_succ, i64_w, i32_w]
                  rfl
                refine pure_ (i := 16) (N := (some 123)) (v := ?_) (a' := ?_) #[true, true, true, true, true, true, true, true, true, true, true, true, true, true, true, true, true, false, false] rfl rfl (any_of HT_.out (by kernel_rfl)) (fun _ _ _ h => h) (Or.inl ⟨by rfl, ?_⟩) ?_ ?_
                rotate_left
                · intro w'
                  go_simp
                  with_reducible rfl
                rotate_left
                · simp only [Act.put, List.setIfInBounds_toArray, List.set_cons_zero, List.set_cons_succ, i64_w, i32_w]
                  rfl
                refine pure_ (i := 17) (N := (some 124)) (v := ?_) (a' := ?_) #[true, true, true, true, true, true, true, true, true, true, true, true, true, true, true, true, true, true, false] rfl rfl (any_of HT_.out (by kernel_rfl)) (fun _ _ _ h => h) (Or.inl ⟨by rfl, ?_⟩) ?_ ?_
                rotate_left
                · intro w'
                  go_simp
                  with_reducible rfl
                rotate_left
                · simp only [Act.put, List.setIfInBounds_toArray, List.set_cons_zero, List.set_cons_succ, i64_w, i32_w]
                  rfl
                refine last_ (i := 18) (N := none) #[true, true, true, true, true, true, true, true, true, true, true, true, true, true, true, true, true, true, true] rfl rfl (one_of HT_.out (by kernel_rfl)) (by decide) (fun Kc hK => ?_)
                have hcl : wd2.cell? ⟨gd1 la, y, none⟩ = some (.int .i64 (D1 la y : Int)) := HH4.out.rd2.d la y hla HYK.out
                have hfz := blk_frozen (HH4.out.get (la + 4) (get_down hla)) y
                refine skip_ (w1 := ?_) (by rfl) rfl ?_ ?_
                rotate_left
                · go_simp
                  rfl
                have HH5 := Aside0.mk (HH4.out.cell (la + 4) (get_down hla) y (.int .i64 (q : Int)) (lstA_set _ HYK.out q))
                rw [set_down hla] at HH5
                clear hcl hfz HH4
                refine hK.out _ _ ?_; clear hK Kc
                refine done_ (done_of HT_.out (by kernel_rfl)) ?_
                generalize World.setCell wd2 _ _ = wc at HH5 ⊢
                have hx7 : wc.cell? ⟨g, 7, none⟩ = some (.slice (some ⟨gn1, 0, none⟩) q cn1) := (HH5.out.rd2.h 7).trans rfl
                try go_wp2
                clear hx7
                refine start_ (n := 11) (S := fun w' => w'.cell? ⟨g, 7, none⟩ = some (.slice (some ⟨gn1, 0, none⟩) q cn1) ∧ w'.cell? ⟨gx, 0, none⟩ = some (.int .i64 (la : Int)) ∧ w'.cell? ⟨gx, 1, none⟩ = some (.int .i64 (y : Int)) ∧ w'.cell? ⟨gx, 2, none⟩ = some (.int .i64 z) ∧ w'.cell? ⟨gx, 3, none⟩ = some (.slice (some ⟨gv, 0, none⟩) K K)) (ds := [7, 10]) #[false, false, false, false, false, false, false, false, false, false, false] (by kernel_rfl) rfl rfl ⟨((HH5.out.low (below_drew1 (Below.refl _ _))).rd2.h 7).trans rfl, (blk_cell ((HH5.out.low (below_drew1 (Below.refl _ _))).get 1 rfl) 0).trans rfl, (blk_cell ((HH5.out.low (below_drew1 (Below.refl _ _))).get 1 rfl) 1).trans rfl, (blk_cell ((HH5.out.low (below_drew1 (Below.refl _ _))).get 1 rfl) 2).trans rfl, (blk_cell ((HH5.out.low (below_drew1 (Below.refl _ _))).get 1 rfl) 3).trans rfl⟩ (fun hHeld => ?_)
                refine with_tabW pt.tab23 pt.bits23 (fun HT_ HW_ => ?_)
                have HH6 := Aside0.mk (HH5.out.low (below_drew1 (Below.refl _ _)))
                clear HH5
                generalize wc.drew = wd3 at HH6 hHeld ⊢
                refine pure_ (i := 0) (N := (some 130)) (v := ?_) (a' := ?_) #[true, false, false, false, false, false, false, false, false, false, false] rfl rfl (any_of HT_.out (by kernel_rfl)) (fun _ _ _ h => h) (Or.inl ⟨by rfl, ?_⟩) ?_ ?_
                rotate_left
                · intro w'
                  go_simp
                  with_reducible rfl
                rotate_left
                · simp only [Act.put, List.setIfInBounds_toArray, List.set_cons_zero, List.set_cons_succ, i64_w, i32_w]
                  rfl
                refine pure_ (i := 1) (N := (some 131)) (v := ?_) (a' := ?_) #[true, true, false, false, false, false, false, false, false, false, false] rfl rfl (any_of HT_.out (by kernel_rfl)) (fun _ _ _ h => h) (Or.inl ⟨by rfl, ?_⟩) ?_ ?_
                rotate_left
                · intro w'
                  go_simp
                  with_reducible rfl
                rotate_left
                · simp only [Act.put, List.setIfInBounds_toArray, List.set_cons_zero, List.set_cons_succ, i64_w, i32_w]
                  rfl
                refine pure_ (i := 2) (N := (some 132)) (v := ?_) (a' := ?_) #[true, true, true, false, false, false, false, false, false, false, false] rfl rfl (any_of HT_.out (by kernel_rfl)) (fun _ _ _ h => h) (Or.inl ⟨by rfl, ?_⟩) ?_ ?_
                rotate_left
                · intro w'
                  go_simp
                  with_reducible rfl
                rotate_left
                · simp only [Act.put, List.setIfInBounds_toArray, List.set_cons_zero, List.set_cons_succ, i64_w, i32_w]
                  rfl
                refine pure_ (i := 3) (N := (some 133)) (v := ?_) (a' := ?_) #[true, true, true, true, false, false, false, false, false, false, false] rfl rfl (any_of HT_.out (by kernel_rfl)) (fun _ _ _ h => h) (Or.inl ⟨by rfl, ?_⟩) ?_ ?_
                rotate_left
                · intro w'
                  go_simp
                  with_reducible rfl
                rotate_left
                · simp only [Act.put, List.setIfInBounds_toArray, List.set_cons_zero, List.set_cons_succ, i64_w, i32_w]
                  rfl
                refine take_ (i := 4) (N := (some 134)) (v := ?_) (a' := ?_) #[true, true, true, true, true, false, false, false, false, false, false] rfl rfl (take_ofW HT_.out HW_.out (by kernel_rfl)) (fun _ _ _ h => h) (Or.inl ⟨by rfl, ?_⟩) hHeld ?_ ?_
                rotate_left
                · rintro w' ⟨s0, s1, s2, s3, s4⟩
                  go_simp
                  with_reducible rfl
                rotate_left
                · simp only [Act.put, List.setIfInBounds_toArray, List.set_cons_zero, List.set_cons_succ, i64_w, i32_w]
                  rfl
                refine take_ (i := 5) (N := (some 135)) (v := ?_) (a' := ?_) #[true, true, true, true, true, true, false, false, false, false, false] rfl rfl (take_ofW HT_.out HW_.out (by kernel_rfl)) (fun _ _ _ h => h) (Or.inl ⟨by rfl, ?_⟩) hHeld ?_ ?_
                rotate_left
                · rintro w' ⟨s0, s1, s2, s3, s4⟩
                  go_simp
                  with_reducible rfl
                rotate_left
                · simp only [Act.put, List.setIfInBounds_toArray, List.set_cons_zero, List.set_cons_succ, i64_w, i32_w]
                  rfl
                refine one_ (i := 6) (N := (some 136)) #[true, true, true, true, true, true, true, false, false, false, false] rfl rfl (one_of HT_.out (by kernel_rfl)) (by decide) (fun Kc hK => ?_)
                have hrn := run_one_node K wd3 ((la : Int), (y : Int), z, gv)
                simp only [nodeC] at hrn
                refine value_ (w1 := ?_) (v := ?_) (by rfl) rfl ?_ ?_
                rotate_left 2
                · go_simp
                  constructor
                  · rfl
                  · rfl
                clear hrn
                refine hK.out _ _ ⟨((HH6.out.low (below_alloc (Below.refl _ _) _)).rd2.h 7).trans rfl, (blk_cell ((HH6.out.low (below_alloc (Below.refl _ _) _)).get 1 rfl) 0).trans rfl, (blk_cell ((HH6.out.low (below_alloc (Below.refl _ _) _)).get 1 rfl) 1).trans rfl, (blk_cell ((HH6.out.low (below_alloc (Below.refl _ _) _)).get 1 rfl) 2).trans rfl, (blk_cell ((HH6.out.low (below_alloc (Below.refl _ _) _)).get 1 rfl) 3).trans rfl⟩ (fun hHeld => ?_); clear hK Kc
                refine norm_ (a' := ?_) ?_ ?_
                rotate_left
                · show Act.put _ (some 136) _ = _
                  simp only [Act.put, List.setIfInBounds_toArray, List.set_cons_zero, List.set_cons_succ, i64_w, i32_w]
                  rfl
                refine last_ (i := 7) (N := (some 137)) #[true, true, true, true, true, true, true, true, false, false, false] rfl rfl (one_of HT_.out (by kernel_rfl)) (by decide) (fun Kc hK => ?_)
                refine Kd.R_append_step (knode K) (w0 := w) base (by rfl) (.tmp 134) (.tmp 136) 63 69 (.agg #[.int .i64 0, .int .i64 0, .int .i64 0, .slice none 0 0]) 48 rfl Try.underlying63 (info69b K) rfl (show 0 < 4 by decide) (by omega) (.slice (some ⟨gn1, 0, none⟩) q cn1) (nlst q U1 Y1 (putV0 kd n V out at_) gd1) ((la : Int), (y : Int), z, gv) (nodeC K ((la : Int), (y : Int), z, gv)) (fun _ => True) (fun _ => False) rfl rfl rfl (fun _ hk => hk.elim) (fun _ _ => trivial) (Kd.R_mono (HH6.out.get 3 rfl) (fun _ _ => trivial)) HH6.out.below HH6.out.bsize (by rw [nlst_len]; omega) ?_
                intro v1 w3 ho hb hg hat
                obtain ⟨gn2, cn2, e1, _, _, _⟩ := Kd.R_form ho (by simp)
                rw [List.length_append, nlst_len, List.length_singleton] at e1
                subst e1
                have HH7 : Aside0 (Hold base own w (blk gv (numsA (lst K fun _ => 0)) 3 :: blk gx #[.int .i64 (la : Int), .int .i64 (y : Int), .int .i64 z, .slice (some ⟨gv, 0, none⟩) K K] 69 :: blk g (hdr kd K O most gn1 q cn1 hits misses) 65 :: nodes K base (.slice (some ⟨gn2, 0, none⟩) (q + 1) cn2) (nlst q U1 Y1 (putV0 kd n V out at_) gd1 ++ [((la : Int), (y : Int), z, gv)]) :: dns q K (upd D1 la (upd (D1 la) y q)) gd1) w3) := ⟨HH6.out.app 3 rfl rfl ho hg hat⟩
                clear ho hb hg hat HH6 hHeld
                refine hK.out _ _ ?_; clear hK Kc
                refine norm_ (a' := ?_) ?_ ?_
                rotate_left
                · show Act.put _ (some 137) _ = _
                  simp only [Act.put, List.setIfInBounds_toArray, List.set_cons_zero, List.set_cons_succ, i64_w, i32_w]
                  rfl
                refine pure_ (i := 8) (N := (some 138)) (v := ?_) (a' := ?_) #[true, true, true, true, true, true, true, true, true, false, false] rfl rfl (any_of HT_.out (by kernel_rfl)) (fun _ _ _ h => h) (Or.inl ⟨by rfl, ?_⟩) ?_ ?_
                rotate_left
                · intro w'
                  go_simp
                  with_reducible rfl
                rotate_left
                · simp only [Act.put, List.setIfInBounds_toArray, List.set_cons_zero, List.set_cons_succ, i64_w, i32_w]
                  rfl
                refine pure_ (i := 9) (N := (some 139)) (v := ?_) (a' := ?_) #[true, true, true, true, true, true, true, true, true, true, false] rfl rfl (any_of HT_.out (by kernel_rfl)) (fun _ _ _ h => h) (Or.inl ⟨by rfl, ?_⟩) ?_ ?_
                rotate_left
                · intro w'
                  go_simp
                  with_reducible rfl
                rotate_left
                · simp only [Act.put, List.setIfInBounds_toArray, List.set_cons_zero, List.set_cons_succ, i64_w, i32_w]
                  rfl
                refine last_ (i := 10) (N := none) #[true, true, true, true, true, true, true, true, true, true, true] rfl rfl (one_of HT_.out (by kernel_rfl)) (by decide) (fun Kc hK => ?_)
                have hcl : w3.cell? ⟨g, 7, none⟩ = some (.slice (some ⟨gn1, 0, none⟩) q cn1) := (blk_cell (HH7.out.get 2 rfl) 7).trans rfl
                have hfz := blk_frozen (HH7.out.get 2 rfl) 7
                refine skip_ (w1 := ?_) (by rfl) rfl ?_ ?_
                rotate_left
                · go_simp
                  rfl
                have HH8 : Aside0 (Hold base own w (blk gv (numsA (lst K fun _ => 0)) 3 :: blk gx #[.int .i64 (la : Int), .int .i64 (y : Int), .int .i64 z, .slice (some ⟨gv, 0, none⟩) K K] 69 :: blk g (hdr kd K O most gn2 (q + 1) cn2 hits misses) 65 :: nodes K base (.slice (some ⟨gn2, 0, none⟩) (q + 1) cn2) (nlst q U1 Y1 (putV0 kd n V out at_) gd1 ++ [((la : Int), (y : Int), z, gv)]) :: dns q K (upd D1 la (upd (D1 la) y q)) gd1) (w3.setCell ⟨g, 7, none⟩ (.slice (some ⟨gn2, 0, none⟩) (q + 1) cn2))) := ⟨HH7.out.cell 2 rfl 7 (.slice (some ⟨gn2, 0, none⟩) (q + 1) cn2) rfl⟩
                clear hcl hfz HH7
                refine hK.out _ _ ?_; clear hK Kc
                refine done_ (done_of HT_.out (by kernel_rfl)) ?_
                have HH9 := Aside0.mk (fold_more HZ.out HH8.out)
                clear HH8
                go_wp2
                go_roundw
                case rel => exact ⟨j + 1, i + 1, q, _, _, _, gn2, cn2, _, by go_num, rfl, ⟨by have h1 := HJ.out; have h2 := HJD.out; omega⟩, ⟨by have h1 := HQ.out; omega, by rw [HPM.out.2, HLE.out], fun h => absurd h (Nat.succ_ne_zero _), fun _ => by have h1 := HQ.out; omega⟩, ⟨by have h1 := HQ.out; rw [show n + (j + 1) = q + 1 by omega]; exact HPM.out.1⟩, ⟨by have h1 := HQ.out; rw [show n + (j + 1) = q + 1 by omega]; exact HH9.out⟩⟩
                case measure => have := HIL.out; simp [intOf]; omega
            · have hi' : ¬ ((i : Int) < (l.length : Int)) := by omega
              have hie : i = l.length := by omega
              have hje : j = d := by have h1 := HJ.out; have h2 := HLN.out; omega
              subst hje
              have hpn : n + j = putN n l at_ := by unfold putN; have h2 := HLN.out; omega
              have HPN := Aside0.mk hpn
              have HLL : Aside0 (la = lastN n l at_) := ⟨by
                unfold lastN
                have h2 := HLN.out
                by_cases hL : at_.length = l.length + 1
                · rw [if_pos hL, HLA.out.2.2.1 (by omega), List.getD_eq_getElem?_getD, h2.1, h2.2.2.2.2.1, HA.out.1]
                  rfl
                · rw [if_neg hL, HLA.out.2.2.2 (by omega), hpn]⟩
              have hx0 : wr.cell? ⟨g, 0, none⟩ = some (.int .i64 kd) := (RD1.h 0).trans rfl
              clear hi hie hpn
              rcases hkd with hk1 | hk2
              · have hkb : (kd == (1 : Int)) = true := by rw [hk1]; rfl
                have hio : 0 < out.length := by rw [HOL.out, if_pos hk1]; exact Nat.one_pos
                have hla := HLA.out.1
                obtain ⟨ado, eo, hxo⟩ := Kd.at_int (HRO.out wr HH1.out.kept) (0 : Int) (by omega) (by omega)
                subst eo
                have HOC : Aside0 (∀ w1 : World, (∀ k, k < w.heap.size → ¬ own k → w1.heap[k]? = w.heap[k]?) → w1.cell? (ado.add 0) = some (.int .i64 (rd out 0)) ∧ w1.cell? ado = some (.int .i64 (rd out 0))) := ⟨fun w1 hk => by
                  obtain ⟨_, e, h⟩ := Kd.at_int (HRO.out w1 hk) (0 : Int) (by omega) (by omega)
                  cases e
                  have h2 : ado.add 0 = ado := by cases ado; rfl
                  have h3 : w1.cell? (ado.add 0) = some (.int .i64 (rd out 0)) := h
                  exact ⟨h3, by rw [h2] at h3; exact h3⟩⟩
                have HPV : Aside0 (putV kd n V l out at_ = upd (putV0 kd n V out at_) la (rd out 0)) := ⟨by unfold putV; rw [if_pos hk1, HLL.out]⟩
                generalize hz : rd out 0 = z at HOC HPV
                have hol : (0 : Int) < (out.length : Int) := by omega
                obtain ⟨q, hq⟩ : ∃ q, n + j = q := ⟨_, rfl⟩
                rw [hq] at HLA HH1 HT1 HPN hla
                have hql : (la : Int) < (q : Int) := by omega
                clear hk1 hz hxo RD1 hq
                go_wp2
                refine start_ (n := 12) (S := fun w' => w'.cell? ⟨g, 7, none⟩ = some (.slice (some ⟨gn1, 0, none⟩) q cn1) ∧ w'.cell? (ado.add 0) = some (.int .i64 z) ∧ w'.cell? ado = some (.int .i64 z)) (ds := [11]) #[false, false, false, false, false, false, false, false, false, false, false, false] (by kernel_rfl) rfl rfl ⟨((HH1.out.low (below_drew1 (Below.refl _ _))).rd2.h 7).trans rfl, (HOC.out _ (HH1.out.low (below_drew1 (Below.refl _ _))).kept).1, (HOC.out _ (HH1.out.low (below_drew1 (Below.refl _ _))).kept).2⟩ (fun hHeld => ?_)
                refine with_tabW pt.tab25 pt.bits25 (fun HT_ HW_ => ?_)
                have HH4 := Aside0.mk (HH1.out.low (below_drew1 (Below.refl _ _)))
                clear HH1
                generalize wr.drew = wd5 at HH4 hHeld ⊢
                refine pure_ (i := 0) (N := (some 146)) (v := ?_) (a' := ?_) #[true, false, false, false, false, false, false, false, false, false, false, false] rfl rfl (any_of HT_.out (by kernel_rfl)) (fun _ _ _ h => h) (Or.inl ⟨by rfl, ?_⟩) ?_ ?_
                rotate_left
                · intro w'
                  go_simp
                  with_reducible rfl
                rotate_left
                · simp only [Act.put, List.setIfInBounds_toArray, List.set_cons_zero, List.set_cons_succ, i64_w, i32_w]
                  rfl
                refine pure_ (i := 1) (N := (some 147)) (v := ?_) (a' := ?_) #[true, true, false, false, false, false, false, false, false, false, false, false] rfl rfl (any_of HT_.out (by kernel_rfl)) (fun _ _ _ h => h) (Or.inl ⟨by rfl, ?_⟩) ?_ ?_
                rotate_left
                · intro w'
                  go_simp
                  with_reducible rfl
                rotate_left
                · simp only [Act.put, List.setIfInBounds_toArray, List.set_cons_zero, List.set_cons_succ, i64_w, i32_w]
                  rfl
                refine pure_ (i := 2) (N := (some 148)) (v := ?_) (a' := ?_) #[true, true, true, false, false, false, false, false, false, false, false, false] rfl rfl (any_of HT_.out (by kernel_rfl)) (fun _ _ _ h => h) (Or.inl ⟨by rfl, ?_⟩) ?_ ?_
                rotate_left
                · intro w'
                  go_simp
                  with_reducible rfl
                rotate_left
                · simp only [Act.put, List.setIfInBounds_toArray, List.set_cons_zero, List.set_cons_succ, i64_w, i32_w]
                  rfl
                refine pure_ (i := 4) (N := (some 150)) (v := ?_) (a' := ?_) #[true, true, true, false, true, false, false, false, false, false, false, false] rfl rfl (any_of HT_.out (by kernel_rfl)) (fun _ _ _ h => h) (Or.inl ⟨by rfl, ?_⟩) ?_ ?_
                rotate_left
                · intro w'
                  go_simp
                  with_reducible rfl
                rotate_left
                · simp only [Act.put, List.setIfInBounds_toArray, List.set_cons_zero, List.set_cons_succ, i64_w, i32_w]
                  rfl
                refine pure_ (i := 5) (N := (some 151)) (v := ?_) (a' := ?_) #[true, true, true, false, true, true, false, false, false, false, false, false] rfl rfl (any_of HT_.out (by kernel_rfl)) (fun _ _ _ h => h) (Or.inl ⟨by rfl, ?_⟩) ?_ ?_
                rotate_left
                · intro w'
                  go_simp
                  with_reducible rfl
                rotate_left
                · simp only [Act.put, List.setIfInBounds_toArray, List.set_cons_zero, List.set_cons_succ, i64_w, i32_w]
                  rfl
                refine pure_ (i := 6) (N := (some 152)) (v := ?_) (a' := ?_) #[true, true, true, false, true, true, true, false, false, false, false, false] rfl rfl (any_of HT_.out (by kernel_rfl)) (fun _ _ _ h => h) (Or.inl ⟨by rfl, ?_⟩) ?_ ?_
                rotate_left
                · intro w'
                  go_simp
                  with_reducible rfl
                rotate_left
                · simp only [Act.put, List.setIfInBounds_toArray, List.set_cons_zero, List.set_cons_succ, i64_w, i32_w]
                  rfl
                refine take_ (i := 3) (N := (some 149)) (v := ?_) (a' := ?_) #[true, true, true, true, true, true, true, false, false, false, false, false] rfl rfl (take_ofW HT_.out HW_.out (by kernel_rfl)) (fun _ _ _ h => h) (Or.inl ⟨by rfl, ?_⟩) hHeld ?_ ?_
                rotate_left
                · rintro w' ⟨s0, s1, s2⟩
                  go_simp
                  with_reducible rfl
                rotate_left
                · simp only [Act.put, List.setIfInBounds_toArray, List.set_cons_zero, List.set_cons_succ, i64_w, i32_w]
                  rfl
                refine take_ (i := 7) (N := (some 153)) (v := ?_) (a' := ?_) #[true, true, true, true, true, true, true, true, false, false, false, false] rfl rfl (take_ofW HT_.out HW_.out (by kernel_rfl)) (fun _ _ _ h => h) (Or.inl ⟨by rfl, ?_⟩) hHeld ?_ ?_
                rotate_left
                · rintro w' ⟨s0, s1, s2⟩
                  go_simp
                  with_reducible rfl
                rotate_left
                · simp only [Act.put, List.setIfInBounds_toArray, List.set_cons_zero, List.set_cons_succ, i64_w, i32_w]
                  rfl
                refine pure_ (i := 8) (N := (some 154)) (v := ?_) (a' := ?_) #[true, true, true, true, true, true, true, true, true, false, false, false] rfl rfl (any_of HT_.out (by kernel_rfl)) (fun _ _ _ h => h) (Or.inl ⟨by rfl, ?_⟩) ?_ ?_
                rotate_left
                · intro w'
                  go_simp
                  with_reducible rfl
                rotate_left
                · simp only [Act.put, List.setIfInBounds_toArray, List.set_cons_zero, List.set_cons_succ, i64_w, i32_w]
                  rfl
                refine pure_ (i := 9) (N := (some 155)) (v := ?_) (a' := ?_) #[true, true, true, true, true, true, true, true, true, true, false, false] rfl rfl (any_of HT_.out (by kernel_rfl)) (fun _ _ _ h => h) (Or.inl ⟨by rfl, ?_⟩) ?_ ?_
                rotate_left
                · intro w'
                  go_simp
                  with_reducible rfl
                rotate_left
                · simp only [Act.put, List.setIfInBounds_toArray, List.set_cons_zero, List.set_cons_succ, i64_w, i32_w]
                  rfl
                refine pure_ (i := 10) (N := (some 156)) (v := ?_) (a' := ?_) #[true, true, true, true, true, true, true, true, true, true, true, false] rfl rfl (any_of HT_.out (by kernel_rfl)) (fun _ _ _ h => h) (Or.inl ⟨by rfl, ?_⟩) ?_ ?_
                rotate_left
                · intro w'
                  go_simp
                  with_reducible rfl
                rotate_left
                · simp only [Act.put, List.setIfInBounds_toArray, List.set_cons_zero, List.set_cons_succ, i64_w, i32_w]
                  rfl
                refine last_ (i := 11) (N := none) #[true, true, true, true, true, true, true, true, true, true, true, true] rfl rfl (one_of HT_.out (by kernel_rfl)) (by decide) (fun Kc hK => ?_)
                have hcl : wd5.cell? ⟨gn1, la * 4 + 2, none⟩ = some (.int .i64 ((putV0 kd n V out at_) la)) := (HH4.out.rd2.u la hla).2.2.1
                have hfz := (node_cells (HH4.out.get 3 rfl) la _ (nlst_get U1 Y1 (putV0 kd n V out at_) gd1 hla)).2 (la * 4 + 2)
                refine skip_ (w1 := ?_) (by rfl) rfl ?_ ?_
                rotate_left
                · go_simp
                  rfl
                have HH5 := Aside0.mk (put_node HH4.out hla z)
                clear hcl hfz HH4
                refine hK.out _ _ ?_; clear hK Kc
                refine done_ (done_of HT_.out (by kernel_rfl)) ?_
                go_wp2
                go_ret
                exact Put_late base own g kd K O most n B V hits misses l out w _ at_ HAT.out HST.out HE.out HPN.out (fun i _ => by rw [HPV.out]) HT1.out HH5.out
              · have hkb : (kd == (1 : Int)) = false := by rw [hk2]; rfl
                have HPV : Aside0 (putV kd n V l out at_ = (putV0 kd n V out at_)) := ⟨by unfold putV; rw [if_neg (by rw [hk2]; decide)]⟩
                clear hk2 RD1
                go_wp2
                go_ret
                exact Put_late base own g kd K O most n B V hits misses l out w _ at_ HAT.out HST.out HE.out HPN.out (fun i _ => by rw [HPV.out]) HT1.out HH1.out

  · have hweb : (wordErr K l != 0) = true := by simpa using hwe
    have HE : Aside0 (putErr kd K O most n V l out at0 = wordErr K l) := ⟨by unfold putErr; rw [if_pos hwe]⟩
    have HNE := Aside0.mk hwe
    clear hwe hwc
    go_wp2
    go_ret
    exact Put_early base own g kd K O most n B V hits misses l out w _ at0 HA0.out.1 HA0.out.2 HE.out (HNE.out) HH.out HLT.out HB1.out hb0
end Go.Proofs.Ytdijkhamebkfjaa.X
end

section
namespace Go.Proofs.Ytdijkhamebkfjaa.X
open Go.RowKit Go.Proofs.YtdijkhamebkfjaaW.PrintWords Go.Proofs.YtdijkhamebkfjaaW.PrintLast Go.Proofs.YtdijkhamebkfjaaW.PrintMore
open Go.Proofs.Ytdijkhamebkfjaa Go.Proofs.Ytdijkhamebkfjaa.Sp
theorem At.ext {n : Nat} {B : Nat → List Int} {w : List Int} {a : List Nat} (h : At n B w a) (hl : a.length ≤ w.length) {i : Nat} (hi : i < n) (hB : B i = w.take a.length) : At n B w (a ++ [i]) where
  ne := by simp
  ok := fun j b hj => by
    by_cases hjl : j < a.length
    · rw [List.getElem?_append_left hjl] at hj
      exact h.ok j b hj
    · have hje : j = a.length := by
        have := (List.getElem?_eq_some_iff.1 hj).1
        simp at this
        omega
      subst hje
      rw [List.getElem?_append_right (Nat.le_refl _), Nat.sub_self] at hj
      simp only [List.getElem?_cons_zero, Option.some.injEq] at hj
      subst hj
      exact ⟨hi, hB⟩
  le := by simp; omega
theorem At.exists_ {n : Nat} {B : Nat → List Int} {w : List Int} : ∀ (d : Nat) (a : List Nat), At n B w a → w.length + 1 - a.length = d → ∃ b, At n B w b ∧ Stop n B w b
  | 0, a, h, hd => ⟨a, h, At.all_stop (by omega)⟩
  | d + 1, a, h, hd => by
    by_cases hs : ∃ i, i < n ∧ B i = w.take a.length
    · obtain ⟨i, hi, hB⟩ := hs
      exact At.exists_ d (a ++ [i]) (h.ext (by omega) hi hB) (by rw [List.length_append, List.length_singleton]; omega)
    · exact ⟨a, h, fun _ i hi e => hs ⟨i, hi, e⟩⟩
theorem Tri.way {n K : Nat} {B : Nat → List Int} {U Y : Nat → Nat} {D : Nat → Nat → Nat} (h : Tri n K B U Y D) (w : List Int) : ∃ b, At n B w b ∧ Stop n B w b := At.exists_ _ [0] (At.start h w) rfl
/-- Is it the way? Told by reckoning. -/
def atB (n : Nat) (B : Nat → List Int) (w : List Int) (a : List Nat) : Bool := decide (0 < a.length) && decide (a.length ≤ w.length + 1) && (List.range a.length).all (fun j => decide (a.getD j 0 < n) && decide (B (a.getD j 0) = w.take j))
def stopB (n : Nat) (B : Nat → List Int) (w : List Int) (a : List Nat) : Bool := decide (w.length < a.length) || (List.range n).all (fun i => decide (B i ≠ w.take a.length))
theorem at_of {n : Nat} {B : Nat → List Int} {w : List Int} {a : List Nat} (h : atB n B w a = true) : At n B w a := by
  unfold atB at h
  simp only [Bool.and_eq_true, decide_eq_true_eq] at h
  refine ⟨h.1.1, fun j b hj => ?_, h.1.2⟩
  have h2 := List.all_eq_true.1 h.2 j (List.mem_range.2 (List.getElem?_eq_some_iff.1 hj).1)
  rw [List.getD_eq_getElem?_getD, hj] at h2
  simpa using h2
theorem stop_of {n : Nat} {B : Nat → List Int} {w : List Int} {a : List Nat} (h : stopB n B w a = true) : Stop n B w a := fun hl i hi => by
  unfold stopB at h
  rw [Bool.or_eq_true] at h
  rcases h with h | h
  · have := of_decide_eq_true h
    omega
  · exact of_decide_eq_true (List.all_eq_true.1 h i (List.mem_range.2 hi))
section
variable {base : Nat} {own : Nat → Prop} {rs : List Res} {w : World} {g : Nat} {kd : Int} {K : Nat} {O : Int} {most n : Nat} {B : Nat → List Int} {V : Nat → Int} {hits misses : Int}
theorem trie_way (h : (trie base own g kd K O most n B V hits misses).at_ w) (l : List Int) : ∃ b, At n B l b ∧ Stop n B l b := by
  obtain ⟨U, Y, D, gn, cn, gd, h1, _⟩ := h
  exact h1.way l
theorem trie_one (h : (trie base own g kd K O most n B V hits misses).at_ w) {l : List Int} {a b : List Nat} (ha : At n B l a) (sa : Stop n B l a) (hb : At n B l b) (sb : Stop n B l b) : a = b := by
  obtain ⟨U, Y, D, gn, cn, gd, h1, _⟩ := h
  exact At.one h1 ha sa hb sb
/-- Put, by a cache among other pieces. -/
theorem Put_law (h : Sep base rs w) (i : Nat) (hi : rs[i]? = some (trie base own g kd K O most n B V hits misses)) (hb : base ≤ w.heap.size) (hkd : kd = 1 ∨ kd = 2) (hnm : n ≤ most) (hm : most ≤ 1048576) (hK0 : 1 ≤ K) (hK : K ≤ 64) (l : List Int) (hl : l.length ≤ 1000000) (A : Option Addr) (nl c : Nat) (hnl : nl = l.length) (hc : l.length ≤ c) (out : List Int) (Ao : Option Addr) (no co : Nat) (hno : no = out.length)
    (hr : ∀ w1 : World, (∀ k, k < w.heap.size → ¬ own k → w1.heap[k]? = w.heap[k]?) → Kd.C (Kd.int .i64) w1 A nl l) (hro : ∀ w1 : World, (∀ k, k < w.heap.size → ¬ own k → w1.heap[k]? = w.heap[k]?) → Kd.C (Kd.int .i64) w1 Ao no out) (at0 : List Nat) (ha : At n B l at0) (hs : Stop n B l at0) :
    Calls Try.prog 15 #[.pointer (some ⟨g, 0, none⟩), .slice A nl c, .slice Ao no co] w fun e w' => ∃ own' : Nat → Prop, e = .returned (.int .i64 (putErr kd K O most n V l out at0)) ∧
      Sep base (rs.set i (trie base own' g kd K O most (if putErr kd K O most n V l out at0 = 0 then putN n l at0 else n) (if putErr kd K O most n V l out at0 = 0 then putB n B l at0 else B) (if putErr kd K O most n V l out at0 = 0 then putV kd n V l out at0 else V) hits misses)) w' ∧ Below base w w' := by
  subst hnl
  subst hno
  have ht := h.get i hi
  refine (Put_walk base own g kd K O most n B V hits misses hkd w ht (fun k hk => h.bound i hi hk) hb hnm hm hK0 hK l A c hr hc hl out Ao co hro ⟨at0, ha, hs⟩).mono ?_
  rintro e w' ⟨at_, own', h1, h2, rfl, hh⟩
  have he := trie_one ht h1 h2 ha hs
  subst he
  exact ⟨own', rfl, Sep.turn1 h i hi (fun _ hk => hk) (fun _ hk => hk) hh, hh.below⟩
/-- Get, by a cache among other pieces. -/
theorem Get_law (h : Sep base rs w) (i j : Nat) (hi : rs[i]? = some (trie base own g kd K O most n B V hits misses)) (hj : rs[j]? = some none_) (hij : i ≠ j) (hb : base ≤ w.heap.size) (hkd : kd = 1 ∨ kd = 2) (hn : n ≤ 1048576) (hK : K ≤ 64) (l : List Int) (hl : l.length ≤ 1000000) (A : Option Addr) (nl c : Nat) (hnl : nl = l.length)
    (hr : Kd.C (Kd.int .i64) w A nl l) (hh0 : 0 ≤ hits ∧ hits ≤ 1000000000) (hm0 : 0 ≤ misses ∧ misses ≤ 1000000000) (at0 : List Nat) (ha : At n B l at0) (hs : Stop n B l at0) :
    Calls Try.prog 16 #[.pointer (some ⟨g, 0, none⟩), .slice A nl c] w fun e w' => ∃ (v : Value) (own' : Nat → Prop), e = .returned (.tuple #[v, .bool (tellF kd V l at0).2]) ∧
      Sep base ((rs.set i (trie base own' g kd K O most n B V (if (tellF kd V l at0).2 = true then hits + 1 else hits) (if (tellF kd V l at0).2 = true then misses else misses + 1))).set j (ints base v (tellF kd V l at0).1)) w' ∧ Below base w w' := by
  subst hnl
  have ht := h.get i hi
  refine (Get_walk base own g kd K O most n B V hits misses hkd w ht hn hK l A c hr hl hb hh0 hm0).mono ?_
  rintro e w' ⟨v, at_, own', rfl, h1, h2, hh⟩
  have he := trie_one ht h1 h2 ha hs
  subst he
  exact ⟨v, own', rfl, Sep.turn h i j hi (fun _ hk => hk) (fun _ hk => hk) hj hij hh, hh.below⟩
theorem trie_lower {base' : Nat} (hb : base' ≤ base) (h : (trie base own g kd K O most n B V hits misses).at_ w) : (trie base' own g kd K O most n B V hits misses).at_ w := by
  obtain ⟨U, Y, D, gn, cn, gd, h1, h2, h3⟩ := h
  have e : ∀ r, r ∈ tpc base' g kd K O most n U Y V D gn cn gd hits misses → (r ∈ tpc base g kd K O most n U Y V D gn cn gd hits misses ∨ r = nodes K base' (.slice (some ⟨gn, 0, none⟩) n cn) (nlst n U Y V gd)) := fun r hr => by
    rcases List.mem_cons.1 hr with rfl | hr
    · exact .inl List.mem_cons_self
    · rcases List.mem_cons.1 hr with rfl | hr
      · exact .inr rfl
      · exact .inl (List.mem_cons_of_mem _ (List.mem_cons_of_mem _ hr))
  have h1' : nodes K base (.slice (some ⟨gn, 0, none⟩) n cn) (nlst n U Y V gd) ∈ tpc base g kd K O most n U Y V D gn cn gd hits misses := List.mem_cons_of_mem _ List.mem_cons_self
  have hp := h2.2
  have hn := (h2.1 _ h1')
  refine ⟨U, Y, D, gn, cn, gd, h1, ⟨fun r hr => ?_, ?_⟩, fun r hr k hk => ?_⟩
  · rcases e r hr with h4 | rfl
    · exact ⟨(h2.1 r h4).1, fun k hk => ⟨Nat.le_trans hb ((h2.1 r h4).2 k hk).1, ((h2.1 r h4).2 k hk).2⟩⟩
    · exact ⟨Kd.R_lower hn.1 hb, fun k hk => ⟨Nat.le_trans hb (hn.2 k hk).1, (hn.2 k hk).2⟩⟩
  · unfold tpc at hp ⊢
    rw [List.pairwise_cons, List.pairwise_cons] at hp ⊢
    refine ⟨fun r hr => ?_, fun r hr => hp.2.1 r hr, hp.2.2⟩
    rcases List.mem_cons.1 hr with rfl | hr
    · exact fun k hk hk' => hp.1 (nodes K base (.slice (some ⟨gn, 0, none⟩) n cn) (nlst n U Y V gd)) List.mem_cons_self k hk hk'
    · exact hp.1 r (List.mem_cons_of_mem _ hr)
  · rcases e r hr with h4 | rfl
    · exact h3 r h4 k hk
    · exact h3 _ h1' k hk
end
/-- A new cache beside other pieces. -/
theorem New_add {base : Nat} {rs : List Res} {w w1 : World} {g : Nat} {own : Nat → Prop} {kd : Int} {K : Nat} {O : Int} {most n : Nat} {B : Nat → List Int} {V : Nat → Int} {hits misses : Int} (h : Sep base rs w) (hb : base ≤ w.heap.size) (hs : Sep w.heap.size [trie w.heap.size own g kd K O most n B V hits misses] w1) (hbel : Below w.heap.size w w1) : Sep base (trie base own g kd K O most n B V hits misses :: rs) w1 := by
  have h1 := h.over hbel hs hb
  have h2 := h1.upd 0 rfl (r' := trie base own g kd K O most n B V hits misses) (trie_lower hb (h1.get 0 rfl)) (fun _ _ _ => rfl) (fun k hk => ⟨.inl hk, (h1.bound 0 rfl (k := k) hk).2⟩) (Nat.le_trans hb hbel.size) (Nat.le_refl _)
  exact h2
/-- A row that the walk itself laid, as Put reads it. -/
theorem lit_keeps {base : Nat} {own : Nat → Prop} {rs : List Res} {w : World} {p : Res} (h : Sep base rs w) (i : Nat) (hi : rs[i]? = some p) (hp : ∀ k, own k → p.own k) {w2 : World} {g n : Nat} {xs : List Int} (hg : w2.heap[g]? = some (.cells (numsA xs) 3 (0, 0))) (hge : w.heap.size ≤ g) (hlt : g < w2.heap.size) (hn : n = xs.length) (hm : n ≤ 1000000000) :
    ∀ w1 : World, (∀ k, k < w2.heap.size → ¬ own k → w1.heap[k]? = w2.heap[k]?) → Kd.C (Kd.int .i64) w1 (some ⟨g, 0, none⟩) n xs := fun w1 hk => by
  refine lit_C (cs := numsA xs) ?_ rfl hn hm
  rw [hk g hlt (fun ho => by have := (h.bound i hi (hp _ ho)).2; omega)]
  exact hg
end Go.Proofs.Ytdijkhamebkfjaa.X
end

section
namespace Go.Proofs.Ytdijkhamebkfjaa.X
open Go.RowKit Go.Proofs.YtdijkhamebkfjaaW.PrintWords Go.Proofs.YtdijkhamebkfjaaW.PrintLast Go.Proofs.YtdijkhamebkfjaaW.PrintMore
open Go.Proofs.Ytdijkhamebkfjaa Go.Proofs.Ytdijkhamebkfjaa.Sp
section
variable {base : Nat} {own : Nat → Prop} {rs : List Res} {w : World} {g : Nat} {kd : Int} {K : Nat} {O : Int} {most n : Nat} {B : Nat → List Int} {V : Nat → Int} {hits misses : Int}
theorem Put_ok (h : Sep base rs w) (i : Nat) (hi : rs[i]? = some (trie base own g kd K O most n B V hits misses)) (hb : base ≤ w.heap.size) (hkd : kd = 1 ∨ kd = 2) (hnm : n ≤ most) (hm : most ≤ 1048576) (hK0 : 1 ≤ K) (hK : K ≤ 64) (l : List Int) (hl : l.length ≤ 1000000) (A : Option Addr) (nl c : Nat) (hnl : nl = l.length) (hc : l.length ≤ c) (out : List Int) (Ao : Option Addr) (no co : Nat) (hno : no = out.length)
    (hr : ∀ w1 : World, (∀ k, k < w.heap.size → ¬ own k → w1.heap[k]? = w.heap[k]?) → Kd.C (Kd.int .i64) w1 A nl l) (hro : ∀ w1 : World, (∀ k, k < w.heap.size → ¬ own k → w1.heap[k]? = w.heap[k]?) → Kd.C (Kd.int .i64) w1 Ao no out) (at0 : List Nat) (ha : At n B l at0) (hs : Stop n B l at0) (he : putErr kd K O most n V l out at0 = 0) :
    Calls Try.prog 15 #[.pointer (some ⟨g, 0, none⟩), .slice A nl c, .slice Ao no co] w fun e w' => ∃ own' : Nat → Prop, e = .returned (.int .i64 0) ∧
      Sep base (rs.set i (trie base own' g kd K O most (putN n l at0) (putB n B l at0) (putV kd n V l out at0) hits misses)) w' ∧ Below base w w' := by
  refine (Put_law h i hi hb hkd hnm hm hK0 hK l hl A nl c hnl hc out Ao no co hno hr hro at0 ha hs).mono ?_
  rintro e w' ⟨own', he2, hS, hb2⟩
  rw [he] at he2
  rw [if_pos he, if_pos he, if_pos he] at hS
  exact ⟨own', he2, hS, hb2⟩
theorem Put_no (h : Sep base rs w) (i : Nat) (hi : rs[i]? = some (trie base own g kd K O most n B V hits misses)) (hb : base ≤ w.heap.size) (hkd : kd = 1 ∨ kd = 2) (hnm : n ≤ most) (hm : most ≤ 1048576) (hK0 : 1 ≤ K) (hK : K ≤ 64) (l : List Int) (hl : l.length ≤ 1000000) (A : Option Addr) (nl c : Nat) (hnl : nl = l.length) (hc : l.length ≤ c) (out : List Int) (Ao : Option Addr) (no co : Nat) (hno : no = out.length)
    (hr : ∀ w1 : World, (∀ k, k < w.heap.size → ¬ own k → w1.heap[k]? = w.heap[k]?) → Kd.C (Kd.int .i64) w1 A nl l) (hro : ∀ w1 : World, (∀ k, k < w.heap.size → ¬ own k → w1.heap[k]? = w.heap[k]?) → Kd.C (Kd.int .i64) w1 Ao no out) (at0 : List Nat) (ha : At n B l at0) (hs : Stop n B l at0) (x : Int) (he : putErr kd K O most n V l out at0 = x) (hx : x ≠ 0) :
    Calls Try.prog 15 #[.pointer (some ⟨g, 0, none⟩), .slice A nl c, .slice Ao no co] w fun e w' => ∃ own' : Nat → Prop, e = .returned (.int .i64 x) ∧
      Sep base (rs.set i (trie base own' g kd K O most n B V hits misses)) w' ∧ Below base w w' := by
  refine (Put_law h i hi hb hkd hnm hm hK0 hK l hl A nl c hnl hc out Ao no co hno hr hro at0 ha hs).mono ?_
  rintro e w' ⟨own', he2, hS, hb2⟩
  have hne : ¬ putErr kd K O most n V l out at0 = 0 := by rw [he]; exact hx
  rw [he] at he2
  rw [if_neg hne, if_neg hne, if_neg hne] at hS
  exact ⟨own', he2, hS, hb2⟩
theorem Get_is (h : Sep base rs w) (i j : Nat) (hi : rs[i]? = some (trie base own g kd K O most n B V hits misses)) (hj : rs[j]? = some none_) (hij : i ≠ j) (hb : base ≤ w.heap.size) (hkd : kd = 1 ∨ kd = 2) (hn : n ≤ 1048576) (hK : K ≤ 64) (l : List Int) (hl : l.length ≤ 1000000) (A : Option Addr) (nl c : Nat) (hnl : nl = l.length)
    (hr : Kd.C (Kd.int .i64) w A nl l) (hh0 : 0 ≤ hits ∧ hits ≤ 1000000000) (hm0 : 0 ≤ misses ∧ misses ≤ 1000000000) (at0 : List Nat) (ha : At n B l at0) (hs : Stop n B l at0) (r : List Int) (ok : Bool) (ht : tellF kd V l at0 = (r, ok)) :
    Calls Try.prog 16 #[.pointer (some ⟨g, 0, none⟩), .slice A nl c] w fun e w' => ∃ (v : Value) (own' : Nat → Prop), e = .returned (.tuple #[v, .bool ok]) ∧
      Sep base ((rs.set i (trie base own' g kd K O most n B V (if ok = true then hits + 1 else hits) (if ok = true then misses else misses + 1))).set j (ints base v r)) w' ∧ Below base w w' := by
  refine (Get_law h i j hi hj hij hb hkd hn hK l hl A nl c hnl hr hh0 hm0 at0 ha hs).mono ?_
  rw [ht]
  rintro e w' ⟨v, own', he, hS, hb2⟩
  exact ⟨v, own', he, hS, hb2⟩
end
/-- Two rows that the walk itself laid. -/
theorem two_lits {base : Nat} {own : Nat → Prop} {rs : List Res} {w : World} {p : Res} (h : Sep base rs w) (i : Nat) (hi : rs[i]? = some p) (hp : ∀ k, own k → p.own k) (cs ds : Array Value) (xs ys : List Int) (hc : cs = numsA xs) (hd : ds = numsA ys) (n m : Nat) (hn : n = xs.length) (hm : m = ys.length) (hn9 : n ≤ 1000000000) (hm9 : m ≤ 1000000000) :
    (∀ w1 : World, (∀ k, k < ((w.alloc (.cells cs 3)).alloc (.cells ds 3)).heap.size → ¬ own k → w1.heap[k]? = ((w.alloc (.cells cs 3)).alloc (.cells ds 3)).heap[k]?) → Kd.C (Kd.int .i64) w1 (some ⟨w.heap.size, 0, none⟩) n xs) ∧
    (∀ w1 : World, (∀ k, k < ((w.alloc (.cells cs 3)).alloc (.cells ds 3)).heap.size → ¬ own k → w1.heap[k]? = ((w.alloc (.cells cs 3)).alloc (.cells ds 3)).heap[k]?) → Kd.C (Kd.int .i64) w1 (some ⟨w.heap.size + 1, 0, none⟩) m ys) ∧ Below w.heap.size w ((w.alloc (.cells cs 3)).alloc (.cells ds 3)) := by
  subst hc
  subst hd
  have e1 : (w.alloc (.cells (numsA xs) 3)).heap.size = w.heap.size + 1 := by simp
  have e2 : ((w.alloc (.cells (numsA xs) 3)).alloc (.cells (numsA ys) 3)).heap.size = w.heap.size + 2 := by simp
  refine ⟨lit_keeps h i hi hp (blk_alloc (blk_new w _) _) (Nat.le_refl _) (by rw [e2]; omega) hn hn9, lit_keeps h i hi hp (w2 := (w.alloc (.cells (numsA xs) 3)).alloc (.cells (numsA ys) 3)) (g := w.heap.size + 1) ?_ (Nat.le_succ _) (by rw [e2]; omega) hm hm9, below_alloc (below_alloc (Below.refl _ _) _) _⟩
  have := blk_new (w.alloc (.cells (numsA xs) 3)) (.cells (numsA ys) 3)
  rw [e1] at this
  exact this
attribute [local go_sem] max2_int min2_int max_two min_two max_three min_three max_four min_four
set_option maxHeartbeats 16000000 in
set_option maxRecDepth 100000 in
theorem live_walk (w : World) : Calls Try.prog 11 #[] w fun e w' => e = .returned (.bool true) ∧ Below w.heap.size w w' := by
  have hu22 := Try.underlying22
  have hn1 : Calls Try.prog 12 #[.int .i64 2, .int .i64 2, .int .i64 2, .int .i64 9] w (NewPost w 2 2 2 9) := New_mealy 2 9 2 w (by decide) (by decide) (by decide) (by decide) (by decide) (by decide)
  have hn2 : ∀ W, Calls Try.prog 12 #[.int .i64 1, .int .i64 1, .int .i64 2, .int .i64 2] W (NewPost W 1 1 2 2) := fun W => New_dfa 1 2 W (by decide) (by decide) (by decide) (by decide)
  go_enter Try.func11, Try.ntmps11
  go_wp2_with (first
  | (go_at_call 28; refine (Hits_walk w.heap.size ow3 gc 2 2 2 9 3 (putB 1 (fun _ => []) [0, 1] [0]) (putV 2 1 (fun _ => -1) [0, 1] [1, 0] [0]) 1 0 w13 (HS13.out.get 2 rfl)).mono ?_
     rintro e w14 ⟨rfl, hb⟩
     have HB14 := Aside0.mk (below_step HB13.out hb)
     clear hb)
  | (go_at_call 13; with_reducible refine (tutorlaw11_num.calls 110 110 w12 rfl).mono ?_
     rintro e w13 ⟨rfl, hd⟩
     have HS13 := Aside0.mk (HS12.out.low hd.below)
     have HB13 := Aside0.mk (below_step HB12.out hd.below)
     clear hd)
  | (go_at_call 13; with_reducible refine (tutorlaw11_num.calls 111 111 w11 rfl).mono ?_
     rintro e w12 ⟨rfl, hd⟩
     have HS12 := Aside0.mk (HS11.out.low hd.below)
     have HB12 := Aside0.mk (below_step HB11.out hd.below)
     clear hd)
  | (go_at_call 17; refine (same_calls Av 1 cv [1] (some ⟨w10.heap.size, 0, none⟩) 1 1 [1] (w10.alloc (.cells #[.int .i64 1] 3)) (row_C ((HS10.out.low (below_alloc (Below.refl w10.heap.size w10) (.cells #[.int .i64 1] 3))).get 0 rfl)).1 (row_C (HS10.out.get 0 rfl)).2 (lit_C (blk_new w10 (.cells #[.int .i64 1] 3)) rfl rfl (by decide)) (Nat.le_refl _) (by decide)).mono ?_
     rintro e w11 ⟨rfl, hd⟩
     have HS11 := Aside0.mk ((HS10.out.low (below_alloc (Below.refl w10.heap.size w10) (.cells #[.int .i64 1] 3))).low hd.below)
     have HB11 := Aside0.mk (below_step (below_alloc HB10.out (.cells #[.int .i64 1] 3)) hd.below)
     clear hd)
  | (go_at_call 18; refine (Nodes_walk w.heap.size ow3 gc 2 2 2 9 3 (putB 1 (fun _ => []) [0, 1] [0]) (putV 2 1 (fun _ => -1) [0, 1] [1, 0] [0]) 1 0 w9 (HS9.out.get 2 rfl)).mono ?_
     rintro e w10 ⟨rfl, hb⟩
     have HS10 := Aside0.mk (HS9.out.low hb)
     have HB10 := Aside0.mk (below_step HB9.out hb)
     clear hb)
  | (go_at_call 13; with_reducible refine (tutorlaw11_num.calls 0 0 w8 rfl).mono ?_
     rintro e w9 ⟨rfl, hd⟩
     have HS9 := Aside0.mk (HS8.out.low hd.below)
     have HB9 := Aside0.mk (below_step HB8.out hd.below)
     clear hd)
  | (go_at_call 15
     have hlt := two_lits (own := owd) HS7.out 1 rfl (fun _ hk => hk) #[.int .i64 0, .int .i64 0] #[.int .i64 1] [0, 0] [1] rfl rfl 2 1 rfl rfl (by decide) (by decide)
     refine (Put_no (HS7.out.low hlt.2.2) 1 rfl (Nat.le_trans HB7.out.size hlt.2.2.size) (.inl rfl) (by decide) (by decide) (by decide) (by decide) [0, 0] (by decide) (some ⟨w7.heap.size, 0, none⟩) 2 2 rfl (by decide) [1] (some ⟨w7.heap.size + 1, 0, none⟩) 1 1 rfl hlt.1 hlt.2.1 [0] (at_of (by decide)) (stop_of (by decide)) 110 (by decide) (by decide)).mono ?_
     rintro e w8 ⟨ow4, rfl, hS, hb⟩
     have HS8 : Aside0 (Sep w.heap.size [ints w.heap.size (.slice Av 1 cv) [1], trie w.heap.size ow4 gd 1 1 2 2 1 (fun _ => []) (fun _ => -1) 0 0, trie w.heap.size ow3 gc 2 2 2 9 3 (putB 1 (fun _ => []) [0, 1] [0]) (putV 2 1 (fun _ => -1) [0, 1] [1, 0] [0]) 1 0] w8) := ⟨hS⟩
     have HB8 := Aside0.mk ((below_step HB7.out hlt.2.2).trans hb)
     clear hS hb hlt)
  | (go_at_call 15
     have hlt := two_lits (own := ow2) HS6.out 2 rfl (fun _ hk => hk) #[.int .i64 0] #[.int .i64 0] [0] [0] rfl rfl 1 1 rfl rfl (by decide) (by decide)
     refine (Put_no (HS6.out.low hlt.2.2) 2 rfl (Nat.le_trans HB6.out.size hlt.2.2.size) (.inr rfl) (by decide) (by decide) (by decide) (by decide) [0] (by decide) (some ⟨w6.heap.size, 0, none⟩) 1 1 rfl (by decide) [0] (some ⟨w6.heap.size + 1, 0, none⟩) 1 1 rfl hlt.1 hlt.2.1 [0, 1] (at_of (by decide)) (stop_of (by decide)) 111 (by decide) (by decide)).mono ?_
     rintro e w7 ⟨ow3, rfl, hS, hb⟩
     have HS7 : Aside0 (Sep w.heap.size [ints w.heap.size (.slice Av 1 cv) [1], trie w.heap.size owd gd 1 1 2 2 1 (fun _ => []) (fun _ => -1) 0 0, trie w.heap.size ow3 gc 2 2 2 9 3 (putB 1 (fun _ => []) [0, 1] [0]) (putV 2 1 (fun _ => -1) [0, 1] [1, 0] [0]) 1 0] w7) := ⟨hS⟩
     have HB7 := Aside0.mk ((below_step HB6.out hlt.2.2).trans hb)
     clear hS hb hlt)
  | (go_at_call 16
     refine (Get_is (HS5.out.low (below_alloc (Below.refl w5.heap.size w5) (.cells #[.int .i64 0] 3))) 2 0 rfl rfl (by decide) (by have := HB5.out.size; simp; omega) (.inr rfl) (by decide) (by decide) [0] (by decide) (some ⟨w5.heap.size, 0, none⟩) 1 1 rfl (lit_C (blk_new w5 (.cells #[.int .i64 0] 3)) rfl rfl (by decide)) (by decide) (by decide) [0, 1] (at_of (by decide)) (stop_of (by decide)) [1] true (by decide)).mono ?_
     rintro e w6 ⟨v6, ow2, rfl, hS, hb⟩
     obtain ⟨Av, cv, hv⟩ := Kd.R_slice (hS.get 0 rfl)
     have hv' : v6 = .slice Av 1 cv := hv
     subst hv'
     have HS6 : Aside0 (Sep w.heap.size [ints w.heap.size (.slice Av 1 cv) [1], trie w.heap.size owd gd 1 1 2 2 1 (fun _ => []) (fun _ => -1) 0 0, trie w.heap.size ow2 gc 2 2 2 9 3 (putB 1 (fun _ => []) [0, 1] [0]) (putV 2 1 (fun _ => -1) [0, 1] [1, 0] [0]) 1 0] w6) := ⟨hS⟩
     have HB6 := Aside0.mk ((below_alloc HB5.out (.cells #[.int .i64 0] 3)).trans hb)
     clear hS hb hv)
  | (go_at_call 15
     have hlt := two_lits (own := owc) HS4.out 2 rfl (fun _ hk => hk) #[.int .i64 0, .int .i64 1] #[.int .i64 1, .int .i64 0] [0, 1] [1, 0] rfl rfl 2 2 rfl rfl (by decide) (by decide)
     refine (Put_ok (HS4.out.low hlt.2.2) 2 rfl (Nat.le_trans HB4.out.size hlt.2.2.size) (.inr rfl) (by decide) (by decide) (by decide) (by decide) [0, 1] (by decide) (some ⟨w4.heap.size, 0, none⟩) 2 2 rfl (by decide) [1, 0] (some ⟨w4.heap.size + 1, 0, none⟩) 2 2 rfl hlt.1 hlt.2.1 [0] (at_of (by decide)) (stop_of (by decide)) (by decide)).mono ?_
     rintro e w5 ⟨ow1, rfl, hS, hb⟩
     have HS5 : Aside0 (Sep w.heap.size [none_, trie w.heap.size owd gd 1 1 2 2 1 (fun _ => []) (fun _ => -1) 0 0, trie w.heap.size ow1 gc 2 2 2 9 3 (putB 1 (fun _ => []) [0, 1] [0]) (putV 2 1 (fun _ => -1) [0, 1] [1, 0] [0]) 0 0] w5) := ⟨hS⟩
     have HB5 := Aside0.mk ((below_step HB4.out hlt.2.2).trans hb)
     clear hS hb hlt)
  | (go_at_call 13; with_reducible refine (tutorlaw11_num.calls 0 0 w3 rfl).mono ?_
     rintro e w4 ⟨rfl, hd⟩
     have HS4 := Aside0.mk (HS3.out.low hd.below)
     have HB4 := Aside0.mk (below_step HB3.out hd.below)
     clear hd)
  | (go_at_call 13; with_reducible refine (tutorlaw11_num.calls 0 0 w2 rfl).mono ?_
     rintro e w3 ⟨rfl, hd⟩
     have HS3 := Aside0.mk (HS2.out.low hd.below)
     have HB3 := Aside0.mk (below_step HB2.out hd.below)
     clear hd)
  | (go_at_call 12; with_reducible refine (hn2 w1).mono ?_
     rintro e w2 ⟨gd, owd, rfl, hS, hb⟩
     have HS2 : Aside0 (Sep w.heap.size [none_, trie w.heap.size owd gd 1 1 2 2 1 (fun _ => []) (fun _ => -1) 0 0, trie w.heap.size owc gc 2 2 2 9 1 (fun _ => []) (fun _ => -1) 0 0] w2) := ⟨(New_add HS1.out HB1.out.size hS hb).free none_ trivial (fun _ hk => hk.elim)⟩
     have HB2 := Aside0.mk (below_step HB1.out hb)
     clear hS hb)
  | (go_at_call 12; with_reducible refine hn1.mono ?_
     rintro e w1 ⟨gc, owc, rfl, hS, hb⟩
     have HS1 : Aside0 (Sep w.heap.size [trie w.heap.size owc gc 2 2 2 9 1 (fun _ => []) (fun _ => -1) 0 0] w1) := ⟨hS⟩
     have HB1 := Aside0.mk hb
     clear hS hb))
  go_ret
  exact ⟨rfl, HB14.out⟩
end Go.Proofs.Ytdijkhamebkfjaa.X
end

section
namespace Go.Proofs.Ytdijkhamebkfjaa.X
open Go.RowKit Go.Proofs.YtdijkhamebkfjaaW.PrintWords Go.Proofs.YtdijkhamebkfjaaW.PrintLast Go.Proofs.YtdijkhamebkfjaaW.PrintMore
open Go.Proofs.Ytdijkhamebkfjaa Go.Proofs.Ytdijkhamebkfjaa.Sp
def goN (nx : List Int) (K s x : Nat) : Nat := (rd nx ((s * K + x : Nat) : Int)).toNat
def farN (nx : List Int) (K : Nat) : Nat → List Int → Nat
  | s, [] => s
  | s, x :: r => farN nx K (goN nx K s x.toNat) r
def outs (nx out : List Int) (K : Nat) : Nat → List Int → List Int
  | _, [] => []
  | s, x :: r => rd out ((s * K + x.toNat : Nat) : Int) :: outs nx out K (goN nx K s x.toNat) r
def fin (nx out : List Int) (K : Nat) (w : List Int) : Int := rd out (farN nx K 0 w : Int)
def runL (kd : Int) (nx out : List Int) (K : Nat) (w : List Int) : List Int := if kd = 1 then [fin nx out K w] else outs nx out K 0 w
theorem outs_len (nx out : List Int) (K : Nat) : ∀ (s : Nat) (w : List Int), (outs nx out K s w).length = w.length
  | _, [] => rfl
  | s, x :: r => by rw [outs, List.length_cons, List.length_cons, outs_len]
theorem outs_take (nx out : List Int) (K : Nat) : ∀ (s : Nat) (w : List Int) (j : Nat), outs nx out K s (w.take j) = (outs nx out K s w).take j
  | _, [], j => by simp [outs]
  | s, x :: r, 0 => by simp [outs]
  | s, x :: r, j + 1 => by rw [List.take_succ_cons, outs, outs, List.take_succ_cons, outs_take]
structure RM (kd : Int) (K o n : Nat) (nx out : List Int) : Prop where
  kind : kd = 1 ∨ kd = 2
  nl : nx.length = n * K
  ol : out.length = n * (if kd = 1 then 1 else K)
  nv : ∀ v ∈ nx, 0 ≤ v ∧ v < (n : Int)
  ov : ∀ v ∈ out, 0 ≤ v ∧ v < (o : Int)
  n0 : 0 < n
  nb : n ≤ 1024
  k0 : 0 < K
  kb : K ≤ 64
  o0 : 0 < o
  ob : o ≤ 64
  two : kd = 1 → o = 2
section
variable {kd : Int} {K o n : Nat} {nx out : List Int} (R : RM kd K o n nx out)
include R
end
end Go.Proofs.Ytdijkhamebkfjaa.X
end

section
namespace Go.Proofs.Ytdijkhamebkfjaa.X
open Go.RowKit Go.Proofs.YtdijkhamebkfjaaW.PrintWords Go.Proofs.YtdijkhamebkfjaaW.PrintLast Go.Proofs.YtdijkhamebkfjaaW.PrintMore
open Go.Proofs.Ytdijkhamebkfjaa Go.Proofs.Ytdijkhamebkfjaa.Sp
/-- What is said last. -/
def lastSay (nx out : List Int) (K : Nat) (w : List Int) : Int := rd (outs nx out K 0 w) ((w.length - 1 : Nat) : Int)
structure MInv (kd : Int) (K : Nat) (nx out : List Int) (n : Nat) (B : Nat → List Int) (V : Nat → Int) : Prop where
  two : kd ≠ 1 → ∀ i, 0 < i → i < n → V i = lastSay nx out K (B i)
  one : kd = 1 → ∀ i, i < n → V i < 0 ∨ V i = fin nx out K (B i)
theorem MInv.start (kd : Int) (K : Nat) (nx out : List Int) : MInv kd K nx out 1 (fun _ => []) (fun _ => -1) := ⟨fun _ i h0 h1 => by omega, fun _ i _ => .inl (by decide)⟩
section
variable {kd : Int} {K n : Nat} {nx out : List Int} {B : Nat → List Int} {V : Nat → Int} {l : List Int} {at_ : List Nat}
theorem say_take (nx out : List Int) (K : Nat) (l : List Int) {j : Nat} (hj : j < l.length) : lastSay nx out K (l.take (j + 1)) = rd (outs nx out K 0 l) (j : Int) := by
  unfold lastSay
  have h1 : (l.take (j + 1)).length = j + 1 := by rw [List.length_take]; omega
  rw [h1, Nat.add_sub_cancel, outs_take, rd_nat (by rw [List.length_take, outs_len]; omega), rd_nat (by rw [outs_len]; exact hj), List.getElem_take]
/-- What stands along the way. -/
theorem MInv.way (h : MInv kd K nx out n B V) (hk : kd ≠ 1) (h0 : B 0 = []) (ha : At n B l at_) : (at_.drop 1).map V = (outs nx out K 0 l).take (at_.length - 1) := by
  have hle := ha.le
  have hne := ha.ne
  apply List.ext_getElem
  · rw [List.length_map, List.length_drop, List.length_take, outs_len]; omega
  · intro j h1 h2
    rw [List.length_map, List.length_drop] at h1
    have hj : 1 + j < at_.length := by omega
    obtain ⟨g1, g2⟩ := ha.ok (1 + j) _ (List.getElem?_eq_getElem hj)
    have hjl : j < l.length := by omega
    have hne0 : 0 < at_[1 + j] := by
      refine Nat.pos_of_ne_zero fun e => ?_
      rw [e, h0] at g2
      have := congrArg List.length g2
      rw [List.length_take] at this
      simp at this
      omega
    rw [List.getElem_map, List.getElem_drop, h.two hk _ hne0 g1, g2, Nat.add_comm 1 j, say_take nx out K l hjl, rd_nat (by rw [outs_len]; exact hjl), List.getElem_take]
theorem MInv.put (h : MInv kd K nx out n B V) (hkd : kd = 1 ∨ kd = 2) (ha : At n B l at_) : MInv kd K nx out (putN n l at_) (putB n B l at_) (putV kd n V l (runL kd nx out K l) at_) := by
  have hle := ha.le
  have hne := ha.ne
  refine ⟨fun hk i hi0 hi => ?_, fun hk i hi => ?_⟩
  · have hk2 : kd = 2 := by omega
    unfold putV putV0 runL
    rw [if_neg hk, if_neg hk]
    by_cases hin : i < n
    · rw [if_pos hin, putB_old hin, h.two hk i hi0 hin]
    · obtain ⟨j, rfl⟩ : ∃ j, i = n + j := ⟨i - n, by omega⟩
      unfold putN at hi
      have e1 : at_.length + j = at_.length - 1 + j + 1 := by omega
      rw [if_neg hin, if_pos hk2, putB_new, Nat.add_sub_cancel_left, e1, say_take nx out K l (by omega)]
  · unfold putV runL
    rw [if_pos hk, if_pos hk]
    by_cases hil : i = lastN n l at_
    · rw [hil, upd_at]
      right
      have hB : putB n B l at_ (lastN n l at_) = l := by
        unfold lastN
        by_cases hl : at_.length = l.length + 1
        · rw [if_pos hl]
          obtain ⟨a, e, g1, g2⟩ := ha.last
          rw [List.getD_eq_getElem?_getD, e]
          show putB n B l at_ a = l
          rw [putB_old g1, g2, hl, Nat.add_sub_cancel, List.take_length]
        · rw [if_neg hl]
          obtain ⟨j, hj⟩ : ∃ j, putN n l at_ - 1 = n + j := ⟨l.length - at_.length, by unfold putN; omega⟩
          rw [hj, putB_new, List.take_of_length_le (by unfold putN at hj; omega)]
      rw [hB]
      rfl
    · rw [upd_ne _ _ hil]
      unfold putV0
      by_cases hin : i < n
      · rw [if_pos hin, putB_old hin]
        exact h.one hk i hin
      · rw [if_neg hin, if_neg (by rw [hk]; decide)]
        exact .inl (by decide)
end
end Go.Proofs.Ytdijkhamebkfjaa.X
end

section
namespace Go.Proofs.Ytdijkhamebkfjaa.X
open Go.RowKit Go.Proofs.YtdijkhamebkfjaaW.PrintWords Go.Proofs.YtdijkhamebkfjaaW.PrintLast Go.Proofs.YtdijkhamebkfjaaW.PrintMore
open Go.Proofs.Ytdijkhamebkfjaa Go.Proofs.Ytdijkhamebkfjaa.Sp
theorem row_rd {base : Nat} {own : Nat → Prop} {rs : List Res} {w : World} {p : Res} {A : Option Addr} {n c : Nat} {xs : List Int} (h : Sep base rs w) (i j : Nat) (hi : rs[i]? = some p) (hp : ∀ k, own k → p.own k) (hj : rs[j]? = some (ints base (.slice A n c) xs)) (hij : i ≠ j) :
    ∀ w1, (∀ k, k < w.heap.size → ¬ own k → w1.heap[k]? = w.heap[k]?) → Kd.C (Kd.int .i64) w1 A n xs := fun w1 hk =>
  (row_C ((ints base (.slice A n c) xs).step (h.get j hj) (fun k hk1 hlt => hk k hlt (fun ho => h.apart hi hj hij (hp k ho) hk1)))).1
attribute [local go_sem] max2_int min2_int max_two min_two max_three min_three max_four min_four
end Go.Proofs.Ytdijkhamebkfjaa.X
end
